-- Laid by a program of this session (a changed copy of the kit's printer); Lean checks every line.
import Derived.Test.YtcpnhlhigpgonaaPFnExactPutx0
import Derived.Test.YtcpnhlhigpgonaaPFnExactPutx7
import Derived.Test.YtcpnhlhigpgonaaPFnExactPutx10
namespace Go.Proofs.Ytcpnhlhigpgonaa.PFnExactPut
open Go.RowKit Go.Proofs.YtcpnhlhigpgonaaW.PrintWords Go.Proofs.YtcpnhlhigpgonaaW.PrintLast Go.Proofs.YtcpnhlhigpgonaaW.PrintMore
attribute [local go_sem] max2_int min2_int max_two min_two max_three min_three max_four min_four   -- for this text's walks alone
set_option linter.unusedVariables false
set_option linter.unusedSimpArgs false

/-! ### impl_filled: function 54 -/
mutual
def impl_filled.j0 : Nat → List ByteArray → List (S29) → Int → Int → ByteArray → List (S29) → Int → Int → ByteArray → List (S29) → Option (Int × Int × ByteArray × (List (S29)))
 | 0, _, _, _, _, _, _, _, _, _, _ => none
 | k + 1, x2, x3, x269000, x269001, x269002, x269003, x270000, x270001, x270002, x270003 => impl_filled.l0 k x2 x3 x269003 (x269003.length : Int) 0 x270000 x270001 x270002 x270003 x269000 x269001 x269002 ([] : List (S29))
def impl_filled.l0 : Nat → List ByteArray → List (S29) → List (S29) → Int → Int → Int → Int → ByteArray → List (S29) → Int → Int → ByteArray → List (S29) → Option (Int × Int × ByteArray × (List (S29)))
 | 0, _, _, _, _, _, _, _, _, _, _, _, _, _ => none
 | k + 1, x2, x3, x40, x41, x42, x270000, x270001, x270002, x270003, x286000, x286001, x286002, x286003 => if x42 < x41 then (if 0 ≤ x42 then (if x42 < (x40.length : Int) then ((impl_filled.f k ((rd_T29 x40 x42).f0) ((rd_T29 x40 x42).f1) ((rd_T29 x40 x42).f2) ((rd_T29 x40 x42).f3) x270000 x270001 x270002 x270003 x2 x3).bind fun bt288 => (if x286003.length < 2513169434916 then (impl_filled.l0 k x2 x3 x40 x41 (wrap64 (x42 + 1)) x270000 x270001 x270002 x270003 x286000 x286001 x286002 (x286003 ++ [(⟨bt288.1, bt288.2.1, bt288.2.2.1, bt288.2.2.2⟩ : S29)])) else (none))) else (none)) else (none)) else (some (x286000, x286001, x286002, x286003))
def impl_filled.f : Nat → Int → Int → ByteArray → List (S29) → Int → Int → ByteArray → List (S29) → List ByteArray → List (S29) → Option (Int × Int × ByteArray × (List (S29)))
 | 0, _, _, _, _, _, _, _, _, _, _ => none
 | k + 1, a0_0, a0_1, a0_2, l0_3, a1_0, a1_1, a1_2, l1_3, l2, l3 => if a0_0 = 3 then ((impl_copyExpr.f k a1_0 a1_1 a1_2 l1_3).bind fun bt271 => (some (bt271.1, bt271.2.1, bt271.2.2.1, bt271.2.2.2))) else (if a0_0 = 2 then ((impl_placeIn.f k l2 a0_2).bind fun t277 => (if t277 ≥ 0 then (if 0 ≤ t277 then (if t277 < (l3.length : Int) then ((impl_copyExpr.f k ((rd_T29 l3 t277).f0) ((rd_T29 l3 t277).f1) ((rd_T29 l3 t277).f2) ((rd_T29 l3 t277).f3)).bind fun bt279 => (some (bt279.1, bt279.2.1, bt279.2.2.1, bt279.2.2.2))) else (none)) else (none)) else (impl_filled.j0 k l2 l3 a0_0 a0_1 a0_2 l0_3 a1_0 a1_1 a1_2 l1_3))) else (impl_filled.j0 k l2 l3 a0_0 a0_1 a0_2 l0_3 a1_0 a1_1 a1_2 l1_3))
end
theorem impl_filled.mono_l : ∀ k, (∀ y0 y1 y2 y3 y4 y5 y6 y7 y8 y9, LeO (impl_filled.f k y0 y1 y2 y3 y4 y5 y6 y7 y8 y9) (impl_filled.f (k + 1) y0 y1 y2 y3 y4 y5 y6 y7 y8 y9)) ∧ (∀ y0 y1 y2 y3 y4 y5 y6 y7 y8 y9, LeO (impl_filled.j0 k y0 y1 y2 y3 y4 y5 y6 y7 y8 y9) (impl_filled.j0 (k + 1) y0 y1 y2 y3 y4 y5 y6 y7 y8 y9)) ∧ (∀ y0 y1 y2 y3 y4 y5 y6 y7 y8 y9 y10 y11 y12, LeO (impl_filled.l0 k y0 y1 y2 y3 y4 y5 y6 y7 y8 y9 y10 y11 y12) (impl_filled.l0 (k + 1) y0 y1 y2 y3 y4 y5 y6 y7 y8 y9 y10 y11 y12))
 | 0 => ⟨fun _ _ _ _ _ _ _ _ _ _ r h => by simp [impl_filled.f] at h, fun _ _ _ _ _ _ _ _ _ _ r h => by simp [impl_filled.j0] at h, fun _ _ _ _ _ _ _ _ _ _ _ _ _ r h => by simp [impl_filled.l0] at h⟩
 | k + 1 => by
  obtain ⟨ih0, ih1, ih2⟩ := impl_filled.mono_l k
  refine ⟨?_, ?_, ?_⟩
  ·intro y0 y1 y2 y3 y4 y5 y6 y7 y8 y9
   unfold impl_filled.f
   repeat' first
   | (with_reducible exact ih0 _ _ _ _ _ _ _ _ _ _)
   | (with_reducible exact ih1 _ _ _ _ _ _ _ _ _ _)
   | (with_reducible exact ih2 _ _ _ _ _ _ _ _ _ _ _ _ _)
   | (with_reducible exact impl_copyExpr.mono _ _ _ _ _)
   | (with_reducible exact impl_placeIn.mono _ _ _)
   | (with_reducible exact LeO.refl _)
   | (with_reducible exact LeO.none _)
   | (with_reducible refine LeO.ite ?_ ?_)
   | (with_reducible refine LeO.bind ?_ (fun _ => ?_))
   | exact ih0 _ _ _ _ _ _ _ _ _ _
   | exact ih1 _ _ _ _ _ _ _ _ _ _
   | exact ih2 _ _ _ _ _ _ _ _ _ _ _ _ _
   | exact impl_copyExpr.mono _ _ _ _ _
   | exact impl_placeIn.mono _ _ _
   | exact LeO.none _
   | refine LeO.ite ?_ ?_
   | refine LeO.bind ?_ (fun _ => ?_)
  ·intro y0 y1 y2 y3 y4 y5 y6 y7 y8 y9
   unfold impl_filled.j0
   repeat' first
   | (with_reducible exact ih0 _ _ _ _ _ _ _ _ _ _)
   | (with_reducible exact ih1 _ _ _ _ _ _ _ _ _ _)
   | (with_reducible exact ih2 _ _ _ _ _ _ _ _ _ _ _ _ _)
   | (with_reducible exact impl_copyExpr.mono _ _ _ _ _)
   | (with_reducible exact impl_placeIn.mono _ _ _)
   | (with_reducible exact LeO.refl _)
   | (with_reducible exact LeO.none _)
   | (with_reducible refine LeO.ite ?_ ?_)
   | (with_reducible refine LeO.bind ?_ (fun _ => ?_))
   | exact ih0 _ _ _ _ _ _ _ _ _ _
   | exact ih1 _ _ _ _ _ _ _ _ _ _
   | exact ih2 _ _ _ _ _ _ _ _ _ _ _ _ _
   | exact impl_copyExpr.mono _ _ _ _ _
   | exact impl_placeIn.mono _ _ _
   | exact LeO.none _
   | refine LeO.ite ?_ ?_
   | refine LeO.bind ?_ (fun _ => ?_)
  ·intro y0 y1 y2 y3 y4 y5 y6 y7 y8 y9 y10 y11 y12
   unfold impl_filled.l0
   repeat' first
   | (with_reducible exact ih0 _ _ _ _ _ _ _ _ _ _)
   | (with_reducible exact ih1 _ _ _ _ _ _ _ _ _ _)
   | (with_reducible exact ih2 _ _ _ _ _ _ _ _ _ _ _ _ _)
   | (with_reducible exact impl_copyExpr.mono _ _ _ _ _)
   | (with_reducible exact impl_placeIn.mono _ _ _)
   | (with_reducible exact LeO.refl _)
   | (with_reducible exact LeO.none _)
   | (with_reducible refine LeO.ite ?_ ?_)
   | (with_reducible refine LeO.bind ?_ (fun _ => ?_))
   | exact ih0 _ _ _ _ _ _ _ _ _ _
   | exact ih1 _ _ _ _ _ _ _ _ _ _
   | exact ih2 _ _ _ _ _ _ _ _ _ _ _ _ _
   | exact impl_copyExpr.mono _ _ _ _ _
   | exact impl_placeIn.mono _ _ _
   | exact LeO.none _
   | refine LeO.ite ?_ ?_
   | refine LeO.bind ?_ (fun _ => ?_)
theorem impl_filled.mono : ∀ a0 a1 a2 a3 a4 a5 a6 a7 a8 a9 k, LeO (impl_filled.f k a0 a1 a2 a3 a4 a5 a6 a7 a8 a9) (impl_filled.f (k + 1) a0 a1 a2 a3 a4 a5 a6 a7 a8 a9) := by
 intro a0 a1 a2 a3 a4 a5 a6 a7 a8 a9 k
 obtain ⟨ih0, ih1, ih2⟩ := impl_filled.mono_l k
 exact ih0 a0 a1 a2 a3 a4 a5 a6 a7 a8 a9
def impl_filled.T11 : Bool × List (List Nat × List Nat) := (true, [([], []), ([0], [0]), ([], []), ([], []), ([], []), ([], []), ([2, 3, 4, 5], [2, 3, 4, 5]), ([6], [6]), ([1, 7, 6], [1, 7]), ([0, 1, 2, 3, 4, 5, 6, 7, 8], []), ([9, 8, 8, 0, 1, 2, 3, 4, 5, 6, 7, 8], [8, 9])])
def impl_filled.B11 : List Nat := [0, 1, 0, 0, 0, 0, 60, 124, 255, 511, 1023]
theorem impl_filled.tab11 : rtab .any (opsOf Try.f54 11) = impl_filled.T11 := by kernel_rfl
theorem impl_filled.bits11 : waitsOk impl_filled.T11.2 impl_filled.B11 = true := by kernel_rfl
set_option maxHeartbeats 8000000 in
set_option maxRecDepth 100000 in
theorem impl_filled.calls (k : Nat) : ∀ (a0_0 : Int) (a0_1 : Int) (a0_2 : ByteArray) (A0_3 : Option Addr) (c0_3 : Nat) (l0_3 : List (S29)) (a1_0 : Int) (a1_1 : Int) (a1_2 : ByteArray) (A1_3 : Option Addr) (c1_3 : Nat) (l1_3 : List (S29)) (A2 : Option Addr) (c2 : Nat) (l2 : List ByteArray) (A3 : Option Addr) (c3 : Nat) (l3 : List (S29)) (r1 : Int) (r2 : Int) (r3 : ByteArray) (r4 : List (S29)) (w : World) (hr0_3 : Kd.C k29 w A0_3 l0_3.length l0_3) (hc0_3 : l0_3.length ≤ c0_3) (hr1_3 : Kd.C k29 w A1_3 l1_3.length l1_3) (hc1_3 : l1_3.length ≤ c1_3) (hr2 : Kd.C Kd.string w A2 l2.length l2) (hc2 : l2.length ≤ c2) (hr3 : Kd.C k29 w A3 l3.length l3) (hc3 : l3.length ≤ c3) (h : impl_filled.f k a0_0 a0_1 a0_2 l0_3 a1_0 a1_1 a1_2 l1_3 l2 l3 = some (r1, r2, r3, r4)),
  Calls Try.prog 54 #[.agg #[.int .i64 a0_0, .int .i64 a0_1, .string a0_2, .slice A0_3 l0_3.length c0_3], .agg #[.int .i64 a1_0, .int .i64 a1_1, .string a1_2, .slice A1_3 l1_3.length c1_3], .slice A2 l2.length c2, .slice A3 l3.length c3] w fun e w' => ∃ v3_ : Value, e = .returned (.agg #[.int .i64 r1, .int .i64 r2, .string r3, v3_]) ∧ Kd.S q29 29 w' w.heap.size (fun _ => True) v3_ r4 ∧ Below w.heap.size w w' := by
 induction k using Nat.strongRecOn with
 | _ k ih =>
 intro a0_0 a0_1 a0_2 A0_3 c0_3 l0_3 a1_0 a1_1 a1_2 A1_3 c1_3 l1_3 A2 c2 l2 A3 c3 l3 r1 r2 r3 r4 w hr0_3 hc0_3 hr1_3 hc1_3 hr2 hc2 hr3 hc3 h
 cases k with
 | zero => exact absurd h (by simp [impl_filled.f])
 | succ k =>
 simp only [impl_filled.f] at h
 have hu29 := Try.underlying29
 have HR0_3 := A_ hr0_3
 have HC0_3 := A_ hc0_3
 clear hr0_3 hc0_3
 have HR1_3 := A_ hr1_3
 have HC1_3 := A_ hc1_3
 clear hr1_3 hc1_3
 have HR2 := A_ hr2
 have HC2 := A_ hc2
 clear hr2 hc2
 have HR3 := A_ hr3
 have HC3 := A_ hc3
 clear hr3 hc3
 have HB := A_ (Below.refl w.heap.size w)
 have H : (if a0_0 = 3 then ((impl_copyExpr.f k a1_0 a1_1 a1_2 l1_3).bind fun bt271 => (some (bt271.1, bt271.2.1, bt271.2.2.1, bt271.2.2.2))) else (if a0_0 = 2 then ((impl_placeIn.f k l2 a0_2).bind fun t277 => (if t277 ≥ 0 then (if 0 ≤ t277 then (if t277 < (l3.length : Int) then ((impl_copyExpr.f k ((rd_T29 l3 t277).f0) ((rd_T29 l3 t277).f1) ((rd_T29 l3 t277).f2) ((rd_T29 l3 t277).f3)).bind fun bt279 => (some (bt279.1, bt279.2.1, bt279.2.2.1, bt279.2.2.2))) else (none)) else (none)) else (impl_filled.j0 k l2 l3 a0_0 a0_1 a0_2 l0_3 a1_0 a1_1 a1_2 l1_3))) else (impl_filled.j0 k l2 l3 a0_0 a0_1 a0_2 l0_3 a1_0 a1_1 a1_2 l1_3))) = some (r1, r2, r3, r4) := h
 clear h
 by_cases c5 : a0_0 = 3
 ·rw [if_pos c5] at H
  have c5b0 := beq_iff_eq.mpr c5
  have c5b1 := bne_eq_false_iff_eq.mpr c5
  clear c5
  replace H := Option.bind_eq_some_iff.mp H
  obtain ⟨⟨t271, t272, t273, t274⟩, A60, H⟩ := H
  try dsimp only at H
  have A6 := A_ A60
  clear A60
  simp only [Option.some.injEq, Prod.mk.injEq] at H
  obtain ⟨rfl, rfl, rfl, rfl⟩ := H
  go_enter Try.func54, Try.ntmps54
  go_wp2_with (first | ((with_reducible refine gate_dst (N := 4) rfl ?_); refine bx_ 4 #[.int .i64 a0_0, .int .i64 a0_1, .string a0_2, .slice A0_3 l0_3.length c0_3] 29 ?_; intro gb268 hg w7 hbox hb; have n0_ := A_ (below_step (bw_ HB.out) hb); have n1_ := A_ (hbox); have n2_ := A_ ((d3_ : w.heap.size ≤ gb268)); have n3_ := n2_; clear HB; have HB := n0_; have BK268 := n1_; have GW268 := n2_; have GE268 := n3_; have GI268 := GeI.mk GE268.out; clear n0_ n1_ n2_ n3_; clear hb hbox hg) | ((with_reducible refine gate_dst (N := 5) rfl ?_); refine bx_ 5 #[.int .i64 a1_0, .int .i64 a1_1, .string a1_2, .slice A1_3 l1_3.length c1_3] 29 ?_; intro gb269 hg w8 hbox hb; have n0_ := A_ (blk_below (bk_ BK268.out) hb); have n1_ := A_ (below_step (bw_ HB.out) hb); have n2_ := A_ (hbox); have n3_ := A_ ((d3_ : w.heap.size ≤ gb269)); have n4_ := n3_; have n5_ := A_ ((d14_ : gb268 ≠ gb269)); have n6_ := A_ n5_.out.symm; clear BK268; clear HB; have BK268 := n0_; have HB := n1_; have BK269 := n2_; have GW269 := n3_; have GE269 := n4_; have GI269 := GeI.mk GE269.out; have NB268_269 := n5_; have NB269_268 := n6_; clear n0_ n1_ n2_ n3_ n4_ n5_ n6_; clear hb hbox hg) | ((with_reducible refine gate_dst (N := 8) rfl ?_); refine bx_ 8 #[.int .i64 0, .int .i64 0, .string (⟨#[]⟩ : ByteArray), .slice none 0 0] 29 ?_; intro gb270 hg w9 hbox hb; have n0_ := A_ (blk_below (bk_ BK268.out) hb); have n1_ := A_ (blk_below (bk_ BK269.out) hb); have n2_ := A_ (below_step (bw_ HB.out) hb); have n3_ := A_ (hbox); have n4_ := A_ ((d3_ : w.heap.size ≤ gb270)); have n5_ := n4_; have n6_ := A_ ((d14_ : gb268 ≠ gb270)); have n7_ := A_ n6_.out.symm; have n8_ := A_ ((d22_ : gb269 ≠ gb270)); have n9_ := A_ n8_.out.symm; clear BK268; clear BK269; clear HB; have BK268 := n0_; have BK269 := n1_; have HB := n2_; have BK270 := n3_; have GW270 := n4_; have GE270 := n5_; have GI270 := GeI.mk GE270.out; have NB268_270 := n6_; have NB270_268 := n7_; have NB269_270 := n8_; have NB270_269 := n9_; clear n0_ n1_ n2_ n3_ n4_ n5_ n6_ n7_ n8_ n9_; clear hb hbox hg; have hnb10 := NB268_269.out; have hnc10 := NB269_268.out; have hnb11 := NB268_270.out; have hnc11 := NB270_268.out; obtain ⟨y12_0, y12_1, y12_2, y12_3, z12_0, z12_1, z12_2, z12_3⟩ := cz4_ BK268.out; have hnb13 := NB269_270.out; have hnc13 := NB270_269.out; obtain ⟨y14_0, y14_1, y14_2, y14_3, z14_0, z14_1, z14_2, z14_3⟩ := cz4_ BK269.out) | ((with_reducible refine gate_callee (f := 59) rfl ?_); refine gL_ (some 17) Try.func59 #[.agg #[.int .i64 a1_0, .int .i64 a1_1, .string a1_2, .slice A1_3 l1_3.length c1_3]] ?_; (with_reducible refine (impl_copyExpr.calls k a1_0 a1_1 a1_2 _ _ l1_3 t271 t272 t273 t274 _ ?side1 ?side2 A6.out).mono ?_); (case side1 => exact Kd.C_below HR1_3.out (bw_ HB.out)); (case side2 => exact HC1_3.out); rintro e w15 ⟨v275, rfl, ho0, hb⟩; refine ⟨_, rfl, ?_⟩; obtain ⟨NN_, hN_, ho0⟩ := Kd.age_ ho0; have HO276 := A_ (Kd.S_lower (Kd.S_newB (Kd.S_newB (Kd.S_newB ho0 (bk_ BK268.out)) (bk_ BK269.out)) (bk_ BK270.out)) (below_size (bw_ HB.out))); replace BK268 := A_ (blk_below (bk_ BK268.out) hb); replace BK269 := A_ (blk_below (bk_ BK269.out) hb); replace BK270 := A_ (blk_below (bk_ BK270.out) hb); replace HB := A_ (below_step (bw_ HB.out) hb); clear hb; (try clear ho0); obtain ⟨y16_0, y16_1, y16_2, y16_3, z16_0, z16_1, z16_2, z16_3⟩ := cz4_ BK270.out; obtain ⟨Ao17, co17, eo17⟩ := Kd.S_slice HO276.out; subst eo17))
  refine bodyPost_ret (results_cell_row rfl _ _ gb270 29 #[.int .i64 t271, .int .i64 t272, .string t273, .slice Ao17 t274.length co17] (0, 0) _ rfl ?hb_ Try.underlying29 rfl (by kernel_rfl)) rfl ?_
  (case hb_ => exact bk_ (bp4_ (bk_ BK270.out)))
  exact ⟨_, by first | rfl | (simp [errW_none, errW_some] <;> rfl) | (simp [*, errW_none, errW_some] <;> rfl), by (with_reducible repeat (first | apply Kd.S_alloc | apply Kd.S_drewN | apply Kd.S_drew)); exact Kd.S_mono (Kd.S_far (p := ⟨gb270, 3, none⟩) (Kd.S_far (p := ⟨gb270, 2, none⟩) (Kd.S_far (p := ⟨gb270, 1, none⟩) (Kd.S_far (p := ⟨gb270, 0, none⟩) (Kd.S_mono HO276.out (fun k_ hk => (⟨hk, hk.2⟩ : _ ∧ k_ ≠ gb270))) (fun _ hk => hk.2) (.int .i64 t271)) (fun _ hk => hk.2) (.int .i64 t272)) (fun _ hk => hk.2) (.string t273)) (fun _ hk => hk.2) (.slice Ao17 t274.length co17)) (fun _ hk => trivial), bw_ HB.out⟩
 ·rw [if_neg c5] at H
  have c5b0 := beq_eq_false_iff_ne.mpr c5
  have c5b1 := bne_iff_ne.mpr c5
  have HC18 := A_ H
  clear H
  go_enter Try.func54, Try.ntmps54
  go_upto_if 20 with (first | ((with_reducible refine gate_dst (N := 4) rfl ?_); refine bx_ 4 #[.int .i64 a0_0, .int .i64 a0_1, .string a0_2, .slice A0_3 l0_3.length c0_3] 29 ?_; intro gb268 hg w19 hbox hb; have n0_ := A_ (below_step (bw_ HB.out) hb); have n1_ := A_ (hbox); have n2_ := A_ ((d3_ : w.heap.size ≤ gb268)); have n3_ := n2_; clear HB; have HB := n0_; have BK268 := n1_; have GW268 := n2_; have GE268 := n3_; have GI268 := GeI.mk GE268.out; clear n0_ n1_ n2_ n3_; clear hb hbox hg) | ((with_reducible refine gate_dst (N := 5) rfl ?_); refine bx_ 5 #[.int .i64 a1_0, .int .i64 a1_1, .string a1_2, .slice A1_3 l1_3.length c1_3] 29 ?_; intro gb269 hg w20 hbox hb; have n0_ := A_ (blk_below (bk_ BK268.out) hb); have n1_ := A_ (below_step (bw_ HB.out) hb); have n2_ := A_ (hbox); have n3_ := A_ ((d3_ : w.heap.size ≤ gb269)); have n4_ := n3_; have n5_ := A_ ((d14_ : gb268 ≠ gb269)); have n6_ := A_ n5_.out.symm; clear BK268; clear HB; have BK268 := n0_; have HB := n1_; have BK269 := n2_; have GW269 := n3_; have GE269 := n4_; have GI269 := GeI.mk GE269.out; have NB268_269 := n5_; have NB269_268 := n6_; clear n0_ n1_ n2_ n3_ n4_ n5_ n6_; clear hb hbox hg) | ((with_reducible refine gate_dst (N := 8) rfl ?_); refine bx_ 8 #[.int .i64 0, .int .i64 0, .string (⟨#[]⟩ : ByteArray), .slice none 0 0] 29 ?_; intro gb270 hg w21 hbox hb; have n0_ := A_ (blk_below (bk_ BK268.out) hb); have n1_ := A_ (blk_below (bk_ BK269.out) hb); have n2_ := A_ (below_step (bw_ HB.out) hb); have n3_ := A_ (hbox); have n4_ := A_ ((d3_ : w.heap.size ≤ gb270)); have n5_ := n4_; have n6_ := A_ ((d14_ : gb268 ≠ gb270)); have n7_ := A_ n6_.out.symm; have n8_ := A_ ((d22_ : gb269 ≠ gb270)); have n9_ := A_ n8_.out.symm; clear BK268; clear BK269; clear HB; have BK268 := n0_; have BK269 := n1_; have HB := n2_; have BK270 := n3_; have GW270 := n4_; have GE270 := n5_; have GI270 := GeI.mk GE270.out; have NB268_270 := n6_; have NB270_268 := n7_; have NB269_270 := n8_; have NB270_269 := n9_; clear n0_ n1_ n2_ n3_ n4_ n5_ n6_ n7_ n8_ n9_; clear hb hbox hg; have hnb22 := NB268_269.out; have hnc22 := NB269_268.out; have hnb23 := NB268_270.out; have hnc23 := NB270_268.out; obtain ⟨y24_0, y24_1, y24_2, y24_3, z24_0, z24_1, z24_2, z24_3⟩ := cz4_ BK268.out))
  (try simp only [Act.put, List.setIfInBounds_toArray, List.set_cons_zero, List.set_cons_succ])
  go_cut [] (fun wc => ∃ (kq : Nat) (x271000_17 : Int) (x271001_17 : Int) (x271002_17 : ByteArray), Aside0 (impl_filled.j0 kq l2 l3 a0_0 a0_1 a0_2 l0_3 a1_0 a1_1 a1_2 l1_3 = some (r1, r2, r3, r4)) ∧ Aside0 (kq ≤ k) ∧ Aside0 (wc.heap[gb268]? = some (.cells #[.int .i64 a0_0, .int .i64 a0_1, .string a0_2, (.slice A0_3 l0_3.length c0_3)] 29 (0, 0))) ∧ Aside0 (wc.heap[gb269]? = some (.cells #[.int .i64 a1_0, .int .i64 a1_1, .string a1_2, (.slice A1_3 l1_3.length c1_3)] 29 (0, 0))) ∧ Aside0 (wc.heap[gb270]? = some (.cells #[.int .i64 x271000_17, .int .i64 x271001_17, .string x271002_17, (.slice none 0 0)] 29 (0, 0))) ∧ Aside0 (Below w.heap.size w wc))
  case first =>
   have H := HC18.out
   clear HC18
   by_cases c25 : a0_0 = 2
   ·rw [if_pos c25] at H
    have c25b0 := beq_iff_eq.mpr c25
    have c25b1 := bne_eq_false_iff_eq.mpr c25
    clear c25
    (first | rw [c25b0] | (simp only [i64_w, i32_w]; rw [c25b0]) | skip)
    replace H := Option.bind_eq_some_iff.mp H
    obtain ⟨t277, A260, H⟩ := H
    try dsimp only at H
    have A26 := A_ A260
    clear A260
    by_cases c27 : t277 ≥ 0
    ·rw [if_pos c27] at H
     have c27b0 := decide_eq_true c27
     clear c27
     by_cases c28 : 0 ≤ t277
     ·rw [if_pos c28] at H
      have c28b0 := decide_eq_true c28
      clear c28
      by_cases c29 : t277 < (l3.length : Int)
      ·rw [if_pos c29] at H
       have c29b0 := decide_eq_true c29
       clear c29
       replace H := Option.bind_eq_some_iff.mp H
       obtain ⟨⟨t279, t280, t281, t282⟩, A300, H⟩ := H
       try dsimp only at H
       have A30 := A_ A300
       clear A300
       simp only [Option.some.injEq, Prod.mk.injEq] at H
       obtain ⟨rfl, rfl, rfl, rfl⟩ := H
       have hnb31 := NB268_269.out
       have hnc31 := NB269_268.out
       have hnb32 := NB268_270.out
       have hnc32 := NB270_268.out
       obtain ⟨y33_0, y33_1, y33_2, y33_3, z33_0, z33_1, z33_2, z33_3⟩ := cz4_ BK268.out
       go_wp2_with (first | ((with_reducible refine gate_callee (f := 77) rfl ?_); refine gL_ (some 24) Try.func77 #[.slice A2 l2.length c2, .string a0_2] ?_; (with_reducible refine (impl_placeIn.calls k _ _ l2 a0_2 t277 _ ?side1 ?side2 A26.out).mono ?_); (case side1 => exact Kd.C_below HR2.out (bw_ HB.out)); (case side2 => exact HC2.out); rintro e w' ⟨rfl, ⟨nd, rfl⟩⟩; refine ⟨_, rfl, ?_⟩; (try (rw [drewN_self w21]; generalize hq_ : World.drewN w21 _ = w21; have n0_ := A_ (bq_ hq_ BK268.out); have n1_ := A_ (bq_ hq_ BK269.out); have n2_ := A_ (bq_ hq_ BK270.out); have n3_ := A_ (wq_ hq_ HB.out); clear BK268 BK269 BK270 HB hq_; have BK268 := n0_; have BK269 := n1_; have BK270 := n2_; have HB := n3_; clear n0_ n1_ n2_ n3_)); have p278 : 0 ≤ (t277 : Int) := of_decide_eq_true d1_; have q278 : t277 < (l3.length : Int) := of_decide_eq_true d1_; obtain ⟨ad278, A278_3, c278_3, e278, hx278_0, hx278_1, hx278_2, hx278_3, hl278_3, hi278_3⟩ := at_T29 HR3.out t277 p278 q278; cases e278; replace hx278_0 := (HB.out.cell (World.block_lt_of_cell? w _ hx278_0)).trans hx278_0; replace hx278_1 := (HB.out.cell (World.block_lt_of_cell? w _ hx278_1)).trans hx278_1; replace hx278_2 := (HB.out.cell (World.block_lt_of_cell? w _ hx278_2)).trans hx278_2; replace hx278_3 := (HB.out.cell (World.block_lt_of_cell? w _ hx278_3)).trans hx278_3; have HR278_3 := A_ hi278_3; have HC278_3 := A_ hl278_3; clear hi278_3 hl278_3; replace p278 := eq_true p278; replace q278 := eq_true q278) | ((with_reducible refine gate_callee (f := 59) rfl ?_); refine gL_ (some 31) Try.func59 #[.agg #[.int .i64 ((rd_T29 l3 t277).f0), .int .i64 ((rd_T29 l3 t277).f1), .string ((rd_T29 l3 t277).f2), .slice A278_3 ((rd_T29 l3 t277).f3).length c278_3]] ?_; (with_reducible refine (impl_copyExpr.calls k ((rd_T29 l3 t277).f0) ((rd_T29 l3 t277).f1) ((rd_T29 l3 t277).f2) _ _ ((rd_T29 l3 t277).f3) t279 t280 t281 t282 _ ?side1 ?side2 A30.out).mono ?_); (case side1 => exact Kd.C_below HR278_3.out (bw_ HB.out)); (case side2 => exact HC278_3.out); rintro e w34 ⟨v283, rfl, ho0, hb⟩; refine ⟨_, rfl, ?_⟩; obtain ⟨NN_, hN_, ho0⟩ := Kd.age_ ho0; have HO284 := A_ (Kd.S_lower (Kd.S_newB (Kd.S_newB (Kd.S_newB ho0 (bk_ BK268.out)) (bk_ BK269.out)) (bk_ BK270.out)) (below_size (bw_ HB.out))); replace BK268 := A_ (blk_below (bk_ BK268.out) hb); replace BK269 := A_ (blk_below (bk_ BK269.out) hb); replace BK270 := A_ (blk_below (bk_ BK270.out) hb); replace HB := A_ (below_step (bw_ HB.out) hb); clear hb; (try clear ho0); have hnb35 := NB270_269.out; have hnc35 := NB269_270.out; obtain ⟨y36_0, y36_1, y36_2, y36_3, z36_0, z36_1, z36_2, z36_3⟩ := cz4_ BK270.out; obtain ⟨Ao37, co37, eo37⟩ := Kd.S_slice HO284.out; subst eo37))
       refine bodyPost_ret (results_cell_row rfl _ _ gb270 29 #[.int .i64 t279, .int .i64 t280, .string t281, .slice Ao37 t282.length co37] (0, 0) _ rfl ?hb_ Try.underlying29 rfl (by kernel_rfl)) rfl ?_
       (case hb_ => exact bk_ (bp4_ (bk_ BK270.out)))
       exact ⟨_, by first | rfl | (simp [errW_none, errW_some] <;> rfl) | (simp [*, errW_none, errW_some] <;> rfl), by (with_reducible repeat (first | apply Kd.S_alloc | apply Kd.S_drewN | apply Kd.S_drew)); exact Kd.S_mono (Kd.S_far (p := ⟨gb270, 3, none⟩) (Kd.S_far (p := ⟨gb270, 2, none⟩) (Kd.S_far (p := ⟨gb270, 1, none⟩) (Kd.S_far (p := ⟨gb270, 0, none⟩) (Kd.S_mono HO284.out (fun k_ hk => (⟨hk, hk.2⟩ : _ ∧ k_ ≠ gb270))) (fun _ hk => hk.2) (.int .i64 t279)) (fun _ hk => hk.2) (.int .i64 t280)) (fun _ hk => hk.2) (.string t281)) (fun _ hk => hk.2) (.slice Ao37 t282.length co37)) (fun _ hk => trivial), bw_ HB.out⟩
      ·rw [if_neg c29] at H
       exact absurd H (by simp)
     ·rw [if_neg c28] at H
      exact absurd H (by simp)
    ·rw [if_neg c27] at H
     have c27b0 := decide_eq_false c27
     clear c27
     have H' := A_ H
     clear H
     have hnb38 := NB268_269.out
     have hnc38 := NB269_268.out
     have hnb39 := NB268_270.out
     have hnc39 := NB270_268.out
     obtain ⟨y40_0, y40_1, y40_2, y40_3, z40_0, z40_1, z40_2, z40_3⟩ := cz4_ BK268.out
     go_wp2_with (first | ((with_reducible refine gate_callee (f := 77) rfl ?_); refine gL_ (some 24) Try.func77 #[.slice A2 l2.length c2, .string a0_2] ?_; (with_reducible refine (impl_placeIn.calls k _ _ l2 a0_2 t277 _ ?side1 ?side2 A26.out).mono ?_); (case side1 => exact Kd.C_below HR2.out (bw_ HB.out)); (case side2 => exact HC2.out); rintro e w' ⟨rfl, ⟨nd, rfl⟩⟩; refine ⟨_, rfl, ?_⟩))
     go_meet
     case rel => exact ⟨_, (0), (0), ((⟨#[]⟩ : ByteArray)), H', ⟨by first | omega | exact Nat.le_refl _⟩, ⟨by refine bk_ ?_; exact BK268.out⟩, ⟨by refine bk_ ?_; exact BK269.out⟩, ⟨by refine bk_ ?_; exact BK270.out⟩, ⟨bw_ HB.out⟩⟩
   ·rw [if_neg c25] at H
    have c25b0 := beq_eq_false_iff_ne.mpr c25
    have c25b1 := bne_iff_ne.mpr c25
    (first | rw [c25b0] | (simp only [i64_w, i32_w]; rw [c25b0]) | skip)
    have H' := A_ H
    clear H
    go_wp2
    go_meet
    case rel => exact ⟨_, (0), (0), ((⟨#[]⟩ : ByteArray)), H', ⟨by first | omega | exact Nat.le_refl _⟩, ⟨by refine bk_ ?_; exact BK268.out⟩, ⟨by refine bk_ ?_; exact BK269.out⟩, ⟨by refine bk_ ?_; exact BK270.out⟩, ⟨bw_ HB.out⟩⟩
  case rest =>
   clear HC18
   try clear c1
   try clear c2
   try clear p2
   try clear q2
   try clear hx2
   try clear c3
   try clear c5
   try clear c5b0
   try clear c5b1
   try clear c7
   try clear c10
   try clear c11
   try clear c13
   try clear c22
   try clear c23
   try clear c25
   try clear c25b0
   try clear c25b1
   try clear c27
   try clear c27b0
   try clear p27
   try clear q27
   try clear hx27
   try clear c28
   try clear c28b0
   try clear c29
   try clear c29b0
   try clear c31
   try clear c32
   try clear c35
   try clear c38
   try clear c39
   try clear y12_0 y12_1 y12_2 y12_3 z12_0 z12_1 z12_2 z12_3
   try clear y14_0 y14_1 y14_2 y14_3 z14_0 z14_1 z14_2 z14_3
   try clear y16_0 y16_1 y16_2 y16_3 z16_0 z16_1 z16_2 z16_3
   try clear y24_0 y24_1 y24_2 y24_3 z24_0 z24_1 z24_2 z24_3
   try clear y33_0 y33_1 y33_2 y33_3 z33_0 z33_1 z33_2 z33_3
   try clear y36_0 y36_1 y36_2 y36_3 z36_0 z36_1 z36_2 z36_3
   try clear y40_0 y40_1 y40_2 y40_3 z40_0 z40_1 z40_2 z40_3
   try clear hx278_0 hx278_1 hx278_2 hx278_3
   try clear p278
   try clear q278
   obtain ⟨kq, x271000_17, x271001_17, x271002_17, HA, HJ17, BK268, BK269, BK270, HB⟩ := hcut
   cases kq with
   | zero => exact absurd HA.out (by simp [impl_filled.j0])
   | succ kj17 =>
    have H := HA.out
    clear HA
    simp only [impl_filled.j0] at H
    have H' := A_ H
    clear H
    have hnb41 := NB268_269.out
    have hnc41 := NB269_268.out
    have hnb42 := NB268_270.out
    have hnc42 := NB270_268.out
    obtain ⟨y43_0, y43_1, y43_2, y43_3, z43_0, z43_1, z43_2, z43_3⟩ := cz4_ BK268.out
    go_wp2_with (first | ((with_reducible refine gate_dst (N := 10) rfl ?_); refine bx_ 10 #[.int .i64 0, .int .i64 0, .string (⟨#[]⟩ : ByteArray), .slice none 0 0] 29 ?_; intro gb285 hg w44 hbox hb; have n0_ := A_ (blk_below (bk_ BK268.out) hb); have n1_ := A_ (blk_below (bk_ BK269.out) hb); have n2_ := A_ (blk_below (bk_ BK270.out) hb); have n3_ := A_ (below_step (bw_ HB.out) hb); have n4_ := A_ (hbox); have n5_ := A_ ((d3_ : w.heap.size ≤ gb285)); have n6_ := n5_; have n7_ := A_ ((d14_ : gb268 ≠ gb285)); have n8_ := A_ n7_.out.symm; have n9_ := A_ ((d22_ : gb269 ≠ gb285)); have n10_ := A_ n9_.out.symm; have n11_ := A_ ((by rw [hg]; exact Nat.ne_of_lt (blk_lt (bk_ BK270.out)) : gb270 ≠ gb285)); have n12_ := A_ n11_.out.symm; clear BK268; clear BK269; clear BK270; clear HB; have BK268 := n0_; have BK269 := n1_; have BK270 := n2_; have HB := n3_; have BK285 := n4_; have GW285 := n5_; have GE285 := n6_; have GI285 := GeI.mk GE285.out; have NB268_285 := n7_; have NB285_268 := n8_; have NB269_285 := n9_; have NB285_269 := n10_; have NB270_285 := n11_; have NB285_270 := n12_; clear n0_ n1_ n2_ n3_ n4_ n5_ n6_ n7_ n8_ n9_ n10_ n11_ n12_; clear hb hbox hg; have hnb45 := NB285_268.out; have hnc45 := NB268_285.out; have hnb46 := NB285_269.out; have hnc46 := NB269_285.out; have hnb47 := NB285_270.out; have hnc47 := NB270_285.out; obtain ⟨y48_0, y48_1, y48_2, y48_3, z48_0, z48_1, z48_2, z48_3⟩ := cz4_ BK285.out; obtain ⟨y49_0, y49_1, y49_2, y49_3, z49_0, z49_1, z49_2, z49_3⟩ := cz4_ BK268.out))
    go_loopg [42] kj17 (fun kq v42 w' => ∃ (x42_2 : Int) (x286003_2 : List (S29)) (u286003 : Value), v42 = .int .i64 x42_2 ∧ Aside0 (impl_filled.l0 kq l2 l3 l0_3 (l0_3.length : Int) x42_2 a1_0 a1_1 a1_2 l1_3 a0_0 a0_1 a0_2 x286003_2 = some (r1, r2, r3, r4)) ∧ Aside0 (kq ≤ kj17) ∧ Aside0 (Kd.S q29 29 w' w.heap.size (fun k_ => k_ ≠ gb268 ∧ k_ ≠ gb269 ∧ k_ ≠ gb270 ∧ k_ ≠ gb285) u286003 x286003_2) ∧ Aside0 (w'.heap[gb268]? = some (.cells #[.int .i64 a0_0, .int .i64 a0_1, .string a0_2, (.slice A0_3 l0_3.length c0_3)] 29 (0, 0))) ∧ Aside0 (w'.heap[gb269]? = some (.cells #[.int .i64 a1_0, .int .i64 a1_1, .string a1_2, (.slice A1_3 l1_3.length c1_3)] 29 (0, 0))) ∧ Aside0 (w'.heap[gb270]? = some (.cells #[.int .i64 x271000_17, .int .i64 x271001_17, .string x271002_17, (.slice none 0 0)] 29 (0, 0))) ∧ Aside0 (w'.heap[gb285]? = some (.cells #[.int .i64 a0_0, .int .i64 a0_1, .string a0_2, u286003] 29 (0, 0))) ∧ Aside0 (Below w.heap.size w w'))
    case atStart => exact ⟨(0), (([] : List (S29))), (.slice none 0 0), d2_, H', ⟨Nat.le_refl _⟩, ⟨by first | exact Kd.S_nil _ _ _ _ _ | exact Kd.N_nil _ _ _ _ _ | exact Kd.V_nil _ _ _ _ _ | exact Kd.Q_nil _ _ _ _ _ | exact Kd.R_nil _ _ _ _ _⟩, ⟨by refine bk_ ?_; refine blk_far ?_ NB268_285.out _; refine bk_ ?_; refine blk_far ?_ NB268_285.out _; refine bk_ ?_; refine blk_far ?_ NB268_285.out _; refine bk_ ?_; refine blk_far ?_ NB268_285.out _; refine bk_ ?_; exact BK268.out⟩, ⟨by refine bk_ ?_; refine blk_far ?_ NB269_285.out _; refine bk_ ?_; refine blk_far ?_ NB269_285.out _; refine bk_ ?_; refine blk_far ?_ NB269_285.out _; refine bk_ ?_; refine blk_far ?_ NB269_285.out _; refine bk_ ?_; exact BK269.out⟩, ⟨by refine bk_ ?_; refine blk_far ?_ NB270_285.out _; refine bk_ ?_; refine blk_far ?_ NB270_285.out _; refine bk_ ?_; refine blk_far ?_ NB270_285.out _; refine bk_ ?_; refine blk_far ?_ NB270_285.out _; refine bk_ ?_; exact BK270.out⟩, ⟨by exact bk_ (bp4_ (bk_ BK285.out))⟩, ⟨bw_ HB.out⟩⟩
    case round =>
     clear H'
     try clear c1
     try clear c2
     try clear p2
     try clear q2
     try clear hx2
     try clear c3
     try clear c4
     try clear c5
     try clear c5b0
     try clear c5b1
     try clear c7
     try clear c10
     try clear c11
     try clear c13
     try clear c22
     try clear c23
     try clear c25
     try clear c25b0
     try clear c25b1
     try clear c27
     try clear c27b0
     try clear p27
     try clear q27
     try clear hx27
     try clear c28
     try clear c28b0
     try clear c29
     try clear c29b0
     try clear c31
     try clear c32
     try clear c35
     try clear c38
     try clear c39
     try clear c41
     try clear c42
     try clear c45
     try clear c46
     try clear c47
     try clear y12_0 y12_1 y12_2 y12_3 z12_0 z12_1 z12_2 z12_3
     try clear y14_0 y14_1 y14_2 y14_3 z14_0 z14_1 z14_2 z14_3
     try clear y16_0 y16_1 y16_2 y16_3 z16_0 z16_1 z16_2 z16_3
     try clear y24_0 y24_1 y24_2 y24_3 z24_0 z24_1 z24_2 z24_3
     try clear y33_0 y33_1 y33_2 y33_3 z33_0 z33_1 z33_2 z33_3
     try clear y36_0 y36_1 y36_2 y36_3 z36_0 z36_1 z36_2 z36_3
     try clear y40_0 y40_1 y40_2 y40_3 z40_0 z40_1 z40_2 z40_3
     try clear y43_0 y43_1 y43_2 y43_3 z43_0 z43_1 z43_2 z43_3
     try clear y48_0 y48_1 y48_2 y48_3 z48_0 z48_1 z48_2 z48_3
     try clear y49_0 y49_1 y49_2 y49_3 z49_0 z49_1 z49_2 z49_3
     try clear hx278_0 hx278_1 hx278_2 hx278_3
     try clear p2
     try clear p27
     try clear p278
     try clear q2
     try clear q27
     try clear q278
     obtain ⟨x42_2, x286003_2, u286003, rfl, HA, HK2, HO_286003, BK268, BK269, BK270, BK285, HB⟩ := hrel
     cases gk with
     | zero => exact absurd HA.out (by simp [impl_filled.l0])
     | succ k2 =>
      have H := HA.out
      clear HA
      simp only [impl_filled.l0] at H
      by_cases c50 : x42_2 < (l0_3.length : Int)
      ·rw [if_pos c50] at H
       have c50b0 := decide_eq_true c50
       clear c50
       by_cases c51 : 0 ≤ x42_2
       ·rw [if_pos c51] at H
        have c51b0 := decide_eq_true c51
        clear c51
        by_cases c52 : x42_2 < (l0_3.length : Int)
        ·rw [if_pos c52] at H
         have c52b0 := decide_eq_true c52
         clear c52
         replace H := Option.bind_eq_some_iff.mp H
         obtain ⟨⟨t288, t289, t290, t291⟩, A530, H⟩ := H
         try dsimp only at H
         have A53 := A_ A530
         clear A530
         by_cases c54 : x286003_2.length < 2513169434916
         ·rw [if_pos c54] at H
          have LMc54 := A_ c54
          clear c54
          obtain ⟨y294, hy294⟩ : ∃ y_ : List (S29), y_ = (x286003_2 ++ [(⟨t288, t289, t290, t291⟩ : S29)]) := ⟨_, rfl⟩
          replace H : (impl_filled.l0 k2 l2 l3 l0_3 (l0_3.length : Int) (wrap64 (x42_2 + 1)) a1_0 a1_1 a1_2 l1_3 a0_0 a0_1 a0_2 y294) = some (r1, r2, r3, r4) := by first | (rw [hy294]; with_reducible exact H) | (have H2_ := (Option.bind_some _ _).symm.trans H; rw [hy294]; with_reducible exact H2_) | (have H2_ := (Option.bind_some _ _).symm.trans H; with_reducible exact H2_) | with_reducible exact H | (rw [hy294]; exact H) | exact H
          have Ny294 := A_ hy294
          clear hy294
          have H' := A_ H
          clear H
          have p286 : 0 ≤ (x42_2 : Int) := of_decide_eq_true d1_
          have q286 : x42_2 < (l0_3.length : Int) := of_decide_eq_true d1_
          obtain ⟨ad286, A286_3, c286_3, e286, hx286_0, hx286_1, hx286_2, hx286_3, hl286_3, hi286_3⟩ := at_T29 HR0_3.out x42_2 p286 q286
          cases e286
          replace hx286_0 := (HB.out.cell (World.block_lt_of_cell? w _ hx286_0)).trans hx286_0
          replace hx286_1 := (HB.out.cell (World.block_lt_of_cell? w _ hx286_1)).trans hx286_1
          replace hx286_2 := (HB.out.cell (World.block_lt_of_cell? w _ hx286_2)).trans hx286_2
          replace hx286_3 := (HB.out.cell (World.block_lt_of_cell? w _ hx286_3)).trans hx286_3
          have HR286_3 := A_ hi286_3
          have HC286_3 := A_ hl286_3
          clear hi286_3 hl286_3
          replace p286 := eq_true p286
          replace q286 := eq_true q286
          try go_wp2_with (first | ((with_reducible refine gate_dst (N := 12) rfl ?_); refine bx_ 12 #[.int .i64 0, .int .i64 0, .string (⟨#[]⟩ : ByteArray), .slice none 0 0] 29 ?_; intro gb287 hg w55 hbox hb; have n0_ := A_ (Kd.S_below (Kd.S_elderB d16_ gb287 (Nat.le_of_eq hg.symm)) hb); have n1_ := A_ (blk_below (bk_ BK268.out) hb); have n2_ := A_ (blk_below (bk_ BK269.out) hb); have n3_ := A_ (blk_below (bk_ BK270.out) hb); have n4_ := A_ (blk_below (bk_ BK285.out) hb); have n5_ := A_ (below_step (bw_ HB.out) hb); have n6_ := A_ (hbox); have n7_ := A_ ((d3_ : w.heap.size ≤ gb287)); have n8_ := n7_; have n9_ := A_ ((d14_ : gb268 ≠ gb287)); have n10_ := A_ n9_.out.symm; have n11_ := A_ ((d22_ : gb269 ≠ gb287)); have n12_ := A_ n11_.out.symm; have n13_ := A_ ((by rw [hg]; exact Nat.ne_of_lt (blk_lt (bk_ BK270.out)) : gb270 ≠ gb287)); have n14_ := A_ n13_.out.symm; have n15_ := A_ ((by rw [hg]; exact Nat.ne_of_lt (blk_lt (bk_ BK285.out)) : gb285 ≠ gb287)); have n16_ := A_ n15_.out.symm; clear HO_286003; clear BK268; clear BK269; clear BK270; clear BK285; clear HB; have HO_286003 := n0_; have BK268 := n1_; have BK269 := n2_; have BK270 := n3_; have BK285 := n4_; have HB := n5_; have BK287 := n6_; have GW287 := n7_; have GE287 := n8_; have GI287 := GeI.mk GE287.out; have NB268_287 := n9_; have NB287_268 := n10_; have NB269_287 := n11_; have NB287_269 := n12_; have NB270_287 := n13_; have NB287_270 := n14_; have NB285_287 := n15_; have NB287_285 := n16_; clear n0_ n1_ n2_ n3_ n4_ n5_ n6_ n7_ n8_ n9_ n10_ n11_ n12_ n13_ n14_ n15_ n16_; clear hb hbox hg; have hnb56 := NB287_268.out; have hnc56 := NB268_287.out; have hnb57 := NB287_269.out; have hnc57 := NB269_287.out; have hnb58 := NB287_270.out; have hnc58 := NB270_287.out; have hnb59 := NB287_285.out; have hnc59 := NB285_287.out; obtain ⟨y60_0, y60_1, y60_2, y60_3, z60_0, z60_1, z60_2, z60_3⟩ := cz4_ BK287.out))
          obtain ⟨w61, hz_⟩ : ∃ z_, z_ = ((((w55.setCell ⟨gb287, 0, none⟩ (.int .i64 ((rd_T29 l0_3 x42_2).f0))).setCell ⟨gb287, 1, none⟩ (.int .i64 ((rd_T29 l0_3 x42_2).f1))).setCell ⟨gb287, 2, none⟩ (.string ((rd_T29 l0_3 x42_2).f2))).setCell ⟨gb287, 3, none⟩ (.slice A286_3 ((rd_T29 l0_3 x42_2).f3).length c286_3)) := ⟨_, rfl⟩
          have n0_ : Aside0 (Kd.S q29 29 w61 w.heap.size (fun k_ => k_ ≠ gb268 ∧ k_ ≠ gb269 ∧ k_ ≠ gb270 ∧ k_ ≠ gb285 ∧ k_ ≠ gb287) u286003 x286003_2) := ⟨by rw [hz_]; (with_reducible repeat (first | apply Kd.S_alloc | apply Kd.S_drewN | apply Kd.S_drew)); exact Kd.S_mono (Kd.S_far (p := ⟨gb287, 3, none⟩) (Kd.S_far (p := ⟨gb287, 2, none⟩) (Kd.S_far (p := ⟨gb287, 1, none⟩) (Kd.S_far (p := ⟨gb287, 0, none⟩) (Kd.S_mono HO_286003.out (fun k_ hk => (⟨hk, hk.2⟩ : _ ∧ k_ ≠ gb287))) (fun _ hk => hk.2) (.int .i64 ((rd_T29 l0_3 x42_2).f0))) (fun _ hk => hk.2) (.int .i64 ((rd_T29 l0_3 x42_2).f1))) (fun _ hk => hk.2) (.string ((rd_T29 l0_3 x42_2).f2))) (fun _ hk => hk.2) (.slice A286_3 ((rd_T29 l0_3 x42_2).f3).length c286_3)) (fun _ hk => ⟨hk.1.1.1, ⟨hk.1.1.2.1, ⟨hk.1.1.2.2.1, ⟨hk.1.1.2.2.2, hk.1.2⟩⟩⟩⟩)⟩
          have n1_ : Aside0 (w61.heap[gb268]? = some (.cells #[.int .i64 a0_0, .int .i64 a0_1, .string a0_2, .slice (some ad286) l0_3.length c0_3] 29 (0, 0))) := ⟨by rw [hz_]; refine bk_ ?_; refine blk_far ?_ NB268_287.out _; refine bk_ ?_; refine blk_far ?_ NB268_287.out _; refine bk_ ?_; refine blk_far ?_ NB268_287.out _; refine bk_ ?_; refine blk_far ?_ NB268_287.out _; refine bk_ ?_; exact BK268.out⟩
          have n2_ : Aside0 (w61.heap[gb269]? = some (.cells #[.int .i64 a1_0, .int .i64 a1_1, .string a1_2, .slice A1_3 l1_3.length c1_3] 29 (0, 0))) := ⟨by rw [hz_]; refine bk_ ?_; refine blk_far ?_ NB269_287.out _; refine bk_ ?_; refine blk_far ?_ NB269_287.out _; refine bk_ ?_; refine blk_far ?_ NB269_287.out _; refine bk_ ?_; refine blk_far ?_ NB269_287.out _; refine bk_ ?_; exact BK269.out⟩
          have n3_ : Aside0 (w61.heap[gb270]? = some (.cells #[.int .i64 x271000_17, .int .i64 x271001_17, .string x271002_17, .slice none 0 0] 29 (0, 0))) := ⟨by rw [hz_]; refine bk_ ?_; refine blk_far ?_ NB270_287.out _; refine bk_ ?_; refine blk_far ?_ NB270_287.out _; refine bk_ ?_; refine blk_far ?_ NB270_287.out _; refine bk_ ?_; refine blk_far ?_ NB270_287.out _; refine bk_ ?_; exact BK270.out⟩
          have n4_ : Aside0 (w61.heap[gb285]? = some (.cells #[.int .i64 a0_0, .int .i64 a0_1, .string a0_2, u286003] 29 (0, 0))) := ⟨by rw [hz_]; refine bk_ ?_; refine blk_far ?_ NB285_287.out _; refine bk_ ?_; refine blk_far ?_ NB285_287.out _; refine bk_ ?_; refine blk_far ?_ NB285_287.out _; refine bk_ ?_; refine blk_far ?_ NB285_287.out _; refine bk_ ?_; exact BK285.out⟩
          have n5_ : Aside0 (w61.heap[gb287]? = some (.cells #[.int .i64 ((rd_T29 l0_3 x42_2).f0), .int .i64 ((rd_T29 l0_3 x42_2).f1), .string ((rd_T29 l0_3 x42_2).f2), .slice A286_3 ((rd_T29 l0_3 x42_2).f3).length c286_3] 29 (0, 0))) := ⟨by rw [hz_]; exact bk_ (bp4_ (bk_ BK287.out))⟩
          have n6_ : Aside0 (Below w.heap.size w w61) := ⟨by rw [hz_]; exact bw_ HB.out⟩
          (try clear HO_286003)
          (try clear BK268)
          (try clear BK269)
          (try clear BK270)
          (try clear BK285)
          (try clear BK287)
          (try clear HB)
          rw [← hz_]
          clear hz_
          have HO_286003 := n0_
          have BK268 := n1_
          have BK269 := n2_
          have BK270 := n3_
          have BK285 := n4_
          have BK287 := n5_
          have HB := n6_
          clear n0_ n1_ n2_ n3_ n4_ n5_ n6_
          replace HO_286003 := A_ (Kd.S_drew HO_286003.out)
          replace BK268 := A_ (blk_drew BK268.out)
          replace BK269 := A_ (blk_drew BK269.out)
          replace BK270 := A_ (blk_drew BK270.out)
          replace BK285 := A_ (blk_drew BK285.out)
          replace BK287 := A_ (blk_drew BK287.out)
          replace HB := A_ (below_drew1 HB.out)
          refine start_ (n := 11) (S := fun w' => w'.cell? ⟨gb285, 0, none⟩ = some (.int .i64 a0_0) ∧ w'.cell? ⟨gb285, 1, none⟩ = some (.int .i64 a0_1) ∧ w'.cell? ⟨gb285, 2, none⟩ = some (.string a0_2) ∧ w'.cell? ⟨gb285, 3, none⟩ = some (u286003) ∧ w'.cell? ⟨gb287, 0, none⟩ = some (.int .i64 ((rd_T29 l0_3 x42_2).f0)) ∧ w'.cell? ⟨gb287, 1, none⟩ = some (.int .i64 ((rd_T29 l0_3 x42_2).f1)) ∧ w'.cell? ⟨gb287, 2, none⟩ = some (.string ((rd_T29 l0_3 x42_2).f2)) ∧ w'.cell? ⟨gb287, 3, none⟩ = some (.slice A286_3 ((rd_T29 l0_3 x42_2).f3).length c286_3) ∧ w'.cell? ⟨gb269, 0, none⟩ = some (.int .i64 a1_0) ∧ w'.cell? ⟨gb269, 1, none⟩ = some (.int .i64 a1_1) ∧ w'.cell? ⟨gb269, 2, none⟩ = some (.string a1_2) ∧ w'.cell? ⟨gb269, 3, none⟩ = some (.slice A1_3 l1_3.length c1_3)) (ds := [10]) #[false, false, false, false, false, false, false, false, false, false, false] (by kernel_rfl) rfl rfl ⟨(blk_cell BK285.out 0).trans rfl, (blk_cell BK285.out 1).trans rfl, (blk_cell BK285.out 2).trans rfl, (blk_cell BK285.out 3).trans rfl, (blk_cell BK287.out 0).trans rfl, (blk_cell BK287.out 1).trans rfl, (blk_cell BK287.out 2).trans rfl, (blk_cell BK287.out 3).trans rfl, (blk_cell BK269.out 0).trans rfl, (blk_cell BK269.out 1).trans rfl, (blk_cell BK269.out 2).trans rfl, (blk_cell BK269.out 3).trans rfl⟩ (fun hHeld => ?_); refine with_tabW impl_filled.tab11 impl_filled.bits11 (fun HT_ HW_ => ?_)
          generalize w61.drew = w62 at HO_286003 BK268 BK269 BK270 BK285 BK287 HB hHeld ⊢
          refine pu_ 0 (some 46) (bm_ 11 1) (any_of HT_.out (by kernel_rfl)) ?_
          refine pu_ 4 (some 50) (bm_ 11 17) (any_of HT_.out (by kernel_rfl)) ?_
          refine pu_ 5 (some 51) (bm_ 11 49) (any_of HT_.out (by kernel_rfl)) ?_
          refine take_ (i := 1) (N := some 47) (v := ?_) (a' := ?_) (bm_ 11 51) rfl rfl (take_ofW HT_.out HW_.out (by kernel_rfl)) (fun _ _ _ h => h) (Or.inl ⟨by rfl, ?_⟩) hHeld ?_ ?_
          rotate_left
          ·rintro w' ⟨s0, s1, s2, s3, s4, s5, s6, s7, s8, s9, s10, s11⟩
           go_simp
           with_reducible rfl
          rotate_left
          ·simp only [Act.put, List.setIfInBounds_toArray, List.set_cons_zero, List.set_cons_succ, i64_w, i32_w]
           rfl
          refine take_ (i := 2) (N := some 48) (v := ?_) (a' := ?_) (bm_ 11 55) rfl rfl (take_ofW HT_.out HW_.out (by kernel_rfl)) (fun _ _ _ h => h) (Or.inl ⟨by rfl, ?_⟩) hHeld ?_ ?_
          rotate_left
          ·rintro w' ⟨s0, s1, s2, s3, s4, s5, s6, s7, s8, s9, s10, s11⟩
           go_simp
           with_reducible rfl
          rotate_left
          ·simp only [Act.put, List.setIfInBounds_toArray, List.set_cons_zero, List.set_cons_succ, i64_w, i32_w]
           rfl
          refine take_ (i := 3) (N := some 49) (v := ?_) (a' := ?_) (bm_ 11 63) rfl rfl (take_ofW HT_.out HW_.out (by kernel_rfl)) (fun _ _ _ h => h) (Or.inl ⟨by rfl, ?_⟩) hHeld ?_ ?_
          rotate_left
          ·rintro w' ⟨s0, s1, s2, s3, s4, s5, s6, s7, s8, s9, s10, s11⟩
           go_simp
           with_reducible rfl
          rotate_left
          ·simp only [Act.put, List.setIfInBounds_toArray, List.set_cons_zero, List.set_cons_succ, i64_w, i32_w]
           rfl
          refine one_ (i := 6) (N := some 52) (bm_ 11 127) rfl rfl (one_of HT_.out (by kernel_rfl)) (by decide) (fun K hK => ?_)
          refine goes_ Try.func54 (by kernel_rfl) rfl #[.agg #[.int .i64 ((rd_T29 l0_3 x42_2).f0), .int .i64 ((rd_T29 l0_3 x42_2).f1), .string ((rd_T29 l0_3 x42_2).f2), .slice A286_3 ((rd_T29 l0_3 x42_2).f3).length c286_3], .agg #[.int .i64 a1_0, .int .i64 a1_1, .string a1_2, .slice A1_3 l1_3.length c1_3], .slice A2 l2.length c2, .slice A3 l3.length c3] (by rfl) rfl rfl d9_ ?_
          with_reducible refine (ih k2 (by have := HJ17.out; have := HK2.out; omega) ((rd_T29 l0_3 x42_2).f0) ((rd_T29 l0_3 x42_2).f1) ((rd_T29 l0_3 x42_2).f2) _ _ ((rd_T29 l0_3 x42_2).f3) a1_0 a1_1 a1_2 _ _ l1_3 _ _ l2 _ _ l3 t288 t289 t290 t291 _ ?side1 ?side2 ?side3 ?side4 ?side5 ?side6 ?side7 ?side8 A53.out).mono ?_
          (case side1 => exact Kd.C_below HR286_3.out (bw_ HB.out))
          (case side2 => exact HC286_3.out)
          (case side3 => exact Kd.C_below HR1_3.out (bw_ HB.out))
          (case side4 => exact HC1_3.out)
          (case side5 => exact Kd.C_below HR2.out (bw_ HB.out))
          (case side6 => exact HC2.out)
          (case side7 => exact Kd.C_below HR3.out (bw_ HB.out))
          (case side8 => exact HC3.out)
          rintro e w63 ⟨v292, rfl, ho0, hb⟩
          refine ⟨_, rfl, ?_⟩
          obtain ⟨NN_, hN_, ho0⟩ := Kd.age_ ho0
          have HO293 := A_ (Kd.S_lower (Kd.S_newB (Kd.S_newB (Kd.S_newB (Kd.S_newB (Kd.S_newB (Kd.S_new' ho0 (Kd.S_lt d16_)) (bk_ BK268.out)) (bk_ BK269.out)) (bk_ BK270.out)) (bk_ BK285.out)) (bk_ BK287.out)) (below_size (bw_ HB.out)))
          replace HO_286003 := A_ (Kd.old_ hN_ d16_ hb)
          replace BK268 := A_ (blk_below (bk_ BK268.out) hb)
          replace BK269 := A_ (blk_below (bk_ BK269.out) hb)
          replace BK270 := A_ (blk_below (bk_ BK270.out) hb)
          replace BK285 := A_ (blk_below (bk_ BK285.out) hb)
          replace BK287 := A_ (blk_below (bk_ BK287.out) hb)
          replace HB := A_ (below_step (bw_ HB.out) hb)
          (try clear hb)
          (try clear hb2)
          (try clear hk)
          (try clear hi)
          (try clear ho0)
          obtain ⟨Ao65, co65, eo65⟩ := Kd.S_slice HO293.out
          (first | subst eo65 | (injection eo65 with f1_ f2_ f3_; have f4_ := f1_.symm; have f5_ := f3_.symm; clear f1_ f2_ f3_; subst f4_; subst f5_))
          refine hK.out _ _ ⟨(blk_cell BK285.out 0).trans rfl, (blk_cell BK285.out 1).trans rfl, (blk_cell BK285.out 2).trans rfl, (blk_cell BK285.out 3).trans rfl, (blk_cell BK287.out 0).trans rfl, (blk_cell BK287.out 1).trans rfl, (blk_cell BK287.out 2).trans rfl, (blk_cell BK287.out 3).trans rfl, (blk_cell BK269.out 0).trans rfl, (blk_cell BK269.out 1).trans rfl, (blk_cell BK269.out 2).trans rfl, (blk_cell BK269.out 3).trans rfl⟩ (fun hHeld => ?_)
          clear hK K
          refine norm_ (a' := ?_) ?_ ?_
          rotate_left
          ·show Act.put _ (some 52) _ = _
           simp only [Act.put, List.setIfInBounds_toArray, List.set_cons_zero, List.set_cons_succ, i64_w, i32_w]
           rfl
          refine one_ (i := 7) (N := some 53) (bm_ 11 255) rfl rfl (one_of HT_.out (by kernel_rfl)) (by decide) (fun K hK => ?_)
          refine value_ (w1 := ?_) (v := ?_) (by rfl) rfl ?_ ?_
          rotate_left 2
          ·go_simp
           constructor
           ·rfl
           ·rfl
          refine hK.out _ _ ⟨(blk_cell (blk_alloc BK285.out _) 0).trans rfl, (blk_cell (blk_alloc BK285.out _) 1).trans rfl, (blk_cell (blk_alloc BK285.out _) 2).trans rfl, (blk_cell (blk_alloc BK285.out _) 3).trans rfl, (blk_cell (blk_alloc BK287.out _) 0).trans rfl, (blk_cell (blk_alloc BK287.out _) 1).trans rfl, (blk_cell (blk_alloc BK287.out _) 2).trans rfl, (blk_cell (blk_alloc BK287.out _) 3).trans rfl, (blk_cell (blk_alloc BK269.out _) 0).trans rfl, (blk_cell (blk_alloc BK269.out _) 1).trans rfl, (blk_cell (blk_alloc BK269.out _) 2).trans rfl, (blk_cell (blk_alloc BK269.out _) 3).trans rfl⟩ (fun hHeld => ?_)
          clear hK K
          refine norm_ (a' := ?_) ?_ ?_
          rotate_left
          ·show Act.put _ (some 53) _ = _
           simp only [Act.put, List.setIfInBounds_toArray, List.set_cons_zero, List.set_cons_succ, i64_w, i32_w]
           rfl
          refine one_ (i := 8) (N := some 54) (bm_ 11 511) rfl rfl (one_of HT_.out (by kernel_rfl)) (by decide) (fun K hK => ?_)
          refine Kd.S_append_step q29 (w0 := w) w.heap.size (by rfl) (.tmp 47) (.tmp 53) 27 29 (.agg #[(.int .i64 0), (.int .i64 0), (.string ⟨#[]⟩), (.slice none 0 0)]) 56 rfl Try.underlying27 info29 rfl (by decide) (by omega) u286003 x286003_2 (⟨t288, t289, t290, t291⟩ : S29) [.int .i64 t288, .int .i64 t289, .string t290, .slice Ao65 t291.length co65] (fun k_ => k_ ≠ gb268 ∧ k_ ≠ gb269 ∧ k_ ≠ gb270 ∧ k_ ≠ gb285 ∧ k_ ≠ gb287) (fun k_ => NN_ ≤ k_ ∧ (((fun k_ => k_ ≠ gb268 ∧ k_ ≠ gb269 ∧ k_ ≠ gb270 ∧ k_ ≠ gb285 ∧ k_ ≠ gb287)) k_ ∧ some k_ ≠ (u286003 : Value).ownBlock)) rfl rfl ?aP (fun k_ hk_ => hk_.2) ?aF ?aO ?aB ?aS ?aL ?_
          (case aP => exact q29_mkM _ _ _ (⟨t288, t289, t290, t291⟩ : S29) (Kd.S_mono HO293.out (fun k_ hk => ⟨hk.1.1.1.1.1.1.2, ⟨⟨hk.1.1.1.1.2, ⟨hk.1.1.1.2, ⟨hk.1.1.2, ⟨hk.1.2, hk.2⟩⟩⟩⟩, hk.1.1.1.1.1.2⟩⟩)))
          (case aB => exact (bw_ HB.out))
          (case aF => exact (fun k_ hk => ⟨Kd.freshB (bk_ BK268.out) k_ hk, Kd.freshB (bk_ BK269.out) k_ hk, Kd.freshB (bk_ BK270.out) k_ hk, Kd.freshB (bk_ BK285.out) k_ hk, Kd.freshB (bk_ BK287.out) k_ hk⟩))
          (case aO => exact (by (with_reducible repeat (first | apply Kd.S_alloc | apply Kd.S_drewN | apply Kd.S_drew)); exact Kd.S_mono HO_286003.out (fun k_ hk => ⟨⟨hk.1.1, ⟨hk.1.2.1, ⟨hk.1.2.2.1, ⟨hk.1.2.2.2.1, hk.1.2.2.2.2⟩⟩⟩⟩, fun e_ => absurd hk.2 (Nat.not_lt.2 e_.1)⟩)))
          (case aS => exact (below_size (bw_ HB.out)))
          (case aL => have := LMc54.out; omega)
          intro v295 w64 ho hb hg hat
          rw [← Ny294.out] at ho
          have n0_ := A_ (blk_grown (bk_ BK268.out) hg (Kd.S_away HO_286003.out (fun _ hk => hk.1.1)))
          have n1_ := A_ (blk_grown (bk_ BK269.out) hg (Kd.S_away HO_286003.out (fun _ hk => hk.1.2.1)))
          have n2_ := A_ (blk_grown (bk_ BK270.out) hg (Kd.S_away HO_286003.out (fun _ hk => hk.1.2.2.1)))
          have n3_ := A_ (blk_grown (bk_ BK285.out) hg (Kd.S_away HO_286003.out (fun _ hk => hk.1.2.2.2.1)))
          have n4_ := A_ (blk_grown (bk_ BK287.out) hg (Kd.S_away HO_286003.out (fun _ hk => hk.1.2.2.2.2)))
          have n5_ := A_ (hb)
          have n6_ := A_ (ho)
          clear BK268
          clear BK269
          clear BK270
          clear BK285
          clear BK287
          clear HB
          clear HO_286003
          clear HO293
          have BK268 := n0_
          have BK269 := n1_
          have BK270 := n2_
          have BK285 := n3_
          have BK287 := n4_
          have HB := n5_
          have HO296 := n6_
          clear n0_ n1_ n2_ n3_ n4_ n5_ n6_
          clear ho hb hg hat
          obtain ⟨Ao66, co66, eo66⟩ := Kd.S_slice HO296.out
          (first | subst eo66 | (injection eo66 with f1_ f2_ f3_; have f4_ := f1_.symm; have f5_ := f3_.symm; clear f1_ f2_ f3_; subst f4_; subst f5_))
          refine hK.out _ _ ⟨(blk_cell BK285.out 0).trans rfl, (blk_cell BK285.out 1).trans rfl, (blk_cell BK285.out 2).trans rfl, (blk_cell BK285.out 3).trans rfl, (blk_cell BK287.out 0).trans rfl, (blk_cell BK287.out 1).trans rfl, (blk_cell BK287.out 2).trans rfl, (blk_cell BK287.out 3).trans rfl, (blk_cell BK269.out 0).trans rfl, (blk_cell BK269.out 1).trans rfl, (blk_cell BK269.out 2).trans rfl, (blk_cell BK269.out 3).trans rfl⟩ (fun hHeld => ?_)
          clear hK K
          refine norm_ (a' := ?_) ?_ ?_
          rotate_left
          ·show Act.put _ (some 54) _ = _
           simp only [Act.put, List.setIfInBounds_toArray, List.set_cons_zero, List.set_cons_succ, i64_w, i32_w]
           rfl
          refine pu_ 9 (some 55) (bm_ 11 1023) (any_of HT_.out (by kernel_rfl)) ?_
          refine last_ (i := 10) (N := none) (bm_ 11 2047) rfl rfl (one_of HT_.out (by kernel_rfl)) (by decide) (fun K hK => ?_)
          have hs67 : w64.cell? ⟨gb285, 3, none⟩ = some (u286003) := (blk_cell BK285.out 3).trans rfl
          have hfs67 := blk_frozen BK285.out 3
          have hns67_0 := NB268_285.out
          have hns67_1 := NB269_285.out
          have hns67_2 := NB270_285.out
          have hns67_4 := NB287_285.out
          have hms67_0 := NB285_268.out
          have hms67_1 := NB285_269.out
          have hms67_2 := NB285_270.out
          have hms67_4 := NB285_287.out
          refine skip_ (w1 := ?_) (by rfl) rfl ?_ ?_
          rotate_left
          ·go_simp
           rfl
          refine hK.out _ _ ?_
          clear hK K
          refine done_ (done_of HT_.out (by kernel_rfl)) ?_
          try go_wp2
          go_roundg k2
          case measure => have := HJ17.out; have := HK2.out; omega
          case rel => exact ⟨(wrap64 (x42_2 + 1)), (y294), (.slice Ao66 y294.length co66), d2_, H', ⟨by have := HJ17.out; have := HK2.out; omega⟩, ⟨by (with_reducible repeat (first | apply Kd.S_alloc | apply Kd.S_drewN | apply Kd.S_drew)); exact Kd.S_mono (Kd.S_far (p := ⟨gb285, 3, none⟩) (Kd.S_mono HO296.out (fun k_ hk => (⟨hk, hk.2.2.2.1⟩ : _ ∧ k_ ≠ gb285))) (fun _ hk => hk.2) (.slice Ao66 y294.length co66)) (fun _ hk => ⟨hk.1.1, ⟨hk.1.2.1, ⟨hk.1.2.2.1, hk.1.2.2.2.1⟩⟩⟩)⟩, ⟨by refine bk_ ?_; refine blk_far ?_ NB268_285.out _; refine bk_ ?_; exact BK268.out⟩, ⟨by refine bk_ ?_; refine blk_far ?_ NB269_285.out _; refine bk_ ?_; exact BK269.out⟩, ⟨by refine bk_ ?_; refine blk_far ?_ NB270_285.out _; refine bk_ ?_; exact BK270.out⟩, ⟨by refine bk_ ?_; refine blk_put (cs := #[.int .i64 a0_0, .int .i64 a0_1, .string a0_2, u286003]) ?_ 3 _ rfl; refine bk_ ?_; exact BK285.out⟩, ⟨bw_ HB.out⟩⟩
         ·rw [if_neg c54] at H
          exact absurd H (by simp)
        ·rw [if_neg c52] at H
         exact absurd H (by simp)
       ·rw [if_neg c51] at H
        exact absurd H (by simp)
      ·rw [if_neg c50] at H
       have c50b0 := decide_eq_false c50
       clear c50
       simp only [Option.some.injEq, Prod.mk.injEq] at H
       obtain ⟨rfl, rfl, rfl, rfl⟩ := H
       have hnb68 := NB285_268.out
       have hnc68 := NB268_285.out
       have hnb69 := NB285_269.out
       have hnc69 := NB269_285.out
       have hnb70 := NB285_270.out
       have hnc70 := NB270_285.out
       obtain ⟨y71_0, y71_1, y71_2, y71_3, z71_0, z71_1, z71_2, z71_3⟩ := cz4_ BK285.out
       have hnb72 := NB270_268.out
       have hnc72 := NB268_270.out
       have hnb73 := NB270_269.out
       have hnc73 := NB269_270.out
       obtain ⟨y74_0, y74_1, y74_2, y74_3, z74_0, z74_1, z74_2, z74_3⟩ := cz4_ BK270.out
       obtain ⟨Ao75, co75, eo75⟩ := Kd.S_slice HO_286003.out
       subst eo75
       go_wp2
       refine bodyPost_ret (results_cell_row rfl _ _ gb270 29 #[.int .i64 a0_0, .int .i64 a0_1, .string a0_2, .slice Ao75 x286003_2.length co75] (0, 0) _ rfl ?hb_ Try.underlying29 rfl (by kernel_rfl)) rfl ?_
       (case hb_ => exact bk_ (bp4_ (bk_ BK270.out)))
       exact ⟨_, by first | rfl | (simp [errW_none, errW_some] <;> rfl) | (simp [*, errW_none, errW_some] <;> rfl), by (with_reducible repeat (first | apply Kd.S_alloc | apply Kd.S_drewN | apply Kd.S_drew)); exact Kd.S_mono (Kd.S_far (p := ⟨gb270, 3, none⟩) (Kd.S_far (p := ⟨gb270, 2, none⟩) (Kd.S_far (p := ⟨gb270, 1, none⟩) (Kd.S_far (p := ⟨gb270, 0, none⟩) (Kd.S_mono HO_286003.out (fun k_ hk => (⟨hk, hk.2.2.1⟩ : _ ∧ k_ ≠ gb270))) (fun _ hk => hk.2) (.int .i64 a0_0)) (fun _ hk => hk.2) (.int .i64 a0_1)) (fun _ hk => hk.2) (.string a0_2)) (fun _ hk => hk.2) (.slice Ao75 x286003_2.length co75)) (fun _ hk => trivial), bw_ HB.out⟩

end Go.Proofs.Ytcpnhlhigpgonaa.PFnExactPut
