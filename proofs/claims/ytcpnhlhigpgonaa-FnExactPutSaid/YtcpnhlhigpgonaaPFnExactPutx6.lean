-- Laid by a program of this session (a changed copy of the kit's printer); Lean checks every line.
import Derived.Test.YtcpnhlhigpgonaaPFnExactPutx0
import Derived.Test.YtcpnhlhigpgonaaPFnExactPutx3
import Derived.Test.YtcpnhlhigpgonaaPFnExactPutx5
namespace Go.Proofs.Ytcpnhlhigpgonaa.PFnExactPut
open Go.RowKit Go.Proofs.YtcpnhlhigpgonaaW.PrintWords Go.Proofs.YtcpnhlhigpgonaaW.PrintLast Go.Proofs.YtcpnhlhigpgonaaW.PrintMore
attribute [local go_sem] max2_int min2_int max_two min_two max_three min_three max_four min_four   -- for this text's walks alone
set_option linter.unusedVariables false
set_option linter.unusedSimpArgs false

/-! ### spec_l11Put: function 53 -/
mutual
def spec_l11Put.j0 : Nat → List ByteArray → List (S29) → Int → Int → ByteArray → List (S29) → Int → Int → ByteArray → List (S29) → Option (Int × Int × ByteArray × (List (S29)))
 | 0, _, _, _, _, _, _, _, _, _, _ => none
 | k + 1, x2, x3, x175000, x175001, x175002, x175003, x176000, x176001, x176002, x176003 => spec_l11Put.l0 k x2 x3 0 x175000 x175001 x175002 x175003 x176000 x176001 x176002 x176003 x175000 x175001 x175002 ([] : List (S29))
def spec_l11Put.l0 : Nat → List ByteArray → List (S29) → Int → Int → Int → ByteArray → List (S29) → Int → Int → ByteArray → List (S29) → Int → Int → ByteArray → List (S29) → Option (Int × Int × ByteArray × (List (S29)))
 | 0, _, _, _, _, _, _, _, _, _, _, _, _, _, _, _ => none
 | k + 1, x2, x3, x11, x175000, x175001, x175002, x175003, x176000, x176001, x176002, x176003, x192000, x192001, x192002, x192003 => if x11 < (x175003.length : Int) then (if 0 ≤ x11 then ((spec_l11Put.f k ((rd_T29 x175003 x11).f0) ((rd_T29 x175003 x11).f1) ((rd_T29 x175003 x11).f2) ((rd_T29 x175003 x11).f3) x176000 x176001 x176002 x176003 x2 x3).bind fun bt193 => (if x192003.length < 2513169434916 then (spec_l11Put.l0 k x2 x3 (wrap64 (x11 + 1)) x175000 x175001 x175002 x175003 x176000 x176001 x176002 x176003 x192000 x192001 x192002 (x192003 ++ [(⟨bt193.1, bt193.2.1, bt193.2.2.1, bt193.2.2.2⟩ : S29)])) else (none))) else (none)) else (some (x192000, x192001, x192002, x192003))
def spec_l11Put.f : Nat → Int → Int → ByteArray → List (S29) → Int → Int → ByteArray → List (S29) → List ByteArray → List (S29) → Option (Int × Int × ByteArray × (List (S29)))
 | 0, _, _, _, _, _, _, _, _, _, _ => none
 | k + 1, a0_0, a0_1, a0_2, l0_3, a1_0, a1_1, a1_2, l1_3, l2, l3 => if a0_0 = 3 then ((spec_l11Copy.f k a1_0 a1_1 a1_2 l1_3).bind fun bt177 => (some (bt177.1, bt177.2.1, bt177.2.2.1, bt177.2.2.2))) else (if a0_0 = 2 then ((spec_l9At.f k l2 a0_2).bind fun t183 => (if t183 ≥ 0 then (if 0 ≤ t183 then (if t183 < (l3.length : Int) then ((spec_l11Copy.f k ((rd_T29 l3 t183).f0) ((rd_T29 l3 t183).f1) ((rd_T29 l3 t183).f2) ((rd_T29 l3 t183).f3)).bind fun bt185 => (some (bt185.1, bt185.2.1, bt185.2.2.1, bt185.2.2.2))) else (none)) else (none)) else (spec_l11Put.j0 k l2 l3 a0_0 a0_1 a0_2 l0_3 a1_0 a1_1 a1_2 l1_3))) else (spec_l11Put.j0 k l2 l3 a0_0 a0_1 a0_2 l0_3 a1_0 a1_1 a1_2 l1_3))
end
theorem spec_l11Put.mono_l : ∀ k, (∀ y0 y1 y2 y3 y4 y5 y6 y7 y8 y9, LeO (spec_l11Put.f k y0 y1 y2 y3 y4 y5 y6 y7 y8 y9) (spec_l11Put.f (k + 1) y0 y1 y2 y3 y4 y5 y6 y7 y8 y9)) ∧ (∀ y0 y1 y2 y3 y4 y5 y6 y7 y8 y9, LeO (spec_l11Put.j0 k y0 y1 y2 y3 y4 y5 y6 y7 y8 y9) (spec_l11Put.j0 (k + 1) y0 y1 y2 y3 y4 y5 y6 y7 y8 y9)) ∧ (∀ y0 y1 y2 y3 y4 y5 y6 y7 y8 y9 y10 y11 y12 y13 y14, LeO (spec_l11Put.l0 k y0 y1 y2 y3 y4 y5 y6 y7 y8 y9 y10 y11 y12 y13 y14) (spec_l11Put.l0 (k + 1) y0 y1 y2 y3 y4 y5 y6 y7 y8 y9 y10 y11 y12 y13 y14))
 | 0 => ⟨fun _ _ _ _ _ _ _ _ _ _ r h => by simp [spec_l11Put.f] at h, fun _ _ _ _ _ _ _ _ _ _ r h => by simp [spec_l11Put.j0] at h, fun _ _ _ _ _ _ _ _ _ _ _ _ _ _ _ r h => by simp [spec_l11Put.l0] at h⟩
 | k + 1 => by
  obtain ⟨ih0, ih1, ih2⟩ := spec_l11Put.mono_l k
  refine ⟨?_, ?_, ?_⟩
  ·intro y0 y1 y2 y3 y4 y5 y6 y7 y8 y9
   unfold spec_l11Put.f
   repeat' first
   | (with_reducible exact ih0 _ _ _ _ _ _ _ _ _ _)
   | (with_reducible exact ih1 _ _ _ _ _ _ _ _ _ _)
   | (with_reducible exact ih2 _ _ _ _ _ _ _ _ _ _ _ _ _ _ _)
   | (with_reducible exact spec_l11Copy.mono _ _ _ _ _)
   | (with_reducible exact spec_l9At.mono _ _ _)
   | (with_reducible exact LeO.refl _)
   | (with_reducible exact LeO.none _)
   | (with_reducible refine LeO.ite ?_ ?_)
   | (with_reducible refine LeO.bind ?_ (fun _ => ?_))
   | exact ih0 _ _ _ _ _ _ _ _ _ _
   | exact ih1 _ _ _ _ _ _ _ _ _ _
   | exact ih2 _ _ _ _ _ _ _ _ _ _ _ _ _ _ _
   | exact spec_l11Copy.mono _ _ _ _ _
   | exact spec_l9At.mono _ _ _
   | exact LeO.none _
   | refine LeO.ite ?_ ?_
   | refine LeO.bind ?_ (fun _ => ?_)
  ·intro y0 y1 y2 y3 y4 y5 y6 y7 y8 y9
   unfold spec_l11Put.j0
   repeat' first
   | (with_reducible exact ih0 _ _ _ _ _ _ _ _ _ _)
   | (with_reducible exact ih1 _ _ _ _ _ _ _ _ _ _)
   | (with_reducible exact ih2 _ _ _ _ _ _ _ _ _ _ _ _ _ _ _)
   | (with_reducible exact spec_l11Copy.mono _ _ _ _ _)
   | (with_reducible exact spec_l9At.mono _ _ _)
   | (with_reducible exact LeO.refl _)
   | (with_reducible exact LeO.none _)
   | (with_reducible refine LeO.ite ?_ ?_)
   | (with_reducible refine LeO.bind ?_ (fun _ => ?_))
   | exact ih0 _ _ _ _ _ _ _ _ _ _
   | exact ih1 _ _ _ _ _ _ _ _ _ _
   | exact ih2 _ _ _ _ _ _ _ _ _ _ _ _ _ _ _
   | exact spec_l11Copy.mono _ _ _ _ _
   | exact spec_l9At.mono _ _ _
   | exact LeO.none _
   | refine LeO.ite ?_ ?_
   | refine LeO.bind ?_ (fun _ => ?_)
  ·intro y0 y1 y2 y3 y4 y5 y6 y7 y8 y9 y10 y11 y12 y13 y14
   unfold spec_l11Put.l0
   repeat' first
   | (with_reducible exact ih0 _ _ _ _ _ _ _ _ _ _)
   | (with_reducible exact ih1 _ _ _ _ _ _ _ _ _ _)
   | (with_reducible exact ih2 _ _ _ _ _ _ _ _ _ _ _ _ _ _ _)
   | (with_reducible exact spec_l11Copy.mono _ _ _ _ _)
   | (with_reducible exact spec_l9At.mono _ _ _)
   | (with_reducible exact LeO.refl _)
   | (with_reducible exact LeO.none _)
   | (with_reducible refine LeO.ite ?_ ?_)
   | (with_reducible refine LeO.bind ?_ (fun _ => ?_))
   | exact ih0 _ _ _ _ _ _ _ _ _ _
   | exact ih1 _ _ _ _ _ _ _ _ _ _
   | exact ih2 _ _ _ _ _ _ _ _ _ _ _ _ _ _ _
   | exact spec_l11Copy.mono _ _ _ _ _
   | exact spec_l9At.mono _ _ _
   | exact LeO.none _
   | refine LeO.ite ?_ ?_
   | refine LeO.bind ?_ (fun _ => ?_)
theorem spec_l11Put.mono : ∀ a0 a1 a2 a3 a4 a5 a6 a7 a8 a9 k, LeO (spec_l11Put.f k a0 a1 a2 a3 a4 a5 a6 a7 a8 a9) (spec_l11Put.f (k + 1) a0 a1 a2 a3 a4 a5 a6 a7 a8 a9) := by
 intro a0 a1 a2 a3 a4 a5 a6 a7 a8 a9 k
 obtain ⟨ih0, ih1, ih2⟩ := spec_l11Put.mono_l k
 exact ih0 a0 a1 a2 a3 a4 a5 a6 a7 a8 a9
def spec_l11Put.T11 : Bool × List (List Nat × List Nat) := (true, [([], []), ([0], [0]), ([], []), ([1, 2], [1, 2]), ([3], [3]), ([], []), ([], []), ([], []), ([4, 5, 6, 7], [4, 5, 6, 7]), ([], []), ([9, 8, 8, 0, 1, 2, 3, 4, 5, 6, 7, 8, 9], [8, 9])])
def spec_l11Put.B11 : List Nat := [0, 1, 0, 7, 15, 0, 0, 0, 255, 0, 1023]
theorem spec_l11Put.tab11 : rtab .any (opsOf Try.f53 11) = spec_l11Put.T11 := by kernel_rfl
theorem spec_l11Put.bits11 : waitsOk spec_l11Put.T11.2 spec_l11Put.B11 = true := by kernel_rfl
set_option maxHeartbeats 8000000 in
set_option maxRecDepth 100000 in
theorem spec_l11Put.calls (k : Nat) : ∀ (a0_0 : Int) (a0_1 : Int) (a0_2 : ByteArray) (A0_3 : Option Addr) (c0_3 : Nat) (l0_3 : List (S29)) (a1_0 : Int) (a1_1 : Int) (a1_2 : ByteArray) (A1_3 : Option Addr) (c1_3 : Nat) (l1_3 : List (S29)) (A2 : Option Addr) (c2 : Nat) (l2 : List ByteArray) (A3 : Option Addr) (c3 : Nat) (l3 : List (S29)) (r1 : Int) (r2 : Int) (r3 : ByteArray) (r4 : List (S29)) (w : World) (hr0_3 : Kd.C k29 w A0_3 l0_3.length l0_3) (hc0_3 : l0_3.length ≤ c0_3) (hr1_3 : Kd.C k29 w A1_3 l1_3.length l1_3) (hc1_3 : l1_3.length ≤ c1_3) (hr2 : Kd.C Kd.string w A2 l2.length l2) (hc2 : l2.length ≤ c2) (hr3 : Kd.C k29 w A3 l3.length l3) (hc3 : l3.length ≤ c3) (h : spec_l11Put.f k a0_0 a0_1 a0_2 l0_3 a1_0 a1_1 a1_2 l1_3 l2 l3 = some (r1, r2, r3, r4)),
  Calls Try.prog 53 #[.agg #[.int .i64 a0_0, .int .i64 a0_1, .string a0_2, .slice A0_3 l0_3.length c0_3], .agg #[.int .i64 a1_0, .int .i64 a1_1, .string a1_2, .slice A1_3 l1_3.length c1_3], .slice A2 l2.length c2, .slice A3 l3.length c3] w fun e w' => ∃ v3_ : Value, e = .returned (.agg #[.int .i64 r1, .int .i64 r2, .string r3, v3_]) ∧ Kd.R k29 29 w' w.heap.size (fun _ => True) v3_ r4 ∧ Below w.heap.size w w' := by
 induction k using Nat.strongRecOn with
 | _ k ih =>
 intro a0_0 a0_1 a0_2 A0_3 c0_3 l0_3 a1_0 a1_1 a1_2 A1_3 c1_3 l1_3 A2 c2 l2 A3 c3 l3 r1 r2 r3 r4 w hr0_3 hc0_3 hr1_3 hc1_3 hr2 hc2 hr3 hc3 h
 cases k with
 | zero => exact absurd h (by simp [spec_l11Put.f])
 | succ k =>
 simp only [spec_l11Put.f] at h
 have hu29 := Try.underlying29
 have HR0_3 := A_ hr0_3
 have HC0_3 := A_ hc0_3
 clear hr0_3 hc0_3
 have HR1_3 := A_ hr1_3
 have HC1_3 := A_ hc1_3
 clear hr1_3 hc1_3
 have HR2 := A_ hr2
 have HC2 := A_ hc2
 clear hr2 hc2
 have HR3 := A_ hr3
 have HC3 := A_ hc3
 clear hr3 hc3
 have HB := A_ (Below.refl w.heap.size w)
 have H : (if a0_0 = 3 then ((spec_l11Copy.f k a1_0 a1_1 a1_2 l1_3).bind fun bt177 => (some (bt177.1, bt177.2.1, bt177.2.2.1, bt177.2.2.2))) else (if a0_0 = 2 then ((spec_l9At.f k l2 a0_2).bind fun t183 => (if t183 ≥ 0 then (if 0 ≤ t183 then (if t183 < (l3.length : Int) then ((spec_l11Copy.f k ((rd_T29 l3 t183).f0) ((rd_T29 l3 t183).f1) ((rd_T29 l3 t183).f2) ((rd_T29 l3 t183).f3)).bind fun bt185 => (some (bt185.1, bt185.2.1, bt185.2.2.1, bt185.2.2.2))) else (none)) else (none)) else (spec_l11Put.j0 k l2 l3 a0_0 a0_1 a0_2 l0_3 a1_0 a1_1 a1_2 l1_3))) else (spec_l11Put.j0 k l2 l3 a0_0 a0_1 a0_2 l0_3 a1_0 a1_1 a1_2 l1_3))) = some (r1, r2, r3, r4) := h
 clear h
 by_cases c5 : a0_0 = 3
 ·rw [if_pos c5] at H
  have c5b0 := beq_iff_eq.mpr c5
  have c5b1 := bne_eq_false_iff_eq.mpr c5
  clear c5
  replace H := Option.bind_eq_some_iff.mp H
  obtain ⟨⟨t177, t178, t179, t180⟩, A60, H⟩ := H
  try dsimp only at H
  have A6 := A_ A60
  clear A60
  simp only [Option.some.injEq, Prod.mk.injEq] at H
  obtain ⟨rfl, rfl, rfl, rfl⟩ := H
  go_enter Try.func53, Try.ntmps53
  go_wp2_with (first | ((with_reducible refine gate_dst (N := 4) rfl ?_); refine bx_ 4 #[.int .i64 a0_0, .int .i64 a0_1, .string a0_2, .slice A0_3 l0_3.length c0_3] 29 ?_; intro gb174 hg w7 hbox hb; have n0_ := A_ (below_step (bw_ HB.out) hb); have n1_ := A_ (hbox); have n2_ := A_ ((d3_ : w.heap.size ≤ gb174)); have n3_ := n2_; clear HB; have HB := n0_; have BK174 := n1_; have GW174 := n2_; have GE174 := n3_; have GI174 := GeI.mk GE174.out; clear n0_ n1_ n2_ n3_; clear hb hbox hg) | ((with_reducible refine gate_dst (N := 5) rfl ?_); refine bx_ 5 #[.int .i64 a1_0, .int .i64 a1_1, .string a1_2, .slice A1_3 l1_3.length c1_3] 29 ?_; intro gb175 hg w8 hbox hb; have n0_ := A_ (blk_below (bk_ BK174.out) hb); have n1_ := A_ (below_step (bw_ HB.out) hb); have n2_ := A_ (hbox); have n3_ := A_ ((d3_ : w.heap.size ≤ gb175)); have n4_ := n3_; have n5_ := A_ ((d11_ : gb174 ≠ gb175)); have n6_ := A_ n5_.out.symm; clear BK174; clear HB; have BK174 := n0_; have HB := n1_; have BK175 := n2_; have GW175 := n3_; have GE175 := n4_; have GI175 := GeI.mk GE175.out; have NB174_175 := n5_; have NB175_174 := n6_; clear n0_ n1_ n2_ n3_ n4_ n5_ n6_; clear hb hbox hg) | ((with_reducible refine gate_dst (N := 8) rfl ?_); refine bx_ 8 #[.int .i64 0, .int .i64 0, .string (⟨#[]⟩ : ByteArray), .slice none 0 0] 29 ?_; intro gb176 hg w9 hbox hb; have n0_ := A_ (blk_below (bk_ BK174.out) hb); have n1_ := A_ (blk_below (bk_ BK175.out) hb); have n2_ := A_ (below_step (bw_ HB.out) hb); have n3_ := A_ (hbox); have n4_ := A_ ((d3_ : w.heap.size ≤ gb176)); have n5_ := n4_; have n6_ := A_ ((d11_ : gb174 ≠ gb176)); have n7_ := A_ n6_.out.symm; have n8_ := A_ ((d19_ : gb175 ≠ gb176)); have n9_ := A_ n8_.out.symm; clear BK174; clear BK175; clear HB; have BK174 := n0_; have BK175 := n1_; have HB := n2_; have BK176 := n3_; have GW176 := n4_; have GE176 := n5_; have GI176 := GeI.mk GE176.out; have NB174_176 := n6_; have NB176_174 := n7_; have NB175_176 := n8_; have NB176_175 := n9_; clear n0_ n1_ n2_ n3_ n4_ n5_ n6_ n7_ n8_ n9_; clear hb hbox hg; have hnb10 := NB174_175.out; have hnc10 := NB175_174.out; have hnb11 := NB174_176.out; have hnc11 := NB176_174.out; obtain ⟨y12_0, y12_1, y12_2, y12_3, z12_0, z12_1, z12_2, z12_3⟩ := cz4_ BK174.out; have hnb13 := NB175_176.out; have hnc13 := NB176_175.out; obtain ⟨y14_0, y14_1, y14_2, y14_3, z14_0, z14_1, z14_2, z14_3⟩ := cz4_ BK175.out) | ((with_reducible refine gate_callee (f := 57) rfl ?_); refine gL_ (some 17) Try.func57 #[.agg #[.int .i64 a1_0, .int .i64 a1_1, .string a1_2, .slice A1_3 l1_3.length c1_3]] ?_; (with_reducible refine (spec_l11Copy.calls k a1_0 a1_1 a1_2 _ _ l1_3 t177 t178 t179 t180 _ ?side1 ?side2 A6.out).mono ?_); (case side1 => exact Kd.C_below HR1_3.out (bw_ HB.out)); (case side2 => exact HC1_3.out); rintro e w15 ⟨v181, rfl, ho0, hb⟩; refine ⟨_, rfl, ?_⟩; have HO182 := A_ (Kd.R_lower (Kd.R_newB (Kd.R_newB (Kd.R_newB ho0 (bk_ BK174.out)) (bk_ BK175.out)) (bk_ BK176.out)) (below_size (bw_ HB.out))); replace BK174 := A_ (blk_below (bk_ BK174.out) hb); replace BK175 := A_ (blk_below (bk_ BK175.out) hb); replace BK176 := A_ (blk_below (bk_ BK176.out) hb); replace HB := A_ (below_step (bw_ HB.out) hb); clear hb; (try clear ho0); obtain ⟨y16_0, y16_1, y16_2, y16_3, z16_0, z16_1, z16_2, z16_3⟩ := cz4_ BK176.out; obtain ⟨Ao17, co17, eo17⟩ := Kd.R_slice HO182.out; subst eo17))
  refine bodyPost_ret (results_cell_row rfl _ _ gb176 29 #[.int .i64 t177, .int .i64 t178, .string t179, .slice Ao17 t180.length co17] (0, 0) _ rfl ?hb_ Try.underlying29 rfl (by kernel_rfl)) rfl ?_
  (case hb_ => exact bk_ (bp4_ (bk_ BK176.out)))
  exact ⟨_, by first | rfl | (simp [errW_none, errW_some] <;> rfl) | (simp [*, errW_none, errW_some] <;> rfl), kr_ (Kd.R_mono (rf4_ (Kd.R_mono HO182.out (fun k_ hk => (⟨hk, hk.2⟩ : _ ∧ k_ ≠ gb176))) (fun _ hk => hk.2)) (fun _ hk => trivial)), bw_ HB.out⟩
 ·rw [if_neg c5] at H
  have c5b0 := beq_eq_false_iff_ne.mpr c5
  have c5b1 := bne_iff_ne.mpr c5
  have HC18 := A_ H
  clear H
  go_enter Try.func53, Try.ntmps53
  go_upto_if 20 with (first | ((with_reducible refine gate_dst (N := 4) rfl ?_); refine bx_ 4 #[.int .i64 a0_0, .int .i64 a0_1, .string a0_2, .slice A0_3 l0_3.length c0_3] 29 ?_; intro gb174 hg w19 hbox hb; have n0_ := A_ (below_step (bw_ HB.out) hb); have n1_ := A_ (hbox); have n2_ := A_ ((d3_ : w.heap.size ≤ gb174)); have n3_ := n2_; clear HB; have HB := n0_; have BK174 := n1_; have GW174 := n2_; have GE174 := n3_; have GI174 := GeI.mk GE174.out; clear n0_ n1_ n2_ n3_; clear hb hbox hg) | ((with_reducible refine gate_dst (N := 5) rfl ?_); refine bx_ 5 #[.int .i64 a1_0, .int .i64 a1_1, .string a1_2, .slice A1_3 l1_3.length c1_3] 29 ?_; intro gb175 hg w20 hbox hb; have n0_ := A_ (blk_below (bk_ BK174.out) hb); have n1_ := A_ (below_step (bw_ HB.out) hb); have n2_ := A_ (hbox); have n3_ := A_ ((d3_ : w.heap.size ≤ gb175)); have n4_ := n3_; have n5_ := A_ ((d11_ : gb174 ≠ gb175)); have n6_ := A_ n5_.out.symm; clear BK174; clear HB; have BK174 := n0_; have HB := n1_; have BK175 := n2_; have GW175 := n3_; have GE175 := n4_; have GI175 := GeI.mk GE175.out; have NB174_175 := n5_; have NB175_174 := n6_; clear n0_ n1_ n2_ n3_ n4_ n5_ n6_; clear hb hbox hg) | ((with_reducible refine gate_dst (N := 8) rfl ?_); refine bx_ 8 #[.int .i64 0, .int .i64 0, .string (⟨#[]⟩ : ByteArray), .slice none 0 0] 29 ?_; intro gb176 hg w21 hbox hb; have n0_ := A_ (blk_below (bk_ BK174.out) hb); have n1_ := A_ (blk_below (bk_ BK175.out) hb); have n2_ := A_ (below_step (bw_ HB.out) hb); have n3_ := A_ (hbox); have n4_ := A_ ((d3_ : w.heap.size ≤ gb176)); have n5_ := n4_; have n6_ := A_ ((d11_ : gb174 ≠ gb176)); have n7_ := A_ n6_.out.symm; have n8_ := A_ ((d19_ : gb175 ≠ gb176)); have n9_ := A_ n8_.out.symm; clear BK174; clear BK175; clear HB; have BK174 := n0_; have BK175 := n1_; have HB := n2_; have BK176 := n3_; have GW176 := n4_; have GE176 := n5_; have GI176 := GeI.mk GE176.out; have NB174_176 := n6_; have NB176_174 := n7_; have NB175_176 := n8_; have NB176_175 := n9_; clear n0_ n1_ n2_ n3_ n4_ n5_ n6_ n7_ n8_ n9_; clear hb hbox hg; have hnb22 := NB174_175.out; have hnc22 := NB175_174.out; have hnb23 := NB174_176.out; have hnc23 := NB176_174.out; obtain ⟨y24_0, y24_1, y24_2, y24_3, z24_0, z24_1, z24_2, z24_3⟩ := cz4_ BK174.out))
  (try simp only [Act.put, List.setIfInBounds_toArray, List.set_cons_zero, List.set_cons_succ])
  go_cut [] (fun wc => ∃ (kq : Nat) (x177000_17 : Int) (x177001_17 : Int) (x177002_17 : ByteArray), Aside0 (spec_l11Put.j0 kq l2 l3 a0_0 a0_1 a0_2 l0_3 a1_0 a1_1 a1_2 l1_3 = some (r1, r2, r3, r4)) ∧ Aside0 (kq ≤ k) ∧ Aside0 (wc.heap[gb174]? = some (.cells #[.int .i64 a0_0, .int .i64 a0_1, .string a0_2, (.slice A0_3 l0_3.length c0_3)] 29 (0, 0))) ∧ Aside0 (wc.heap[gb175]? = some (.cells #[.int .i64 a1_0, .int .i64 a1_1, .string a1_2, (.slice A1_3 l1_3.length c1_3)] 29 (0, 0))) ∧ Aside0 (wc.heap[gb176]? = some (.cells #[.int .i64 x177000_17, .int .i64 x177001_17, .string x177002_17, (.slice none 0 0)] 29 (0, 0))) ∧ Aside0 (Below w.heap.size w wc))
  case first =>
   have H := HC18.out
   clear HC18
   by_cases c25 : a0_0 = 2
   ·rw [if_pos c25] at H
    have c25b0 := beq_iff_eq.mpr c25
    have c25b1 := bne_eq_false_iff_eq.mpr c25
    clear c25
    (first | rw [c25b0] | (simp only [i64_w, i32_w]; rw [c25b0]) | skip)
    replace H := Option.bind_eq_some_iff.mp H
    obtain ⟨t183, A260, H⟩ := H
    try dsimp only at H
    have A26 := A_ A260
    clear A260
    by_cases c27 : t183 ≥ 0
    ·rw [if_pos c27] at H
     have c27b0 := decide_eq_true c27
     clear c27
     by_cases c28 : 0 ≤ t183
     ·rw [if_pos c28] at H
      have c28b0 := decide_eq_true c28
      clear c28
      by_cases c29 : t183 < (l3.length : Int)
      ·rw [if_pos c29] at H
       have c29b0 := decide_eq_true c29
       clear c29
       replace H := Option.bind_eq_some_iff.mp H
       obtain ⟨⟨t185, t186, t187, t188⟩, A300, H⟩ := H
       try dsimp only at H
       have A30 := A_ A300
       clear A300
       simp only [Option.some.injEq, Prod.mk.injEq] at H
       obtain ⟨rfl, rfl, rfl, rfl⟩ := H
       have hnb31 := NB174_175.out
       have hnc31 := NB175_174.out
       have hnb32 := NB174_176.out
       have hnc32 := NB176_174.out
       obtain ⟨y33_0, y33_1, y33_2, y33_3, z33_0, z33_1, z33_2, z33_3⟩ := cz4_ BK174.out
       go_wp2_with (first | ((with_reducible refine gate_callee (f := 74) rfl ?_); refine gL_ (some 24) Try.func74 #[.slice A2 l2.length c2, .string a0_2] ?_; (with_reducible refine (spec_l9At.calls k _ _ l2 a0_2 t183 _ ?side1 ?side2 A26.out).mono ?_); (case side1 => exact Kd.C_below HR2.out (bw_ HB.out)); (case side2 => exact HC2.out); rintro e w' ⟨rfl, ⟨nd, rfl⟩⟩; refine ⟨_, rfl, ?_⟩; (try (rw [drewN_self w21]; generalize hq_ : World.drewN w21 _ = w21; have n0_ := A_ (bq_ hq_ BK174.out); have n1_ := A_ (bq_ hq_ BK175.out); have n2_ := A_ (bq_ hq_ BK176.out); have n3_ := A_ (wq_ hq_ HB.out); clear BK174 BK175 BK176 HB hq_; have BK174 := n0_; have BK175 := n1_; have BK176 := n2_; have HB := n3_; clear n0_ n1_ n2_ n3_)); have p184 : 0 ≤ (t183 : Int) := of_decide_eq_true d1_; have q184 : t183 < (l3.length : Int) := of_decide_eq_true d1_; obtain ⟨ad184, A184_3, c184_3, e184, hx184_0, hx184_1, hx184_2, hx184_3, hl184_3, hi184_3⟩ := at_T29 HR3.out t183 p184 q184; cases e184; replace hx184_0 := (HB.out.cell (World.block_lt_of_cell? w _ hx184_0)).trans hx184_0; replace hx184_1 := (HB.out.cell (World.block_lt_of_cell? w _ hx184_1)).trans hx184_1; replace hx184_2 := (HB.out.cell (World.block_lt_of_cell? w _ hx184_2)).trans hx184_2; replace hx184_3 := (HB.out.cell (World.block_lt_of_cell? w _ hx184_3)).trans hx184_3; have HR184_3 := A_ hi184_3; have HC184_3 := A_ hl184_3; clear hi184_3 hl184_3; replace p184 := eq_true p184; replace q184 := eq_true q184) | ((with_reducible refine gate_callee (f := 57) rfl ?_); refine gL_ (some 31) Try.func57 #[.agg #[.int .i64 ((rd_T29 l3 t183).f0), .int .i64 ((rd_T29 l3 t183).f1), .string ((rd_T29 l3 t183).f2), .slice A184_3 ((rd_T29 l3 t183).f3).length c184_3]] ?_; (with_reducible refine (spec_l11Copy.calls k ((rd_T29 l3 t183).f0) ((rd_T29 l3 t183).f1) ((rd_T29 l3 t183).f2) _ _ ((rd_T29 l3 t183).f3) t185 t186 t187 t188 _ ?side1 ?side2 A30.out).mono ?_); (case side1 => exact Kd.C_below HR184_3.out (bw_ HB.out)); (case side2 => exact HC184_3.out); rintro e w34 ⟨v189, rfl, ho0, hb⟩; refine ⟨_, rfl, ?_⟩; have HO190 := A_ (Kd.R_lower (Kd.R_newB (Kd.R_newB (Kd.R_newB ho0 (bk_ BK174.out)) (bk_ BK175.out)) (bk_ BK176.out)) (below_size (bw_ HB.out))); replace BK174 := A_ (blk_below (bk_ BK174.out) hb); replace BK175 := A_ (blk_below (bk_ BK175.out) hb); replace BK176 := A_ (blk_below (bk_ BK176.out) hb); replace HB := A_ (below_step (bw_ HB.out) hb); clear hb; (try clear ho0); have hnb35 := NB176_175.out; have hnc35 := NB175_176.out; obtain ⟨y36_0, y36_1, y36_2, y36_3, z36_0, z36_1, z36_2, z36_3⟩ := cz4_ BK176.out; obtain ⟨Ao37, co37, eo37⟩ := Kd.R_slice HO190.out; subst eo37))
       refine bodyPost_ret (results_cell_row rfl _ _ gb176 29 #[.int .i64 t185, .int .i64 t186, .string t187, .slice Ao37 t188.length co37] (0, 0) _ rfl ?hb_ Try.underlying29 rfl (by kernel_rfl)) rfl ?_
       (case hb_ => exact bk_ (bp4_ (bk_ BK176.out)))
       exact ⟨_, by first | rfl | (simp [errW_none, errW_some] <;> rfl) | (simp [*, errW_none, errW_some] <;> rfl), kr_ (Kd.R_mono (rf4_ (Kd.R_mono HO190.out (fun k_ hk => (⟨hk, hk.2⟩ : _ ∧ k_ ≠ gb176))) (fun _ hk => hk.2)) (fun _ hk => trivial)), bw_ HB.out⟩
      ·rw [if_neg c29] at H
       exact absurd H (by simp)
     ·rw [if_neg c28] at H
      exact absurd H (by simp)
    ·rw [if_neg c27] at H
     have c27b0 := decide_eq_false c27
     clear c27
     have H' := A_ H
     clear H
     have hnb38 := NB174_175.out
     have hnc38 := NB175_174.out
     have hnb39 := NB174_176.out
     have hnc39 := NB176_174.out
     obtain ⟨y40_0, y40_1, y40_2, y40_3, z40_0, z40_1, z40_2, z40_3⟩ := cz4_ BK174.out
     go_wp2_with (first | ((with_reducible refine gate_callee (f := 74) rfl ?_); refine gL_ (some 24) Try.func74 #[.slice A2 l2.length c2, .string a0_2] ?_; (with_reducible refine (spec_l9At.calls k _ _ l2 a0_2 t183 _ ?side1 ?side2 A26.out).mono ?_); (case side1 => exact Kd.C_below HR2.out (bw_ HB.out)); (case side2 => exact HC2.out); rintro e w' ⟨rfl, ⟨nd, rfl⟩⟩; refine ⟨_, rfl, ?_⟩))
     go_meet
     case rel => exact ⟨_, (0), (0), ((⟨#[]⟩ : ByteArray)), H', ⟨by first | omega | exact Nat.le_refl _⟩, ⟨by refine bk_ ?_; exact BK174.out⟩, ⟨by refine bk_ ?_; exact BK175.out⟩, ⟨by refine bk_ ?_; exact BK176.out⟩, ⟨bw_ HB.out⟩⟩
   ·rw [if_neg c25] at H
    have c25b0 := beq_eq_false_iff_ne.mpr c25
    have c25b1 := bne_iff_ne.mpr c25
    (first | rw [c25b0] | (simp only [i64_w, i32_w]; rw [c25b0]) | skip)
    have H' := A_ H
    clear H
    go_wp2
    go_meet
    case rel => exact ⟨_, (0), (0), ((⟨#[]⟩ : ByteArray)), H', ⟨by first | omega | exact Nat.le_refl _⟩, ⟨by refine bk_ ?_; exact BK174.out⟩, ⟨by refine bk_ ?_; exact BK175.out⟩, ⟨by refine bk_ ?_; exact BK176.out⟩, ⟨bw_ HB.out⟩⟩
  case rest =>
   clear HC18
   try clear c1
   try clear p1
   try clear q1
   try clear hx1
   try clear c2
   try clear p2
   try clear c3
   try clear c5
   try clear c5b0
   try clear c5b1
   try clear c7
   try clear c10
   try clear c11
   try clear c13
   try clear c18
   try clear p18
   try clear q18
   try clear hx18
   try clear c22
   try clear c23
   try clear c25
   try clear c25b0
   try clear c25b1
   try clear c27
   try clear c27b0
   try clear c28
   try clear c28b0
   try clear c29
   try clear c29b0
   try clear c31
   try clear c32
   try clear c35
   try clear c38
   try clear c39
   try clear y12_0 y12_1 y12_2 y12_3 z12_0 z12_1 z12_2 z12_3
   try clear y14_0 y14_1 y14_2 y14_3 z14_0 z14_1 z14_2 z14_3
   try clear y16_0 y16_1 y16_2 y16_3 z16_0 z16_1 z16_2 z16_3
   try clear y24_0 y24_1 y24_2 y24_3 z24_0 z24_1 z24_2 z24_3
   try clear y33_0 y33_1 y33_2 y33_3 z33_0 z33_1 z33_2 z33_3
   try clear y36_0 y36_1 y36_2 y36_3 z36_0 z36_1 z36_2 z36_3
   try clear y40_0 y40_1 y40_2 y40_3 z40_0 z40_1 z40_2 z40_3
   try clear hx184_0 hx184_1 hx184_2 hx184_3
   try clear p184
   try clear q184
   obtain ⟨kq, x177000_17, x177001_17, x177002_17, HA, HJ17, BK174, BK175, BK176, HB⟩ := hcut
   cases kq with
   | zero => exact absurd HA.out (by simp [spec_l11Put.j0])
   | succ kj17 =>
    have H := HA.out
    clear HA
    simp only [spec_l11Put.j0] at H
    have H' := A_ H
    clear H
    have hnb41 := NB174_175.out
    have hnc41 := NB175_174.out
    have hnb42 := NB174_176.out
    have hnc42 := NB176_174.out
    obtain ⟨y43_0, y43_1, y43_2, y43_3, z43_0, z43_1, z43_2, z43_3⟩ := cz4_ BK174.out
    go_wp2_with (first | ((with_reducible refine gate_dst (N := 10) rfl ?_); refine bx_ 10 #[.int .i64 0, .int .i64 0, .string (⟨#[]⟩ : ByteArray), .slice none 0 0] 29 ?_; intro gb191 hg w44 hbox hb; have n0_ := A_ (blk_below (bk_ BK174.out) hb); have n1_ := A_ (blk_below (bk_ BK175.out) hb); have n2_ := A_ (blk_below (bk_ BK176.out) hb); have n3_ := A_ (below_step (bw_ HB.out) hb); have n4_ := A_ (hbox); have n5_ := A_ ((d3_ : w.heap.size ≤ gb191)); have n6_ := n5_; have n7_ := A_ ((d11_ : gb174 ≠ gb191)); have n8_ := A_ n7_.out.symm; have n9_ := A_ ((d19_ : gb175 ≠ gb191)); have n10_ := A_ n9_.out.symm; have n11_ := A_ ((by rw [hg]; exact Nat.ne_of_lt (blk_lt (bk_ BK176.out)) : gb176 ≠ gb191)); have n12_ := A_ n11_.out.symm; clear BK174; clear BK175; clear BK176; clear HB; have BK174 := n0_; have BK175 := n1_; have BK176 := n2_; have HB := n3_; have BK191 := n4_; have GW191 := n5_; have GE191 := n6_; have GI191 := GeI.mk GE191.out; have NB174_191 := n7_; have NB191_174 := n8_; have NB175_191 := n9_; have NB191_175 := n10_; have NB176_191 := n11_; have NB191_176 := n12_; clear n0_ n1_ n2_ n3_ n4_ n5_ n6_ n7_ n8_ n9_ n10_ n11_ n12_; clear hb hbox hg; have hnb45 := NB191_174.out; have hnc45 := NB174_191.out; have hnb46 := NB191_175.out; have hnc46 := NB175_191.out; have hnb47 := NB191_176.out; have hnc47 := NB176_191.out; obtain ⟨y48_0, y48_1, y48_2, y48_3, z48_0, z48_1, z48_2, z48_3⟩ := cz4_ BK191.out))
    go_loopg [11] kj17 (fun kq v11 w' => ∃ (x11_2 : Int) (x192003_2 : List (S29)) (u192003 : Value), v11 = .int .i64 x11_2 ∧ Aside0 (spec_l11Put.l0 kq l2 l3 x11_2 a0_0 a0_1 a0_2 l0_3 a1_0 a1_1 a1_2 l1_3 a0_0 a0_1 a0_2 x192003_2 = some (r1, r2, r3, r4)) ∧ Aside0 (kq ≤ kj17) ∧ Aside0 (Kd.R k29 29 w' w.heap.size (fun k_ => k_ ≠ gb174 ∧ k_ ≠ gb175 ∧ k_ ≠ gb176 ∧ k_ ≠ gb191) u192003 x192003_2) ∧ Aside0 (w'.heap[gb174]? = some (.cells #[.int .i64 a0_0, .int .i64 a0_1, .string a0_2, (.slice A0_3 l0_3.length c0_3)] 29 (0, 0))) ∧ Aside0 (w'.heap[gb175]? = some (.cells #[.int .i64 a1_0, .int .i64 a1_1, .string a1_2, (.slice A1_3 l1_3.length c1_3)] 29 (0, 0))) ∧ Aside0 (w'.heap[gb176]? = some (.cells #[.int .i64 x177000_17, .int .i64 x177001_17, .string x177002_17, (.slice none 0 0)] 29 (0, 0))) ∧ Aside0 (w'.heap[gb191]? = some (.cells #[.int .i64 a0_0, .int .i64 a0_1, .string a0_2, u192003] 29 (0, 0))) ∧ Aside0 (Below w.heap.size w w'))
    case atStart => exact ⟨(0), (([] : List (S29))), (.slice none 0 0), d2_, H', ⟨Nat.le_refl _⟩, ⟨by first | exact Kd.R_nil _ _ _ _ _ | exact Kd.N_nil _ _ _ _ _ | exact Kd.V_nil _ _ _ _ _ | exact Kd.Q_nil _ _ _ _ _ | exact Kd.S_nil _ _ _ _ _⟩, ⟨by refine bk_ ?_; refine blk_far ?_ NB174_191.out _; refine bk_ ?_; refine blk_far ?_ NB174_191.out _; refine bk_ ?_; refine blk_far ?_ NB174_191.out _; refine bk_ ?_; refine blk_far ?_ NB174_191.out _; refine bk_ ?_; exact BK174.out⟩, ⟨by refine bk_ ?_; refine blk_far ?_ NB175_191.out _; refine bk_ ?_; refine blk_far ?_ NB175_191.out _; refine bk_ ?_; refine blk_far ?_ NB175_191.out _; refine bk_ ?_; refine blk_far ?_ NB175_191.out _; refine bk_ ?_; exact BK175.out⟩, ⟨by refine bk_ ?_; refine blk_far ?_ NB176_191.out _; refine bk_ ?_; refine blk_far ?_ NB176_191.out _; refine bk_ ?_; refine blk_far ?_ NB176_191.out _; refine bk_ ?_; refine blk_far ?_ NB176_191.out _; refine bk_ ?_; exact BK176.out⟩, ⟨by exact bk_ (bp4_ (bk_ BK191.out))⟩, ⟨bw_ HB.out⟩⟩
    case round =>
     clear H'
     try clear c1
     try clear p1
     try clear q1
     try clear hx1
     try clear c2
     try clear p2
     try clear c3
     try clear c4
     try clear c5
     try clear c5b0
     try clear c5b1
     try clear c7
     try clear c10
     try clear c11
     try clear c13
     try clear c18
     try clear p18
     try clear q18
     try clear hx18
     try clear c22
     try clear c23
     try clear c25
     try clear c25b0
     try clear c25b1
     try clear c27
     try clear c27b0
     try clear c28
     try clear c28b0
     try clear c29
     try clear c29b0
     try clear c31
     try clear c32
     try clear c35
     try clear c38
     try clear c39
     try clear c41
     try clear c42
     try clear c45
     try clear c46
     try clear c47
     try clear y12_0 y12_1 y12_2 y12_3 z12_0 z12_1 z12_2 z12_3
     try clear y14_0 y14_1 y14_2 y14_3 z14_0 z14_1 z14_2 z14_3
     try clear y16_0 y16_1 y16_2 y16_3 z16_0 z16_1 z16_2 z16_3
     try clear y24_0 y24_1 y24_2 y24_3 z24_0 z24_1 z24_2 z24_3
     try clear y33_0 y33_1 y33_2 y33_3 z33_0 z33_1 z33_2 z33_3
     try clear y36_0 y36_1 y36_2 y36_3 z36_0 z36_1 z36_2 z36_3
     try clear y40_0 y40_1 y40_2 y40_3 z40_0 z40_1 z40_2 z40_3
     try clear y43_0 y43_1 y43_2 y43_3 z43_0 z43_1 z43_2 z43_3
     try clear y48_0 y48_1 y48_2 y48_3 z48_0 z48_1 z48_2 z48_3
     try clear hx184_0 hx184_1 hx184_2 hx184_3
     try clear p1
     try clear p18
     try clear p184
     try clear p2
     try clear q1
     try clear q18
     try clear q184
     obtain ⟨x11_2, x192003_2, u192003, rfl, HA, HK2, HO_192003, BK174, BK175, BK176, BK191, HB⟩ := hrel
     cases gk with
     | zero => exact absurd HA.out (by simp [spec_l11Put.l0])
     | succ k2 =>
      have H := HA.out
      clear HA
      simp only [spec_l11Put.l0] at H
      by_cases c49 : x11_2 < (l0_3.length : Int)
      ·rw [if_pos c49] at H
       have c49b0 := decide_eq_true c49
       clear c49
       by_cases c50 : 0 ≤ x11_2
       ·rw [if_pos c50] at H
        have c50b0 := decide_eq_true c50
        clear c50
        replace H := Option.bind_eq_some_iff.mp H
        obtain ⟨⟨t193, t194, t195, t196⟩, A510, H⟩ := H
        try dsimp only at H
        have A51 := A_ A510
        clear A510
        by_cases c52 : x192003_2.length < 2513169434916
        ·rw [if_pos c52] at H
         have LMc52 := A_ c52
         clear c52
         obtain ⟨y200, hy200⟩ : ∃ y_ : List (S29), y_ = (x192003_2 ++ [(⟨t193, t194, t195, t196⟩ : S29)]) := ⟨_, rfl⟩
         replace H : (spec_l11Put.l0 k2 l2 l3 (wrap64 (x11_2 + 1)) a0_0 a0_1 a0_2 l0_3 a1_0 a1_1 a1_2 l1_3 a0_0 a0_1 a0_2 y200) = some (r1, r2, r3, r4) := by first | (rw [hy200]; with_reducible exact H) | (have H2_ := (Option.bind_some _ _).symm.trans H; rw [hy200]; with_reducible exact H2_) | (have H2_ := (Option.bind_some _ _).symm.trans H; with_reducible exact H2_) | with_reducible exact H | (rw [hy200]; exact H) | exact H
         have Ny200 := A_ hy200
         clear hy200
         have H' := A_ H
         clear H
         have hnb53 := NB174_175.out
         have hnc53 := NB175_174.out
         have hnb54 := NB174_176.out
         have hnc54 := NB176_174.out
         have hnb55 := NB174_191.out
         have hnc55 := NB191_174.out
         obtain ⟨y56_0, y56_1, y56_2, y56_3, z56_0, z56_1, z56_2, z56_3⟩ := cz4_ BK174.out
         try go_wp2
         replace HO_192003 := A_ (Kd.R_drew HO_192003.out)
         replace BK174 := A_ (blk_drew BK174.out)
         replace BK175 := A_ (blk_drew BK175.out)
         replace BK176 := A_ (blk_drew BK176.out)
         replace BK191 := A_ (blk_drew BK191.out)
         replace HB := A_ (below_drew1 HB.out)
         have p192 : 0 ≤ (x11_2 : Int) := of_decide_eq_true d1_
         have q192 : x11_2 < (l0_3.length : Int) := of_decide_eq_true d1_
         obtain ⟨ad192, A192_3, c192_3, e192, hx192_0, hx192_1, hx192_2, hx192_3, hl192_3, hi192_3⟩ := at_T29 HR0_3.out x11_2 p192 q192
         have hw192_3 := hx192_3
         have hw192_2 := hx192_2
         have hw192_1 := hx192_1
         have hw192_0 := hx192_0
         cases e192
         replace hx192_0 := (HB.out.cell (World.block_lt_of_cell? w _ hx192_0)).trans hx192_0
         replace hx192_1 := (HB.out.cell (World.block_lt_of_cell? w _ hx192_1)).trans hx192_1
         replace hx192_2 := (HB.out.cell (World.block_lt_of_cell? w _ hx192_2)).trans hx192_2
         replace hx192_3 := (HB.out.cell (World.block_lt_of_cell? w _ hx192_3)).trans hx192_3
         have HR192_3 := A_ hi192_3
         have HC192_3 := A_ hl192_3
         clear hi192_3 hl192_3
         replace p192 := eq_true p192
         replace q192 := eq_true q192
         refine start_ (n := 11) (S := fun w' => w'.cell? ⟨gb174, 0, none⟩ = some (.int .i64 a0_0) ∧ w'.cell? ⟨gb174, 1, none⟩ = some (.int .i64 a0_1) ∧ w'.cell? ⟨gb174, 2, none⟩ = some (.string a0_2) ∧ w'.cell? ⟨gb174, 3, none⟩ = some (.slice (some ad192) l0_3.length c0_3) ∧ w'.cell? ⟨gb175, 0, none⟩ = some (.int .i64 a1_0) ∧ w'.cell? ⟨gb175, 1, none⟩ = some (.int .i64 a1_1) ∧ w'.cell? ⟨gb175, 2, none⟩ = some (.string a1_2) ∧ w'.cell? ⟨gb175, 3, none⟩ = some (.slice A1_3 l1_3.length c1_3) ∧ w'.cell? (ad192.add ((x11_2).toNat * 4)) = some (.int .i64 ((rd_T29 l0_3 x11_2).f0)) ∧ w'.cell? ⟨(ad192.add ((x11_2).toNat * 4)).block, (ad192.add ((x11_2).toNat * 4)).off + 1, none⟩ = some (.int .i64 ((rd_T29 l0_3 x11_2).f1)) ∧ w'.cell? ⟨(ad192.add ((x11_2).toNat * 4)).block, (ad192.add ((x11_2).toNat * 4)).off + 2, none⟩ = some (.string ((rd_T29 l0_3 x11_2).f2)) ∧ w'.cell? ⟨(ad192.add ((x11_2).toNat * 4)).block, (ad192.add ((x11_2).toNat * 4)).off + 3, none⟩ = some (.slice A192_3 ((rd_T29 l0_3 x11_2).f3).length c192_3)) (ds := []) #[false, false, false, false, false, false, false, false, false, false, false] (by kernel_rfl) rfl rfl ⟨(blk_cell BK174.out 0).trans rfl, (blk_cell BK174.out 1).trans rfl, (blk_cell BK174.out 2).trans rfl, (blk_cell BK174.out 3).trans rfl, (blk_cell BK175.out 0).trans rfl, (blk_cell BK175.out 1).trans rfl, (blk_cell BK175.out 2).trans rfl, (blk_cell BK175.out 3).trans rfl, ((HB.out.cell (World.block_lt_of_cell? w _ hw192_0)).trans hw192_0), ((HB.out.cell (World.block_lt_of_cell? w _ hw192_1)).trans hw192_1), ((HB.out.cell (World.block_lt_of_cell? w _ hw192_2)).trans hw192_2), ((HB.out.cell (World.block_lt_of_cell? w _ hw192_3)).trans hw192_3)⟩ (fun hHeld => ?_); refine with_tabW spec_l11Put.tab11 spec_l11Put.bits11 (fun HT_ HW_ => ?_)
         generalize wr.drew = w57 at HO_192003 BK174 BK175 BK176 BK191 HB HR192_3 hx192_0 hx192_1 hx192_2 hx192_3 hHeld ⊢
         refine pu_ 0 (some 46) (bm_ 11 1) (any_of HT_.out (by kernel_rfl)) ?_
         refine pu_ 2 (some 48) (bm_ 11 5) (any_of HT_.out (by kernel_rfl)) ?_
         refine pu_ 6 (some 52) (bm_ 11 69) (any_of HT_.out (by kernel_rfl)) ?_
         refine pu_ 7 (some 53) (bm_ 11 197) (any_of HT_.out (by kernel_rfl)) ?_
         refine take_ (i := 1) (N := some 47) (v := ?_) (a' := ?_) (bm_ 11 199) rfl rfl (take_ofW HT_.out HW_.out (by kernel_rfl)) (fun _ _ _ h => h) (Or.inl ⟨by rfl, ?_⟩) hHeld ?_ ?_
         rotate_left
         ·rintro w' ⟨s0, s1, s2, s3, s4, s5, s6, s7, s8, s9, s10, s11⟩
          go_simp
          with_reducible rfl
         rotate_left
         ·simp only [Act.put, List.setIfInBounds_toArray, List.set_cons_zero, List.set_cons_succ, i64_w, i32_w]
          rfl
         refine pu_ 3 (some 49) (bm_ 11 207) (any_of HT_.out (by kernel_rfl)) ?_
         refine take_ (i := 4) (N := some 50) (v := ?_) (a' := ?_) (bm_ 11 223) rfl rfl (take_ofW HT_.out HW_.out (by kernel_rfl)) (fun _ _ _ h => h) (Or.inl ⟨by rfl, ?_⟩) hHeld ?_ ?_
         rotate_left
         ·rintro w' ⟨s0, s1, s2, s3, s4, s5, s6, s7, s8, s9, s10, s11⟩
          go_simp
          with_reducible rfl
         rotate_left
         ·simp only [Act.put, List.setIfInBounds_toArray, List.set_cons_zero, List.set_cons_succ, i64_w, i32_w]
          rfl
         refine take_ (i := 5) (N := some 51) (v := ?_) (a' := ?_) (bm_ 11 255) rfl rfl (take_ofW HT_.out HW_.out (by kernel_rfl)) (fun _ _ _ h => h) (Or.inl ⟨by rfl, ?_⟩) hHeld ?_ ?_
         rotate_left
         ·rintro w' ⟨s0, s1, s2, s3, s4, s5, s6, s7, s8, s9, s10, s11⟩
          go_simp
          with_reducible rfl
         rotate_left
         ·simp only [Act.put, List.setIfInBounds_toArray, List.set_cons_zero, List.set_cons_succ, i64_w, i32_w]
          rfl
         refine join_ (σ := Value × Nat) 1 (bm_ 11 1023) (fun s_ => [(54, .agg #[.int .i64 t193, .int .i64 t194, .string t195, s_.1]), (12, .pointer (some ⟨s_.2, 0, none⟩))]) (fun s_ w' => (w'.cell? ⟨gb174, 0, none⟩ = some (.int .i64 a0_0) ∧ w'.cell? ⟨gb174, 1, none⟩ = some (.int .i64 a0_1) ∧ w'.cell? ⟨gb174, 2, none⟩ = some (.string a0_2) ∧ w'.cell? ⟨gb174, 3, none⟩ = some (.slice (some ad192) l0_3.length c0_3) ∧ w'.cell? ⟨gb175, 0, none⟩ = some (.int .i64 a1_0) ∧ w'.cell? ⟨gb175, 1, none⟩ = some (.int .i64 a1_1) ∧ w'.cell? ⟨gb175, 2, none⟩ = some (.string a1_2) ∧ w'.cell? ⟨gb175, 3, none⟩ = some (.slice A1_3 l1_3.length c1_3) ∧ w'.cell? (ad192.add ((x11_2).toNat * 4)) = some (.int .i64 ((rd_T29 l0_3 x11_2).f0)) ∧ w'.cell? ⟨(ad192.add ((x11_2).toNat * 4)).block, (ad192.add ((x11_2).toNat * 4)).off + 1, none⟩ = some (.int .i64 ((rd_T29 l0_3 x11_2).f1)) ∧ w'.cell? ⟨(ad192.add ((x11_2).toNat * 4)).block, (ad192.add ((x11_2).toNat * 4)).off + 2, none⟩ = some (.string ((rd_T29 l0_3 x11_2).f2)) ∧ w'.cell? ⟨(ad192.add ((x11_2).toNat * 4)).block, (ad192.add ((x11_2).toNat * 4)).off + 3, none⟩ = some (.slice A192_3 ((rd_T29 l0_3 x11_2).f3).length c192_3)) ∧ (Kd.R k29 29 w' w.heap.size (fun k_ => some k_ ≠ (u192003 : Value).ownBlock ∧ k_ ≠ gb174 ∧ k_ ≠ gb175 ∧ k_ ≠ gb176 ∧ k_ ≠ gb191 ∧ k_ ≠ s_.2) s_.1 t196) ∧ (Kd.R k29 29 w' w.heap.size (fun k_ => some k_ ≠ (s_.1 : Value).ownBlock ∧ k_ ≠ gb174 ∧ k_ ≠ gb175 ∧ k_ ≠ gb176 ∧ k_ ≠ gb191 ∧ k_ ≠ s_.2) u192003 x192003_2) ∧ (w'.heap[gb174]? = some (.cells #[.int .i64 a0_0, .int .i64 a0_1, .string a0_2, .slice (some ad192) l0_3.length c0_3] 29 (0, 0))) ∧ (w'.heap[gb175]? = some (.cells #[.int .i64 a1_0, .int .i64 a1_1, .string a1_2, .slice A1_3 l1_3.length c1_3] 29 (0, 0))) ∧ (w'.heap[gb176]? = some (.cells #[.int .i64 x177000_17, .int .i64 x177001_17, .string x177002_17, .slice none 0 0] 29 (0, 0))) ∧ (w'.heap[gb191]? = some (.cells #[.int .i64 a0_0, .int .i64 a0_1, .string a0_2, u192003] 29 (0, 0))) ∧ (w'.heap[s_.2]? = some (.cells #[.int .i64 0, .int .i64 0, .string (⟨#[]⟩ : ByteArray), .slice none 0 0] 29 (0, 0))) ∧ (w.heap.size ≤ s_.2) ∧ (w.heap.size ≤ s_.2) ∧ (gb174 ≠ s_.2) ∧ (s_.2 ≠ gb174) ∧ (gb175 ≠ s_.2) ∧ (s_.2 ≠ gb175) ∧ (gb176 ≠ s_.2) ∧ (s_.2 ≠ gb176) ∧ (gb191 ≠ s_.2) ∧ (s_.2 ≠ gb191) ∧ (Below w.heap.size w w')) ?_ ?_
         rotate_left
         ·intro hCont
          refine two_ (i := 8) (j := 9) (Ni := some 54) (Nj := some 12) (bm_ 11 511) (bm_ 11 767) rfl rfl rfl rfl (two_of HT_.out (by kernel_rfl)) (by decide) (by decide) (fun K hK => ?_) (fun K hK => ?_)
          ·skip
           refine goes_ Try.func53 (by kernel_rfl) rfl #[.agg #[.int .i64 ((rd_T29 l0_3 x11_2).f0), .int .i64 ((rd_T29 l0_3 x11_2).f1), .string ((rd_T29 l0_3 x11_2).f2), .slice A192_3 ((rd_T29 l0_3 x11_2).f3).length c192_3], .agg #[.int .i64 a1_0, .int .i64 a1_1, .string a1_2, .slice A1_3 l1_3.length c1_3], .slice A2 l2.length c2, .slice A3 l3.length c3] (by rfl) rfl rfl d9_ ?_
           with_reducible refine (ih k2 (by have := HJ17.out; have := HK2.out; omega) ((rd_T29 l0_3 x11_2).f0) ((rd_T29 l0_3 x11_2).f1) ((rd_T29 l0_3 x11_2).f2) _ _ ((rd_T29 l0_3 x11_2).f3) a1_0 a1_1 a1_2 _ _ l1_3 _ _ l2 _ _ l3 t193 t194 t195 t196 _ ?side1 ?side2 ?side3 ?side4 ?side5 ?side6 ?side7 ?side8 A51.out).mono ?_
           (case side1 => exact Kd.C_below HR192_3.out (bw_ HB.out))
           (case side2 => exact HC192_3.out)
           (case side3 => exact Kd.C_below HR1_3.out (bw_ HB.out))
           (case side4 => exact HC1_3.out)
           (case side5 => exact Kd.C_below HR2.out (bw_ HB.out))
           (case side6 => exact HC2.out)
           (case side7 => exact Kd.C_below HR3.out (bw_ HB.out))
           (case side8 => exact HC3.out)
           rintro e w58 ⟨v197, rfl, ho0, hb⟩
           refine ⟨_, rfl, ?_⟩
           have HO198 := A_ (Kd.R_lower (Kd.R_newB (Kd.R_newB (Kd.R_newB (Kd.R_newB (Kd.R_new' ho0 (Kd.R_lt (kr_ HO_192003.out))) (bk_ BK174.out)) (bk_ BK175.out)) (bk_ BK176.out)) (bk_ BK191.out)) (below_size (bw_ HB.out)))
           replace HO_192003 := A_ (Kd.R_elder' (kr_ HO_192003.out) (Kd.R_base ho0) hb)
           replace BK174 := A_ (blk_below (bk_ BK174.out) hb)
           replace BK175 := A_ (blk_below (bk_ BK175.out) hb)
           replace BK176 := A_ (blk_below (bk_ BK176.out) hb)
           replace BK191 := A_ (blk_below (bk_ BK191.out) hb)
           replace HB := A_ (below_step (bw_ HB.out) hb)
           (try clear hb)
           (try clear hb2)
           (try clear hk)
           (try clear hi)
           (try clear ho0)
           refine hK.out _ _ ⟨(blk_cell BK174.out 0).trans rfl, (blk_cell BK174.out 1).trans rfl, (blk_cell BK174.out 2).trans rfl, (blk_cell BK174.out 3).trans rfl, (blk_cell BK175.out 0).trans rfl, (blk_cell BK175.out 1).trans rfl, (blk_cell BK175.out 2).trans rfl, (blk_cell BK175.out 3).trans rfl, ((HB.out.cell (World.block_lt_of_cell? w _ hw192_0)).trans hw192_0), ((HB.out.cell (World.block_lt_of_cell? w _ hw192_1)).trans hw192_1), ((HB.out.cell (World.block_lt_of_cell? w _ hw192_2)).trans hw192_2), ((HB.out.cell (World.block_lt_of_cell? w _ hw192_3)).trans hw192_3)⟩ (fun hHeld => ?_)
           clear hK K
           refine norm_ (a' := ?_) ?_ ?_
           rotate_left
           ·show Act.put _ (some 54) _ = _
            simp only [Act.put, List.setIfInBounds_toArray, List.set_cons_zero, List.set_cons_succ, i64_w, i32_w]
            rfl
           refine one_ (i := 9) (N := some 12) (bm_ 11 1023) rfl rfl (one_of HT_.out (by kernel_rfl)) (by decide) (fun K hK => ?_)
           refine box_step ?hg (N := 12) ?hd (cs := #[.int .i64 0, .int .i64 0, .string (⟨#[]⟩ : ByteArray), .slice none 0 0]) (t := 29) ?hr ?_; (case hd => rfl); (case hg => rfl); (case hr => first | (go_simp; done) | (go_simp; rfl))
           intro gb199 hg w59 hbox hb
           replace HO_192003 := A_ (Kd.R_below (Kd.R_elderB (kr_ HO_192003.out) gb199 (Nat.le_of_eq hg.symm)) hb)
           replace HO198 := A_ (Kd.R_below (Kd.R_elderB (kr_ HO198.out) gb199 (Nat.le_of_eq hg.symm)) hb)
           have BK199 := A_ (hbox)
           have GW199 := A_ ((d3_ : w.heap.size ≤ gb199))
           have GE199 := A_ ((d3_ : w.heap.size ≤ gb199))
           replace HB := A_ (below_step (bw_ HB.out) hb)
           have NB174_199 := A_ ((d11_ : gb174 ≠ gb199))
           have NB199_174 := A_ ((by rw [hg]; exact Nat.ne_of_gt (blk_lt (bk_ BK174.out)) : gb199 ≠ gb174))
           replace BK174 := A_ (blk_below (bk_ BK174.out) hb)
           have NB175_199 := A_ ((d19_ : gb175 ≠ gb199))
           have NB199_175 := A_ ((by rw [hg]; exact Nat.ne_of_gt (blk_lt (bk_ BK175.out)) : gb199 ≠ gb175))
           replace BK175 := A_ (blk_below (bk_ BK175.out) hb)
           have NB176_199 := A_ ((by rw [hg]; exact Nat.ne_of_lt (blk_lt (bk_ BK176.out)) : gb176 ≠ gb199))
           have NB199_176 := A_ ((by rw [hg]; exact Nat.ne_of_gt (blk_lt (bk_ BK176.out)) : gb199 ≠ gb176))
           replace BK176 := A_ (blk_below (bk_ BK176.out) hb)
           have NB191_199 := A_ ((by rw [hg]; exact Nat.ne_of_lt (blk_lt (bk_ BK191.out)) : gb191 ≠ gb199))
           have NB199_191 := A_ ((by rw [hg]; exact Nat.ne_of_gt (blk_lt (bk_ BK191.out)) : gb199 ≠ gb191))
           replace BK191 := A_ (blk_below (bk_ BK191.out) hb)
           have GI199 := GeI.mk GE199.out
           clear hb hbox hg
           refine hK.out _ _ ⟨(blk_cell BK174.out 0).trans rfl, (blk_cell BK174.out 1).trans rfl, (blk_cell BK174.out 2).trans rfl, (blk_cell BK174.out 3).trans rfl, (blk_cell BK175.out 0).trans rfl, (blk_cell BK175.out 1).trans rfl, (blk_cell BK175.out 2).trans rfl, (blk_cell BK175.out 3).trans rfl, ((HB.out.cell (World.block_lt_of_cell? w _ hw192_0)).trans hw192_0), ((HB.out.cell (World.block_lt_of_cell? w _ hw192_1)).trans hw192_1), ((HB.out.cell (World.block_lt_of_cell? w _ hw192_2)).trans hw192_2), ((HB.out.cell (World.block_lt_of_cell? w _ hw192_3)).trans hw192_3)⟩ (fun hHeld => ?_)
           clear hK K
           refine norm_ (a' := ?_) ?_ ?_
           rotate_left
           ·show Act.put _ (some 12) _ = _
            simp only [Act.put, List.setIfInBounds_toArray, List.set_cons_zero, List.set_cons_succ, i64_w, i32_w]
            rfl
           exact norm_ (by simp only [putAll, Act.put, List.setIfInBounds_toArray, List.set_cons_zero, List.set_cons_succ]) (hCont (v197, gb199) _ ⟨hHeld, (kr_ (Kd.R_mono HO198.out (fun _ hk => ⟨hk.1.1.1.1.1.2, ⟨hk.1.1.1.1.2, ⟨hk.1.1.1.2, ⟨hk.1.1.2, ⟨hk.1.2, hk.2⟩⟩⟩⟩⟩))), (kr_ (Kd.R_mono HO_192003.out (fun _ hk => ⟨hk.1.2, ⟨hk.1.1.1, ⟨hk.1.1.2.1, ⟨hk.1.1.2.2.1, ⟨hk.1.1.2.2.2, hk.2⟩⟩⟩⟩⟩))), (bk_ BK174.out), (bk_ BK175.out), (bk_ BK176.out), (bk_ BK191.out), (bk_ BK199.out), GW199.out, GE199.out, NB174_199.out, NB199_174.out, NB175_199.out, NB199_175.out, NB176_199.out, NB199_176.out, NB191_199.out, NB199_191.out, (bw_ HB.out)⟩)
          ·skip
           refine box_step ?hg (N := 12) ?hd (cs := #[.int .i64 0, .int .i64 0, .string (⟨#[]⟩ : ByteArray), .slice none 0 0]) (t := 29) ?hr ?_; (case hd => rfl); (case hg => rfl); (case hr => first | (go_simp; done) | (go_simp; rfl))
           intro gb199 hg w58 hbox hb
           replace HO_192003 := A_ (Kd.R_below (Kd.R_elderB (kr_ HO_192003.out) gb199 (Nat.le_of_eq hg.symm)) hb)
           have BK199 := A_ (hbox)
           have GW199 := A_ ((d3_ : w.heap.size ≤ gb199))
           have GE199 := A_ ((d3_ : w.heap.size ≤ gb199))
           replace HB := A_ (below_step (bw_ HB.out) hb)
           have NB174_199 := A_ ((d11_ : gb174 ≠ gb199))
           have NB199_174 := A_ ((by rw [hg]; exact Nat.ne_of_gt (blk_lt (bk_ BK174.out)) : gb199 ≠ gb174))
           replace BK174 := A_ (blk_below (bk_ BK174.out) hb)
           have NB175_199 := A_ ((d19_ : gb175 ≠ gb199))
           have NB199_175 := A_ ((by rw [hg]; exact Nat.ne_of_gt (blk_lt (bk_ BK175.out)) : gb199 ≠ gb175))
           replace BK175 := A_ (blk_below (bk_ BK175.out) hb)
           have NB176_199 := A_ ((by rw [hg]; exact Nat.ne_of_lt (blk_lt (bk_ BK176.out)) : gb176 ≠ gb199))
           have NB199_176 := A_ ((by rw [hg]; exact Nat.ne_of_gt (blk_lt (bk_ BK176.out)) : gb199 ≠ gb176))
           replace BK176 := A_ (blk_below (bk_ BK176.out) hb)
           have NB191_199 := A_ ((by rw [hg]; exact Nat.ne_of_lt (blk_lt (bk_ BK191.out)) : gb191 ≠ gb199))
           have NB199_191 := A_ ((by rw [hg]; exact Nat.ne_of_gt (blk_lt (bk_ BK191.out)) : gb199 ≠ gb191))
           replace BK191 := A_ (blk_below (bk_ BK191.out) hb)
           have GI199 := GeI.mk GE199.out
           clear hb hbox hg
           refine hK.out _ _ ⟨(blk_cell BK174.out 0).trans rfl, (blk_cell BK174.out 1).trans rfl, (blk_cell BK174.out 2).trans rfl, (blk_cell BK174.out 3).trans rfl, (blk_cell BK175.out 0).trans rfl, (blk_cell BK175.out 1).trans rfl, (blk_cell BK175.out 2).trans rfl, (blk_cell BK175.out 3).trans rfl, ((HB.out.cell (World.block_lt_of_cell? w _ hw192_0)).trans hw192_0), ((HB.out.cell (World.block_lt_of_cell? w _ hw192_1)).trans hw192_1), ((HB.out.cell (World.block_lt_of_cell? w _ hw192_2)).trans hw192_2), ((HB.out.cell (World.block_lt_of_cell? w _ hw192_3)).trans hw192_3)⟩ (fun hHeld => ?_)
           clear hK K
           refine norm_ (a' := ?_) ?_ ?_
           rotate_left
           ·show Act.put _ (some 12) _ = _
            simp only [Act.put, List.setIfInBounds_toArray, List.set_cons_zero, List.set_cons_succ, i64_w, i32_w]
            rfl
           refine one_ (i := 8) (N := some 54) (bm_ 11 1023) rfl rfl (one_of HT_.out (by kernel_rfl)) (by decide) (fun K hK => ?_)
           refine goes_ Try.func53 (by kernel_rfl) rfl #[.agg #[.int .i64 ((rd_T29 l0_3 x11_2).f0), .int .i64 ((rd_T29 l0_3 x11_2).f1), .string ((rd_T29 l0_3 x11_2).f2), .slice A192_3 ((rd_T29 l0_3 x11_2).f3).length c192_3], .agg #[.int .i64 a1_0, .int .i64 a1_1, .string a1_2, .slice A1_3 l1_3.length c1_3], .slice A2 l2.length c2, .slice A3 l3.length c3] (by rfl) rfl rfl d9_ ?_
           with_reducible refine (ih k2 (by have := HJ17.out; have := HK2.out; omega) ((rd_T29 l0_3 x11_2).f0) ((rd_T29 l0_3 x11_2).f1) ((rd_T29 l0_3 x11_2).f2) _ _ ((rd_T29 l0_3 x11_2).f3) a1_0 a1_1 a1_2 _ _ l1_3 _ _ l2 _ _ l3 t193 t194 t195 t196 _ ?side1 ?side2 ?side3 ?side4 ?side5 ?side6 ?side7 ?side8 A51.out).mono ?_
           (case side1 => exact Kd.C_below HR192_3.out (bw_ HB.out))
           (case side2 => exact HC192_3.out)
           (case side3 => exact Kd.C_below HR1_3.out (bw_ HB.out))
           (case side4 => exact HC1_3.out)
           (case side5 => exact Kd.C_below HR2.out (bw_ HB.out))
           (case side6 => exact HC2.out)
           (case side7 => exact Kd.C_below HR3.out (bw_ HB.out))
           (case side8 => exact HC3.out)
           rintro e w59 ⟨v197, rfl, ho0, hb⟩
           refine ⟨_, rfl, ?_⟩
           have HO198 := A_ (Kd.R_lower (Kd.R_newB (Kd.R_newB (Kd.R_newB (Kd.R_newB (Kd.R_newB (Kd.R_new' ho0 (Kd.R_lt (kr_ HO_192003.out))) (bk_ BK174.out)) (bk_ BK175.out)) (bk_ BK176.out)) (bk_ BK191.out)) (bk_ BK199.out)) (below_size (bw_ HB.out)))
           replace HO_192003 := A_ (Kd.R_elder' (kr_ HO_192003.out) (Kd.R_base ho0) hb)
           replace BK174 := A_ (blk_below (bk_ BK174.out) hb)
           replace BK175 := A_ (blk_below (bk_ BK175.out) hb)
           replace BK176 := A_ (blk_below (bk_ BK176.out) hb)
           replace BK191 := A_ (blk_below (bk_ BK191.out) hb)
           replace BK199 := A_ (blk_below (bk_ BK199.out) hb)
           replace HB := A_ (below_step (bw_ HB.out) hb)
           (try clear hb)
           (try clear hb2)
           (try clear hk)
           (try clear hi)
           (try clear ho0)
           refine hK.out _ _ ⟨(blk_cell BK174.out 0).trans rfl, (blk_cell BK174.out 1).trans rfl, (blk_cell BK174.out 2).trans rfl, (blk_cell BK174.out 3).trans rfl, (blk_cell BK175.out 0).trans rfl, (blk_cell BK175.out 1).trans rfl, (blk_cell BK175.out 2).trans rfl, (blk_cell BK175.out 3).trans rfl, ((HB.out.cell (World.block_lt_of_cell? w _ hw192_0)).trans hw192_0), ((HB.out.cell (World.block_lt_of_cell? w _ hw192_1)).trans hw192_1), ((HB.out.cell (World.block_lt_of_cell? w _ hw192_2)).trans hw192_2), ((HB.out.cell (World.block_lt_of_cell? w _ hw192_3)).trans hw192_3)⟩ (fun hHeld => ?_)
           clear hK K
           refine norm_ (a' := ?_) ?_ ?_
           rotate_left
           ·show Act.put _ (some 54) _ = _
            simp only [Act.put, List.setIfInBounds_toArray, List.set_cons_zero, List.set_cons_succ, i64_w, i32_w]
            rfl
           exact norm_ (by simp only [putAll, Act.put, List.setIfInBounds_toArray, List.set_cons_zero, List.set_cons_succ]) (hCont (v197, gb199) _ ⟨hHeld, (kr_ (Kd.R_mono HO198.out (fun _ hk => ⟨hk.1.1.1.1.1.2, ⟨hk.1.1.1.1.2, ⟨hk.1.1.1.2, ⟨hk.1.1.2, ⟨hk.1.2, hk.2⟩⟩⟩⟩⟩))), (kr_ (Kd.R_mono HO_192003.out (fun _ hk => ⟨hk.2, ⟨hk.1.1.1, ⟨hk.1.1.2.1, ⟨hk.1.1.2.2.1, ⟨hk.1.1.2.2.2, hk.1.2⟩⟩⟩⟩⟩))), (bk_ BK174.out), (bk_ BK175.out), (bk_ BK176.out), (bk_ BK191.out), (bk_ BK199.out), GW199.out, GE199.out, NB174_199.out, NB199_174.out, NB175_199.out, NB199_175.out, NB176_199.out, NB199_176.out, NB191_199.out, NB199_191.out, (bw_ HB.out)⟩)
         rintro ⟨v197, gb199⟩ w60 ⟨hS_, h0_, h1_, h2_, h3_, h4_, h5_, h6_, h7_, h8_, h9_, h10_, h11_, h12_, h13_, h14_, h15_, h16_, h17_⟩
         have n0_ : Aside0 (Kd.R k29 29 w60 w.heap.size (fun k_ => some k_ ≠ (u192003 : Value).ownBlock ∧ k_ ≠ gb174 ∧ k_ ≠ gb175 ∧ k_ ≠ gb176 ∧ k_ ≠ gb191 ∧ k_ ≠ gb199) v197 t196) := ⟨h0_⟩
         have n1_ : Aside0 (Kd.R k29 29 w60 w.heap.size (fun k_ => some k_ ≠ (v197 : Value).ownBlock ∧ k_ ≠ gb174 ∧ k_ ≠ gb175 ∧ k_ ≠ gb176 ∧ k_ ≠ gb191 ∧ k_ ≠ gb199) u192003 x192003_2) := ⟨h1_⟩
         have n2_ : Aside0 (w60.heap[gb174]? = some (.cells #[.int .i64 a0_0, .int .i64 a0_1, .string a0_2, .slice (some ad192) l0_3.length c0_3] 29 (0, 0))) := ⟨h2_⟩
         have n3_ : Aside0 (w60.heap[gb175]? = some (.cells #[.int .i64 a1_0, .int .i64 a1_1, .string a1_2, .slice A1_3 l1_3.length c1_3] 29 (0, 0))) := ⟨h3_⟩
         have n4_ : Aside0 (w60.heap[gb176]? = some (.cells #[.int .i64 x177000_17, .int .i64 x177001_17, .string x177002_17, .slice none 0 0] 29 (0, 0))) := ⟨h4_⟩
         have n5_ : Aside0 (w60.heap[gb191]? = some (.cells #[.int .i64 a0_0, .int .i64 a0_1, .string a0_2, u192003] 29 (0, 0))) := ⟨h5_⟩
         have n6_ : Aside0 (w60.heap[gb199]? = some (.cells #[.int .i64 0, .int .i64 0, .string (⟨#[]⟩ : ByteArray), .slice none 0 0] 29 (0, 0))) := ⟨h6_⟩
         have n7_ : Aside0 (w.heap.size ≤ gb199) := ⟨h7_⟩
         have n8_ : Aside0 (w.heap.size ≤ gb199) := ⟨h8_⟩
         have n9_ : Aside0 (gb174 ≠ gb199) := ⟨h9_⟩
         have n10_ : Aside0 (gb199 ≠ gb174) := ⟨h10_⟩
         have n11_ : Aside0 (gb175 ≠ gb199) := ⟨h11_⟩
         have n12_ : Aside0 (gb199 ≠ gb175) := ⟨h12_⟩
         have n13_ : Aside0 (gb176 ≠ gb199) := ⟨h13_⟩
         have n14_ : Aside0 (gb199 ≠ gb176) := ⟨h14_⟩
         have n15_ : Aside0 (gb191 ≠ gb199) := ⟨h15_⟩
         have n16_ : Aside0 (gb199 ≠ gb191) := ⟨h16_⟩
         have n17_ : Aside0 (Below w.heap.size w w60) := ⟨h17_⟩
         clear HO_192003
         clear BK174
         clear BK175
         clear BK176
         clear BK191
         clear HB
         clear h0_ h1_ h2_ h3_ h4_ h5_ h6_ h7_ h8_ h9_ h10_ h11_ h12_ h13_ h14_ h15_ h16_ h17_
         have HO198 := n0_
         have HO_192003 := n1_
         have BK174 := n2_
         have BK175 := n3_
         have BK176 := n4_
         have BK191 := n5_
         have BK199 := n6_
         have GW199 := n7_
         have GE199 := n8_
         have GI199 := GeI.mk GE199.out
         have NB174_199 := n9_
         have NB199_174 := n10_
         have NB175_199 := n11_
         have NB199_175 := n12_
         have NB176_199 := n13_
         have NB199_176 := n14_
         have NB191_199 := n15_
         have NB199_191 := n16_
         have HB := n17_
         clear n0_ n1_ n2_ n3_ n4_ n5_ n6_ n7_ n8_ n9_ n10_ n11_ n12_ n13_ n14_ n15_ n16_ n17_
         have hHeld : w60.cell? ⟨gb174, 0, none⟩ = some (.int .i64 a0_0) ∧ w60.cell? ⟨gb174, 1, none⟩ = some (.int .i64 a0_1) ∧ w60.cell? ⟨gb174, 2, none⟩ = some (.string a0_2) ∧ w60.cell? ⟨gb174, 3, none⟩ = some (.slice (some ad192) l0_3.length c0_3) ∧ w60.cell? ⟨gb175, 0, none⟩ = some (.int .i64 a1_0) ∧ w60.cell? ⟨gb175, 1, none⟩ = some (.int .i64 a1_1) ∧ w60.cell? ⟨gb175, 2, none⟩ = some (.string a1_2) ∧ w60.cell? ⟨gb175, 3, none⟩ = some (.slice A1_3 l1_3.length c1_3) ∧ w60.cell? (ad192.add ((x11_2).toNat * 4)) = some (.int .i64 ((rd_T29 l0_3 x11_2).f0)) ∧ w60.cell? ⟨(ad192.add ((x11_2).toNat * 4)).block, (ad192.add ((x11_2).toNat * 4)).off + 1, none⟩ = some (.int .i64 ((rd_T29 l0_3 x11_2).f1)) ∧ w60.cell? ⟨(ad192.add ((x11_2).toNat * 4)).block, (ad192.add ((x11_2).toNat * 4)).off + 2, none⟩ = some (.string ((rd_T29 l0_3 x11_2).f2)) ∧ w60.cell? ⟨(ad192.add ((x11_2).toNat * 4)).block, (ad192.add ((x11_2).toNat * 4)).off + 3, none⟩ = some (.slice A192_3 ((rd_T29 l0_3 x11_2).f3).length c192_3) := hS_
         obtain ⟨Ao64, co64, eo64⟩ := Kd.R_slice HO198.out
         (first | subst eo64 | (injection eo64 with f1_ f2_ f3_; have f4_ := f1_.symm; have f5_ := f3_.symm; clear f1_ f2_ f3_; subst f4_; subst f5_))
         refine norm_ (a' := ?_) ?_ ?_
         rotate_left
         ·simp only [putAll, Act.put, List.setIfInBounds_toArray, List.set_cons_zero, List.set_cons_succ]
          rfl
         refine one_ (i := 10) (N := none) (bm_ 11 2047) rfl rfl (one_of HT_.out (by kernel_rfl)) (by decide) (fun K hK => ?_)
         have hs61 : w60.cell? ⟨gb199, 0, none⟩ = some (.int .i64 0) := (blk_cell BK199.out 0).trans rfl
         have hfs61 := blk_frozen BK199.out 0
         have hns61_0 := NB174_199.out
         have hns61_1 := NB175_199.out
         have hns61_2 := NB176_199.out
         have hns61_3 := NB191_199.out
         have hms61_0 := NB199_174.out
         have hms61_1 := NB199_175.out
         have hms61_2 := NB199_176.out
         have hms61_3 := NB199_191.out
         have hs62 : w60.cell? ⟨gb199, 1, none⟩ = some (.int .i64 0) := (blk_cell BK199.out 1).trans rfl
         have hfs62 := blk_frozen BK199.out 1
         have hns62_0 := NB174_199.out
         have hns62_1 := NB175_199.out
         have hns62_2 := NB176_199.out
         have hns62_3 := NB191_199.out
         have hms62_0 := NB199_174.out
         have hms62_1 := NB199_175.out
         have hms62_2 := NB199_176.out
         have hms62_3 := NB199_191.out
         have hs63 : w60.cell? ⟨gb199, 2, none⟩ = some (.string (⟨#[]⟩ : ByteArray)) := (blk_cell BK199.out 2).trans rfl
         have hfs63 := blk_frozen BK199.out 2
         have hns63_0 := NB174_199.out
         have hns63_1 := NB175_199.out
         have hns63_2 := NB176_199.out
         have hns63_3 := NB191_199.out
         have hms63_0 := NB199_174.out
         have hms63_1 := NB199_175.out
         have hms63_2 := NB199_176.out
         have hms63_3 := NB199_191.out
         have hs65 : w60.cell? ⟨gb199, 3, none⟩ = some (.slice none 0 0) := (blk_cell BK199.out 3).trans rfl
         have hfs65 := blk_frozen BK199.out 3
         have hns65_0 := NB174_199.out
         have hns65_1 := NB175_199.out
         have hns65_2 := NB176_199.out
         have hns65_3 := NB191_199.out
         have hms65_0 := NB199_174.out
         have hms65_1 := NB199_175.out
         have hms65_2 := NB199_176.out
         have hms65_3 := NB199_191.out
         refine skip_ (w1 := ?_) (by rfl) rfl ?_ ?_
         rotate_left
         ·go_simp
          rfl
         refine hK.out _ _ ⟨(cf_ NB174_199 ((cf_ NB174_199 ((cf_ NB174_199 ((cf_ NB174_199 (hHeld.1)))))))), (cf_ NB174_199 ((cf_ NB174_199 ((cf_ NB174_199 ((cf_ NB174_199 (hHeld.2.1)))))))), (cf_ NB174_199 ((cf_ NB174_199 ((cf_ NB174_199 ((cf_ NB174_199 (hHeld.2.2.1)))))))), (cf_ NB174_199 ((cf_ NB174_199 ((cf_ NB174_199 ((cf_ NB174_199 (hHeld.2.2.2.1)))))))), (cf_ NB175_199 ((cf_ NB175_199 ((cf_ NB175_199 ((cf_ NB175_199 (hHeld.2.2.2.2.1)))))))), (cf_ NB175_199 ((cf_ NB175_199 ((cf_ NB175_199 ((cf_ NB175_199 (hHeld.2.2.2.2.2.1)))))))), (cf_ NB175_199 ((cf_ NB175_199 ((cf_ NB175_199 ((cf_ NB175_199 (hHeld.2.2.2.2.2.2.1)))))))), (cf_ NB175_199 ((cf_ NB175_199 ((cf_ NB175_199 ((cf_ NB175_199 (hHeld.2.2.2.2.2.2.2.1)))))))), ((cell_far (p := ⟨gb199, _, none⟩) d7_ _).trans (((cell_far (p := ⟨gb199, _, none⟩) d7_ _).trans (((cell_far (p := ⟨gb199, _, none⟩) d7_ _).trans (((cell_far (p := ⟨gb199, _, none⟩) d7_ _).trans (hHeld.2.2.2.2.2.2.2.2.1)))))))), ((cell_far (p := ⟨gb199, _, none⟩) d6_ _).trans (((cell_far (p := ⟨gb199, _, none⟩) d6_ _).trans (((cell_far (p := ⟨gb199, _, none⟩) d6_ _).trans (((cell_far (p := ⟨gb199, _, none⟩) d6_ _).trans (hHeld.2.2.2.2.2.2.2.2.2.1)))))))), ((cell_far (p := ⟨gb199, _, none⟩) d5_ _).trans (((cell_far (p := ⟨gb199, _, none⟩) d5_ _).trans (((cell_far (p := ⟨gb199, _, none⟩) d5_ _).trans (((cell_far (p := ⟨gb199, _, none⟩) d5_ _).trans (hHeld.2.2.2.2.2.2.2.2.2.2.1)))))))), ((cell_far (p := ⟨gb199, _, none⟩) d4_ _).trans (((cell_far (p := ⟨gb199, _, none⟩) d4_ _).trans (((cell_far (p := ⟨gb199, _, none⟩) d4_ _).trans (((cell_far (p := ⟨gb199, _, none⟩) d4_ _).trans (hHeld.2.2.2.2.2.2.2.2.2.2.2))))))))⟩ (fun hHeld => ?_)
         clear hK K
         refine done_ (done_of HT_.out (by kernel_rfl)) ?_
         obtain ⟨w66, hz_⟩ : ∃ z_, z_ = ((((w60.setCell ⟨gb199, 0, none⟩ (.int .i64 t193)).setCell ⟨gb199, 1, none⟩ (.int .i64 t194)).setCell ⟨gb199, 2, none⟩ (.string t195)).setCell ⟨gb199, 3, none⟩ (.slice Ao64 t196.length co64)) := ⟨_, rfl⟩
         have n0_ : Aside0 (Kd.R k29 29 w66 w.heap.size (fun k_ => some k_ ≠ (.slice Ao64 t196.length co64 : Value).ownBlock ∧ k_ ≠ gb174 ∧ k_ ≠ gb175 ∧ k_ ≠ gb176 ∧ k_ ≠ gb191 ∧ k_ ≠ gb199) u192003 x192003_2) := ⟨by rw [hz_]; exact kr_ (Kd.R_mono (rf4_ (Kd.R_mono HO_192003.out (fun k_ hk => (⟨hk, hk.2.2.2.2.2⟩ : _ ∧ k_ ≠ gb199))) (fun _ hk => hk.2)) (fun _ hk => ⟨hk.1.1, ⟨hk.1.2.1, ⟨hk.1.2.2.1, ⟨hk.1.2.2.2.1, ⟨hk.1.2.2.2.2.1, hk.1.2.2.2.2.2⟩⟩⟩⟩⟩))⟩
         have n1_ : Aside0 (Kd.R k29 29 w66 w.heap.size (fun k_ => some k_ ≠ (u192003 : Value).ownBlock ∧ k_ ≠ gb174 ∧ k_ ≠ gb175 ∧ k_ ≠ gb176 ∧ k_ ≠ gb191 ∧ k_ ≠ gb199) (.slice Ao64 t196.length co64) t196) := ⟨by rw [hz_]; exact kr_ (Kd.R_mono (rf4_ (Kd.R_mono HO198.out (fun k_ hk => (⟨hk, hk.2.2.2.2.2⟩ : _ ∧ k_ ≠ gb199))) (fun _ hk => hk.2)) (fun _ hk => ⟨hk.1.1, ⟨hk.1.2.1, ⟨hk.1.2.2.1, ⟨hk.1.2.2.2.1, ⟨hk.1.2.2.2.2.1, hk.1.2.2.2.2.2⟩⟩⟩⟩⟩))⟩
         have n2_ : Aside0 (w66.heap[gb174]? = some (.cells #[.int .i64 a0_0, .int .i64 a0_1, .string a0_2, .slice (some ad192) l0_3.length c0_3] 29 (0, 0))) := ⟨by rw [hz_]; refine bk_ ?_; refine blk_far ?_ NB174_199.out _; refine bk_ ?_; refine blk_far ?_ NB174_199.out _; refine bk_ ?_; refine blk_far ?_ NB174_199.out _; refine bk_ ?_; refine blk_far ?_ NB174_199.out _; refine bk_ ?_; exact BK174.out⟩
         have n3_ : Aside0 (w66.heap[gb175]? = some (.cells #[.int .i64 a1_0, .int .i64 a1_1, .string a1_2, .slice A1_3 l1_3.length c1_3] 29 (0, 0))) := ⟨by rw [hz_]; refine bk_ ?_; refine blk_far ?_ NB175_199.out _; refine bk_ ?_; refine blk_far ?_ NB175_199.out _; refine bk_ ?_; refine blk_far ?_ NB175_199.out _; refine bk_ ?_; refine blk_far ?_ NB175_199.out _; refine bk_ ?_; exact BK175.out⟩
         have n4_ : Aside0 (w66.heap[gb176]? = some (.cells #[.int .i64 x177000_17, .int .i64 x177001_17, .string x177002_17, .slice none 0 0] 29 (0, 0))) := ⟨by rw [hz_]; refine bk_ ?_; refine blk_far ?_ NB176_199.out _; refine bk_ ?_; refine blk_far ?_ NB176_199.out _; refine bk_ ?_; refine blk_far ?_ NB176_199.out _; refine bk_ ?_; refine blk_far ?_ NB176_199.out _; refine bk_ ?_; exact BK176.out⟩
         have n5_ : Aside0 (w66.heap[gb191]? = some (.cells #[.int .i64 a0_0, .int .i64 a0_1, .string a0_2, u192003] 29 (0, 0))) := ⟨by rw [hz_]; refine bk_ ?_; refine blk_far ?_ NB191_199.out _; refine bk_ ?_; refine blk_far ?_ NB191_199.out _; refine bk_ ?_; refine blk_far ?_ NB191_199.out _; refine bk_ ?_; refine blk_far ?_ NB191_199.out _; refine bk_ ?_; exact BK191.out⟩
         have n6_ : Aside0 (w66.heap[gb199]? = some (.cells #[.int .i64 t193, .int .i64 t194, .string t195, .slice Ao64 t196.length co64] 29 (0, 0))) := ⟨by rw [hz_]; exact bk_ (bp4_ (bk_ BK199.out))⟩
         have n7_ : Aside0 (Below w.heap.size w w66) := ⟨by rw [hz_]; exact bw_ HB.out⟩
         (try clear HO_192003)
         (try clear HO198)
         (try clear BK174)
         (try clear BK175)
         (try clear BK176)
         (try clear BK191)
         (try clear BK199)
         (try clear HB)
         rw [← hz_]
         clear hz_
         have HO_192003 := n0_
         have HO198 := n1_
         have BK174 := n2_
         have BK175 := n3_
         have BK176 := n4_
         have BK191 := n5_
         have BK199 := n6_
         have HB := n7_
         clear n0_ n1_ n2_ n3_ n4_ n5_ n6_ n7_
         have hnb67 := NB191_175.out
         have hnc67 := NB175_191.out
         have hnb68 := NB191_176.out
         have hnc68 := NB176_191.out
         have hnb69 := NB191_199.out
         have hnc69 := NB199_191.out
         obtain ⟨y70_0, y70_1, y70_2, y70_3, z70_0, z70_1, z70_2, z70_3⟩ := cz4_ BK191.out
         have hnb71 := NB199_174.out
         have hnc71 := NB174_199.out
         have hnb72 := NB199_175.out
         have hnc72 := NB175_199.out
         have hnb73 := NB199_176.out
         have hnc73 := NB176_199.out
         obtain ⟨y74_0, y74_1, y74_2, y74_3, z74_0, z74_1, z74_2, z74_3⟩ := cz4_ BK199.out
         try go_wp2_with (first | ((with_reducible refine gate_builtin (b := .append) (xs := #[.tmp 56, .tmp 58]) rfl ?_); at_builtin; refine Kd.R_append k29 (w0 := w) w.heap.size rfl (.tmp 56) (.tmp 58) 27 29 (.agg #[(.int .i64 0), (.int .i64 0), (.string ⟨#[]⟩), (.slice none 0 0)]) 56 rfl Try.underlying27 info29 rfl (by decide) (by omega) u192003 x192003_2 (⟨t193, t194, t195, t196⟩ : S29) [.int .i64 t193, .int .i64 t194, .string t195, .slice Ao64 t196.length co64] (fun k_ => k_ ≠ gb174 ∧ k_ ≠ gb175 ∧ k_ ≠ gb176 ∧ k_ ≠ gb191 ∧ k_ ≠ gb199) (fun k_ => ((fun k_ => k_ ≠ gb174 ∧ k_ ≠ gb175 ∧ k_ ≠ gb176 ∧ k_ ≠ gb191 ∧ k_ ≠ gb199)) k_ ∧ some k_ ≠ (u192003 : Value).ownBlock) rfl rfl ?aP (fun _ hk => hk) ?aF ?aO ?aB ?aS ?aL ?_; (case aP => exact k29_mkM _ _ _ (⟨t193, t194, t195, t196⟩ : S29) (Kd.R_mono (HO198.out) (fun k_ hk => ⟨⟨hk.2.1, ⟨hk.2.2.1, ⟨hk.2.2.2.1, ⟨hk.2.2.2.2.1, hk.2.2.2.2.2⟩⟩⟩⟩, hk.1⟩))); (case aB => exact (bw_ HB.out)); (case aF => exact (fun k_ hk => ⟨Kd.freshB (bk_ BK174.out) k_ hk, Kd.freshB (bk_ BK175.out) k_ hk, Kd.freshB (bk_ BK176.out) k_ hk, Kd.freshB (bk_ BK191.out) k_ hk, Kd.freshB (bk_ BK199.out) k_ hk⟩)); (case aO => exact (kr_ (Kd.R_mono HO_192003.out (fun _ hk => ⟨hk.2.1, ⟨hk.2.2.1, ⟨hk.2.2.2.1, ⟨hk.2.2.2.2.1, hk.2.2.2.2.2⟩⟩⟩⟩)))); (case aS => exact (below_size (bw_ HB.out))); (case aL => have := LMc52.out; omega); intro v201 w75 ho hb hg hat; rw [← Ny200.out] at ho; have n0_ := A_ (blk_grown (bk_ BK174.out) hg (Kd.R_away HO_192003.out (fun _ hk => hk.2.1))); have n1_ := A_ (blk_grown (bk_ BK175.out) hg (Kd.R_away HO_192003.out (fun _ hk => hk.2.2.1))); have n2_ := A_ (blk_grown (bk_ BK176.out) hg (Kd.R_away HO_192003.out (fun _ hk => hk.2.2.2.1))); have n3_ := A_ (blk_grown (bk_ BK191.out) hg (Kd.R_away HO_192003.out (fun _ hk => hk.2.2.2.2.1))); have n4_ := A_ (blk_grown (bk_ BK199.out) hg (Kd.R_away HO_192003.out (fun _ hk => hk.2.2.2.2.2))); have n5_ := A_ (hb); have n6_ := A_ (ho); clear BK174; clear BK175; clear BK176; clear BK191; clear BK199; clear HB; clear HO_192003; clear HO198; have BK174 := n0_; have BK175 := n1_; have BK176 := n2_; have BK191 := n3_; have BK199 := n4_; have HB := n5_; have HO202 := n6_; clear n0_ n1_ n2_ n3_ n4_ n5_ n6_; clear ho hb hg hat; obtain ⟨Ao76, co76, eo76⟩ := Kd.R_slice HO202.out; subst eo76; obtain ⟨y77_0, y77_1, y77_2, y77_3, z77_0, z77_1, z77_2, z77_3⟩ := cz4_ BK191.out))
         go_roundg k2
         case measure => have := HJ17.out; have := HK2.out; omega
         case rel => exact ⟨(wrap64 (x11_2 + 1)), (y200), (.slice Ao76 y200.length co76), d2_, H', ⟨by have := HJ17.out; have := HK2.out; omega⟩, ⟨kr_ (Kd.R_mono (Kd.R_far (p := ⟨gb191, 3, none⟩) (Kd.R_mono HO202.out (fun k_ hk => (⟨hk, hk.2.2.2.1⟩ : _ ∧ k_ ≠ gb191))) (fun _ hk => hk.2) (.slice Ao76 y200.length co76)) (fun _ hk => ⟨hk.1.1, ⟨hk.1.2.1, ⟨hk.1.2.2.1, hk.1.2.2.2.1⟩⟩⟩))⟩, ⟨by refine bk_ ?_; refine blk_far ?_ NB174_191.out _; refine bk_ ?_; exact BK174.out⟩, ⟨by refine bk_ ?_; refine blk_far ?_ NB175_191.out _; refine bk_ ?_; exact BK175.out⟩, ⟨by refine bk_ ?_; refine blk_far ?_ NB176_191.out _; refine bk_ ?_; exact BK176.out⟩, ⟨by refine bk_ ?_; refine blk_put (cs := #[.int .i64 a0_0, .int .i64 a0_1, .string a0_2, u192003]) ?_ 3 _ rfl; refine bk_ ?_; exact BK191.out⟩, ⟨bw_ HB.out⟩⟩
        ·rw [if_neg c52] at H
         exact absurd H (by simp)
       ·rw [if_neg c50] at H
        exact absurd H (by simp)
      ·rw [if_neg c49] at H
       have c49b0 := decide_eq_false c49
       clear c49
       simp only [Option.some.injEq, Prod.mk.injEq] at H
       obtain ⟨rfl, rfl, rfl, rfl⟩ := H
       have hnb78 := NB174_175.out
       have hnc78 := NB175_174.out
       have hnb79 := NB174_176.out
       have hnc79 := NB176_174.out
       have hnb80 := NB174_191.out
       have hnc80 := NB191_174.out
       obtain ⟨y81_0, y81_1, y81_2, y81_3, z81_0, z81_1, z81_2, z81_3⟩ := cz4_ BK174.out
       have hnb82 := NB191_175.out
       have hnc82 := NB175_191.out
       have hnb83 := NB191_176.out
       have hnc83 := NB176_191.out
       obtain ⟨y84_0, y84_1, y84_2, y84_3, z84_0, z84_1, z84_2, z84_3⟩ := cz4_ BK191.out
       have hnb85 := NB176_175.out
       have hnc85 := NB175_176.out
       obtain ⟨y86_0, y86_1, y86_2, y86_3, z86_0, z86_1, z86_2, z86_3⟩ := cz4_ BK176.out
       obtain ⟨Ao87, co87, eo87⟩ := Kd.R_slice HO_192003.out
       subst eo87
       go_wp2
       refine bodyPost_ret (results_cell_row rfl _ _ gb176 29 #[.int .i64 a0_0, .int .i64 a0_1, .string a0_2, .slice Ao87 x192003_2.length co87] (0, 0) _ rfl ?hb_ Try.underlying29 rfl (by kernel_rfl)) rfl ?_
       (case hb_ => exact bk_ (bp4_ (bk_ BK176.out)))
       exact ⟨_, by first | rfl | (simp [errW_none, errW_some] <;> rfl) | (simp [*, errW_none, errW_some] <;> rfl), kr_ (Kd.R_mono (rf4_ (Kd.R_mono HO_192003.out (fun k_ hk => (⟨hk, hk.2.2.1⟩ : _ ∧ k_ ≠ gb176))) (fun _ hk => hk.2)) (fun _ hk => trivial)), bw_ HB.out⟩

end Go.Proofs.Ytcpnhlhigpgonaa.PFnExactPut
