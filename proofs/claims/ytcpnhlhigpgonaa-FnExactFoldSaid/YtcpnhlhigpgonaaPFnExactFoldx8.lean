-- Laid by a program of this session (a changed copy of the kit's printer); Lean checks every line.
import Derived.Test.YtcpnhlhigpgonaaPFnExactFoldx0
import Derived.Test.YtcpnhlhigpgonaaPFnExactFoldx6
import Derived.Test.YtcpnhlhigpgonaaPFnExactFoldx7
namespace Go.Proofs.Ytcpnhlhigpgonaa.PFnExactFold
open Go.RowKit Go.Proofs.YtcpnhlhigpgonaaW.PrintWords Go.Proofs.YtcpnhlhigpgonaaW.PrintLast Go.Proofs.YtcpnhlhigpgonaaW.PrintMore
attribute [local go_sem] max2_int min2_int max_two min_two max_three min_three max_four min_four   -- for this text's walks alone
set_option linter.unusedVariables false
set_option linter.unusedSimpArgs false

/-! ### spec_l11Fold: function 58 -/
mutual
def spec_l11Fold.j0 : Nat → Bool → Int → Int → ByteArray → List (S29) → Int → Int → ByteArray → List (S29) → Int → Int → ByteArray → List (S29) → Option (Int × Int × ByteArray × (List (S29)))
 | 0, _, _, _, _, _, _, _, _, _, _, _, _, _ => none
 | k + 1, x43, x257000, x257001, x257002, x257003, x272000, x272001, x272002, x272003, x289000, x289001, x289002, x289003 => if x43 = true then ((spec_l11Two.f x257000 x272001 x289001).bind fun bt289 => (if bt289.2 = true then ((spec_l10Num.f bt289.1).bind fun bt291 => (some (bt291.1, bt291.2.1, bt291.2.2.1, bt291.2.2.2))) else (spec_l11Fold.j1 k x257000 x257001 x257002 x257003 x272000 x272001 x272002 x272003 x289000 x289001 x289002 x289003))) else (spec_l11Fold.j1 k x257000 x257001 x257002 x257003 x272000 x272001 x272002 x272003 x289000 x289001 x289002 x289003)
def spec_l11Fold.j1 : Nat → Int → Int → ByteArray → List (S29) → Int → Int → ByteArray → List (S29) → Int → Int → ByteArray → List (S29) → Option (Int × Int × ByteArray × (List (S29)))
 | 0, _, _, _, _, _, _, _, _, _, _, _, _ => none
 | k + 1, x257000, x257001, x257002, x257003, x272000, x272001, x272002, x272003, x289000, x289001, x289002, x289003 => if x257000 = 6 then ((spec_l11Sub.f x272000 x272001 x272002 x272003 x289000 x289001 x289002 x289003).bind fun bt297 => (some (bt297.1, bt297.2.1, bt297.2.2.1, bt297.2.2.2))) else (if x257000 = 5 then (spec_l11Fold.j2 k (x272000 == 1) x257000 x257001 x257002 x257003 x272000 x272001 x272002 x272003 x289000 x289001 x289002 x289003) else (spec_l11Fold.j2 k false x257000 x257001 x257002 x257003 x272000 x272001 x272002 x272003 x289000 x289001 x289002 x289003))
def spec_l11Fold.j2 : Nat → Bool → Int → Int → ByteArray → List (S29) → Int → Int → ByteArray → List (S29) → Int → Int → ByteArray → List (S29) → Option (Int × Int × ByteArray × (List (S29)))
 | 0, _, _, _, _, _, _, _, _, _, _, _, _, _ => none
 | k + 1, x64, x257000, x257001, x257002, x257003, x272000, x272001, x272002, x272003, x289000, x289001, x289002, x289003 => if x64 = true then ((spec_l11Sum.f x289000 x289001 x289002 x289003 x272001).bind fun bt303 => (some (bt303.1, bt303.2.1, bt303.2.2.1, bt303.2.2.2))) else (if x257000 = 5 then (if x289000 = 1 then ((spec_l11Sum.f x272000 x272001 x272002 x272003 x289001).bind fun bt309 => (some (bt309.1, bt309.2.1, bt309.2.2.1, bt309.2.2.2))) else (some (x257000, 0, (⟨#[]⟩ : ByteArray), (([(⟨x272000, x272001, x272002, x272003⟩ : S29), (⟨x289000, x289001, x289002, x289003⟩ : S29)] : List (S29)))))) else (some (x257000, 0, (⟨#[]⟩ : ByteArray), (([(⟨x272000, x272001, x272002, x272003⟩ : S29), (⟨x289000, x289001, x289002, x289003⟩ : S29)] : List (S29))))))
def spec_l11Fold.f : Nat → Int → Int → ByteArray → List (S29) → Option (Int × Int × ByteArray × (List (S29)))
 | 0, _, _, _, _ => none
 | k + 1, a0_0, a0_1, a0_2, l0_3 => if (l0_3.length : Int) = 0 then ((spec_l11Copy.f k a0_0 a0_1 a0_2 l0_3).bind fun bt258 => (some (bt258.1, bt258.2.1, bt258.2.2.1, bt258.2.2.2))) else (if 0 < (l0_3.length : Int) then ((spec_l11Fold.f k ((rd_T29 l0_3 0).f0) ((rd_T29 l0_3 0).f1) ((rd_T29 l0_3 0).f2) ((rd_T29 l0_3 0).f3)).bind fun bt265 => (if a0_0 = 4 then (if bt265.1 = 1 then ((spec_l10Num.f (wrap64 (-bt265.2.1))).bind fun bt272 => (some (bt272.1, bt272.2.1, bt272.2.2.1, bt272.2.2.2))) else (some (4, 0, (⟨#[]⟩ : ByteArray), (([(⟨bt265.1, bt265.2.1, bt265.2.2.1, bt265.2.2.2⟩ : S29)] : List (S29)))))) else (if 1 < (l0_3.length : Int) then ((spec_l11Fold.f k ((rd_T29 l0_3 1).f0) ((rd_T29 l0_3 1).f1) ((rd_T29 l0_3 1).f2) ((rd_T29 l0_3 1).f3)).bind fun bt282 => (if bt265.1 = 1 then (spec_l11Fold.j0 k (bt282.1 == 1) a0_0 a0_1 a0_2 l0_3 bt265.1 bt265.2.1 bt265.2.2.1 bt265.2.2.2 bt282.1 bt282.2.1 bt282.2.2.1 bt282.2.2.2) else (spec_l11Fold.j0 k false a0_0 a0_1 a0_2 l0_3 bt265.1 bt265.2.1 bt265.2.2.1 bt265.2.2.2 bt282.1 bt282.2.1 bt282.2.2.1 bt282.2.2.2))) else (none)))) else (none))
end
theorem spec_l11Fold.mono_l : ∀ k, (∀ y0 y1 y2 y3, LeO (spec_l11Fold.f k y0 y1 y2 y3) (spec_l11Fold.f (k + 1) y0 y1 y2 y3)) ∧ (∀ y0 y1 y2 y3 y4 y5 y6 y7 y8 y9 y10 y11 y12, LeO (spec_l11Fold.j0 k y0 y1 y2 y3 y4 y5 y6 y7 y8 y9 y10 y11 y12) (spec_l11Fold.j0 (k + 1) y0 y1 y2 y3 y4 y5 y6 y7 y8 y9 y10 y11 y12)) ∧ (∀ y0 y1 y2 y3 y4 y5 y6 y7 y8 y9 y10 y11, LeO (spec_l11Fold.j1 k y0 y1 y2 y3 y4 y5 y6 y7 y8 y9 y10 y11) (spec_l11Fold.j1 (k + 1) y0 y1 y2 y3 y4 y5 y6 y7 y8 y9 y10 y11)) ∧ (∀ y0 y1 y2 y3 y4 y5 y6 y7 y8 y9 y10 y11 y12, LeO (spec_l11Fold.j2 k y0 y1 y2 y3 y4 y5 y6 y7 y8 y9 y10 y11 y12) (spec_l11Fold.j2 (k + 1) y0 y1 y2 y3 y4 y5 y6 y7 y8 y9 y10 y11 y12))
 | 0 => ⟨fun _ _ _ _ r h => by simp [spec_l11Fold.f] at h, fun _ _ _ _ _ _ _ _ _ _ _ _ _ r h => by simp [spec_l11Fold.j0] at h, fun _ _ _ _ _ _ _ _ _ _ _ _ r h => by simp [spec_l11Fold.j1] at h, fun _ _ _ _ _ _ _ _ _ _ _ _ _ r h => by simp [spec_l11Fold.j2] at h⟩
 | k + 1 => by
  obtain ⟨ih0, ih1, ih2, ih3⟩ := spec_l11Fold.mono_l k
  refine ⟨?_, ?_, ?_, ?_⟩
  ·intro y0 y1 y2 y3
   unfold spec_l11Fold.f
   repeat' first
   | (with_reducible exact ih0 _ _ _ _)
   | (with_reducible exact ih1 _ _ _ _ _ _ _ _ _ _ _ _ _)
   | (with_reducible exact ih2 _ _ _ _ _ _ _ _ _ _ _ _)
   | (with_reducible exact ih3 _ _ _ _ _ _ _ _ _ _ _ _ _)
   | (with_reducible exact spec_l11Copy.mono _ _ _ _ _)
   | (with_reducible exact LeO.refl _)
   | (with_reducible exact LeO.none _)
   | (with_reducible refine LeO.ite ?_ ?_)
   | (with_reducible refine LeO.bind ?_ (fun _ => ?_))
   | exact ih0 _ _ _ _
   | exact ih1 _ _ _ _ _ _ _ _ _ _ _ _ _
   | exact ih2 _ _ _ _ _ _ _ _ _ _ _ _
   | exact ih3 _ _ _ _ _ _ _ _ _ _ _ _ _
   | exact spec_l11Copy.mono _ _ _ _ _
   | exact LeO.none _
   | refine LeO.ite ?_ ?_
   | refine LeO.bind ?_ (fun _ => ?_)
  ·intro y0 y1 y2 y3 y4 y5 y6 y7 y8 y9 y10 y11 y12
   unfold spec_l11Fold.j0
   repeat' first
   | (with_reducible exact ih0 _ _ _ _)
   | (with_reducible exact ih1 _ _ _ _ _ _ _ _ _ _ _ _ _)
   | (with_reducible exact ih2 _ _ _ _ _ _ _ _ _ _ _ _)
   | (with_reducible exact ih3 _ _ _ _ _ _ _ _ _ _ _ _ _)
   | (with_reducible exact spec_l11Copy.mono _ _ _ _ _)
   | (with_reducible exact LeO.refl _)
   | (with_reducible exact LeO.none _)
   | (with_reducible refine LeO.ite ?_ ?_)
   | (with_reducible refine LeO.bind ?_ (fun _ => ?_))
   | exact ih0 _ _ _ _
   | exact ih1 _ _ _ _ _ _ _ _ _ _ _ _ _
   | exact ih2 _ _ _ _ _ _ _ _ _ _ _ _
   | exact ih3 _ _ _ _ _ _ _ _ _ _ _ _ _
   | exact spec_l11Copy.mono _ _ _ _ _
   | exact LeO.none _
   | refine LeO.ite ?_ ?_
   | refine LeO.bind ?_ (fun _ => ?_)
  ·intro y0 y1 y2 y3 y4 y5 y6 y7 y8 y9 y10 y11
   unfold spec_l11Fold.j1
   repeat' first
   | (with_reducible exact ih0 _ _ _ _)
   | (with_reducible exact ih1 _ _ _ _ _ _ _ _ _ _ _ _ _)
   | (with_reducible exact ih2 _ _ _ _ _ _ _ _ _ _ _ _)
   | (with_reducible exact ih3 _ _ _ _ _ _ _ _ _ _ _ _ _)
   | (with_reducible exact spec_l11Copy.mono _ _ _ _ _)
   | (with_reducible exact LeO.refl _)
   | (with_reducible exact LeO.none _)
   | (with_reducible refine LeO.ite ?_ ?_)
   | (with_reducible refine LeO.bind ?_ (fun _ => ?_))
   | exact ih0 _ _ _ _
   | exact ih1 _ _ _ _ _ _ _ _ _ _ _ _ _
   | exact ih2 _ _ _ _ _ _ _ _ _ _ _ _
   | exact ih3 _ _ _ _ _ _ _ _ _ _ _ _ _
   | exact spec_l11Copy.mono _ _ _ _ _
   | exact LeO.none _
   | refine LeO.ite ?_ ?_
   | refine LeO.bind ?_ (fun _ => ?_)
  ·intro y0 y1 y2 y3 y4 y5 y6 y7 y8 y9 y10 y11 y12
   unfold spec_l11Fold.j2
   repeat' first
   | (with_reducible exact ih0 _ _ _ _)
   | (with_reducible exact ih1 _ _ _ _ _ _ _ _ _ _ _ _ _)
   | (with_reducible exact ih2 _ _ _ _ _ _ _ _ _ _ _ _)
   | (with_reducible exact ih3 _ _ _ _ _ _ _ _ _ _ _ _ _)
   | (with_reducible exact spec_l11Copy.mono _ _ _ _ _)
   | (with_reducible exact LeO.refl _)
   | (with_reducible exact LeO.none _)
   | (with_reducible refine LeO.ite ?_ ?_)
   | (with_reducible refine LeO.bind ?_ (fun _ => ?_))
   | exact ih0 _ _ _ _
   | exact ih1 _ _ _ _ _ _ _ _ _ _ _ _ _
   | exact ih2 _ _ _ _ _ _ _ _ _ _ _ _
   | exact ih3 _ _ _ _ _ _ _ _ _ _ _ _ _
   | exact spec_l11Copy.mono _ _ _ _ _
   | exact LeO.none _
   | refine LeO.ite ?_ ?_
   | refine LeO.bind ?_ (fun _ => ?_)
theorem spec_l11Fold.mono : ∀ a0 a1 a2 a3 k, LeO (spec_l11Fold.f k a0 a1 a2 a3) (spec_l11Fold.f (k + 1) a0 a1 a2 a3) := by
 intro a0 a1 a2 a3 k
 obtain ⟨ih0, ih1, ih2, ih3⟩ := spec_l11Fold.mono_l k
 exact ih0 a0 a1 a2 a3
set_option maxHeartbeats 8000000 in
set_option maxRecDepth 100000 in
theorem spec_l11Fold.calls (k : Nat) : ∀ (a0_0 : Int) (a0_1 : Int) (a0_2 : ByteArray) (A0_3 : Option Addr) (c0_3 : Nat) (l0_3 : List (S29)) (r1 : Int) (r2 : Int) (r3 : ByteArray) (r4 : List (S29)) (w : World) (hr0_3 : Kd.C k29 w A0_3 l0_3.length l0_3) (hc0_3 : l0_3.length ≤ c0_3) (h : spec_l11Fold.f k a0_0 a0_1 a0_2 l0_3 = some (r1, r2, r3, r4)),
  Calls Try.prog 58 #[.agg #[.int .i64 a0_0, .int .i64 a0_1, .string a0_2, .slice A0_3 l0_3.length c0_3]] w fun e w' => ∃ v3_ : Value, e = .returned (.agg #[.int .i64 r1, .int .i64 r2, .string r3, v3_]) ∧ Kd.V k29 29 w' w.heap.size (fun k_ => (w.heap.size ≤ k_)) v3_ r4 ∧ Below w.heap.size w w' := by
 induction k using Nat.strongRecOn with
 | _ k ih =>
 intro a0_0 a0_1 a0_2 A0_3 c0_3 l0_3 r1 r2 r3 r4 w hr0_3 hc0_3 h
 cases k with
 | zero => exact absurd h (by simp [spec_l11Fold.f])
 | succ k =>
 simp only [spec_l11Fold.f] at h
 have hu29 := Try.underlying29
 have HR0_3 := A_ hr0_3
 have HC0_3 := A_ hc0_3
 clear hr0_3 hc0_3
 have HB := A_ (Below.refl w.heap.size w)
 have H : (if (l0_3.length : Int) = 0 then ((spec_l11Copy.f k a0_0 a0_1 a0_2 l0_3).bind fun bt258 => (some (bt258.1, bt258.2.1, bt258.2.2.1, bt258.2.2.2))) else (if 0 < (l0_3.length : Int) then ((spec_l11Fold.f k ((rd_T29 l0_3 0).f0) ((rd_T29 l0_3 0).f1) ((rd_T29 l0_3 0).f2) ((rd_T29 l0_3 0).f3)).bind fun bt265 => (if a0_0 = 4 then (if bt265.1 = 1 then ((spec_l10Num.f (wrap64 (-bt265.2.1))).bind fun bt272 => (some (bt272.1, bt272.2.1, bt272.2.2.1, bt272.2.2.2))) else (some (4, 0, (⟨#[]⟩ : ByteArray), (([(⟨bt265.1, bt265.2.1, bt265.2.2.1, bt265.2.2.2⟩ : S29)] : List (S29)))))) else (if 1 < (l0_3.length : Int) then ((spec_l11Fold.f k ((rd_T29 l0_3 1).f0) ((rd_T29 l0_3 1).f1) ((rd_T29 l0_3 1).f2) ((rd_T29 l0_3 1).f3)).bind fun bt282 => (if bt265.1 = 1 then (spec_l11Fold.j0 k (bt282.1 == 1) a0_0 a0_1 a0_2 l0_3 bt265.1 bt265.2.1 bt265.2.2.1 bt265.2.2.2 bt282.1 bt282.2.1 bt282.2.2.1 bt282.2.2.2) else (spec_l11Fold.j0 k false a0_0 a0_1 a0_2 l0_3 bt265.1 bt265.2.1 bt265.2.2.1 bt265.2.2.2 bt282.1 bt282.2.1 bt282.2.2.1 bt282.2.2.2))) else (none)))) else (none))) = some (r1, r2, r3, r4) := h
 clear h
 by_cases c2 : (l0_3.length : Int) = 0
 ·rw [if_pos c2] at H
  have c2b0 := beq_iff_eq.mpr c2
  have c2b1 := bne_eq_false_iff_eq.mpr c2
  clear c2
  replace H := Option.bind_eq_some_iff.mp H
  obtain ⟨⟨t258, t259, t260, t261⟩, A30, H⟩ := H
  try dsimp only at H
  have A3 := A_ A30
  clear A30
  simp only [Option.some.injEq, Prod.mk.injEq] at H
  obtain ⟨rfl, rfl, rfl, rfl⟩ := H
  go_enter Try.func58, Try.ntmps58
  go_wp2_with (first | ((with_reducible refine gate_dst (N := 1) rfl ?_); refine bx_ 1 #[.int .i64 a0_0, .int .i64 a0_1, .string a0_2, .slice A0_3 l0_3.length c0_3] 29 ?_; intro gb256 hg w4 hbox hb; have n0_ := A_ (below_step (bw_ HB.out) hb); have n1_ := A_ (hbox); have n2_ := A_ ((d3_ : w.heap.size ≤ gb256)); have n3_ := n2_; clear HB; have HB := n0_; have BK256 := n1_; have GW256 := n2_; have GE256 := n3_; have GI256 := GeI.mk GE256.out; clear n0_ n1_ n2_ n3_; clear hb hbox hg) | ((with_reducible refine gate_dst (N := 2) rfl ?_); refine bx_ 2 #[.int .i64 0, .int .i64 0, .string (⟨#[]⟩ : ByteArray), .slice none 0 0] 29 ?_; intro gb257 hg w5 hbox hb; have n0_ := A_ (blk_below (bk_ BK256.out) hb); have n1_ := A_ (below_step (bw_ HB.out) hb); have n2_ := A_ (hbox); have n3_ := A_ ((d3_ : w.heap.size ≤ gb257)); have n4_ := n3_; have n5_ := A_ ((d34_ : gb256 ≠ gb257)); have n6_ := A_ n5_.out.symm; clear BK256; clear HB; have BK256 := n0_; have HB := n1_; have BK257 := n2_; have GW257 := n3_; have GE257 := n4_; have GI257 := GeI.mk GE257.out; have NB256_257 := n5_; have NB257_256 := n6_; clear n0_ n1_ n2_ n3_ n4_ n5_ n6_; clear hb hbox hg; have hnb6 := NB256_257.out; have hnc6 := NB257_256.out; obtain ⟨y7_0, y7_1, y7_2, y7_3, z7_0, z7_1, z7_2, z7_3⟩ := cz4_ BK256.out) | ((with_reducible refine gate_callee (f := 57) rfl ?_); refine gL_ (some 12) Try.func57 #[.agg #[.int .i64 a0_0, .int .i64 a0_1, .string a0_2, .slice A0_3 l0_3.length c0_3]] ?_; (with_reducible refine (spec_l11Copy.calls k a0_0 a0_1 a0_2 _ _ l0_3 t258 t259 t260 t261 _ ?side1 ?side2 A3.out).mono ?_); (case side1 => exact Kd.C_below HR0_3.out (bw_ HB.out)); (case side2 => exact HC0_3.out); rintro e w8 ⟨v262, rfl, ho0, hb⟩; refine ⟨_, rfl, ?_⟩; have HO263 := A_ (Kd.N_lower (Kd.N_mono (ok' := fun k_ => (w.heap.size ≤ k_) ∧ k_ ≠ gb256 ∧ k_ ≠ gb257) (Kd.R_N (Kd.R_bound ho0)) (fun k_ hk_ => ⟨(Nat.le_trans (below_size (bw_ HB.out)) hk_.2.1), (Kd.freshB (bk_ BK256.out) k_ hk_.2.1), (Kd.freshB (bk_ BK257.out) k_ hk_.2.1)⟩)) (below_size (bw_ HB.out))); replace BK256 := A_ (blk_below (bk_ BK256.out) hb); replace BK257 := A_ (blk_below (bk_ BK257.out) hb); replace HB := A_ (below_step (bw_ HB.out) hb); clear hb; (try clear ho0); obtain ⟨y9_0, y9_1, y9_2, y9_3, z9_0, z9_1, z9_2, z9_3⟩ := cz4_ BK257.out; obtain ⟨Ao10, co10, eo10⟩ := Kd.N_slice HO263.out; subst eo10))
  refine bodyPost_ret (results_cell_row rfl _ _ gb257 29 #[.int .i64 t258, .int .i64 t259, .string t260, .slice Ao10 t261.length co10] (0, 0) _ rfl ?hb_ Try.underlying29 rfl (by kernel_rfl)) rfl ?_
  (case hb_ => exact bk_ (bp4_ (bk_ BK257.out)))
  exact ⟨_, by first | rfl | (simp [errW_none, errW_some] <;> rfl) | (simp [*, errW_none, errW_some] <;> rfl), Kd.N_V (by (with_reducible repeat (first | apply Kd.N_alloc | apply Kd.N_drewN | apply Kd.N_drew)); exact Kd.N_mono (nf4_ (Kd.N_mono HO263.out (fun k_ hk => (⟨hk, hk.2.2⟩ : _ ∧ k_ ≠ gb257))) (fun _ hk => hk.2)) (fun _ hk => hk.1.1)), bw_ HB.out⟩
 ·rw [if_neg c2] at H
  have c2b0 := beq_eq_false_iff_ne.mpr c2
  have c2b1 := bne_iff_ne.mpr c2
  have c2b2 : ¬ (l0_3 = []) := fun h_ => c2 (by rw [h_]; rfl)
  by_cases c11 : 0 < (l0_3.length : Int)
  ·rw [if_pos c11] at H
   have c11b0 := decide_eq_true c11
   have c11b1 : decide (0 < l0_3.length) = true := decide_eq_true (by omega)
   clear c11
   replace H := Option.bind_eq_some_iff.mp H
   obtain ⟨⟨t265, t266, t267, t268⟩, A120, H⟩ := H
   try dsimp only at H
   have A12 := A_ A120
   clear A120
   by_cases c13 : a0_0 = 4
   ·rw [if_pos c13] at H
    have c13b0 := beq_iff_eq.mpr c13
    have c13b1 := bne_eq_false_iff_eq.mpr c13
    clear c13
    by_cases c14 : t265 = 1
    ·rw [if_pos c14] at H
     have c14b0 := beq_iff_eq.mpr c14
     have c14b1 := bne_eq_false_iff_eq.mpr c14
     clear c14
     replace H := Option.bind_eq_some_iff.mp H
     obtain ⟨⟨t272, t273, t274, t275⟩, A150, H⟩ := H
     try dsimp only at H
     have A15 := A_ A150
     clear A150
     simp only [Option.some.injEq, Prod.mk.injEq] at H
     obtain ⟨rfl, rfl, rfl, rfl⟩ := H
     go_enter Try.func58, Try.ntmps58
     go_wp2_with (first | ((with_reducible refine gate_dst (N := 1) rfl ?_); refine bx_ 1 #[.int .i64 a0_0, .int .i64 a0_1, .string a0_2, .slice A0_3 l0_3.length c0_3] 29 ?_; intro gb256 hg w16 hbox hb; have n0_ := A_ (below_step (bw_ HB.out) hb); have n1_ := A_ (hbox); have n2_ := A_ ((d3_ : w.heap.size ≤ gb256)); have n3_ := n2_; clear HB; have HB := n0_; have BK256 := n1_; have GW256 := n2_; have GE256 := n3_; have GI256 := GeI.mk GE256.out; clear n0_ n1_ n2_ n3_; clear hb hbox hg) | ((with_reducible refine gate_dst (N := 2) rfl ?_); refine bx_ 2 #[.int .i64 0, .int .i64 0, .string (⟨#[]⟩ : ByteArray), .slice none 0 0] 29 ?_; intro gb257 hg w17 hbox hb; have n0_ := A_ (blk_below (bk_ BK256.out) hb); have n1_ := A_ (below_step (bw_ HB.out) hb); have n2_ := A_ (hbox); have n3_ := A_ ((d3_ : w.heap.size ≤ gb257)); have n4_ := n3_; have n5_ := A_ ((d34_ : gb256 ≠ gb257)); have n6_ := A_ n5_.out.symm; clear BK256; clear HB; have BK256 := n0_; have HB := n1_; have BK257 := n2_; have GW257 := n3_; have GE257 := n4_; have GI257 := GeI.mk GE257.out; have NB256_257 := n5_; have NB257_256 := n6_; clear n0_ n1_ n2_ n3_ n4_ n5_ n6_; clear hb hbox hg; have hnb18 := NB256_257.out; have hnc18 := NB257_256.out; obtain ⟨y19_0, y19_1, y19_2, y19_3, z19_0, z19_1, z19_2, z19_3⟩ := cz4_ BK256.out; have p264 : 0 ≤ (0 : Int) := (by omega); have q264 : 0 < (l0_3.length : Int) := of_decide_eq_true d1_; obtain ⟨ad264, A264_3, c264_3, e264, hx264_0, hx264_1, hx264_2, hx264_3, hl264_3, hi264_3⟩ := at_T29 HR0_3.out 0 p264 q264; cases e264; have qi264 : (0 < l0_3.length) = True := eq_true (by omega); (try rw [show ((0 : Int)).toNat = 0 from rfl] at hx264_0); (try rw [show 0 * 4 = 0 from rfl] at hx264_0); (try rw [Addr.add_zero'] at hx264_0); (try rw [show ((0 : Int)).toNat = 0 from rfl] at hx264_1); (try rw [show 0 * 4 = 0 from rfl] at hx264_1); (try rw [Addr.add_zero'] at hx264_1); (try rw [show ((0 : Int)).toNat = 0 from rfl] at hx264_2); (try rw [show 0 * 4 = 0 from rfl] at hx264_2); (try rw [Addr.add_zero'] at hx264_2); (try rw [show ((0 : Int)).toNat = 0 from rfl] at hx264_3); (try rw [show 0 * 4 = 0 from rfl] at hx264_3); (try rw [Addr.add_zero'] at hx264_3); replace hx264_0 := (HB.out.cell (World.block_lt_of_cell? w _ hx264_0)).trans hx264_0; replace hx264_1 := (HB.out.cell (World.block_lt_of_cell? w _ hx264_1)).trans hx264_1; replace hx264_2 := (HB.out.cell (World.block_lt_of_cell? w _ hx264_2)).trans hx264_2; replace hx264_3 := (HB.out.cell (World.block_lt_of_cell? w _ hx264_3)).trans hx264_3; have HR264_3 := A_ hi264_3; have HC264_3 := A_ hl264_3; clear hi264_3 hl264_3; replace p264 := eq_true p264; replace q264 := eq_true q264) | ((with_reducible refine gate_callee (f := 58) rfl ?_); refine gL_ (some 17) Try.func58 #[.agg #[.int .i64 ((rd_T29 l0_3 0).f0), .int .i64 ((rd_T29 l0_3 0).f1), .string ((rd_T29 l0_3 0).f2), .slice A264_3 ((rd_T29 l0_3 0).f3).length c264_3]] ?_; (with_reducible refine (ih k (by omega) ((rd_T29 l0_3 0).f0) ((rd_T29 l0_3 0).f1) ((rd_T29 l0_3 0).f2) _ _ ((rd_T29 l0_3 0).f3) t265 t266 t267 t268 _ ?side1 ?side2 A12.out).mono ?_); (case side1 => exact Kd.C_below HR264_3.out (bw_ HB.out)); (case side2 => exact HC264_3.out); rintro e w20 ⟨v269, rfl, ho0, hb⟩; refine ⟨_, rfl, ?_⟩; have HO270 := A_ (Kd.V_lower (Kd.V_mono (ok' := fun k_ => (w.heap.size ≤ k_) ∧ k_ ≠ gb256 ∧ k_ ≠ gb257) ho0 (fun k_ hk_ => ⟨(Nat.le_trans (below_size (bw_ HB.out)) hk_), (Kd.freshB (bk_ BK256.out) k_ hk_), (Kd.freshB (bk_ BK257.out) k_ hk_)⟩)) (below_size (bw_ HB.out))); replace BK256 := A_ (blk_below (bk_ BK256.out) hb); replace BK257 := A_ (blk_below (bk_ BK257.out) hb); replace HB := A_ (below_step (bw_ HB.out) hb); clear hb; (try clear ho0)) | ((with_reducible refine gate_dst (N := 3) rfl ?_); refine bx_ 3 #[.int .i64 0, .int .i64 0, .string (⟨#[]⟩ : ByteArray), .slice none 0 0] 29 ?_; intro gb271 hg w21 hbox hb; have n0_ := A_ (Kd.V_below (Kd.V_elderB (kv_ HO270.out) gb271 (Nat.le_of_eq hg.symm)) hb); have n1_ := A_ (blk_below (bk_ BK256.out) hb); have n2_ := A_ (blk_below (bk_ BK257.out) hb); have n3_ := A_ (below_step (bw_ HB.out) hb); have n4_ := A_ (hbox); have n5_ := A_ ((d3_ : w.heap.size ≤ gb271)); have n6_ := n5_; have n7_ := A_ ((d34_ : gb256 ≠ gb271)); have n8_ := A_ n7_.out.symm; have n9_ := A_ ((d44_ : gb257 ≠ gb271)); have n10_ := A_ n9_.out.symm; clear HO270; clear BK256; clear BK257; clear HB; have HO270 := n0_; have BK256 := n1_; have BK257 := n2_; have HB := n3_; have BK271 := n4_; have GW271 := n5_; have GE271 := n6_; have GI271 := GeI.mk GE271.out; have NB256_271 := n7_; have NB271_256 := n8_; have NB257_271 := n9_; have NB271_257 := n10_; clear n0_ n1_ n2_ n3_ n4_ n5_ n6_ n7_ n8_ n9_ n10_; clear hb hbox hg; have hnb22 := NB271_256.out; have hnc22 := NB256_271.out; have hnb23 := NB271_257.out; have hnc23 := NB257_271.out; obtain ⟨y24_0, y24_1, y24_2, y24_3, z24_0, z24_1, z24_2, z24_3⟩ := cz4_ BK271.out; obtain ⟨Ao25, co25, eo25⟩ := Kd.V_slice HO270.out; subst eo25; obtain ⟨y26_0, y26_1, y26_2, y26_3, z26_0, z26_1, z26_2, z26_3⟩ := cz4_ BK256.out) | ((with_reducible refine gate_callee (f := 79) rfl ?_); refine gL_ (some 27) Try.func79 #[.int .i64 (wrap64 (-t266))] ?_; (with_reducible refine (spec_l10Num.calls (wrap64 (-t266)) t272 t273 t274 t275 _ A15.out).mono ?_); rintro e w27 ⟨v276, rfl, ho0, hb⟩; refine ⟨_, rfl, ?_⟩; replace HO270 := A_ (Kd.V_elder' (kv_ (Kd.V_mono (vf4_ (Kd.V_mono HO270.out (fun k_ hk => (⟨hk, hk.2⟩ : _ ∧ k_ ≠ gb271))) (fun _ hk => hk.2)) (fun _ h_ => h_.1))) d8_ hb); have HO277 := A_ (Kd.N_lower (Kd.N_mono (ok' := fun k_ => (w.heap.size ≤ k_) ∧ k_ ≠ gb256 ∧ k_ ≠ gb257 ∧ k_ ≠ gb271) (Kd.R_N (Kd.R_bound ho0)) (fun k_ hk_ => ⟨(Nat.le_trans (below_size (bw_ HB.out)) hk_.2.1), (Kd.freshB (g := gb256) (o := .cells #[.int .i64 a0_0, .int .i64 a0_1, .string a0_2, .slice (some ad264) l0_3.length c0_3] 29 (0, 0)) d10_ k_ hk_.2.1), (Kd.freshB (g := gb257) (o := .cells #[.int .i64 0, .int .i64 0, .string (⟨#[]⟩ : ByteArray), .slice none 0 0] 29 (0, 0)) d9_ k_ hk_.2.1), (Kd.freshB (g := gb271) (o := .cells #[.int .i64 t265, .int .i64 t266, .string t267, .slice Ao25 t268.length co25] 29 (0, 0)) d46_ k_ hk_.2.1)⟩)) (below_size (bw_ HB.out))); replace BK256 := A_ (blk_below (g := gb256) (o := .cells #[.int .i64 a0_0, .int .i64 a0_1, .string a0_2, .slice (some ad264) l0_3.length c0_3] 29 (0, 0)) d10_ hb); replace BK257 := A_ (blk_below (g := gb257) (o := .cells #[.int .i64 0, .int .i64 0, .string (⟨#[]⟩ : ByteArray), .slice none 0 0] 29 (0, 0)) d9_ hb); replace BK271 := A_ (blk_below (g := gb271) (o := .cells #[.int .i64 t265, .int .i64 t266, .string t267, .slice Ao25 t268.length co25] 29 (0, 0)) d46_ hb); replace HB := A_ (below_step (bw_ HB.out) hb); clear hb; (try clear ho0); obtain ⟨y28_0, y28_1, y28_2, y28_3, z28_0, z28_1, z28_2, z28_3⟩ := cz4_ BK257.out; obtain ⟨Ao29, co29, eo29⟩ := Kd.N_slice HO277.out; subst eo29))
     refine bodyPost_ret (results_cell_row rfl _ _ gb257 29 #[.int .i64 t272, .int .i64 t273, .string t274, .slice Ao29 t275.length co29] (0, 0) _ rfl ?hb_ Try.underlying29 rfl (by kernel_rfl)) rfl ?_
     (case hb_ => exact bk_ (bp4_ (bk_ BK257.out)))
     exact ⟨_, by first | rfl | (simp [errW_none, errW_some] <;> rfl) | (simp [*, errW_none, errW_some] <;> rfl), Kd.N_V (by (with_reducible repeat (first | apply Kd.N_alloc | apply Kd.N_drewN | apply Kd.N_drew)); exact Kd.N_mono (nf4_ (Kd.N_mono HO277.out (fun k_ hk => (⟨hk, hk.2.2.1⟩ : _ ∧ k_ ≠ gb257))) (fun _ hk => hk.2)) (fun _ hk => hk.1.1)), bw_ HB.out⟩
    ·rw [if_neg c14] at H
     have c14b0 := beq_eq_false_iff_ne.mpr c14
     have c14b1 := bne_iff_ne.mpr c14
     obtain ⟨y278, hy278⟩ : ∃ y_ : List (S29), y_ = (([(⟨t265, t266, t267, t268⟩ : S29)] : List (S29))) := ⟨_, rfl⟩
     replace H : (some (4, 0, (⟨#[]⟩ : ByteArray), y278)) = some (r1, r2, r3, r4) := by first | (rw [hy278]; with_reducible exact H) | (have H2_ := (Option.bind_some _ _).symm.trans H; rw [hy278]; with_reducible exact H2_) | (have H2_ := (Option.bind_some _ _).symm.trans H; with_reducible exact H2_) | with_reducible exact H | (rw [hy278]; exact H) | exact H
     have Ny278 := A_ hy278
     clear hy278
     simp only [Option.some.injEq, Prod.mk.injEq] at H
     obtain ⟨rfl, rfl, rfl, rfl⟩ := H
     go_enter Try.func58, Try.ntmps58
     go_wp2_with (first | ((with_reducible refine gate_dst (N := 1) rfl ?_); refine bx_ 1 #[.int .i64 a0_0, .int .i64 a0_1, .string a0_2, .slice A0_3 l0_3.length c0_3] 29 ?_; intro gb256 hg w30 hbox hb; have n0_ := A_ (below_step (bw_ HB.out) hb); have n1_ := A_ (hbox); have n2_ := A_ ((d3_ : w.heap.size ≤ gb256)); have n3_ := n2_; clear HB; have HB := n0_; have BK256 := n1_; have GW256 := n2_; have GE256 := n3_; have GI256 := GeI.mk GE256.out; clear n0_ n1_ n2_ n3_; clear hb hbox hg) | ((with_reducible refine gate_dst (N := 2) rfl ?_); refine bx_ 2 #[.int .i64 0, .int .i64 0, .string (⟨#[]⟩ : ByteArray), .slice none 0 0] 29 ?_; intro gb257 hg w31 hbox hb; have n0_ := A_ (blk_below (bk_ BK256.out) hb); have n1_ := A_ (below_step (bw_ HB.out) hb); have n2_ := A_ (hbox); have n3_ := A_ ((d3_ : w.heap.size ≤ gb257)); have n4_ := n3_; have n5_ := A_ ((d34_ : gb256 ≠ gb257)); have n6_ := A_ n5_.out.symm; clear BK256; clear HB; have BK256 := n0_; have HB := n1_; have BK257 := n2_; have GW257 := n3_; have GE257 := n4_; have GI257 := GeI.mk GE257.out; have NB256_257 := n5_; have NB257_256 := n6_; clear n0_ n1_ n2_ n3_ n4_ n5_ n6_; clear hb hbox hg; have hnb32 := NB256_257.out; have hnc32 := NB257_256.out; obtain ⟨y33_0, y33_1, y33_2, y33_3, z33_0, z33_1, z33_2, z33_3⟩ := cz4_ BK256.out; have p264 : 0 ≤ (0 : Int) := (by omega); have q264 : 0 < (l0_3.length : Int) := of_decide_eq_true d1_; obtain ⟨ad264, A264_3, c264_3, e264, hx264_0, hx264_1, hx264_2, hx264_3, hl264_3, hi264_3⟩ := at_T29 HR0_3.out 0 p264 q264; cases e264; have qi264 : (0 < l0_3.length) = True := eq_true (by omega); (try rw [show ((0 : Int)).toNat = 0 from rfl] at hx264_0); (try rw [show 0 * 4 = 0 from rfl] at hx264_0); (try rw [Addr.add_zero'] at hx264_0); (try rw [show ((0 : Int)).toNat = 0 from rfl] at hx264_1); (try rw [show 0 * 4 = 0 from rfl] at hx264_1); (try rw [Addr.add_zero'] at hx264_1); (try rw [show ((0 : Int)).toNat = 0 from rfl] at hx264_2); (try rw [show 0 * 4 = 0 from rfl] at hx264_2); (try rw [Addr.add_zero'] at hx264_2); (try rw [show ((0 : Int)).toNat = 0 from rfl] at hx264_3); (try rw [show 0 * 4 = 0 from rfl] at hx264_3); (try rw [Addr.add_zero'] at hx264_3); replace hx264_0 := (HB.out.cell (World.block_lt_of_cell? w _ hx264_0)).trans hx264_0; replace hx264_1 := (HB.out.cell (World.block_lt_of_cell? w _ hx264_1)).trans hx264_1; replace hx264_2 := (HB.out.cell (World.block_lt_of_cell? w _ hx264_2)).trans hx264_2; replace hx264_3 := (HB.out.cell (World.block_lt_of_cell? w _ hx264_3)).trans hx264_3; have HR264_3 := A_ hi264_3; have HC264_3 := A_ hl264_3; clear hi264_3 hl264_3; replace p264 := eq_true p264; replace q264 := eq_true q264) | ((with_reducible refine gate_callee (f := 58) rfl ?_); refine gL_ (some 17) Try.func58 #[.agg #[.int .i64 ((rd_T29 l0_3 0).f0), .int .i64 ((rd_T29 l0_3 0).f1), .string ((rd_T29 l0_3 0).f2), .slice A264_3 ((rd_T29 l0_3 0).f3).length c264_3]] ?_; (with_reducible refine (ih k (by omega) ((rd_T29 l0_3 0).f0) ((rd_T29 l0_3 0).f1) ((rd_T29 l0_3 0).f2) _ _ ((rd_T29 l0_3 0).f3) t265 t266 t267 t268 _ ?side1 ?side2 A12.out).mono ?_); (case side1 => exact Kd.C_below HR264_3.out (bw_ HB.out)); (case side2 => exact HC264_3.out); rintro e w34 ⟨v269, rfl, ho0, hb⟩; refine ⟨_, rfl, ?_⟩; have HO270 := A_ (Kd.V_lower (Kd.V_mono (ok' := fun k_ => (w.heap.size ≤ k_) ∧ k_ ≠ gb256 ∧ k_ ≠ gb257) ho0 (fun k_ hk_ => ⟨(Nat.le_trans (below_size (bw_ HB.out)) hk_), (Kd.freshB (bk_ BK256.out) k_ hk_), (Kd.freshB (bk_ BK257.out) k_ hk_)⟩)) (below_size (bw_ HB.out))); replace BK256 := A_ (blk_below (bk_ BK256.out) hb); replace BK257 := A_ (blk_below (bk_ BK257.out) hb); replace HB := A_ (below_step (bw_ HB.out) hb); clear hb; (try clear ho0)) | ((with_reducible refine gate_dst (N := 3) rfl ?_); refine bx_ 3 #[.int .i64 0, .int .i64 0, .string (⟨#[]⟩ : ByteArray), .slice none 0 0] 29 ?_; intro gb271 hg w35 hbox hb; have n0_ := A_ (Kd.V_below (Kd.V_elderB (kv_ HO270.out) gb271 (Nat.le_of_eq hg.symm)) hb); have n1_ := A_ (blk_below (bk_ BK256.out) hb); have n2_ := A_ (blk_below (bk_ BK257.out) hb); have n3_ := A_ (below_step (bw_ HB.out) hb); have n4_ := A_ (hbox); have n5_ := A_ ((d3_ : w.heap.size ≤ gb271)); have n6_ := n5_; have n7_ := A_ ((d34_ : gb256 ≠ gb271)); have n8_ := A_ n7_.out.symm; have n9_ := A_ ((d44_ : gb257 ≠ gb271)); have n10_ := A_ n9_.out.symm; clear HO270; clear BK256; clear BK257; clear HB; have HO270 := n0_; have BK256 := n1_; have BK257 := n2_; have HB := n3_; have BK271 := n4_; have GW271 := n5_; have GE271 := n6_; have GI271 := GeI.mk GE271.out; have NB256_271 := n7_; have NB271_256 := n8_; have NB257_271 := n9_; have NB271_257 := n10_; clear n0_ n1_ n2_ n3_ n4_ n5_ n6_ n7_ n8_ n9_ n10_; clear hb hbox hg; have hnb36 := NB271_256.out; have hnc36 := NB256_271.out; have hnb37 := NB271_257.out; have hnc37 := NB257_271.out; obtain ⟨y38_0, y38_1, y38_2, y38_3, z38_0, z38_1, z38_2, z38_3⟩ := cz4_ BK271.out; obtain ⟨Ao39, co39, eo39⟩ := Kd.V_slice HO270.out; subst eo39) | ((with_reducible refine gate_store (t := 29) (p := 3) rfl ?_); refine store_event (t := 29) (p := 3) (v := ?vo_w40) (w1 := ((((w35.setCell ⟨gb271, 0, none⟩ (.int .i64 t265)).setCell ⟨gb271, 1, none⟩ (.int .i64 t266)).setCell ⟨gb271, 2, none⟩ (.string t267)).setCell ⟨gb271, 3, none⟩ (.slice Ao39 t268.length co39))) ?hg ?ho ?hn ?hr ?_; (case ho => rfl); (case hg => rfl); (case hn => rfl); (case hr => first | (go_simp; done) | (go_simp; rfl)); intro w40 hw; have n0_ : Aside0 (Kd.V k29 29 w40 w.heap.size (fun k_ => (w.heap.size ≤ k_) ∧ k_ ≠ gb256 ∧ k_ ≠ gb257 ∧ k_ ≠ gb271) (.slice Ao39 t268.length co39) t268) := ⟨(by rw [hw]; exact (kv_ (Kd.V_mono (vf4_ (Kd.V_mono HO270.out (fun k_ hk => (⟨hk, hk.2⟩ : _ ∧ k_ ≠ gb271))) (fun _ hk => hk.2)) (fun _ hk => ⟨hk.1.1.1, ⟨hk.1.1.2.1, ⟨hk.1.1.2.2, hk.1.2⟩⟩⟩))))⟩; have n1_ : Aside0 (w40.heap[gb256]? = some (.cells #[.int .i64 a0_0, .int .i64 a0_1, .string a0_2, .slice (some ad264) l0_3.length c0_3] 29 (0, 0))) := ⟨(by rw [hw]; exact d10_)⟩; have n2_ : Aside0 (w40.heap[gb257]? = some (.cells #[.int .i64 0, .int .i64 0, .string (⟨#[]⟩ : ByteArray), .slice none 0 0] 29 (0, 0))) := ⟨(by rw [hw]; exact d9_)⟩; have n3_ : Aside0 (w40.heap[gb271]? = some (.cells #[.int .i64 t265, .int .i64 t266, .string t267, .slice Ao39 t268.length co39] 29 (0, 0))) := ⟨(by rw [hw]; exact d46_)⟩; have n4_ : Aside0 (Below w.heap.size w w40) := ⟨d37_⟩; clear hw; clear HO270; clear BK256; clear BK257; clear BK271; clear HB; have HO270 := n0_; have BK256 := n1_; have BK257 := n2_; have BK271 := n3_; have HB := n4_; clear n0_ n1_ n2_ n3_ n4_; obtain ⟨y41_0, y41_1, y41_2, y41_3, z41_0, z41_1, z41_2, z41_3⟩ := cz4_ BK256.out; obtain ⟨y42_0, y42_1, y42_2, y42_3, z42_0, z42_1, z42_2, z42_3⟩ := cz4_ BK271.out) | ((with_reducible refine gate_dst (N := 29) rfl ?_); refine Kd.N_lit k29 _ 29 ?hg (N' := 29) ?hd (xs := ([(⟨t265, t266, t267, t268⟩ : S29)] : List (S29))) (inner := [.int .i64 t265, .int .i64 t266, .string t267, .slice Ao39 t268.length co39]) (ok := (fun k_ => (w.heap.size ≤ k_) ∧ k_ ≠ gb256 ∧ k_ ≠ gb257 ∧ k_ ≠ gb271)) (okp := (fun k_ => (w.heap.size ≤ k_) ∧ k_ ≠ gb256 ∧ k_ ≠ gb257 ∧ k_ ≠ gb271)) ?hr ?hp (fun _ hk => hk) ((show ∀ k_, w40.heap.size ≤ k_ → (fun k_ => (w.heap.size ≤ k_) ∧ k_ ≠ gb256 ∧ k_ ≠ gb257 ∧ k_ ≠ gb271) k_ from fun k_ hk => ⟨(Nat.le_trans (below_size (bw_ HB.out)) hk), Kd.freshB (bk_ BK256.out) k_ hk, Kd.freshB (bk_ BK257.out) k_ hk, Kd.freshB (bk_ BK271.out) k_ hk⟩) _ (Nat.le_refl _)) (Below.refl _ _) (Nat.le_refl _) (by simp) ?_; (case hd => rfl); (case hg => rfl); (case hr => first | (go_simp; done) | (go_simp; rfl)); (case hp => exact (Reps.c4 (show Kd.FK k29 _ _ (⟨t265, t266, t267, t268⟩ : S29) [.int .i64 t265, .int .i64 t266, .string t267, .slice Ao39 t268.length co39] from (k29_mkF _ _ (⟨t265, t266, t267, t268⟩ : S29) (Kd.V_reads' (Kd.V_mono (ok' := (fun k_ => (w.heap.size ≤ k_) ∧ k_ ≠ gb256 ∧ k_ ≠ gb257 ∧ k_ ≠ gb271)) (HO270.out) (fun k_ hk => ⟨hk.1, ⟨hk.2.1, ⟨hk.2.2.1, hk.2.2.2⟩⟩⟩))).2.1 (Kd.V_F (Kd.V_mono (ok' := (fun k_ => (w.heap.size ≤ k_) ∧ k_ ≠ gb256 ∧ k_ ≠ gb257 ∧ k_ ≠ gb271)) (HO270.out) (fun k_ hk => ⟨hk.1, ⟨hk.2.1, ⟨hk.2.2.1, hk.2.2.2⟩⟩⟩))))) (Reps.none _ _))); intro v279 w43 ho44 hb hg_ hnew_; clear hg_ hnew_; (first | rw [← Ny278.out] at ho44 | (simp only [Int.reduceToNat] at ho44; rw [← Ny278.out] at ho44)); replace HO270 := A_ (Kd.V_elder' (kv_ HO270.out) (Kd.N_base ho44) hb); have HO280 := A_ (Kd.N_lower ho44 (below_size (bw_ HB.out))); replace BK256 := A_ (blk_below (bk_ BK256.out) hb); replace BK257 := A_ (blk_below (bk_ BK257.out) hb); replace BK271 := A_ (blk_below (bk_ BK271.out) hb); replace HB := A_ (below_step (bw_ HB.out) hb); clear hb ho44; obtain ⟨Ao45, co45, eo45⟩ := Kd.N_slice HO280.out; subst eo45; obtain ⟨y46_0, y46_1, y46_2, y46_3, z46_0, z46_1, z46_2, z46_3⟩ := cz4_ BK257.out))
     refine bodyPost_ret (results_cell_row rfl _ _ gb257 29 #[.int .i64 4, .int .i64 0, .string (⟨#[]⟩ : ByteArray), .slice Ao45 y278.length co45] (0, 0) _ rfl ?hb_ Try.underlying29 rfl (by kernel_rfl)) rfl ?_
     (case hb_ => exact bk_ (bp4_ (bk_ BK257.out)))
     exact ⟨_, by first | rfl | (simp [errW_none, errW_some] <;> rfl) | (simp [*, errW_none, errW_some] <;> rfl), Kd.N_V (by (with_reducible repeat (first | apply Kd.N_alloc | apply Kd.N_drewN | apply Kd.N_drew)); exact Kd.N_mono (nf4_ (Kd.N_mono HO280.out (fun k_ hk => (⟨hk, hk.2.2.1⟩ : _ ∧ k_ ≠ gb257))) (fun _ hk => hk.2)) (fun _ hk => hk.1.1)), bw_ HB.out⟩
   ·rw [if_neg c13] at H
    have c13b0 := beq_eq_false_iff_ne.mpr c13
    have c13b1 := bne_iff_ne.mpr c13
    by_cases c47 : 1 < (l0_3.length : Int)
    ·rw [if_pos c47] at H
     have c47b0 := decide_eq_true c47
     have c47b1 : decide (1 < l0_3.length) = true := decide_eq_true (by omega)
     clear c47
     replace H := Option.bind_eq_some_iff.mp H
     obtain ⟨⟨t282, t283, t284, t285⟩, A480, H⟩ := H
     try dsimp only at H
     have A48 := A_ A480
     clear A480
     have HC49 := A_ H
     clear H
     go_enter Try.func58, Try.ntmps58
     go_upto_region 9 with (first | ((with_reducible refine gate_dst (N := 1) rfl ?_); refine bx_ 1 #[.int .i64 a0_0, .int .i64 a0_1, .string a0_2, .slice A0_3 l0_3.length c0_3] 29 ?_; intro gb256 hg w50 hbox hb; have n0_ := A_ (below_step (bw_ HB.out) hb); have n1_ := A_ (hbox); have n2_ := A_ ((d3_ : w.heap.size ≤ gb256)); have n3_ := n2_; clear HB; have HB := n0_; have BK256 := n1_; have GW256 := n2_; have GE256 := n3_; have GI256 := GeI.mk GE256.out; clear n0_ n1_ n2_ n3_; clear hb hbox hg) | ((with_reducible refine gate_dst (N := 2) rfl ?_); refine bx_ 2 #[.int .i64 0, .int .i64 0, .string (⟨#[]⟩ : ByteArray), .slice none 0 0] 29 ?_; intro gb257 hg w51 hbox hb; have n0_ := A_ (blk_below (bk_ BK256.out) hb); have n1_ := A_ (below_step (bw_ HB.out) hb); have n2_ := A_ (hbox); have n3_ := A_ ((d3_ : w.heap.size ≤ gb257)); have n4_ := n3_; have n5_ := A_ ((d34_ : gb256 ≠ gb257)); have n6_ := A_ n5_.out.symm; clear BK256; clear HB; have BK256 := n0_; have HB := n1_; have BK257 := n2_; have GW257 := n3_; have GE257 := n4_; have GI257 := GeI.mk GE257.out; have NB256_257 := n5_; have NB257_256 := n6_; clear n0_ n1_ n2_ n3_ n4_ n5_ n6_; clear hb hbox hg; have hnb52 := NB256_257.out; have hnc52 := NB257_256.out; obtain ⟨y53_0, y53_1, y53_2, y53_3, z53_0, z53_1, z53_2, z53_3⟩ := cz4_ BK256.out; have p264 : 0 ≤ (0 : Int) := (by omega); have q264 : 0 < (l0_3.length : Int) := of_decide_eq_true d1_; obtain ⟨ad264, A264_3, c264_3, e264, hx264_0, hx264_1, hx264_2, hx264_3, hl264_3, hi264_3⟩ := at_T29 HR0_3.out 0 p264 q264; cases e264; have qi264 : (0 < l0_3.length) = True := eq_true (by omega); (try rw [show ((0 : Int)).toNat = 0 from rfl] at hx264_0); (try rw [show 0 * 4 = 0 from rfl] at hx264_0); (try rw [Addr.add_zero'] at hx264_0); (try rw [show ((0 : Int)).toNat = 0 from rfl] at hx264_1); (try rw [show 0 * 4 = 0 from rfl] at hx264_1); (try rw [Addr.add_zero'] at hx264_1); (try rw [show ((0 : Int)).toNat = 0 from rfl] at hx264_2); (try rw [show 0 * 4 = 0 from rfl] at hx264_2); (try rw [Addr.add_zero'] at hx264_2); (try rw [show ((0 : Int)).toNat = 0 from rfl] at hx264_3); (try rw [show 0 * 4 = 0 from rfl] at hx264_3); (try rw [Addr.add_zero'] at hx264_3); replace hx264_0 := (HB.out.cell (World.block_lt_of_cell? w _ hx264_0)).trans hx264_0; replace hx264_1 := (HB.out.cell (World.block_lt_of_cell? w _ hx264_1)).trans hx264_1; replace hx264_2 := (HB.out.cell (World.block_lt_of_cell? w _ hx264_2)).trans hx264_2; replace hx264_3 := (HB.out.cell (World.block_lt_of_cell? w _ hx264_3)).trans hx264_3; have HR264_3 := A_ hi264_3; have HC264_3 := A_ hl264_3; clear hi264_3 hl264_3; replace p264 := eq_true p264; replace q264 := eq_true q264) | ((with_reducible refine gate_callee (f := 58) rfl ?_); refine gL_ (some 17) Try.func58 #[.agg #[.int .i64 ((rd_T29 l0_3 0).f0), .int .i64 ((rd_T29 l0_3 0).f1), .string ((rd_T29 l0_3 0).f2), .slice A264_3 ((rd_T29 l0_3 0).f3).length c264_3]] ?_; (with_reducible refine (ih k (by omega) ((rd_T29 l0_3 0).f0) ((rd_T29 l0_3 0).f1) ((rd_T29 l0_3 0).f2) _ _ ((rd_T29 l0_3 0).f3) t265 t266 t267 t268 _ ?side1 ?side2 A12.out).mono ?_); (case side1 => exact Kd.C_below HR264_3.out (bw_ HB.out)); (case side2 => exact HC264_3.out); rintro e w54 ⟨v269, rfl, ho0, hb⟩; refine ⟨_, rfl, ?_⟩; have HO270 := A_ (Kd.V_lower (Kd.V_mono (ok' := fun k_ => (w.heap.size ≤ k_) ∧ k_ ≠ gb256 ∧ k_ ≠ gb257) ho0 (fun k_ hk_ => ⟨(Nat.le_trans (below_size (bw_ HB.out)) hk_), (Kd.freshB (bk_ BK256.out) k_ hk_), (Kd.freshB (bk_ BK257.out) k_ hk_)⟩)) (below_size (bw_ HB.out))); replace BK256 := A_ (blk_below (bk_ BK256.out) hb); replace BK257 := A_ (blk_below (bk_ BK257.out) hb); replace HB := A_ (below_step (bw_ HB.out) hb); clear hb; (try clear ho0)) | ((with_reducible refine gate_dst (N := 3) rfl ?_); refine bx_ 3 #[.int .i64 0, .int .i64 0, .string (⟨#[]⟩ : ByteArray), .slice none 0 0] 29 ?_; intro gb271 hg w55 hbox hb; have n0_ := A_ (Kd.V_below (Kd.V_elderB (kv_ HO270.out) gb271 (Nat.le_of_eq hg.symm)) hb); have n1_ := A_ (blk_below (bk_ BK256.out) hb); have n2_ := A_ (blk_below (bk_ BK257.out) hb); have n3_ := A_ (below_step (bw_ HB.out) hb); have n4_ := A_ (hbox); have n5_ := A_ ((d3_ : w.heap.size ≤ gb271)); have n6_ := n5_; have n7_ := A_ ((d34_ : gb256 ≠ gb271)); have n8_ := A_ n7_.out.symm; have n9_ := A_ ((d44_ : gb257 ≠ gb271)); have n10_ := A_ n9_.out.symm; clear HO270; clear BK256; clear BK257; clear HB; have HO270 := n0_; have BK256 := n1_; have BK257 := n2_; have HB := n3_; have BK271 := n4_; have GW271 := n5_; have GE271 := n6_; have GI271 := GeI.mk GE271.out; have NB256_271 := n7_; have NB271_256 := n8_; have NB257_271 := n9_; have NB271_257 := n10_; clear n0_ n1_ n2_ n3_ n4_ n5_ n6_ n7_ n8_ n9_ n10_; clear hb hbox hg; have hnb56 := NB271_256.out; have hnc56 := NB256_271.out; have hnb57 := NB271_257.out; have hnc57 := NB257_271.out; obtain ⟨y58_0, y58_1, y58_2, y58_3, z58_0, z58_1, z58_2, z58_3⟩ := cz4_ BK271.out; obtain ⟨Ao59, co59, eo59⟩ := Kd.V_slice HO270.out; subst eo59; obtain ⟨y60_0, y60_1, y60_2, y60_3, z60_0, z60_1, z60_2, z60_3⟩ := cz4_ BK256.out; have p281 : 0 ≤ (1 : Int) := (by omega); have q281 : 1 < (l0_3.length : Int) := of_decide_eq_true d1_; obtain ⟨ad281, A281_3, c281_3, e281, hx281_0, hx281_1, hx281_2, hx281_3, hl281_3, hi281_3⟩ := at_T29 HR0_3.out 1 p281 q281; obtain rfl : ad264 = ad281 := (by injection e281); (try simp only [show (1 : Int).toNat = 1 from rfl, Nat.reduceMul, Nat.reduceEqDiff, Go.Addr.add, ↓reduceIte] at hx281_0); (try simp only [show (1 : Int).toNat = 1 from rfl, Nat.reduceMul, Nat.reduceEqDiff, Go.Addr.add, ↓reduceIte] at hx281_1); (try simp only [show (1 : Int).toNat = 1 from rfl, Nat.reduceMul, Nat.reduceEqDiff, Go.Addr.add, ↓reduceIte] at hx281_2); (try simp only [show (1 : Int).toNat = 1 from rfl, Nat.reduceMul, Nat.reduceEqDiff, Go.Addr.add, ↓reduceIte] at hx281_3); have qi281 : (1 < l0_3.length) = True := eq_true (by omega); (try rw [show ((1 : Int)).toNat = 1 from rfl] at hx281_0); (try rw [show 1 * 4 = 4 from rfl] at hx281_0); (try rw [show ((1 : Int)).toNat = 1 from rfl] at hx281_1); (try rw [show 1 * 4 = 4 from rfl] at hx281_1); (try rw [show ((1 : Int)).toNat = 1 from rfl] at hx281_2); (try rw [show 1 * 4 = 4 from rfl] at hx281_2); (try rw [show ((1 : Int)).toNat = 1 from rfl] at hx281_3); (try rw [show 1 * 4 = 4 from rfl] at hx281_3); have hn281_0 : ad264.block ≠ gb271 := Nat.ne_of_lt (Nat.lt_of_lt_of_le d38_ GW271.out); have hn281_1 : ad264.block ≠ gb271 := Nat.ne_of_lt (Nat.lt_of_lt_of_le d38_ GW271.out); have hn281_2 : ad264.block ≠ gb271 := Nat.ne_of_lt (Nat.lt_of_lt_of_le d38_ GW271.out); have hn281_3 : ad264.block ≠ gb271 := Nat.ne_of_lt (Nat.lt_of_lt_of_le d38_ GW271.out); replace hx281_0 := (HB.out.cell (World.block_lt_of_cell? w _ hx281_0)).trans hx281_0; replace hx281_1 := (HB.out.cell (World.block_lt_of_cell? w _ hx281_1)).trans hx281_1; replace hx281_2 := (HB.out.cell (World.block_lt_of_cell? w _ hx281_2)).trans hx281_2; replace hx281_3 := (HB.out.cell (World.block_lt_of_cell? w _ hx281_3)).trans hx281_3; have HR281_3 := A_ hi281_3; have HC281_3 := A_ hl281_3; clear hi281_3 hl281_3; replace hx281_0 := (cell_far (p := ⟨gb271, 0, none⟩) d33_ (.int .i64 t265)).trans hx281_0; replace hx281_1 := (cell_far (p := ⟨gb271, 0, none⟩) d33_ (.int .i64 t265)).trans hx281_1; replace hx281_2 := (cell_far (p := ⟨gb271, 0, none⟩) d33_ (.int .i64 t265)).trans hx281_2; replace hx281_3 := (cell_far (p := ⟨gb271, 0, none⟩) d33_ (.int .i64 t265)).trans hx281_3; replace hx281_0 := (cell_far (p := ⟨gb271, 1, none⟩) d32_ (.int .i64 t266)).trans hx281_0; replace hx281_1 := (cell_far (p := ⟨gb271, 1, none⟩) d32_ (.int .i64 t266)).trans hx281_1; replace hx281_2 := (cell_far (p := ⟨gb271, 1, none⟩) d32_ (.int .i64 t266)).trans hx281_2; replace hx281_3 := (cell_far (p := ⟨gb271, 1, none⟩) d32_ (.int .i64 t266)).trans hx281_3; replace hx281_0 := (cell_far (p := ⟨gb271, 2, none⟩) d31_ (.string t267)).trans hx281_0; replace hx281_1 := (cell_far (p := ⟨gb271, 2, none⟩) d31_ (.string t267)).trans hx281_1; replace hx281_2 := (cell_far (p := ⟨gb271, 2, none⟩) d31_ (.string t267)).trans hx281_2; replace hx281_3 := (cell_far (p := ⟨gb271, 2, none⟩) d31_ (.string t267)).trans hx281_3; replace hx281_0 := (cell_far (p := ⟨gb271, 3, none⟩) d30_ (.slice Ao59 t268.length co59)).trans hx281_0; replace hx281_1 := (cell_far (p := ⟨gb271, 3, none⟩) d30_ (.slice Ao59 t268.length co59)).trans hx281_1; replace hx281_2 := (cell_far (p := ⟨gb271, 3, none⟩) d30_ (.slice Ao59 t268.length co59)).trans hx281_2; replace hx281_3 := (cell_far (p := ⟨gb271, 3, none⟩) d30_ (.slice Ao59 t268.length co59)).trans hx281_3; clear hn281_0; clear hn281_1; clear hn281_2; clear hn281_3; replace p281 := eq_true p281; replace q281 := eq_true q281) | ((with_reducible refine gate_callee (f := 58) rfl ?_); refine gL_ (some 35) Try.func58 #[.agg #[.int .i64 ((rd_T29 l0_3 1).f0), .int .i64 ((rd_T29 l0_3 1).f1), .string ((rd_T29 l0_3 1).f2), .slice A281_3 ((rd_T29 l0_3 1).f3).length c281_3]] ?_; (with_reducible refine (ih k (by omega) ((rd_T29 l0_3 1).f0) ((rd_T29 l0_3 1).f1) ((rd_T29 l0_3 1).f2) _ _ ((rd_T29 l0_3 1).f3) t282 t283 t284 t285 _ ?side1 ?side2 A48.out).mono ?_); (case side1 => exact Kd.C_below HR281_3.out (bw_ HB.out)); (case side2 => exact HC281_3.out); rintro e w61 ⟨v286, rfl, ho0, hb⟩; refine ⟨_, rfl, ?_⟩; replace HO270 := A_ (Kd.V_below (kv_ (Kd.V_mono (vf4_ (Kd.V_mono HO270.out (fun k_ hk => (⟨hk, hk.2⟩ : _ ∧ k_ ≠ gb271))) (fun _ hk => hk.2)) (fun _ h_ => h_.1))) hb); have HO287 := A_ (Kd.V_lower (Kd.V_mono (ok' := fun k_ => (w.heap.size ≤ k_) ∧ k_ ≠ gb256 ∧ k_ ≠ gb257 ∧ k_ ≠ gb271) ho0 (fun k_ hk_ => ⟨(Nat.le_trans (below_size (bw_ HB.out)) hk_), (Kd.freshB (g := gb256) (o := .cells #[.int .i64 a0_0, .int .i64 a0_1, .string a0_2, .slice (some ad264) l0_3.length c0_3] 29 (0, 0)) d10_ k_ hk_), (Kd.freshB (g := gb257) (o := .cells #[.int .i64 0, .int .i64 0, .string (⟨#[]⟩ : ByteArray), .slice none 0 0] 29 (0, 0)) d9_ k_ hk_), (Kd.freshB (g := gb271) (o := .cells #[.int .i64 t265, .int .i64 t266, .string t267, .slice Ao59 t268.length co59] 29 (0, 0)) d46_ k_ hk_)⟩)) (below_size (bw_ HB.out))); replace BK256 := A_ (blk_below (g := gb256) (o := .cells #[.int .i64 a0_0, .int .i64 a0_1, .string a0_2, .slice (some ad264) l0_3.length c0_3] 29 (0, 0)) d10_ hb); replace BK257 := A_ (blk_below (g := gb257) (o := .cells #[.int .i64 0, .int .i64 0, .string (⟨#[]⟩ : ByteArray), .slice none 0 0] 29 (0, 0)) d9_ hb); replace BK271 := A_ (blk_below (g := gb271) (o := .cells #[.int .i64 t265, .int .i64 t266, .string t267, .slice Ao59 t268.length co59] 29 (0, 0)) d46_ hb); replace HB := A_ (below_step (bw_ HB.out) hb); clear hb; (try clear ho0)) | ((with_reducible refine gate_dst (N := 4) rfl ?_); refine bx_ 4 #[.int .i64 0, .int .i64 0, .string (⟨#[]⟩ : ByteArray), .slice none 0 0] 29 ?_; intro gb288 hg w62 hbox hb; have n0_ := A_ (Kd.V_below (Kd.V_elderB (kv_ HO270.out) gb288 (Nat.le_of_eq hg.symm)) hb); have n1_ := A_ (Kd.V_below (Kd.V_elderB (kv_ HO287.out) gb288 (Nat.le_of_eq hg.symm)) hb); have n2_ := A_ (blk_below (bk_ BK256.out) hb); have n3_ := A_ (blk_below (bk_ BK257.out) hb); have n4_ := A_ (blk_below (bk_ BK271.out) hb); have n5_ := A_ (below_step (bw_ HB.out) hb); have n6_ := A_ (hbox); have n7_ := A_ ((d3_ : w.heap.size ≤ gb288)); have n8_ := n7_; have n9_ := A_ ((d34_ : gb256 ≠ gb288)); have n10_ := A_ n9_.out.symm; have n11_ := A_ ((d44_ : gb257 ≠ gb288)); have n12_ := A_ n11_.out.symm; have n13_ := A_ ((by rw [hg]; exact Nat.ne_of_lt (blk_lt (bk_ BK271.out)) : gb271 ≠ gb288)); have n14_ := A_ n13_.out.symm; clear HO270; clear HO287; clear BK256; clear BK257; clear BK271; clear HB; have HO270 := n0_; have HO287 := n1_; have BK256 := n2_; have BK257 := n3_; have BK271 := n4_; have HB := n5_; have BK288 := n6_; have GW288 := n7_; have GE288 := n8_; have GI288 := GeI.mk GE288.out; have NB256_288 := n9_; have NB288_256 := n10_; have NB257_288 := n11_; have NB288_257 := n12_; have NB271_288 := n13_; have NB288_271 := n14_; clear n0_ n1_ n2_ n3_ n4_ n5_ n6_ n7_ n8_ n9_ n10_ n11_ n12_ n13_ n14_; clear hb hbox hg; have hnb63 := NB288_256.out; have hnc63 := NB256_288.out; have hnb64 := NB288_257.out; have hnc64 := NB257_288.out; have hnb65 := NB288_271.out; have hnc65 := NB271_288.out; obtain ⟨y66_0, y66_1, y66_2, y66_3, z66_0, z66_1, z66_2, z66_3⟩ := cz4_ BK288.out; obtain ⟨Ao67, co67, eo67⟩ := Kd.V_slice HO287.out; subst eo67))
     (try simp only [Act.put, List.setIfInBounds_toArray, List.set_cons_zero, List.set_cons_succ])
     go_cut [43] (fun v43 wc => ∃ (kq : Nat) (x43_48 : Bool), v43 = .bool x43_48 ∧ Aside0 (spec_l11Fold.j0 kq x43_48 a0_0 a0_1 a0_2 l0_3 t265 t266 t267 t268 t282 t283 t284 t285 = some (r1, r2, r3, r4)) ∧ Aside0 (kq ≤ k) ∧ Aside0 (Kd.V k29 29 wc w.heap.size (fun k_ => (w.heap.size ≤ k_) ∧ k_ ≠ gb256 ∧ k_ ≠ gb257 ∧ k_ ≠ gb271 ∧ k_ ≠ gb288) (.slice Ao59 t268.length co59) t268) ∧ Aside0 (Kd.V k29 29 wc w.heap.size (fun k_ => (w.heap.size ≤ k_) ∧ k_ ≠ gb256 ∧ k_ ≠ gb257 ∧ k_ ≠ gb271 ∧ k_ ≠ gb288) (.slice Ao67 t285.length co67) t285) ∧ Aside0 (wc.heap[gb256]? = some (.cells #[.int .i64 a0_0, .int .i64 a0_1, .string a0_2, (.slice (some ad264) l0_3.length c0_3)] 29 (0, 0))) ∧ Aside0 (wc.heap[gb257]? = some (.cells #[.int .i64 0, .int .i64 0, .string (⟨#[]⟩ : ByteArray), (.slice none 0 0)] 29 (0, 0))) ∧ Aside0 (wc.heap[gb271]? = some (.cells #[.int .i64 t265, .int .i64 t266, .string t267, (.slice Ao59 t268.length co59)] 29 (0, 0))) ∧ Aside0 (wc.heap[gb288]? = some (.cells #[.int .i64 t282, .int .i64 t283, .string t284, (.slice Ao67 t285.length co67)] 29 (0, 0))) ∧ Aside0 (Below w.heap.size w wc))
     case first =>
      have H := HC49.out
      clear HC49
      by_cases c68 : t265 = 1
      ·rw [if_pos c68] at H
       have c68b0 := beq_iff_eq.mpr c68
       have c68b1 := bne_eq_false_iff_eq.mpr c68
       clear c68
       (first | rw [c68b0] | (simp only [i64_w, i32_w]; rw [c68b0]) | skip)
       have H' := A_ H
       clear H
       have hnb69 := NB271_256.out
       have hnc69 := NB256_271.out
       have hnb70 := NB271_257.out
       have hnc70 := NB257_271.out
       have hnb71 := NB271_288.out
       have hnc71 := NB288_271.out
       obtain ⟨y72_0, y72_1, y72_2, y72_3, z72_0, z72_1, z72_2, z72_3⟩ := cz4_ BK271.out
       have hnb73 := NB288_256.out
       have hnc73 := NB256_288.out
       have hnb74 := NB288_257.out
       have hnc74 := NB257_288.out
       obtain ⟨y75_0, y75_1, y75_2, y75_3, z75_0, z75_1, z75_2, z75_3⟩ := cz4_ BK288.out
       go_wp2
       go_meet
       case rel => exact ⟨_, ((t282 == 1)), d4_, H', ⟨by first | omega | exact Nat.le_refl _⟩, ⟨kv_ (Kd.V_mono (vf4_ (Kd.V_mono HO270.out (fun k_ hk => (⟨hk, hk.2⟩ : _ ∧ k_ ≠ gb288))) (fun _ hk => hk.2)) (fun _ hk => ⟨hk.1.1.1.1, ⟨hk.1.1.1.2.1, ⟨hk.1.1.1.2.2, ⟨hk.1.1.2, hk.1.2⟩⟩⟩⟩))⟩, ⟨kv_ (Kd.V_mono (vf4_ (Kd.V_mono HO287.out (fun k_ hk => (⟨hk, hk.2⟩ : _ ∧ k_ ≠ gb288))) (fun _ hk => hk.2)) (fun _ hk => ⟨hk.1.1.1, ⟨hk.1.1.2.1, ⟨hk.1.1.2.2.1, ⟨hk.1.1.2.2.2, hk.1.2⟩⟩⟩⟩))⟩, ⟨by refine bk_ ?_; refine blk_far ?_ NB256_288.out _; refine bk_ ?_; refine blk_far ?_ NB256_288.out _; refine bk_ ?_; refine blk_far ?_ NB256_288.out _; refine bk_ ?_; refine blk_far ?_ NB256_288.out _; refine bk_ ?_; exact BK256.out⟩, ⟨by refine bk_ ?_; refine blk_far ?_ NB257_288.out _; refine bk_ ?_; refine blk_far ?_ NB257_288.out _; refine bk_ ?_; refine blk_far ?_ NB257_288.out _; refine bk_ ?_; refine blk_far ?_ NB257_288.out _; refine bk_ ?_; exact BK257.out⟩, ⟨by refine bk_ ?_; refine blk_far ?_ NB271_288.out _; refine bk_ ?_; refine blk_far ?_ NB271_288.out _; refine bk_ ?_; refine blk_far ?_ NB271_288.out _; refine bk_ ?_; refine blk_far ?_ NB271_288.out _; refine bk_ ?_; exact BK271.out⟩, ⟨by exact bk_ (bp4_ (bk_ BK288.out))⟩, ⟨bw_ HB.out⟩⟩
      ·rw [if_neg c68] at H
       have c68b0 := beq_eq_false_iff_ne.mpr c68
       have c68b1 := bne_iff_ne.mpr c68
       (first | rw [c68b0] | (simp only [i64_w, i32_w]; rw [c68b0]) | skip)
       have H' := A_ H
       clear H
       have hnb76 := NB271_256.out
       have hnc76 := NB256_271.out
       have hnb77 := NB271_257.out
       have hnc77 := NB257_271.out
       have hnb78 := NB271_288.out
       have hnc78 := NB288_271.out
       obtain ⟨y79_0, y79_1, y79_2, y79_3, z79_0, z79_1, z79_2, z79_3⟩ := cz4_ BK271.out
       go_wp2
       go_meet
       case rel => exact ⟨_, (false), d4_, H', ⟨by first | omega | exact Nat.le_refl _⟩, ⟨kv_ (Kd.V_mono (vf4_ (Kd.V_mono HO270.out (fun k_ hk => (⟨hk, hk.2⟩ : _ ∧ k_ ≠ gb288))) (fun _ hk => hk.2)) (fun _ hk => ⟨hk.1.1.1.1, ⟨hk.1.1.1.2.1, ⟨hk.1.1.1.2.2, ⟨hk.1.1.2, hk.1.2⟩⟩⟩⟩))⟩, ⟨kv_ (Kd.V_mono (vf4_ (Kd.V_mono HO287.out (fun k_ hk => (⟨hk, hk.2⟩ : _ ∧ k_ ≠ gb288))) (fun _ hk => hk.2)) (fun _ hk => ⟨hk.1.1.1, ⟨hk.1.1.2.1, ⟨hk.1.1.2.2.1, ⟨hk.1.1.2.2.2, hk.1.2⟩⟩⟩⟩))⟩, ⟨by refine bk_ ?_; refine blk_far ?_ NB256_288.out _; refine bk_ ?_; refine blk_far ?_ NB256_288.out _; refine bk_ ?_; refine blk_far ?_ NB256_288.out _; refine bk_ ?_; refine blk_far ?_ NB256_288.out _; refine bk_ ?_; exact BK256.out⟩, ⟨by refine bk_ ?_; refine blk_far ?_ NB257_288.out _; refine bk_ ?_; refine blk_far ?_ NB257_288.out _; refine bk_ ?_; refine blk_far ?_ NB257_288.out _; refine bk_ ?_; refine blk_far ?_ NB257_288.out _; refine bk_ ?_; exact BK257.out⟩, ⟨by refine bk_ ?_; refine blk_far ?_ NB271_288.out _; refine bk_ ?_; refine blk_far ?_ NB271_288.out _; refine bk_ ?_; refine blk_far ?_ NB271_288.out _; refine bk_ ?_; refine blk_far ?_ NB271_288.out _; refine bk_ ?_; exact BK271.out⟩, ⟨by exact bk_ (bp4_ (bk_ BK288.out))⟩, ⟨bw_ HB.out⟩⟩
     case rest =>
      clear HC49
      try clear c1
      try clear c2
      try clear c2b0
      try clear c2b1
      try clear c2b2
      try clear p2
      try clear q2
      try clear hx2
      try clear qi2
      try clear c3
      try clear c4
      try clear c5
      try clear c6
      try clear p6
      try clear c7
      try clear c11
      try clear c11b0
      try clear c11b1
      try clear c13
      try clear c13b0
      try clear c13b1
      try clear c14
      try clear c14b0
      try clear c14b1
      try clear c18
      try clear c22
      try clear c23
      try clear c26
      try clear p26
      try clear q26
      try clear hx26
      try clear qi26
      try clear c28
      try clear p28
      try clear q28
      try clear hx28
      try clear qi28
      try clear c32
      try clear c36
      try clear c37
      try clear c47
      try clear c47b0
      try clear c47b1
      try clear c52
      try clear c56
      try clear c57
      try clear c58
      try clear c63
      try clear c64
      try clear p64
      try clear c65
      try clear c68
      try clear c68b0
      try clear c68b1
      try clear c69
      try clear c70
      try clear c71
      try clear c73
      try clear c74
      try clear c76
      try clear c77
      try clear c78
      try clear c79
      try clear y19_0 y19_1 y19_2 y19_3 z19_0 z19_1 z19_2 z19_3
      try clear y24_0 y24_1 y24_2 y24_3 z24_0 z24_1 z24_2 z24_3
      try clear y26_0 y26_1 y26_2 y26_3 z26_0 z26_1 z26_2 z26_3
      try clear y28_0 y28_1 y28_2 y28_3 z28_0 z28_1 z28_2 z28_3
      try clear y33_0 y33_1 y33_2 y33_3 z33_0 z33_1 z33_2 z33_3
      try clear y38_0 y38_1 y38_2 y38_3 z38_0 z38_1 z38_2 z38_3
      try clear y41_0 y41_1 y41_2 y41_3 z41_0 z41_1 z41_2 z41_3
      try clear y42_0 y42_1 y42_2 y42_3 z42_0 z42_1 z42_2 z42_3
      try clear y46_0 y46_1 y46_2 y46_3 z46_0 z46_1 z46_2 z46_3
      try clear y53_0 y53_1 y53_2 y53_3 z53_0 z53_1 z53_2 z53_3
      try clear y58_0 y58_1 y58_2 y58_3 z58_0 z58_1 z58_2 z58_3
      try clear y60_0 y60_1 y60_2 y60_3 z60_0 z60_1 z60_2 z60_3
      try clear y66_0 y66_1 y66_2 y66_3 z66_0 z66_1 z66_2 z66_3
      try clear y72_0 y72_1 y72_2 y72_3 z72_0 z72_1 z72_2 z72_3
      try clear y75_0 y75_1 y75_2 y75_3 z75_0 z75_1 z75_2 z75_3
      try clear y79_0 y79_1 y79_2 y79_3 z79_0 z79_1 z79_2 z79_3
      try clear y7_0 y7_1 y7_2 y7_3 z7_0 z7_1 z7_2 z7_3
      try clear y9_0 y9_1 y9_2 y9_3 z9_0 z9_1 z9_2 z9_3
      try clear hx264_0 hx264_1 hx264_2 hx264_3
      try clear hx281_0 hx281_1 hx281_2 hx281_3
      try clear p264
      try clear p281
      try clear q264
      try clear q281
      obtain ⟨kq, x43_48, rfl, HA, HJ48, HO_272003, HO_289003, BK256, BK257, BK271, BK288, HB⟩ := hcut
      cases kq with
      | zero => exact absurd HA.out (by simp [spec_l11Fold.j0])
      | succ kj48 =>
       have H := HA.out
       clear HA
       simp only [spec_l11Fold.j0] at H
       have HC80 := A_ H
       clear H
       go_upto_if 43 with (fail)
       go_cut [] (fun wc => ∃ (kq : Nat) (x258000_79 : Int) (x258001_79 : Int) (x258002_79 : ByteArray), Aside0 (spec_l11Fold.j1 kq a0_0 a0_1 a0_2 l0_3 t265 t266 t267 t268 t282 t283 t284 t285 = some (r1, r2, r3, r4)) ∧ Aside0 (kq ≤ kj48) ∧ Aside0 (Kd.V k29 29 wc w.heap.size (fun k_ => (w.heap.size ≤ k_) ∧ k_ ≠ gb256 ∧ k_ ≠ gb257 ∧ k_ ≠ gb271 ∧ k_ ≠ gb288) (.slice Ao59 t268.length co59) t268) ∧ Aside0 (Kd.V k29 29 wc w.heap.size (fun k_ => (w.heap.size ≤ k_) ∧ k_ ≠ gb256 ∧ k_ ≠ gb257 ∧ k_ ≠ gb271 ∧ k_ ≠ gb288) (.slice Ao67 t285.length co67) t285) ∧ Aside0 (wc.heap[gb256]? = some (.cells #[.int .i64 a0_0, .int .i64 a0_1, .string a0_2, (.slice (some ad264) l0_3.length c0_3)] 29 (0, 0))) ∧ Aside0 (wc.heap[gb257]? = some (.cells #[.int .i64 x258000_79, .int .i64 x258001_79, .string x258002_79, (.slice none 0 0)] 29 (0, 0))) ∧ Aside0 (wc.heap[gb271]? = some (.cells #[.int .i64 t265, .int .i64 t266, .string t267, (.slice Ao59 t268.length co59)] 29 (0, 0))) ∧ Aside0 (wc.heap[gb288]? = some (.cells #[.int .i64 t282, .int .i64 t283, .string t284, (.slice Ao67 t285.length co67)] 29 (0, 0))) ∧ Aside0 (Below w.heap.size w wc))
       case first =>
        have H := HC80.out
        clear HC80
        by_cases c81 : x43_48 = true
        ·subst c81
         rw [if_pos rfl] at H
         replace H := Option.bind_eq_some_iff.mp H
         obtain ⟨⟨t289, t290⟩, A820, H⟩ := H
         try dsimp only at H
         have A82 := A_ A820
         clear A820
         by_cases c83 : t290 = true
         ·subst c83
          rw [if_pos rfl] at H
          replace H := Option.bind_eq_some_iff.mp H
          obtain ⟨⟨t291, t292, t293, t294⟩, A840, H⟩ := H
          try dsimp only at H
          have A84 := A_ A840
          clear A840
          simp only [Option.some.injEq, Prod.mk.injEq] at H
          obtain ⟨rfl, rfl, rfl, rfl⟩ := H
          have hnb85 := NB256_257.out
          have hnc85 := NB257_256.out
          have hnb86 := NB256_271.out
          have hnc86 := NB271_256.out
          have hnb87 := NB256_288.out
          have hnc87 := NB288_256.out
          obtain ⟨y88_0, y88_1, y88_2, y88_3, z88_0, z88_1, z88_2, z88_3⟩ := cz4_ BK256.out
          have hnb89 := NB271_257.out
          have hnc89 := NB257_271.out
          have hnb90 := NB271_288.out
          have hnc90 := NB288_271.out
          obtain ⟨y91_0, y91_1, y91_2, y91_3, z91_0, z91_1, z91_2, z91_3⟩ := cz4_ BK271.out
          have hnb92 := NB288_257.out
          have hnc92 := NB257_288.out
          obtain ⟨y93_0, y93_1, y93_2, y93_3, z93_0, z93_1, z93_2, z93_3⟩ := cz4_ BK288.out
          go_wp2_with (first | ((with_reducible refine gate_callee (f := 75) rfl ?_); refine gL_ (some 51) Try.func75 #[.int .i64 a0_0, .int .i64 t266, .int .i64 t283] ?_; (with_reducible refine (spec_l11Two.calls a0_0 t266 t283 t289 true _ A82.out).mono ?_); rintro e w' ⟨rfl, ⟨nd, rfl⟩⟩; refine ⟨_, rfl, ?_⟩; (try (rw [drewN_self wc]; generalize hq_ : World.drewN wc _ = wc; have n0_ : Aside0 (Kd.V k29 29 wc w.heap.size (fun k_ => (w.heap.size ≤ k_) ∧ k_ ≠ gb256 ∧ k_ ≠ gb257 ∧ k_ ≠ gb271 ∧ k_ ≠ gb288) (.slice Ao59 t268.length co59) t268) := ⟨by rw [← hq_]; exact (kv_ HO_272003.out)⟩; have n1_ : Aside0 (Kd.V k29 29 wc w.heap.size (fun k_ => (w.heap.size ≤ k_) ∧ k_ ≠ gb256 ∧ k_ ≠ gb257 ∧ k_ ≠ gb271 ∧ k_ ≠ gb288) (.slice Ao67 t285.length co67) t285) := ⟨by rw [← hq_]; exact (kv_ HO_289003.out)⟩; have n2_ := A_ (bq_ hq_ BK256.out); have n3_ := A_ (bq_ hq_ BK257.out); have n4_ := A_ (bq_ hq_ BK271.out); have n5_ := A_ (bq_ hq_ BK288.out); have n6_ := A_ (wq_ hq_ HB.out); clear HO_272003 HO_289003 BK256 BK257 BK271 BK288 HB hq_; have HO_272003 := n0_; have HO_289003 := n1_; have BK256 := n2_; have BK257 := n3_; have BK271 := n4_; have BK288 := n5_; have HB := n6_; clear n0_ n1_ n2_ n3_ n4_ n5_ n6_))) | ((with_reducible refine gate_callee (f := 79) rfl ?_); refine gL_ (some 56) Try.func79 #[.int .i64 t289] ?_; (with_reducible refine (spec_l10Num.calls t289 t291 t292 t293 t294 _ A84.out).mono ?_); rintro e w94 ⟨v295, rfl, ho0, hb⟩; refine ⟨_, rfl, ?_⟩; replace HO_272003 := A_ (Kd.V_elder' (kv_ HO_272003.out) d8_ hb); replace HO_289003 := A_ (Kd.V_elder' (kv_ HO_289003.out) d8_ hb); have HO296 := A_ (Kd.N_lower (Kd.N_mono (ok' := fun k_ => (w.heap.size ≤ k_) ∧ k_ ≠ gb256 ∧ k_ ≠ gb257 ∧ k_ ≠ gb271 ∧ k_ ≠ gb288) (Kd.R_N (Kd.R_bound ho0)) (fun k_ hk_ => ⟨(Nat.le_trans (below_size (bw_ HB.out)) hk_.2.1), (Kd.freshB (bk_ BK256.out) k_ hk_.2.1), (Kd.freshB (bk_ BK257.out) k_ hk_.2.1), (Kd.freshB (bk_ BK271.out) k_ hk_.2.1), (Kd.freshB (bk_ BK288.out) k_ hk_.2.1)⟩)) (below_size (bw_ HB.out))); replace BK256 := A_ (blk_below (bk_ BK256.out) hb); replace BK257 := A_ (blk_below (bk_ BK257.out) hb); replace BK271 := A_ (blk_below (bk_ BK271.out) hb); replace BK288 := A_ (blk_below (bk_ BK288.out) hb); replace HB := A_ (below_step (bw_ HB.out) hb); clear hb; (try clear ho0); obtain ⟨y95_0, y95_1, y95_2, y95_3, z95_0, z95_1, z95_2, z95_3⟩ := cz4_ BK257.out; obtain ⟨Ao96, co96, eo96⟩ := Kd.N_slice HO296.out; subst eo96))
          refine bodyPost_ret (results_cell_row rfl _ _ gb257 29 #[.int .i64 t291, .int .i64 t292, .string t293, .slice Ao96 t294.length co96] (0, 0) _ rfl ?hb_ Try.underlying29 rfl (by kernel_rfl)) rfl ?_
          (case hb_ => exact bk_ (bp4_ (bk_ BK257.out)))
          exact ⟨_, by first | rfl | (simp [errW_none, errW_some] <;> rfl) | (simp [*, errW_none, errW_some] <;> rfl), Kd.N_V (by (with_reducible repeat (first | apply Kd.N_alloc | apply Kd.N_drewN | apply Kd.N_drew)); exact Kd.N_mono (nf4_ (Kd.N_mono HO296.out (fun k_ hk => (⟨hk, hk.2.2.1⟩ : _ ∧ k_ ≠ gb257))) (fun _ hk => hk.2)) (fun _ hk => hk.1.1)), bw_ HB.out⟩
         ·replace c83 := Bool.eq_false_iff.mpr c83
          subst c83
          rw [if_neg (show ¬ (false = true) by decide)] at H
          have H' := A_ H
          clear H
          have hnb97 := NB256_257.out
          have hnc97 := NB257_256.out
          have hnb98 := NB256_271.out
          have hnc98 := NB271_256.out
          have hnb99 := NB256_288.out
          have hnc99 := NB288_256.out
          obtain ⟨y100_0, y100_1, y100_2, y100_3, z100_0, z100_1, z100_2, z100_3⟩ := cz4_ BK256.out
          have hnb101 := NB271_257.out
          have hnc101 := NB257_271.out
          have hnb102 := NB271_288.out
          have hnc102 := NB288_271.out
          obtain ⟨y103_0, y103_1, y103_2, y103_3, z103_0, z103_1, z103_2, z103_3⟩ := cz4_ BK271.out
          have hnb104 := NB288_257.out
          have hnc104 := NB257_288.out
          obtain ⟨y105_0, y105_1, y105_2, y105_3, z105_0, z105_1, z105_2, z105_3⟩ := cz4_ BK288.out
          go_wp2_with (first | ((with_reducible refine gate_callee (f := 75) rfl ?_); refine gL_ (some 51) Try.func75 #[.int .i64 a0_0, .int .i64 t266, .int .i64 t283] ?_; (with_reducible refine (spec_l11Two.calls a0_0 t266 t283 t289 false _ A82.out).mono ?_); rintro e w' ⟨rfl, ⟨nd, rfl⟩⟩; refine ⟨_, rfl, ?_⟩))
          go_meet
          case rel => exact ⟨_, (0), (0), ((⟨#[]⟩ : ByteArray)), H', ⟨by have := HJ48.out; first | omega | exact Nat.le_refl _⟩, ⟨kv_ HO_272003.out⟩, ⟨kv_ HO_289003.out⟩, ⟨by refine bk_ ?_; exact BK256.out⟩, ⟨by refine bk_ ?_; exact BK257.out⟩, ⟨by refine bk_ ?_; exact BK271.out⟩, ⟨by refine bk_ ?_; exact BK288.out⟩, ⟨bw_ HB.out⟩⟩
        ·replace c81 := Bool.eq_false_iff.mpr c81
         subst c81
         rw [if_neg (show ¬ (false = true) by decide)] at H
         have H' := A_ H
         clear H
         go_wp2
         go_meet
         case rel => exact ⟨_, (0), (0), ((⟨#[]⟩ : ByteArray)), H', ⟨by have := HJ48.out; first | omega | exact Nat.le_refl _⟩, ⟨kv_ HO_272003.out⟩, ⟨kv_ HO_289003.out⟩, ⟨by refine bk_ ?_; exact BK256.out⟩, ⟨by refine bk_ ?_; exact BK257.out⟩, ⟨by refine bk_ ?_; exact BK271.out⟩, ⟨by refine bk_ ?_; exact BK288.out⟩, ⟨bw_ HB.out⟩⟩
       case rest =>
        clear HC80
        try clear c1
        try clear c2
        try clear c2b0
        try clear c2b1
        try clear c2b2
        try clear p2
        try clear q2
        try clear hx2
        try clear qi2
        try clear c3
        try clear c4
        try clear c5
        try clear c6
        try clear p6
        try clear c7
        try clear c8
        try clear c9
        try clear c10
        try clear c11
        try clear c11b0
        try clear c11b1
        try clear c13
        try clear c13b0
        try clear c13b1
        try clear c14
        try clear c14b0
        try clear c14b1
        try clear c18
        try clear c22
        try clear c23
        try clear c26
        try clear p26
        try clear q26
        try clear hx26
        try clear qi26
        try clear c28
        try clear p28
        try clear q28
        try clear hx28
        try clear qi28
        try clear c32
        try clear c36
        try clear c37
        try clear c47
        try clear c47b0
        try clear c47b1
        try clear c52
        try clear c56
        try clear c57
        try clear c58
        try clear c63
        try clear c64
        try clear p64
        try clear c65
        try clear c68
        try clear c68b0
        try clear c68b1
        try clear c69
        try clear c70
        try clear c71
        try clear c73
        try clear c74
        try clear c75
        try clear c76
        try clear c77
        try clear c78
        try clear c79
        try clear c81
        try clear c83
        try clear c85
        try clear c86
        try clear c87
        try clear c89
        try clear c90
        try clear c92
        try clear c97
        try clear c98
        try clear c99
        try clear c101
        try clear c102
        try clear c104
        try clear y100_0 y100_1 y100_2 y100_3 z100_0 z100_1 z100_2 z100_3
        try clear y103_0 y103_1 y103_2 y103_3 z103_0 z103_1 z103_2 z103_3
        try clear y105_0 y105_1 y105_2 y105_3 z105_0 z105_1 z105_2 z105_3
        try clear y19_0 y19_1 y19_2 y19_3 z19_0 z19_1 z19_2 z19_3
        try clear y24_0 y24_1 y24_2 y24_3 z24_0 z24_1 z24_2 z24_3
        try clear y26_0 y26_1 y26_2 y26_3 z26_0 z26_1 z26_2 z26_3
        try clear y28_0 y28_1 y28_2 y28_3 z28_0 z28_1 z28_2 z28_3
        try clear y33_0 y33_1 y33_2 y33_3 z33_0 z33_1 z33_2 z33_3
        try clear y38_0 y38_1 y38_2 y38_3 z38_0 z38_1 z38_2 z38_3
        try clear y41_0 y41_1 y41_2 y41_3 z41_0 z41_1 z41_2 z41_3
        try clear y42_0 y42_1 y42_2 y42_3 z42_0 z42_1 z42_2 z42_3
        try clear y46_0 y46_1 y46_2 y46_3 z46_0 z46_1 z46_2 z46_3
        try clear y53_0 y53_1 y53_2 y53_3 z53_0 z53_1 z53_2 z53_3
        try clear y58_0 y58_1 y58_2 y58_3 z58_0 z58_1 z58_2 z58_3
        try clear y60_0 y60_1 y60_2 y60_3 z60_0 z60_1 z60_2 z60_3
        try clear y66_0 y66_1 y66_2 y66_3 z66_0 z66_1 z66_2 z66_3
        try clear y72_0 y72_1 y72_2 y72_3 z72_0 z72_1 z72_2 z72_3
        try clear y75_0 y75_1 y75_2 y75_3 z75_0 z75_1 z75_2 z75_3
        try clear y79_0 y79_1 y79_2 y79_3 z79_0 z79_1 z79_2 z79_3
        try clear y7_0 y7_1 y7_2 y7_3 z7_0 z7_1 z7_2 z7_3
        try clear y88_0 y88_1 y88_2 y88_3 z88_0 z88_1 z88_2 z88_3
        try clear y91_0 y91_1 y91_2 y91_3 z91_0 z91_1 z91_2 z91_3
        try clear y93_0 y93_1 y93_2 y93_3 z93_0 z93_1 z93_2 z93_3
        try clear y95_0 y95_1 y95_2 y95_3 z95_0 z95_1 z95_2 z95_3
        try clear y9_0 y9_1 y9_2 y9_3 z9_0 z9_1 z9_2 z9_3
        try clear hx264_0 hx264_1 hx264_2 hx264_3
        try clear hx281_0 hx281_1 hx281_2 hx281_3
        try clear p2
        try clear p26
        try clear p264
        try clear p28
        try clear p281
        try clear p6
        try clear p64
        try clear q2
        try clear q26
        try clear q264
        try clear q28
        try clear q281
        obtain ⟨kq, x258000_79, x258001_79, x258002_79, HA, HJ79, HO_272003, HO_289003, BK256, BK257, BK271, BK288, HB⟩ := hcut
        cases kq with
        | zero => exact absurd HA.out (by simp [spec_l11Fold.j1])
        | succ kj79 =>
         have H := HA.out
         clear HA
         simp only [spec_l11Fold.j1] at H
         by_cases c106 : a0_0 = 6
         ·rw [if_pos c106] at H
          have c106b0 := beq_iff_eq.mpr c106
          have c106b1 := bne_eq_false_iff_eq.mpr c106
          clear c106
          replace H := Option.bind_eq_some_iff.mp H
          obtain ⟨⟨t297, t298, t299, t300⟩, A1070, H⟩ := H
          try dsimp only at H
          have A107 := A_ A1070
          clear A1070
          simp only [Option.some.injEq, Prod.mk.injEq] at H
          obtain ⟨rfl, rfl, rfl, rfl⟩ := H
          have hnb108 := NB256_257.out
          have hnc108 := NB257_256.out
          have hnb109 := NB256_271.out
          have hnc109 := NB271_256.out
          have hnb110 := NB256_288.out
          have hnc110 := NB288_256.out
          obtain ⟨y111_0, y111_1, y111_2, y111_3, z111_0, z111_1, z111_2, z111_3⟩ := cz4_ BK256.out
          have hnb112 := NB271_257.out
          have hnc112 := NB257_271.out
          have hnb113 := NB271_288.out
          have hnc113 := NB288_271.out
          obtain ⟨y114_0, y114_1, y114_2, y114_3, z114_0, z114_1, z114_2, z114_3⟩ := cz4_ BK271.out
          have hnb115 := NB288_257.out
          have hnc115 := NB257_288.out
          obtain ⟨y116_0, y116_1, y116_2, y116_3, z116_0, z116_1, z116_2, z116_3⟩ := cz4_ BK288.out
          go_wp2_with (first | ((with_reducible refine gate_callee (f := 80) rfl ?_); refine gL_ (some 63) Try.func80 #[.agg #[.int .i64 t265, .int .i64 t266, .string t267, .slice Ao59 t268.length co59], .agg #[.int .i64 t282, .int .i64 t283, .string t284, .slice Ao67 t285.length co67]] ?_; (with_reducible refine (spec_l11Sub.calls t265 t266 t267 (fun k_ => ((w.heap.size ≤ k_) ∧ (k_ ≠ gb256 ∧ (k_ ≠ gb257 ∧ (k_ ≠ gb271 ∧ k_ ≠ gb288))))) _ _ t268 t282 t283 t284 (fun k_ => ((w.heap.size ≤ k_) ∧ (k_ ≠ gb256 ∧ (k_ ≠ gb257 ∧ (k_ ≠ gb271 ∧ k_ ≠ gb288))))) _ _ t285 t297 t298 t299 t300 _ ?side1 ?side2 A107.out).mono ?_); (case side1 => exact HO_272003.out); (case side2 => exact HO_289003.out); rintro e w117 ⟨v301, rfl, ho0, hb⟩; refine ⟨_, rfl, ?_⟩; replace HO_272003 := A_ (Kd.V_below (kv_ HO_272003.out) hb); replace HO_289003 := A_ (Kd.V_below (kv_ HO_289003.out) hb); have HO302 := A_ (Kd.V_lower (Kd.V_mono (ok' := fun k_ => (w.heap.size ≤ k_) ∧ k_ ≠ gb256 ∧ k_ ≠ gb257 ∧ k_ ≠ gb271 ∧ k_ ≠ gb288) ho0 (fun k_ hk_ => ⟨Or.elim hk_ (fun hs_ => Or.elim hs_ (fun hs_ => hs_.1) (fun hs_ => hs_.1)) (fun hn_ => (Nat.le_trans (below_size (bw_ HB.out)) hn_)), Or.elim hk_ (fun hs_ => Or.elim hs_ (fun hs_ => hs_.2.1) (fun hs_ => hs_.2.1)) (fun hn_ => (Kd.freshB (bk_ BK256.out) k_ hn_)), Or.elim hk_ (fun hs_ => Or.elim hs_ (fun hs_ => hs_.2.2.1) (fun hs_ => hs_.2.2.1)) (fun hn_ => (Kd.freshB (bk_ BK257.out) k_ hn_)), Or.elim hk_ (fun hs_ => Or.elim hs_ (fun hs_ => hs_.2.2.2.1) (fun hs_ => hs_.2.2.2.1)) (fun hn_ => (Kd.freshB (bk_ BK271.out) k_ hn_)), Or.elim hk_ (fun hs_ => Or.elim hs_ (fun hs_ => hs_.2.2.2.2) (fun hs_ => hs_.2.2.2.2)) (fun hn_ => (Kd.freshB (bk_ BK288.out) k_ hn_))⟩)) (below_size (bw_ HB.out))); replace BK256 := A_ (blk_below (bk_ BK256.out) hb); replace BK257 := A_ (blk_below (bk_ BK257.out) hb); replace BK271 := A_ (blk_below (bk_ BK271.out) hb); replace BK288 := A_ (blk_below (bk_ BK288.out) hb); replace HB := A_ (below_step (bw_ HB.out) hb); clear hb; (try clear ho0); obtain ⟨y118_0, y118_1, y118_2, y118_3, z118_0, z118_1, z118_2, z118_3⟩ := cz4_ BK257.out; obtain ⟨Ao119, co119, eo119⟩ := Kd.V_slice HO302.out; subst eo119))
          refine bodyPost_ret (results_cell_row rfl _ _ gb257 29 #[.int .i64 t297, .int .i64 t298, .string t299, .slice Ao119 t300.length co119] (0, 0) _ rfl ?hb_ Try.underlying29 rfl (by kernel_rfl)) rfl ?_
          (case hb_ => exact bk_ (bp4_ (bk_ BK257.out)))
          exact ⟨_, by first | rfl | (simp [errW_none, errW_some] <;> rfl) | (simp [*, errW_none, errW_some] <;> rfl), kv_ (Kd.V_mono (vf4_ (Kd.V_mono HO302.out (fun k_ hk => (⟨hk, hk.2.2.1⟩ : _ ∧ k_ ≠ gb257))) (fun _ hk => hk.2)) (fun _ hk => hk.1.1)), bw_ HB.out⟩
         ·rw [if_neg c106] at H
          have c106b0 := beq_eq_false_iff_ne.mpr c106
          have c106b1 := bne_iff_ne.mpr c106
          have HC120 := A_ H
          clear H
          have hnb121 := NB256_257.out
          have hnc121 := NB257_256.out
          have hnb122 := NB256_271.out
          have hnc122 := NB271_256.out
          have hnb123 := NB256_288.out
          have hnc123 := NB288_256.out
          obtain ⟨y124_0, y124_1, y124_2, y124_3, z124_0, z124_1, z124_2, z124_3⟩ := cz4_ BK256.out
          go_upto_region 15 with (fail)
          go_cut [64] (fun v64 wc => ∃ (kq : Nat) (x64_119 : Bool), v64 = .bool x64_119 ∧ Aside0 (spec_l11Fold.j2 kq x64_119 a0_0 a0_1 a0_2 l0_3 t265 t266 t267 t268 t282 t283 t284 t285 = some (r1, r2, r3, r4)) ∧ Aside0 (kq ≤ kj79) ∧ Aside0 (Kd.V k29 29 wc w.heap.size (fun k_ => (w.heap.size ≤ k_) ∧ k_ ≠ gb256 ∧ k_ ≠ gb257 ∧ k_ ≠ gb271 ∧ k_ ≠ gb288) (.slice Ao59 t268.length co59) t268) ∧ Aside0 (Kd.V k29 29 wc w.heap.size (fun k_ => (w.heap.size ≤ k_) ∧ k_ ≠ gb256 ∧ k_ ≠ gb257 ∧ k_ ≠ gb271 ∧ k_ ≠ gb288) (.slice Ao67 t285.length co67) t285) ∧ Aside0 (wc.heap[gb256]? = some (.cells #[.int .i64 a0_0, .int .i64 a0_1, .string a0_2, (.slice (some ad264) l0_3.length c0_3)] 29 (0, 0))) ∧ Aside0 (wc.heap[gb257]? = some (.cells #[.int .i64 x258000_79, .int .i64 x258001_79, .string x258002_79, (.slice none 0 0)] 29 (0, 0))) ∧ Aside0 (wc.heap[gb271]? = some (.cells #[.int .i64 t265, .int .i64 t266, .string t267, (.slice Ao59 t268.length co59)] 29 (0, 0))) ∧ Aside0 (wc.heap[gb288]? = some (.cells #[.int .i64 t282, .int .i64 t283, .string t284, (.slice Ao67 t285.length co67)] 29 (0, 0))) ∧ Aside0 (Below w.heap.size w wc))
          case first =>
           have H := HC120.out
           clear HC120
           by_cases c125 : a0_0 = 5
           ·rw [if_pos c125] at H
            have c125b0 := beq_iff_eq.mpr c125
            have c125b1 := bne_eq_false_iff_eq.mpr c125
            clear c125
            (first | rw [c125b0] | (simp only [i64_w, i32_w]; rw [c125b0]) | skip)
            have H' := A_ H
            clear H
            have hnb126 := NB256_257.out
            have hnc126 := NB257_256.out
            have hnb127 := NB256_271.out
            have hnc127 := NB271_256.out
            have hnb128 := NB256_288.out
            have hnc128 := NB288_256.out
            obtain ⟨y129_0, y129_1, y129_2, y129_3, z129_0, z129_1, z129_2, z129_3⟩ := cz4_ BK256.out
            have hnb130 := NB271_257.out
            have hnc130 := NB257_271.out
            have hnb131 := NB271_288.out
            have hnc131 := NB288_271.out
            obtain ⟨y132_0, y132_1, y132_2, y132_3, z132_0, z132_1, z132_2, z132_3⟩ := cz4_ BK271.out
            go_wp2
            go_meet
            case rel => exact ⟨_, ((t265 == 1)), d4_, H', ⟨by have := HJ48.out; have := HJ79.out; first | omega | exact Nat.le_refl _⟩, ⟨kv_ HO_272003.out⟩, ⟨kv_ HO_289003.out⟩, ⟨by refine bk_ ?_; exact BK256.out⟩, ⟨by refine bk_ ?_; exact BK257.out⟩, ⟨by refine bk_ ?_; exact BK271.out⟩, ⟨by refine bk_ ?_; exact BK288.out⟩, ⟨bw_ HB.out⟩⟩
           ·rw [if_neg c125] at H
            have c125b0 := beq_eq_false_iff_ne.mpr c125
            have c125b1 := bne_iff_ne.mpr c125
            (first | rw [c125b0] | (simp only [i64_w, i32_w]; rw [c125b0]) | skip)
            have H' := A_ H
            clear H
            have hnb133 := NB256_257.out
            have hnc133 := NB257_256.out
            have hnb134 := NB256_271.out
            have hnc134 := NB271_256.out
            have hnb135 := NB256_288.out
            have hnc135 := NB288_256.out
            obtain ⟨y136_0, y136_1, y136_2, y136_3, z136_0, z136_1, z136_2, z136_3⟩ := cz4_ BK256.out
            go_wp2
            go_meet
            case rel => exact ⟨_, (false), d4_, H', ⟨by have := HJ48.out; have := HJ79.out; first | omega | exact Nat.le_refl _⟩, ⟨kv_ HO_272003.out⟩, ⟨kv_ HO_289003.out⟩, ⟨by refine bk_ ?_; exact BK256.out⟩, ⟨by refine bk_ ?_; exact BK257.out⟩, ⟨by refine bk_ ?_; exact BK271.out⟩, ⟨by refine bk_ ?_; exact BK288.out⟩, ⟨bw_ HB.out⟩⟩
          case rest =>
           clear HC120
           try clear c1
           try clear c2
           try clear c2b0
           try clear c2b1
           try clear c2b2
           try clear p2
           try clear q2
           try clear hx2
           try clear qi2
           try clear c3
           try clear c4
           try clear c5
           try clear c6
           try clear p6
           try clear c7
           try clear c8
           try clear c9
           try clear c10
           try clear c11
           try clear c11b0
           try clear c11b1
           try clear c12
           try clear c13
           try clear c13b0
           try clear c13b1
           try clear c14
           try clear c14b0
           try clear c14b1
           try clear c18
           try clear c22
           try clear c23
           try clear c26
           try clear p26
           try clear q26
           try clear hx26
           try clear qi26
           try clear c28
           try clear p28
           try clear q28
           try clear hx28
           try clear qi28
           try clear c32
           try clear c36
           try clear c37
           try clear c47
           try clear c47b0
           try clear c47b1
           try clear c52
           try clear c56
           try clear c57
           try clear c58
           try clear c63
           try clear c64
           try clear p64
           try clear c65
           try clear c68
           try clear c68b0
           try clear c68b1
           try clear c69
           try clear c70
           try clear c71
           try clear c73
           try clear c74
           try clear c75
           try clear c76
           try clear c77
           try clear c78
           try clear c79
           try clear c80
           try clear c81
           try clear c83
           try clear c85
           try clear c86
           try clear c87
           try clear c89
           try clear c90
           try clear c92
           try clear c97
           try clear c98
           try clear c99
           try clear c101
           try clear c102
           try clear c104
           try clear c106
           try clear c106b0
           try clear c106b1
           try clear c108
           try clear c109
           try clear c110
           try clear c112
           try clear c113
           try clear c115
           try clear c121
           try clear c122
           try clear c123
           try clear c125
           try clear c125b0
           try clear c125b1
           try clear c126
           try clear c127
           try clear c128
           try clear c130
           try clear c131
           try clear c133
           try clear c134
           try clear c135
           try clear y100_0 y100_1 y100_2 y100_3 z100_0 z100_1 z100_2 z100_3
           try clear y103_0 y103_1 y103_2 y103_3 z103_0 z103_1 z103_2 z103_3
           try clear y105_0 y105_1 y105_2 y105_3 z105_0 z105_1 z105_2 z105_3
           try clear y111_0 y111_1 y111_2 y111_3 z111_0 z111_1 z111_2 z111_3
           try clear y114_0 y114_1 y114_2 y114_3 z114_0 z114_1 z114_2 z114_3
           try clear y116_0 y116_1 y116_2 y116_3 z116_0 z116_1 z116_2 z116_3
           try clear y118_0 y118_1 y118_2 y118_3 z118_0 z118_1 z118_2 z118_3
           try clear y124_0 y124_1 y124_2 y124_3 z124_0 z124_1 z124_2 z124_3
           try clear y129_0 y129_1 y129_2 y129_3 z129_0 z129_1 z129_2 z129_3
           try clear y132_0 y132_1 y132_2 y132_3 z132_0 z132_1 z132_2 z132_3
           try clear y136_0 y136_1 y136_2 y136_3 z136_0 z136_1 z136_2 z136_3
           try clear y19_0 y19_1 y19_2 y19_3 z19_0 z19_1 z19_2 z19_3
           try clear y24_0 y24_1 y24_2 y24_3 z24_0 z24_1 z24_2 z24_3
           try clear y26_0 y26_1 y26_2 y26_3 z26_0 z26_1 z26_2 z26_3
           try clear y28_0 y28_1 y28_2 y28_3 z28_0 z28_1 z28_2 z28_3
           try clear y33_0 y33_1 y33_2 y33_3 z33_0 z33_1 z33_2 z33_3
           try clear y38_0 y38_1 y38_2 y38_3 z38_0 z38_1 z38_2 z38_3
           try clear y41_0 y41_1 y41_2 y41_3 z41_0 z41_1 z41_2 z41_3
           try clear y42_0 y42_1 y42_2 y42_3 z42_0 z42_1 z42_2 z42_3
           try clear y46_0 y46_1 y46_2 y46_3 z46_0 z46_1 z46_2 z46_3
           try clear y53_0 y53_1 y53_2 y53_3 z53_0 z53_1 z53_2 z53_3
           try clear y58_0 y58_1 y58_2 y58_3 z58_0 z58_1 z58_2 z58_3
           try clear y60_0 y60_1 y60_2 y60_3 z60_0 z60_1 z60_2 z60_3
           try clear y66_0 y66_1 y66_2 y66_3 z66_0 z66_1 z66_2 z66_3
           try clear y72_0 y72_1 y72_2 y72_3 z72_0 z72_1 z72_2 z72_3
           try clear y75_0 y75_1 y75_2 y75_3 z75_0 z75_1 z75_2 z75_3
           try clear y79_0 y79_1 y79_2 y79_3 z79_0 z79_1 z79_2 z79_3
           try clear y7_0 y7_1 y7_2 y7_3 z7_0 z7_1 z7_2 z7_3
           try clear y88_0 y88_1 y88_2 y88_3 z88_0 z88_1 z88_2 z88_3
           try clear y91_0 y91_1 y91_2 y91_3 z91_0 z91_1 z91_2 z91_3
           try clear y93_0 y93_1 y93_2 y93_3 z93_0 z93_1 z93_2 z93_3
           try clear y95_0 y95_1 y95_2 y95_3 z95_0 z95_1 z95_2 z95_3
           try clear y9_0 y9_1 y9_2 y9_3 z9_0 z9_1 z9_2 z9_3
           try clear hx264_0 hx264_1 hx264_2 hx264_3
           try clear hx281_0 hx281_1 hx281_2 hx281_3
           try clear p2
           try clear p26
           try clear p264
           try clear p28
           try clear p281
           try clear p6
           try clear p64
           try clear q2
           try clear q26
           try clear q264
           try clear q28
           try clear q281
           obtain ⟨kq, x64_119, rfl, HA, HJ119, HO_272003, HO_289003, BK256, BK257, BK271, BK288, HB⟩ := hcut
           cases kq with
           | zero => exact absurd HA.out (by simp [spec_l11Fold.j2])
           | succ kj119 =>
            have H := HA.out
            clear HA
            simp only [spec_l11Fold.j2] at H
            by_cases c137 : x64_119 = true
            ·subst c137
             rw [if_pos rfl] at H
             replace H := Option.bind_eq_some_iff.mp H
             obtain ⟨⟨t303, t304, t305, t306⟩, A1380, H⟩ := H
             try dsimp only at H
             have A138 := A_ A1380
             clear A1380
             simp only [Option.some.injEq, Prod.mk.injEq] at H
             obtain ⟨rfl, rfl, rfl, rfl⟩ := H
             have hnb139 := NB288_256.out
             have hnc139 := NB256_288.out
             have hnb140 := NB288_257.out
             have hnc140 := NB257_288.out
             have hnb141 := NB288_271.out
             have hnc141 := NB271_288.out
             obtain ⟨y142_0, y142_1, y142_2, y142_3, z142_0, z142_1, z142_2, z142_3⟩ := cz4_ BK288.out
             have hnb143 := NB271_256.out
             have hnc143 := NB256_271.out
             have hnb144 := NB271_257.out
             have hnc144 := NB257_271.out
             obtain ⟨y145_0, y145_1, y145_2, y145_3, z145_0, z145_1, z145_2, z145_3⟩ := cz4_ BK271.out
             go_wp2_with (first | ((with_reducible refine gate_callee (f := 81) rfl ?_); refine gL_ (some 76) Try.func81 #[.agg #[.int .i64 t282, .int .i64 t283, .string t284, .slice Ao67 t285.length co67], .int .i64 t266] ?_; (with_reducible refine (spec_l11Sum.calls t282 t283 t284 (fun k_ => ((w.heap.size ≤ k_) ∧ (k_ ≠ gb256 ∧ (k_ ≠ gb257 ∧ (k_ ≠ gb271 ∧ k_ ≠ gb288))))) _ _ t285 t266 t303 t304 t305 t306 _ ?side1 A138.out).mono ?_); (case side1 => exact HO_289003.out); rintro e w146 ⟨v307, rfl, ho0, hb⟩; refine ⟨_, rfl, ?_⟩; replace HO_272003 := A_ (Kd.V_below (kv_ HO_272003.out) hb); replace HO_289003 := A_ (Kd.V_below (kv_ HO_289003.out) hb); have HO308 := A_ (Kd.V_lower (Kd.V_mono (ok' := fun k_ => (w.heap.size ≤ k_) ∧ k_ ≠ gb256 ∧ k_ ≠ gb257 ∧ k_ ≠ gb271 ∧ k_ ≠ gb288) ho0 (fun k_ hk_ => ⟨Or.elim hk_ (fun hs_ => hs_.1) (fun hn_ => (Nat.le_trans (below_size (bw_ HB.out)) hn_)), Or.elim hk_ (fun hs_ => hs_.2.1) (fun hn_ => (Kd.freshB (bk_ BK256.out) k_ hn_)), Or.elim hk_ (fun hs_ => hs_.2.2.1) (fun hn_ => (Kd.freshB (bk_ BK257.out) k_ hn_)), Or.elim hk_ (fun hs_ => hs_.2.2.2.1) (fun hn_ => (Kd.freshB (bk_ BK271.out) k_ hn_)), Or.elim hk_ (fun hs_ => hs_.2.2.2.2) (fun hn_ => (Kd.freshB (bk_ BK288.out) k_ hn_))⟩)) (below_size (bw_ HB.out))); replace BK256 := A_ (blk_below (bk_ BK256.out) hb); replace BK257 := A_ (blk_below (bk_ BK257.out) hb); replace BK271 := A_ (blk_below (bk_ BK271.out) hb); replace BK288 := A_ (blk_below (bk_ BK288.out) hb); replace HB := A_ (below_step (bw_ HB.out) hb); clear hb; (try clear ho0); have hnb147 := NB257_256.out; have hnc147 := NB256_257.out; obtain ⟨y148_0, y148_1, y148_2, y148_3, z148_0, z148_1, z148_2, z148_3⟩ := cz4_ BK257.out; obtain ⟨Ao149, co149, eo149⟩ := Kd.V_slice HO308.out; subst eo149))
             refine bodyPost_ret (results_cell_row rfl _ _ gb257 29 #[.int .i64 t303, .int .i64 t304, .string t305, .slice Ao149 t306.length co149] (0, 0) _ rfl ?hb_ Try.underlying29 rfl (by kernel_rfl)) rfl ?_
             (case hb_ => exact bk_ (bp4_ (bk_ BK257.out)))
             exact ⟨_, by first | rfl | (simp [errW_none, errW_some] <;> rfl) | (simp [*, errW_none, errW_some] <;> rfl), kv_ (Kd.V_mono (vf4_ (Kd.V_mono HO308.out (fun k_ hk => (⟨hk, hk.2.2.1⟩ : _ ∧ k_ ≠ gb257))) (fun _ hk => hk.2)) (fun _ hk => hk.1.1)), bw_ HB.out⟩
            ·replace c137 := Bool.eq_false_iff.mpr c137
             subst c137
             rw [if_neg (show ¬ (false = true) by decide)] at H
             by_cases c150 : a0_0 = 5
             ·rw [if_pos c150] at H
              have c150b0 := beq_iff_eq.mpr c150
              have c150b1 := bne_eq_false_iff_eq.mpr c150
              clear c150
              by_cases c151 : t282 = 1
              ·rw [if_pos c151] at H
               have c151b0 := beq_iff_eq.mpr c151
               have c151b1 := bne_eq_false_iff_eq.mpr c151
               clear c151
               replace H := Option.bind_eq_some_iff.mp H
               obtain ⟨⟨t309, t310, t311, t312⟩, A1520, H⟩ := H
               try dsimp only at H
               have A152 := A_ A1520
               clear A1520
               simp only [Option.some.injEq, Prod.mk.injEq] at H
               obtain ⟨rfl, rfl, rfl, rfl⟩ := H
               have hnb153 := NB256_257.out
               have hnc153 := NB257_256.out
               have hnb154 := NB256_271.out
               have hnc154 := NB271_256.out
               have hnb155 := NB256_288.out
               have hnc155 := NB288_256.out
               obtain ⟨y156_0, y156_1, y156_2, y156_3, z156_0, z156_1, z156_2, z156_3⟩ := cz4_ BK256.out
               have hnb157 := NB288_257.out
               have hnc157 := NB257_288.out
               have hnb158 := NB288_271.out
               have hnc158 := NB271_288.out
               obtain ⟨y159_0, y159_1, y159_2, y159_3, z159_0, z159_1, z159_2, z159_3⟩ := cz4_ BK288.out
               have hnb160 := NB271_257.out
               have hnc160 := NB257_271.out
               obtain ⟨y161_0, y161_1, y161_2, y161_3, z161_0, z161_1, z161_2, z161_3⟩ := cz4_ BK271.out
               go_wp2_with (first | ((with_reducible refine gate_callee (f := 81) rfl ?_); refine gL_ (some 89) Try.func81 #[.agg #[.int .i64 t265, .int .i64 t266, .string t267, .slice Ao59 t268.length co59], .int .i64 t283] ?_; (with_reducible refine (spec_l11Sum.calls t265 t266 t267 (fun k_ => ((w.heap.size ≤ k_) ∧ (k_ ≠ gb256 ∧ (k_ ≠ gb257 ∧ (k_ ≠ gb271 ∧ k_ ≠ gb288))))) _ _ t268 t283 t309 t310 t311 t312 _ ?side1 A152.out).mono ?_); (case side1 => exact HO_272003.out); rintro e w162 ⟨v313, rfl, ho0, hb⟩; refine ⟨_, rfl, ?_⟩; replace HO_272003 := A_ (Kd.V_below (kv_ HO_272003.out) hb); replace HO_289003 := A_ (Kd.V_below (kv_ HO_289003.out) hb); have HO314 := A_ (Kd.V_lower (Kd.V_mono (ok' := fun k_ => (w.heap.size ≤ k_) ∧ k_ ≠ gb256 ∧ k_ ≠ gb257 ∧ k_ ≠ gb271 ∧ k_ ≠ gb288) ho0 (fun k_ hk_ => ⟨Or.elim hk_ (fun hs_ => hs_.1) (fun hn_ => (Nat.le_trans (below_size (bw_ HB.out)) hn_)), Or.elim hk_ (fun hs_ => hs_.2.1) (fun hn_ => (Kd.freshB (bk_ BK256.out) k_ hn_)), Or.elim hk_ (fun hs_ => hs_.2.2.1) (fun hn_ => (Kd.freshB (bk_ BK257.out) k_ hn_)), Or.elim hk_ (fun hs_ => hs_.2.2.2.1) (fun hn_ => (Kd.freshB (bk_ BK271.out) k_ hn_)), Or.elim hk_ (fun hs_ => hs_.2.2.2.2) (fun hn_ => (Kd.freshB (bk_ BK288.out) k_ hn_))⟩)) (below_size (bw_ HB.out))); replace BK256 := A_ (blk_below (bk_ BK256.out) hb); replace BK257 := A_ (blk_below (bk_ BK257.out) hb); replace BK271 := A_ (blk_below (bk_ BK271.out) hb); replace BK288 := A_ (blk_below (bk_ BK288.out) hb); replace HB := A_ (below_step (bw_ HB.out) hb); clear hb; (try clear ho0); obtain ⟨y163_0, y163_1, y163_2, y163_3, z163_0, z163_1, z163_2, z163_3⟩ := cz4_ BK257.out; obtain ⟨Ao164, co164, eo164⟩ := Kd.V_slice HO314.out; subst eo164))
               refine bodyPost_ret (results_cell_row rfl _ _ gb257 29 #[.int .i64 t309, .int .i64 t310, .string t311, .slice Ao164 t312.length co164] (0, 0) _ rfl ?hb_ Try.underlying29 rfl (by kernel_rfl)) rfl ?_
               (case hb_ => exact bk_ (bp4_ (bk_ BK257.out)))
               exact ⟨_, by first | rfl | (simp [errW_none, errW_some] <;> rfl) | (simp [*, errW_none, errW_some] <;> rfl), kv_ (Kd.V_mono (vf4_ (Kd.V_mono HO314.out (fun k_ hk => (⟨hk, hk.2.2.1⟩ : _ ∧ k_ ≠ gb257))) (fun _ hk => hk.2)) (fun _ hk => hk.1.1)), bw_ HB.out⟩
              ·rw [if_neg c151] at H
               have c151b0 := beq_eq_false_iff_ne.mpr c151
               have c151b1 := bne_iff_ne.mpr c151
               obtain ⟨y315, hy315⟩ : ∃ y_ : List (S29), y_ = (([(⟨t265, t266, t267, t268⟩ : S29), (⟨t282, t283, t284, t285⟩ : S29)] : List (S29))) := ⟨_, rfl⟩
               replace H : (some (a0_0, 0, (⟨#[]⟩ : ByteArray), y315)) = some (r1, r2, r3, r4) := by first | (rw [hy315]; with_reducible exact H) | (have H2_ := (Option.bind_some _ _).symm.trans H; rw [hy315]; with_reducible exact H2_) | (have H2_ := (Option.bind_some _ _).symm.trans H; with_reducible exact H2_) | with_reducible exact H | (rw [hy315]; exact H) | exact H
               have Ny315 := A_ hy315
               clear hy315
               simp only [Option.some.injEq, Prod.mk.injEq] at H
               obtain ⟨rfl, rfl, rfl, rfl⟩ := H
               have hnb165 := NB256_257.out
               have hnc165 := NB257_256.out
               have hnb166 := NB256_271.out
               have hnc166 := NB271_256.out
               have hnb167 := NB256_288.out
               have hnc167 := NB288_256.out
               obtain ⟨y168_0, y168_1, y168_2, y168_3, z168_0, z168_1, z168_2, z168_3⟩ := cz4_ BK256.out
               have hnb169 := NB288_257.out
               have hnc169 := NB257_288.out
               have hnb170 := NB288_271.out
               have hnc170 := NB271_288.out
               obtain ⟨y171_0, y171_1, y171_2, y171_3, z171_0, z171_1, z171_2, z171_3⟩ := cz4_ BK288.out
               have hnb172 := NB271_257.out
               have hnc172 := NB257_271.out
               obtain ⟨y173_0, y173_1, y173_2, y173_3, z173_0, z173_1, z173_2, z173_3⟩ := cz4_ BK271.out
               go_wp2_with (first | ((with_reducible refine gate_dst (N := 94) rfl ?_); refine Kd.N_lit k29 _ 29 ?hg (N' := 94) ?hd (xs := ([(⟨t265, t266, t267, t268⟩ : S29), (⟨t282, t283, t284, t285⟩ : S29)] : List (S29))) (inner := [.int .i64 t265, .int .i64 t266, .string t267, .slice Ao59 t268.length co59, .int .i64 t282, .int .i64 t283, .string t284, .slice Ao67 t285.length co67]) (ok := (fun k_ => (w.heap.size ≤ k_) ∧ k_ ≠ gb256 ∧ k_ ≠ gb257 ∧ k_ ≠ gb271 ∧ k_ ≠ gb288)) (okp := (fun k_ => (w.heap.size ≤ k_) ∧ k_ ≠ gb256 ∧ k_ ≠ gb257 ∧ k_ ≠ gb271 ∧ k_ ≠ gb288)) ?hr ?hp (fun _ hk => hk) ((show ∀ k_, wc.heap.size ≤ k_ → (fun k_ => (w.heap.size ≤ k_) ∧ k_ ≠ gb256 ∧ k_ ≠ gb257 ∧ k_ ≠ gb271 ∧ k_ ≠ gb288) k_ from fun k_ hk => ⟨(Nat.le_trans (below_size (bw_ HB.out)) hk), Kd.freshB (bk_ BK256.out) k_ hk, Kd.freshB (bk_ BK257.out) k_ hk, Kd.freshB (bk_ BK271.out) k_ hk, Kd.freshB (bk_ BK288.out) k_ hk⟩) _ (Nat.le_refl _)) (Below.refl _ _) (Nat.le_refl _) (by simp) ?_; (case hd => rfl); (case hg => rfl); (case hr => first | (go_simp; done) | (go_simp; rfl)); (case hp => exact (Reps.c4 (show Kd.FK k29 _ _ (⟨t265, t266, t267, t268⟩ : S29) [.int .i64 t265, .int .i64 t266, .string t267, .slice Ao59 t268.length co59] from (k29_mkF _ _ (⟨t265, t266, t267, t268⟩ : S29) (Kd.V_reads' (Kd.V_mono (ok' := (fun k_ => (w.heap.size ≤ k_) ∧ k_ ≠ gb256 ∧ k_ ≠ gb257 ∧ k_ ≠ gb271 ∧ k_ ≠ gb288)) (HO_272003.out) (fun k_ hk => ⟨hk.1, ⟨hk.2.1, ⟨hk.2.2.1, ⟨hk.2.2.2.1, hk.2.2.2.2⟩⟩⟩⟩))).2.1 (Kd.V_F (Kd.V_mono (ok' := (fun k_ => (w.heap.size ≤ k_) ∧ k_ ≠ gb256 ∧ k_ ≠ gb257 ∧ k_ ≠ gb271 ∧ k_ ≠ gb288)) (HO_272003.out) (fun k_ hk => ⟨hk.1, ⟨hk.2.1, ⟨hk.2.2.1, ⟨hk.2.2.2.1, hk.2.2.2.2⟩⟩⟩⟩))))) (Reps.c4 (show Kd.FK k29 _ _ (⟨t282, t283, t284, t285⟩ : S29) [.int .i64 t282, .int .i64 t283, .string t284, .slice Ao67 t285.length co67] from (k29_mkF _ _ (⟨t282, t283, t284, t285⟩ : S29) (Kd.V_reads' (Kd.V_mono (ok' := (fun k_ => (w.heap.size ≤ k_) ∧ k_ ≠ gb256 ∧ k_ ≠ gb257 ∧ k_ ≠ gb271 ∧ k_ ≠ gb288)) (HO_289003.out) (fun k_ hk => ⟨hk.1, ⟨hk.2.1, ⟨hk.2.2.1, ⟨hk.2.2.2.1, hk.2.2.2.2⟩⟩⟩⟩))).2.1 (Kd.V_F (Kd.V_mono (ok' := (fun k_ => (w.heap.size ≤ k_) ∧ k_ ≠ gb256 ∧ k_ ≠ gb257 ∧ k_ ≠ gb271 ∧ k_ ≠ gb288)) (HO_289003.out) (fun k_ hk => ⟨hk.1, ⟨hk.2.1, ⟨hk.2.2.1, ⟨hk.2.2.2.1, hk.2.2.2.2⟩⟩⟩⟩))))) (Reps.none _ _)))); intro v316 w174 ho175 hb hg_ hnew_; clear hg_ hnew_; (first | rw [← Ny315.out] at ho175 | (simp only [Int.reduceToNat] at ho175; rw [← Ny315.out] at ho175)); replace HO_272003 := A_ (Kd.V_elder' (kv_ HO_272003.out) (Kd.N_base ho175) hb); replace HO_289003 := A_ (Kd.V_elder' (kv_ HO_289003.out) (Kd.N_base ho175) hb); have HO317 := A_ (Kd.N_lower ho175 (below_size (bw_ HB.out))); replace BK256 := A_ (blk_below (bk_ BK256.out) hb); replace BK257 := A_ (blk_below (bk_ BK257.out) hb); replace BK271 := A_ (blk_below (bk_ BK271.out) hb); replace BK288 := A_ (blk_below (bk_ BK288.out) hb); replace HB := A_ (below_step (bw_ HB.out) hb); clear hb ho175; obtain ⟨Ao176, co176, eo176⟩ := Kd.N_slice HO317.out; subst eo176; obtain ⟨y177_0, y177_1, y177_2, y177_3, z177_0, z177_1, z177_2, z177_3⟩ := cz4_ BK257.out))
               refine bodyPost_ret (results_cell_row rfl _ _ gb257 29 #[.int .i64 a0_0, .int .i64 0, .string (⟨#[]⟩ : ByteArray), .slice Ao176 y315.length co176] (0, 0) _ rfl ?hb_ Try.underlying29 rfl (by kernel_rfl)) rfl ?_
               (case hb_ => exact bk_ (bp4_ (bk_ BK257.out)))
               exact ⟨_, by first | rfl | (simp [errW_none, errW_some] <;> rfl) | (simp [*, errW_none, errW_some] <;> rfl), Kd.N_V (by (with_reducible repeat (first | apply Kd.N_alloc | apply Kd.N_drewN | apply Kd.N_drew)); exact Kd.N_mono (nf4_ (Kd.N_mono HO317.out (fun k_ hk => (⟨hk, hk.2.2.1⟩ : _ ∧ k_ ≠ gb257))) (fun _ hk => hk.2)) (fun _ hk => hk.1.1)), bw_ HB.out⟩
             ·rw [if_neg c150] at H
              have c150b0 := beq_eq_false_iff_ne.mpr c150
              have c150b1 := bne_iff_ne.mpr c150
              obtain ⟨y318, hy318⟩ : ∃ y_ : List (S29), y_ = (([(⟨t265, t266, t267, t268⟩ : S29), (⟨t282, t283, t284, t285⟩ : S29)] : List (S29))) := ⟨_, rfl⟩
              replace H : (some (a0_0, 0, (⟨#[]⟩ : ByteArray), y318)) = some (r1, r2, r3, r4) := by first | (rw [hy318]; with_reducible exact H) | (have H2_ := (Option.bind_some _ _).symm.trans H; rw [hy318]; with_reducible exact H2_) | (have H2_ := (Option.bind_some _ _).symm.trans H; with_reducible exact H2_) | with_reducible exact H | (rw [hy318]; exact H) | exact H
              have Ny318 := A_ hy318
              clear hy318
              simp only [Option.some.injEq, Prod.mk.injEq] at H
              obtain ⟨rfl, rfl, rfl, rfl⟩ := H
              have hnb178 := NB256_257.out
              have hnc178 := NB257_256.out
              have hnb179 := NB256_271.out
              have hnc179 := NB271_256.out
              have hnb180 := NB256_288.out
              have hnc180 := NB288_256.out
              obtain ⟨y181_0, y181_1, y181_2, y181_3, z181_0, z181_1, z181_2, z181_3⟩ := cz4_ BK256.out
              have hnb182 := NB271_257.out
              have hnc182 := NB257_271.out
              have hnb183 := NB271_288.out
              have hnc183 := NB288_271.out
              obtain ⟨y184_0, y184_1, y184_2, y184_3, z184_0, z184_1, z184_2, z184_3⟩ := cz4_ BK271.out
              have hnb185 := NB288_257.out
              have hnc185 := NB257_288.out
              obtain ⟨y186_0, y186_1, y186_2, y186_3, z186_0, z186_1, z186_2, z186_3⟩ := cz4_ BK288.out
              go_wp2_with (first | ((with_reducible refine gate_dst (N := 94) rfl ?_); refine Kd.N_lit k29 _ 29 ?hg (N' := 94) ?hd (xs := ([(⟨t265, t266, t267, t268⟩ : S29), (⟨t282, t283, t284, t285⟩ : S29)] : List (S29))) (inner := [.int .i64 t265, .int .i64 t266, .string t267, .slice Ao59 t268.length co59, .int .i64 t282, .int .i64 t283, .string t284, .slice Ao67 t285.length co67]) (ok := (fun k_ => (w.heap.size ≤ k_) ∧ k_ ≠ gb256 ∧ k_ ≠ gb257 ∧ k_ ≠ gb271 ∧ k_ ≠ gb288)) (okp := (fun k_ => (w.heap.size ≤ k_) ∧ k_ ≠ gb256 ∧ k_ ≠ gb257 ∧ k_ ≠ gb271 ∧ k_ ≠ gb288)) ?hr ?hp (fun _ hk => hk) ((show ∀ k_, wc.heap.size ≤ k_ → (fun k_ => (w.heap.size ≤ k_) ∧ k_ ≠ gb256 ∧ k_ ≠ gb257 ∧ k_ ≠ gb271 ∧ k_ ≠ gb288) k_ from fun k_ hk => ⟨(Nat.le_trans (below_size (bw_ HB.out)) hk), Kd.freshB (bk_ BK256.out) k_ hk, Kd.freshB (bk_ BK257.out) k_ hk, Kd.freshB (bk_ BK271.out) k_ hk, Kd.freshB (bk_ BK288.out) k_ hk⟩) _ (Nat.le_refl _)) (Below.refl _ _) (Nat.le_refl _) (by simp) ?_; (case hd => rfl); (case hg => rfl); (case hr => first | (go_simp; done) | (go_simp; rfl)); (case hp => exact (Reps.c4 (show Kd.FK k29 _ _ (⟨t265, t266, t267, t268⟩ : S29) [.int .i64 t265, .int .i64 t266, .string t267, .slice Ao59 t268.length co59] from (k29_mkF _ _ (⟨t265, t266, t267, t268⟩ : S29) (Kd.V_reads' (Kd.V_mono (ok' := (fun k_ => (w.heap.size ≤ k_) ∧ k_ ≠ gb256 ∧ k_ ≠ gb257 ∧ k_ ≠ gb271 ∧ k_ ≠ gb288)) (HO_272003.out) (fun k_ hk => ⟨hk.1, ⟨hk.2.1, ⟨hk.2.2.1, ⟨hk.2.2.2.1, hk.2.2.2.2⟩⟩⟩⟩))).2.1 (Kd.V_F (Kd.V_mono (ok' := (fun k_ => (w.heap.size ≤ k_) ∧ k_ ≠ gb256 ∧ k_ ≠ gb257 ∧ k_ ≠ gb271 ∧ k_ ≠ gb288)) (HO_272003.out) (fun k_ hk => ⟨hk.1, ⟨hk.2.1, ⟨hk.2.2.1, ⟨hk.2.2.2.1, hk.2.2.2.2⟩⟩⟩⟩))))) (Reps.c4 (show Kd.FK k29 _ _ (⟨t282, t283, t284, t285⟩ : S29) [.int .i64 t282, .int .i64 t283, .string t284, .slice Ao67 t285.length co67] from (k29_mkF _ _ (⟨t282, t283, t284, t285⟩ : S29) (Kd.V_reads' (Kd.V_mono (ok' := (fun k_ => (w.heap.size ≤ k_) ∧ k_ ≠ gb256 ∧ k_ ≠ gb257 ∧ k_ ≠ gb271 ∧ k_ ≠ gb288)) (HO_289003.out) (fun k_ hk => ⟨hk.1, ⟨hk.2.1, ⟨hk.2.2.1, ⟨hk.2.2.2.1, hk.2.2.2.2⟩⟩⟩⟩))).2.1 (Kd.V_F (Kd.V_mono (ok' := (fun k_ => (w.heap.size ≤ k_) ∧ k_ ≠ gb256 ∧ k_ ≠ gb257 ∧ k_ ≠ gb271 ∧ k_ ≠ gb288)) (HO_289003.out) (fun k_ hk => ⟨hk.1, ⟨hk.2.1, ⟨hk.2.2.1, ⟨hk.2.2.2.1, hk.2.2.2.2⟩⟩⟩⟩))))) (Reps.none _ _)))); intro v319 w187 ho188 hb hg_ hnew_; clear hg_ hnew_; (first | rw [← Ny318.out] at ho188 | (simp only [Int.reduceToNat] at ho188; rw [← Ny318.out] at ho188)); replace HO_272003 := A_ (Kd.V_elder' (kv_ HO_272003.out) (Kd.N_base ho188) hb); replace HO_289003 := A_ (Kd.V_elder' (kv_ HO_289003.out) (Kd.N_base ho188) hb); have HO320 := A_ (Kd.N_lower ho188 (below_size (bw_ HB.out))); replace BK256 := A_ (blk_below (bk_ BK256.out) hb); replace BK257 := A_ (blk_below (bk_ BK257.out) hb); replace BK271 := A_ (blk_below (bk_ BK271.out) hb); replace BK288 := A_ (blk_below (bk_ BK288.out) hb); replace HB := A_ (below_step (bw_ HB.out) hb); clear hb ho188; obtain ⟨Ao189, co189, eo189⟩ := Kd.N_slice HO320.out; subst eo189; obtain ⟨y190_0, y190_1, y190_2, y190_3, z190_0, z190_1, z190_2, z190_3⟩ := cz4_ BK257.out))
              refine bodyPost_ret (results_cell_row rfl _ _ gb257 29 #[.int .i64 a0_0, .int .i64 0, .string (⟨#[]⟩ : ByteArray), .slice Ao189 y318.length co189] (0, 0) _ rfl ?hb_ Try.underlying29 rfl (by kernel_rfl)) rfl ?_
              (case hb_ => exact bk_ (bp4_ (bk_ BK257.out)))
              exact ⟨_, by first | rfl | (simp [errW_none, errW_some] <;> rfl) | (simp [*, errW_none, errW_some] <;> rfl), Kd.N_V (by (with_reducible repeat (first | apply Kd.N_alloc | apply Kd.N_drewN | apply Kd.N_drew)); exact Kd.N_mono (nf4_ (Kd.N_mono HO320.out (fun k_ hk => (⟨hk, hk.2.2.1⟩ : _ ∧ k_ ≠ gb257))) (fun _ hk => hk.2)) (fun _ hk => hk.1.1)), bw_ HB.out⟩
    ·rw [if_neg c47] at H
     exact absurd H (by simp)
  ·rw [if_neg c11] at H
   exact absurd H (by simp)

end Go.Proofs.Ytcpnhlhigpgonaa.PFnExactFold
