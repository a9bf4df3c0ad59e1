-- Laid by a program of this session (a changed copy of the kit's printer); Lean checks every line.
import Derived.Test.YtcpnhlhigpgonaaPFnExactKnownx0
import Derived.Test.YtcpnhlhigpgonaaPFnExactKnownx4
import Derived.Test.YtcpnhlhigpgonaaPFnExactKnownx5
namespace Go.Proofs.Ytcpnhlhigpgonaa.PFnExactKnown
open Go.RowKit Go.Proofs.YtcpnhlhigpgonaaW.PrintWords Go.Proofs.YtcpnhlhigpgonaaW.PrintLast Go.Proofs.YtcpnhlhigpgonaaW.PrintMore
attribute [local go_sem] max2_int min2_int max_two min_two max_three min_three max_four min_four   -- for this text's walks alone
set_option linter.unusedVariables false
set_option linter.unusedSimpArgs false

/-! ### spec_l11Fold: function 58 -/
mutual
def spec_l11Fold.j0 : Nat → Bool → Int → Int → ByteArray → List (S29) → Int → Int → ByteArray → List (S29) → Int → Int → ByteArray → List (S29) → Option (Int × Int × ByteArray × (List (S29)))
 | 0, _, _, _, _, _, _, _, _, _, _, _, _, _ => none
 | k + 1, x43, x245000, x245001, x245002, x245003, x260000, x260001, x260002, x260003, x277000, x277001, x277002, x277003 => if x43 = true then ((spec_l11Two.f x245000 x260001 x277001).bind fun bt277 => (if bt277.2 = true then ((spec_l10Num.f bt277.1).bind fun bt279 => (some (bt279.1, bt279.2.1, bt279.2.2.1, bt279.2.2.2))) else (spec_l11Fold.j1 k x245000 x245001 x245002 x245003 x260000 x260001 x260002 x260003 x277000 x277001 x277002 x277003))) else (spec_l11Fold.j1 k x245000 x245001 x245002 x245003 x260000 x260001 x260002 x260003 x277000 x277001 x277002 x277003)
def spec_l11Fold.j1 : Nat → Int → Int → ByteArray → List (S29) → Int → Int → ByteArray → List (S29) → Int → Int → ByteArray → List (S29) → Option (Int × Int × ByteArray × (List (S29)))
 | 0, _, _, _, _, _, _, _, _, _, _, _, _ => none
 | k + 1, x245000, x245001, x245002, x245003, x260000, x260001, x260002, x260003, x277000, x277001, x277002, x277003 => if x245000 = 6 then ((spec_l11Sub.f x260000 x260001 x260002 x260003 x277000 x277001 x277002 x277003).bind fun bt285 => (some (bt285.1, bt285.2.1, bt285.2.2.1, bt285.2.2.2))) else (if x245000 = 5 then (spec_l11Fold.j2 k (x260000 == 1) x245000 x245001 x245002 x245003 x260000 x260001 x260002 x260003 x277000 x277001 x277002 x277003) else (spec_l11Fold.j2 k false x245000 x245001 x245002 x245003 x260000 x260001 x260002 x260003 x277000 x277001 x277002 x277003))
def spec_l11Fold.j2 : Nat → Bool → Int → Int → ByteArray → List (S29) → Int → Int → ByteArray → List (S29) → Int → Int → ByteArray → List (S29) → Option (Int × Int × ByteArray × (List (S29)))
 | 0, _, _, _, _, _, _, _, _, _, _, _, _, _ => none
 | k + 1, x64, x245000, x245001, x245002, x245003, x260000, x260001, x260002, x260003, x277000, x277001, x277002, x277003 => if x64 = true then ((spec_l11Sum.f x277000 x277001 x277002 x277003 x260001).bind fun bt291 => (some (bt291.1, bt291.2.1, bt291.2.2.1, bt291.2.2.2))) else (if x245000 = 5 then (if x277000 = 1 then ((spec_l11Sum.f x260000 x260001 x260002 x260003 x277001).bind fun bt297 => (some (bt297.1, bt297.2.1, bt297.2.2.1, bt297.2.2.2))) else (some (x245000, 0, (⟨#[]⟩ : ByteArray), (([(⟨x260000, x260001, x260002, x260003⟩ : S29), (⟨x277000, x277001, x277002, x277003⟩ : S29)] : List (S29)))))) else (some (x245000, 0, (⟨#[]⟩ : ByteArray), (([(⟨x260000, x260001, x260002, x260003⟩ : S29), (⟨x277000, x277001, x277002, x277003⟩ : S29)] : List (S29))))))
def spec_l11Fold.f : Nat → Int → Int → ByteArray → List (S29) → Option (Int × Int × ByteArray × (List (S29)))
 | 0, _, _, _, _ => none
 | k + 1, a0_0, a0_1, a0_2, l0_3 => if (l0_3.length : Int) = 0 then ((spec_l11Copy.f k a0_0 a0_1 a0_2 l0_3).bind fun bt246 => (some (bt246.1, bt246.2.1, bt246.2.2.1, bt246.2.2.2))) else (if 0 < (l0_3.length : Int) then ((spec_l11Fold.f k ((rd_T29 l0_3 0).f0) ((rd_T29 l0_3 0).f1) ((rd_T29 l0_3 0).f2) ((rd_T29 l0_3 0).f3)).bind fun bt253 => (if a0_0 = 4 then (if bt253.1 = 1 then ((spec_l10Num.f (wrap64 (-bt253.2.1))).bind fun bt260 => (some (bt260.1, bt260.2.1, bt260.2.2.1, bt260.2.2.2))) else (some (4, 0, (⟨#[]⟩ : ByteArray), (([(⟨bt253.1, bt253.2.1, bt253.2.2.1, bt253.2.2.2⟩ : S29)] : List (S29)))))) else (if 1 < (l0_3.length : Int) then ((spec_l11Fold.f k ((rd_T29 l0_3 1).f0) ((rd_T29 l0_3 1).f1) ((rd_T29 l0_3 1).f2) ((rd_T29 l0_3 1).f3)).bind fun bt270 => (if bt253.1 = 1 then (spec_l11Fold.j0 k (bt270.1 == 1) a0_0 a0_1 a0_2 l0_3 bt253.1 bt253.2.1 bt253.2.2.1 bt253.2.2.2 bt270.1 bt270.2.1 bt270.2.2.1 bt270.2.2.2) else (spec_l11Fold.j0 k false a0_0 a0_1 a0_2 l0_3 bt253.1 bt253.2.1 bt253.2.2.1 bt253.2.2.2 bt270.1 bt270.2.1 bt270.2.2.1 bt270.2.2.2))) else (none)))) else (none))
end
theorem spec_l11Fold.mono_l : ∀ k, (∀ y0 y1 y2 y3, LeO (spec_l11Fold.f k y0 y1 y2 y3) (spec_l11Fold.f (k + 1) y0 y1 y2 y3)) ∧ (∀ y0 y1 y2 y3 y4 y5 y6 y7 y8 y9 y10 y11 y12, LeO (spec_l11Fold.j0 k y0 y1 y2 y3 y4 y5 y6 y7 y8 y9 y10 y11 y12) (spec_l11Fold.j0 (k + 1) y0 y1 y2 y3 y4 y5 y6 y7 y8 y9 y10 y11 y12)) ∧ (∀ y0 y1 y2 y3 y4 y5 y6 y7 y8 y9 y10 y11, LeO (spec_l11Fold.j1 k y0 y1 y2 y3 y4 y5 y6 y7 y8 y9 y10 y11) (spec_l11Fold.j1 (k + 1) y0 y1 y2 y3 y4 y5 y6 y7 y8 y9 y10 y11)) ∧ (∀ y0 y1 y2 y3 y4 y5 y6 y7 y8 y9 y10 y11 y12, LeO (spec_l11Fold.j2 k y0 y1 y2 y3 y4 y5 y6 y7 y8 y9 y10 y11 y12) (spec_l11Fold.j2 (k + 1) y0 y1 y2 y3 y4 y5 y6 y7 y8 y9 y10 y11 y12))
 | 0 => ⟨fun _ _ _ _ r h => by simp [spec_l11Fold.f] at h, fun _ _ _ _ _ _ _ _ _ _ _ _ _ r h => by simp [spec_l11Fold.j0] at h, fun _ _ _ _ _ _ _ _ _ _ _ _ r h => by simp [spec_l11Fold.j1] at h, fun _ _ _ _ _ _ _ _ _ _ _ _ _ r h => by simp [spec_l11Fold.j2] at h⟩
 | k + 1 => by
  obtain ⟨ih0, ih1, ih2, ih3⟩ := spec_l11Fold.mono_l k
  refine ⟨?_, ?_, ?_, ?_⟩
  ·intro y0 y1 y2 y3
   unfold spec_l11Fold.f
   repeat' first
   | (with_reducible exact ih0 _ _ _ _)
   | (with_reducible exact ih1 _ _ _ _ _ _ _ _ _ _ _ _ _)
   | (with_reducible exact ih2 _ _ _ _ _ _ _ _ _ _ _ _)
   | (with_reducible exact ih3 _ _ _ _ _ _ _ _ _ _ _ _ _)
   | (with_reducible exact spec_l11Copy.mono _ _ _ _ _)
   | (with_reducible exact LeO.refl _)
   | (with_reducible exact LeO.none _)
   | (with_reducible refine LeO.ite ?_ ?_)
   | (with_reducible refine LeO.bind ?_ (fun _ => ?_))
   | exact ih0 _ _ _ _
   | exact ih1 _ _ _ _ _ _ _ _ _ _ _ _ _
   | exact ih2 _ _ _ _ _ _ _ _ _ _ _ _
   | exact ih3 _ _ _ _ _ _ _ _ _ _ _ _ _
   | exact spec_l11Copy.mono _ _ _ _ _
   | exact LeO.none _
   | refine LeO.ite ?_ ?_
   | refine LeO.bind ?_ (fun _ => ?_)
  ·intro y0 y1 y2 y3 y4 y5 y6 y7 y8 y9 y10 y11 y12
   unfold spec_l11Fold.j0
   repeat' first
   | (with_reducible exact ih0 _ _ _ _)
   | (with_reducible exact ih1 _ _ _ _ _ _ _ _ _ _ _ _ _)
   | (with_reducible exact ih2 _ _ _ _ _ _ _ _ _ _ _ _)
   | (with_reducible exact ih3 _ _ _ _ _ _ _ _ _ _ _ _ _)
   | (with_reducible exact spec_l11Copy.mono _ _ _ _ _)
   | (with_reducible exact LeO.refl _)
   | (with_reducible exact LeO.none _)
   | (with_reducible refine LeO.ite ?_ ?_)
   | (with_reducible refine LeO.bind ?_ (fun _ => ?_))
   | exact ih0 _ _ _ _
   | exact ih1 _ _ _ _ _ _ _ _ _ _ _ _ _
   | exact ih2 _ _ _ _ _ _ _ _ _ _ _ _
   | exact ih3 _ _ _ _ _ _ _ _ _ _ _ _ _
   | exact spec_l11Copy.mono _ _ _ _ _
   | exact LeO.none _
   | refine LeO.ite ?_ ?_
   | refine LeO.bind ?_ (fun _ => ?_)
  ·intro y0 y1 y2 y3 y4 y5 y6 y7 y8 y9 y10 y11
   unfold spec_l11Fold.j1
   repeat' first
   | (with_reducible exact ih0 _ _ _ _)
   | (with_reducible exact ih1 _ _ _ _ _ _ _ _ _ _ _ _ _)
   | (with_reducible exact ih2 _ _ _ _ _ _ _ _ _ _ _ _)
   | (with_reducible exact ih3 _ _ _ _ _ _ _ _ _ _ _ _ _)
   | (with_reducible exact spec_l11Copy.mono _ _ _ _ _)
   | (with_reducible exact LeO.refl _)
   | (with_reducible exact LeO.none _)
   | (with_reducible refine LeO.ite ?_ ?_)
   | (with_reducible refine LeO.bind ?_ (fun _ => ?_))
   | exact ih0 _ _ _ _
   | exact ih1 _ _ _ _ _ _ _ _ _ _ _ _ _
   | exact ih2 _ _ _ _ _ _ _ _ _ _ _ _
   | exact ih3 _ _ _ _ _ _ _ _ _ _ _ _ _
   | exact spec_l11Copy.mono _ _ _ _ _
   | exact LeO.none _
   | refine LeO.ite ?_ ?_
   | refine LeO.bind ?_ (fun _ => ?_)
  ·intro y0 y1 y2 y3 y4 y5 y6 y7 y8 y9 y10 y11 y12
   unfold spec_l11Fold.j2
   repeat' first
   | (with_reducible exact ih0 _ _ _ _)
   | (with_reducible exact ih1 _ _ _ _ _ _ _ _ _ _ _ _ _)
   | (with_reducible exact ih2 _ _ _ _ _ _ _ _ _ _ _ _)
   | (with_reducible exact ih3 _ _ _ _ _ _ _ _ _ _ _ _ _)
   | (with_reducible exact spec_l11Copy.mono _ _ _ _ _)
   | (with_reducible exact LeO.refl _)
   | (with_reducible exact LeO.none _)
   | (with_reducible refine LeO.ite ?_ ?_)
   | (with_reducible refine LeO.bind ?_ (fun _ => ?_))
   | exact ih0 _ _ _ _
   | exact ih1 _ _ _ _ _ _ _ _ _ _ _ _ _
   | exact ih2 _ _ _ _ _ _ _ _ _ _ _ _
   | exact ih3 _ _ _ _ _ _ _ _ _ _ _ _ _
   | exact spec_l11Copy.mono _ _ _ _ _
   | exact LeO.none _
   | refine LeO.ite ?_ ?_
   | refine LeO.bind ?_ (fun _ => ?_)
theorem spec_l11Fold.mono : ∀ a0 a1 a2 a3 k, LeO (spec_l11Fold.f k a0 a1 a2 a3) (spec_l11Fold.f (k + 1) a0 a1 a2 a3) := by
 intro a0 a1 a2 a3 k
 obtain ⟨ih0, ih1, ih2, ih3⟩ := spec_l11Fold.mono_l k
 exact ih0 a0 a1 a2 a3
set_option maxHeartbeats 8000000 in
set_option maxRecDepth 100000 in
theorem spec_l11Fold.calls (k : Nat) : ∀ (a0_0 : Int) (a0_1 : Int) (a0_2 : ByteArray) (A0_3 : Option Addr) (c0_3 : Nat) (l0_3 : List (S29)) (r1 : Int) (r2 : Int) (r3 : ByteArray) (r4 : List (S29)) (w : World) (hr0_3 : Kd.C k29 w A0_3 l0_3.length l0_3) (hc0_3 : l0_3.length ≤ c0_3) (h : spec_l11Fold.f k a0_0 a0_1 a0_2 l0_3 = some (r1, r2, r3, r4)),
  Calls Try.prog 58 #[.agg #[.int .i64 a0_0, .int .i64 a0_1, .string a0_2, .slice A0_3 l0_3.length c0_3]] w fun e w' => ∃ v3_ : Value, e = .returned (.agg #[.int .i64 r1, .int .i64 r2, .string r3, v3_]) ∧ Kd.V k29 29 w' w.heap.size (fun k_ => (w.heap.size ≤ k_)) v3_ r4 ∧ Below w.heap.size w w' := by
 induction k using Nat.strongRecOn with
 | _ k ih =>
 intro a0_0 a0_1 a0_2 A0_3 c0_3 l0_3 r1 r2 r3 r4 w hr0_3 hc0_3 h
 cases k with
 | zero => exact absurd h (by simp [spec_l11Fold.f])
 | succ k =>
 simp only [spec_l11Fold.f] at h
 have hu29 := Try.underlying29
 have HR0_3 := A_ hr0_3
 have HC0_3 := A_ hc0_3
 clear hr0_3 hc0_3
 have HB := A_ (Below.refl w.heap.size w)
 have H : (if (l0_3.length : Int) = 0 then ((spec_l11Copy.f k a0_0 a0_1 a0_2 l0_3).bind fun bt246 => (some (bt246.1, bt246.2.1, bt246.2.2.1, bt246.2.2.2))) else (if 0 < (l0_3.length : Int) then ((spec_l11Fold.f k ((rd_T29 l0_3 0).f0) ((rd_T29 l0_3 0).f1) ((rd_T29 l0_3 0).f2) ((rd_T29 l0_3 0).f3)).bind fun bt253 => (if a0_0 = 4 then (if bt253.1 = 1 then ((spec_l10Num.f (wrap64 (-bt253.2.1))).bind fun bt260 => (some (bt260.1, bt260.2.1, bt260.2.2.1, bt260.2.2.2))) else (some (4, 0, (⟨#[]⟩ : ByteArray), (([(⟨bt253.1, bt253.2.1, bt253.2.2.1, bt253.2.2.2⟩ : S29)] : List (S29)))))) else (if 1 < (l0_3.length : Int) then ((spec_l11Fold.f k ((rd_T29 l0_3 1).f0) ((rd_T29 l0_3 1).f1) ((rd_T29 l0_3 1).f2) ((rd_T29 l0_3 1).f3)).bind fun bt270 => (if bt253.1 = 1 then (spec_l11Fold.j0 k (bt270.1 == 1) a0_0 a0_1 a0_2 l0_3 bt253.1 bt253.2.1 bt253.2.2.1 bt253.2.2.2 bt270.1 bt270.2.1 bt270.2.2.1 bt270.2.2.2) else (spec_l11Fold.j0 k false a0_0 a0_1 a0_2 l0_3 bt253.1 bt253.2.1 bt253.2.2.1 bt253.2.2.2 bt270.1 bt270.2.1 bt270.2.2.1 bt270.2.2.2))) else (none)))) else (none))) = some (r1, r2, r3, r4) := h
 clear h
 by_cases c2 : (l0_3.length : Int) = 0
 ·rw [if_pos c2] at H
  have c2b0 := beq_iff_eq.mpr c2
  have c2b1 := bne_eq_false_iff_eq.mpr c2
  clear c2
  replace H := Option.bind_eq_some_iff.mp H
  obtain ⟨⟨t246, t247, t248, t249⟩, A30, H⟩ := H
  try dsimp only at H
  have A3 := A_ A30
  clear A30
  simp only [Option.some.injEq, Prod.mk.injEq] at H
  obtain ⟨rfl, rfl, rfl, rfl⟩ := H
  go_enter Try.func58, Try.ntmps58
  go_wp2_with (first | ((with_reducible refine gate_dst (N := 1) rfl ?_); refine box_event ?hg (N := 1) ?hd (cs := #[.int .i64 a0_0, .int .i64 a0_1, .string a0_2, .slice A0_3 l0_3.length c0_3]) (t := 29) ?hr ?_; (case hd => rfl); (case hg => rfl); (case hr => first | (go_simp; done) | (go_simp; rfl)); intro gb244 hg w4 hbox hb; have n0_ := A_ (below_step (bw_ HB.out) hb); have n1_ := A_ (hbox); have n2_ := A_ ((by rw [hg]; exact (below_size (bw_ HB.out)) : w.heap.size ≤ gb244)); have n3_ := n2_; clear HB; have HB := n0_; have BK244 := n1_; have GW244 := n2_; have GE244 := n3_; have GI244 := GeI.mk GE244.out; clear n0_ n1_ n2_ n3_; clear hb hbox hg) | ((with_reducible refine gate_dst (N := 2) rfl ?_); refine box_event ?hg (N := 2) ?hd (cs := #[.int .i64 0, .int .i64 0, .string (⟨#[]⟩ : ByteArray), .slice none 0 0]) (t := 29) ?hr ?_; (case hd => rfl); (case hg => rfl); (case hr => first | (go_simp; done) | (go_simp; rfl)); intro gb245 hg w5 hbox hb; have n0_ := A_ (blk_below (bk_ BK244.out) hb); have n1_ := A_ (below_step (bw_ HB.out) hb); have n2_ := A_ (hbox); have n3_ := A_ ((by rw [hg]; exact (below_size (bw_ HB.out)) : w.heap.size ≤ gb245)); have n4_ := n3_; have n5_ := A_ ((by rw [hg]; exact Nat.ne_of_lt (blk_lt (bk_ BK244.out)) : gb244 ≠ gb245)); have n6_ := A_ n5_.out.symm; clear BK244; clear HB; have BK244 := n0_; have HB := n1_; have BK245 := n2_; have GW245 := n3_; have GE245 := n4_; have GI245 := GeI.mk GE245.out; have NB244_245 := n5_; have NB245_244 := n6_; clear n0_ n1_ n2_ n3_ n4_ n5_ n6_; clear hb hbox hg; have hnb6 := NB244_245.out; have hnc6 := NB245_244.out; have y7_0 : w5.cell? ⟨gb244, 0, none⟩ = some (.int .i64 a0_0) := (blk_cell BK244.out 0).trans rfl; have y7_1 : w5.cell? ⟨gb244, 1, none⟩ = some (.int .i64 a0_1) := (blk_cell BK244.out 1).trans rfl; have y7_2 : w5.cell? ⟨gb244, 2, none⟩ = some (.string a0_2) := (blk_cell BK244.out 2).trans rfl; have y7_3 : w5.cell? ⟨gb244, 3, none⟩ = some (.slice A0_3 l0_3.length c0_3) := (blk_cell BK244.out 3).trans rfl; have z7_0 := blk_frozen BK244.out 0; have z7_1 := blk_frozen BK244.out 1; have z7_2 := blk_frozen BK244.out 2; have z7_3 := blk_frozen BK244.out 3) | ((with_reducible refine gate_callee (f := 57) rfl ?_); refine gL_ (some 12) Try.func57 #[.agg #[.int .i64 a0_0, .int .i64 a0_1, .string a0_2, .slice A0_3 l0_3.length c0_3]] ?_; (with_reducible refine (spec_l11Copy.calls k a0_0 a0_1 a0_2 _ _ l0_3 t246 t247 t248 t249 _ ?side1 ?side2 A3.out).mono ?_); (case side1 => repeat (first | exact (Kd.C_below HR0_3.out HB.out) | (with_reducible refine Kd.C_alloc ?_ _) | (with_reducible refine Kd.C_drewN ?_ _) | (with_reducible refine Kd.C_drew ?_))); (case side2 => exact HC0_3.out); rintro e w8 ⟨v250, rfl, ho0, hb⟩; refine ⟨_, rfl, ?_⟩; have n0_ := A_ (Kd.N_lower (Kd.N_mono (ok' := fun k_ => (w.heap.size ≤ k_) ∧ k_ ≠ gb244 ∧ k_ ≠ gb245) (Kd.R_N (Kd.R_bound ho0)) (fun k_ hk_ => ⟨(Nat.le_trans (below_size (bw_ HB.out)) hk_.2.1), (Kd.freshB (bk_ BK244.out) k_ hk_.2.1), (Kd.freshB (bk_ BK245.out) k_ hk_.2.1)⟩)) (below_size (bw_ HB.out))); have n1_ := A_ (blk_below (bk_ BK244.out) hb); have n2_ := A_ (blk_below (bk_ BK245.out) hb); have n3_ := A_ (below_step (bw_ HB.out) hb); clear BK244; clear BK245; clear HB; have HO251 := n0_; have BK244 := n1_; have BK245 := n2_; have HB := n3_; clear n0_ n1_ n2_ n3_; (try clear hb); (try clear hb2); (try clear hk); (try clear hi); (try clear ho0); have y9_0 : w8.cell? ⟨gb245, 0, none⟩ = some (.int .i64 0) := (blk_cell BK245.out 0).trans rfl; have y9_1 : w8.cell? ⟨gb245, 1, none⟩ = some (.int .i64 0) := (blk_cell BK245.out 1).trans rfl; have y9_2 : w8.cell? ⟨gb245, 2, none⟩ = some (.string (⟨#[]⟩ : ByteArray)) := (blk_cell BK245.out 2).trans rfl; have y9_3 : w8.cell? ⟨gb245, 3, none⟩ = some (.slice none 0 0) := (blk_cell BK245.out 3).trans rfl; have z9_0 := blk_frozen BK245.out 0; have z9_1 := blk_frozen BK245.out 1; have z9_2 := blk_frozen BK245.out 2; have z9_3 := blk_frozen BK245.out 3; obtain ⟨Ao10, co10, eo10⟩ := Kd.N_slice HO251.out; subst eo10))
  refine bodyPost_ret (results_cell_row rfl _ _ gb245 29 #[.int .i64 t246, .int .i64 t247, .string t248, .slice Ao10 t249.length co10] (0, 0) _ rfl ?hb_ Try.underlying29 rfl (by kernel_rfl)) rfl ?_
  (case hb_ => refine bk_ ?_; refine blk_put (cs := #[.int .i64 t246, .int .i64 t247, .string t248, .slice none 0 0]) ?_ 3 _ rfl; refine bk_ ?_; refine blk_put (cs := #[.int .i64 t246, .int .i64 t247, .string (⟨#[]⟩ : ByteArray), .slice none 0 0]) ?_ 2 _ rfl; refine bk_ ?_; refine blk_put (cs := #[.int .i64 t246, .int .i64 0, .string (⟨#[]⟩ : ByteArray), .slice none 0 0]) ?_ 1 _ rfl; refine bk_ ?_; refine blk_put (cs := #[.int .i64 0, .int .i64 0, .string (⟨#[]⟩ : ByteArray), .slice none 0 0]) ?_ 0 _ rfl; refine bk_ ?_; exact BK245.out)
  exact ⟨_, by first | rfl | (simp [errW_none, errW_some] <;> rfl) | (simp [*, errW_none, errW_some] <;> rfl), Kd.N_V (by (with_reducible repeat (first | apply Kd.N_alloc | apply Kd.N_drewN | apply Kd.N_drew)); exact Kd.N_mono (Kd.N_far (p := ⟨gb245, 3, none⟩) (Kd.N_far (p := ⟨gb245, 2, none⟩) (Kd.N_far (p := ⟨gb245, 1, none⟩) (Kd.N_far (p := ⟨gb245, 0, none⟩) (Kd.N_mono HO251.out (fun k_ hk => (⟨hk, hk.2.2⟩ : _ ∧ k_ ≠ gb245))) (fun _ hk => hk.2) (.int .i64 t246)) (fun _ hk => hk.2) (.int .i64 t247)) (fun _ hk => hk.2) (.string t248)) (fun _ hk => hk.2) (.slice Ao10 t249.length co10)) (fun _ hk => hk.1.1)), bw_ HB.out⟩
 ·rw [if_neg c2] at H
  have c2b0 := beq_eq_false_iff_ne.mpr c2
  have c2b1 := bne_iff_ne.mpr c2
  have c2b2 : ¬ (l0_3 = []) := fun h_ => c2 (by rw [h_]; rfl)
  by_cases c11 : 0 < (l0_3.length : Int)
  ·rw [if_pos c11] at H
   have c11b0 := decide_eq_true c11
   have c11b1 : decide (0 < l0_3.length) = true := decide_eq_true (by omega)
   clear c11
   replace H := Option.bind_eq_some_iff.mp H
   obtain ⟨⟨t253, t254, t255, t256⟩, A120, H⟩ := H
   try dsimp only at H
   have A12 := A_ A120
   clear A120
   by_cases c13 : a0_0 = 4
   ·rw [if_pos c13] at H
    have c13b0 := beq_iff_eq.mpr c13
    have c13b1 := bne_eq_false_iff_eq.mpr c13
    clear c13
    by_cases c14 : t253 = 1
    ·rw [if_pos c14] at H
     have c14b0 := beq_iff_eq.mpr c14
     have c14b1 := bne_eq_false_iff_eq.mpr c14
     clear c14
     replace H := Option.bind_eq_some_iff.mp H
     obtain ⟨⟨t260, t261, t262, t263⟩, A150, H⟩ := H
     try dsimp only at H
     have A15 := A_ A150
     clear A150
     simp only [Option.some.injEq, Prod.mk.injEq] at H
     obtain ⟨rfl, rfl, rfl, rfl⟩ := H
     go_enter Try.func58, Try.ntmps58
     go_wp2_with (first | ((with_reducible refine gate_dst (N := 1) rfl ?_); refine box_event ?hg (N := 1) ?hd (cs := #[.int .i64 a0_0, .int .i64 a0_1, .string a0_2, .slice A0_3 l0_3.length c0_3]) (t := 29) ?hr ?_; (case hd => rfl); (case hg => rfl); (case hr => first | (go_simp; done) | (go_simp; rfl)); intro gb244 hg w16 hbox hb; have n0_ := A_ (below_step (bw_ HB.out) hb); have n1_ := A_ (hbox); have n2_ := A_ ((by rw [hg]; exact (below_size (bw_ HB.out)) : w.heap.size ≤ gb244)); have n3_ := n2_; clear HB; have HB := n0_; have BK244 := n1_; have GW244 := n2_; have GE244 := n3_; have GI244 := GeI.mk GE244.out; clear n0_ n1_ n2_ n3_; clear hb hbox hg) | ((with_reducible refine gate_dst (N := 2) rfl ?_); refine box_event ?hg (N := 2) ?hd (cs := #[.int .i64 0, .int .i64 0, .string (⟨#[]⟩ : ByteArray), .slice none 0 0]) (t := 29) ?hr ?_; (case hd => rfl); (case hg => rfl); (case hr => first | (go_simp; done) | (go_simp; rfl)); intro gb245 hg w17 hbox hb; have n0_ := A_ (blk_below (bk_ BK244.out) hb); have n1_ := A_ (below_step (bw_ HB.out) hb); have n2_ := A_ (hbox); have n3_ := A_ ((by rw [hg]; exact (below_size (bw_ HB.out)) : w.heap.size ≤ gb245)); have n4_ := n3_; have n5_ := A_ ((by rw [hg]; exact Nat.ne_of_lt (blk_lt (bk_ BK244.out)) : gb244 ≠ gb245)); have n6_ := A_ n5_.out.symm; clear BK244; clear HB; have BK244 := n0_; have HB := n1_; have BK245 := n2_; have GW245 := n3_; have GE245 := n4_; have GI245 := GeI.mk GE245.out; have NB244_245 := n5_; have NB245_244 := n6_; clear n0_ n1_ n2_ n3_ n4_ n5_ n6_; clear hb hbox hg; have hnb18 := NB244_245.out; have hnc18 := NB245_244.out; have y19_0 : w17.cell? ⟨gb244, 0, none⟩ = some (.int .i64 a0_0) := (blk_cell BK244.out 0).trans rfl; have y19_1 : w17.cell? ⟨gb244, 1, none⟩ = some (.int .i64 a0_1) := (blk_cell BK244.out 1).trans rfl; have y19_2 : w17.cell? ⟨gb244, 2, none⟩ = some (.string a0_2) := (blk_cell BK244.out 2).trans rfl; have y19_3 : w17.cell? ⟨gb244, 3, none⟩ = some (.slice A0_3 l0_3.length c0_3) := (blk_cell BK244.out 3).trans rfl; have z19_0 := blk_frozen BK244.out 0; have z19_1 := blk_frozen BK244.out 1; have z19_2 := blk_frozen BK244.out 2; have z19_3 := blk_frozen BK244.out 3; have p252 : 0 ≤ (0 : Int) := (by omega); have q252 : 0 < (l0_3.length : Int) := of_decide_eq_true (by first | (with_reducible assumption) | assumption); obtain ⟨ad252, A252_3, c252_3, e252, hx252_0, hx252_1, hx252_2, hx252_3, hl252_3, hi252_3⟩ := at_T29 HR0_3.out 0 p252 q252; cases e252; have qi252 : (0 < l0_3.length) = True := eq_true (by omega); (try rw [show ((0 : Int)).toNat = 0 from rfl] at hx252_0); (try rw [show 0 * 4 = 0 from rfl] at hx252_0); (try rw [Addr.add_zero'] at hx252_0); (try rw [show ((0 : Int)).toNat = 0 from rfl] at hx252_1); (try rw [show 0 * 4 = 0 from rfl] at hx252_1); (try rw [Addr.add_zero'] at hx252_1); (try rw [show ((0 : Int)).toNat = 0 from rfl] at hx252_2); (try rw [show 0 * 4 = 0 from rfl] at hx252_2); (try rw [Addr.add_zero'] at hx252_2); (try rw [show ((0 : Int)).toNat = 0 from rfl] at hx252_3); (try rw [show 0 * 4 = 0 from rfl] at hx252_3); (try rw [Addr.add_zero'] at hx252_3); replace hx252_0 := (HB.out.cell (World.block_lt_of_cell? w _ hx252_0)).trans hx252_0; replace hx252_1 := (HB.out.cell (World.block_lt_of_cell? w _ hx252_1)).trans hx252_1; replace hx252_2 := (HB.out.cell (World.block_lt_of_cell? w _ hx252_2)).trans hx252_2; replace hx252_3 := (HB.out.cell (World.block_lt_of_cell? w _ hx252_3)).trans hx252_3; have HR252_3 := A_ hi252_3; have HC252_3 := A_ hl252_3; clear hi252_3 hl252_3; replace p252 := eq_true p252; replace q252 := eq_true q252) | ((with_reducible refine gate_callee (f := 58) rfl ?_); refine gL_ (some 17) Try.func58 #[.agg #[.int .i64 ((rd_T29 l0_3 0).f0), .int .i64 ((rd_T29 l0_3 0).f1), .string ((rd_T29 l0_3 0).f2), .slice A252_3 ((rd_T29 l0_3 0).f3).length c252_3]] ?_; (with_reducible refine (ih k (by omega) ((rd_T29 l0_3 0).f0) ((rd_T29 l0_3 0).f1) ((rd_T29 l0_3 0).f2) _ _ ((rd_T29 l0_3 0).f3) t253 t254 t255 t256 _ ?side1 ?side2 A12.out).mono ?_); (case side1 => repeat (first | exact (Kd.C_below HR252_3.out HB.out) | (with_reducible refine Kd.C_alloc ?_ _) | (with_reducible refine Kd.C_drewN ?_ _) | (with_reducible refine Kd.C_drew ?_))); (case side2 => exact HC252_3.out); rintro e w20 ⟨v257, rfl, ho0, hb⟩; refine ⟨_, rfl, ?_⟩; have n0_ := A_ (Kd.V_lower (Kd.V_mono (ok' := fun k_ => (w.heap.size ≤ k_) ∧ k_ ≠ gb244 ∧ k_ ≠ gb245) ho0 (fun k_ hk_ => ⟨(Nat.le_trans (below_size (bw_ HB.out)) hk_), (Kd.freshB (bk_ BK244.out) k_ hk_), (Kd.freshB (bk_ BK245.out) k_ hk_)⟩)) (below_size (bw_ HB.out))); have n1_ := A_ (blk_below (bk_ BK244.out) hb); have n2_ := A_ (blk_below (bk_ BK245.out) hb); have n3_ := A_ (below_step (bw_ HB.out) hb); clear BK244; clear BK245; clear HB; have HO258 := n0_; have BK244 := n1_; have BK245 := n2_; have HB := n3_; clear n0_ n1_ n2_ n3_; (try clear hb); (try clear hb2); (try clear hk); (try clear hi); (try clear ho0)) | ((with_reducible refine gate_dst (N := 3) rfl ?_); refine box_event ?hg (N := 3) ?hd (cs := #[.int .i64 0, .int .i64 0, .string (⟨#[]⟩ : ByteArray), .slice none 0 0]) (t := 29) ?hr ?_; (case hd => rfl); (case hg => rfl); (case hr => first | (go_simp; done) | (go_simp; rfl)); intro gb259 hg w21 hbox hb; have n0_ := A_ (Kd.V_below (Kd.V_elderB (kv_ HO258.out) gb259 (Nat.le_of_eq hg.symm)) hb); have n1_ := A_ (blk_below (bk_ BK244.out) hb); have n2_ := A_ (blk_below (bk_ BK245.out) hb); have n3_ := A_ (below_step (bw_ HB.out) hb); have n4_ := A_ (hbox); have n5_ := A_ ((by rw [hg]; exact (below_size (bw_ HB.out)) : w.heap.size ≤ gb259)); have n6_ := n5_; have n7_ := A_ ((by rw [hg]; exact Nat.ne_of_lt (blk_lt (bk_ BK244.out)) : gb244 ≠ gb259)); have n8_ := A_ n7_.out.symm; have n9_ := A_ ((by rw [hg]; exact Nat.ne_of_lt (blk_lt (bk_ BK245.out)) : gb245 ≠ gb259)); have n10_ := A_ n9_.out.symm; clear HO258; clear BK244; clear BK245; clear HB; have HO258 := n0_; have BK244 := n1_; have BK245 := n2_; have HB := n3_; have BK259 := n4_; have GW259 := n5_; have GE259 := n6_; have GI259 := GeI.mk GE259.out; have NB244_259 := n7_; have NB259_244 := n8_; have NB245_259 := n9_; have NB259_245 := n10_; clear n0_ n1_ n2_ n3_ n4_ n5_ n6_ n7_ n8_ n9_ n10_; clear hb hbox hg; have hnb22 := NB259_244.out; have hnc22 := NB244_259.out; have hnb23 := NB259_245.out; have hnc23 := NB245_259.out; have y24_0 : w21.cell? ⟨gb259, 0, none⟩ = some (.int .i64 0) := (blk_cell BK259.out 0).trans rfl; have y24_1 : w21.cell? ⟨gb259, 1, none⟩ = some (.int .i64 0) := (blk_cell BK259.out 1).trans rfl; have y24_2 : w21.cell? ⟨gb259, 2, none⟩ = some (.string (⟨#[]⟩ : ByteArray)) := (blk_cell BK259.out 2).trans rfl; have y24_3 : w21.cell? ⟨gb259, 3, none⟩ = some (.slice none 0 0) := (blk_cell BK259.out 3).trans rfl; have z24_0 := blk_frozen BK259.out 0; have z24_1 := blk_frozen BK259.out 1; have z24_2 := blk_frozen BK259.out 2; have z24_3 := blk_frozen BK259.out 3; obtain ⟨Ao25, co25, eo25⟩ := Kd.V_slice HO258.out; subst eo25; have y26_0 : w21.cell? ⟨gb244, 0, none⟩ = some (.int .i64 a0_0) := (blk_cell BK244.out 0).trans rfl; have y26_1 : w21.cell? ⟨gb244, 1, none⟩ = some (.int .i64 a0_1) := (blk_cell BK244.out 1).trans rfl; have y26_2 : w21.cell? ⟨gb244, 2, none⟩ = some (.string a0_2) := (blk_cell BK244.out 2).trans rfl; have y26_3 : w21.cell? ⟨gb244, 3, none⟩ = some (.slice (some ad252) l0_3.length c0_3) := (blk_cell BK244.out 3).trans rfl; have z26_0 := blk_frozen BK244.out 0; have z26_1 := blk_frozen BK244.out 1; have z26_2 := blk_frozen BK244.out 2; have z26_3 := blk_frozen BK244.out 3) | ((with_reducible refine gate_callee (f := 79) rfl ?_); refine gL_ (some 27) Try.func79 #[.int .i64 (wrap64 (-t254))] ?_; (with_reducible refine (spec_l10Num.calls (wrap64 (-t254)) t260 t261 t262 t263 _ A15.out).mono ?_); rintro e w27 ⟨v264, rfl, ho0, hb⟩; refine ⟨_, rfl, ?_⟩; have n0_ := A_ (Kd.V_elder' (by (with_reducible repeat (first | apply Kd.V_alloc | apply Kd.V_drewN | apply Kd.V_drew)); exact (Kd.V_mono (Kd.V_far (p := ⟨gb259, 3, none⟩) (Kd.V_far (p := ⟨gb259, 2, none⟩) (Kd.V_far (p := ⟨gb259, 1, none⟩) (Kd.V_far (p := ⟨gb259, 0, none⟩) (Kd.V_mono HO258.out (fun k_ hk => (⟨hk, hk.2⟩ : _ ∧ k_ ≠ gb259))) (fun _ hk => hk.2) (.int .i64 t253)) (fun _ hk => hk.2) (.int .i64 t254)) (fun _ hk => hk.2) (.string t255)) (fun _ hk => hk.2) (.slice Ao25 t256.length co25)) (fun _ h_ => h_.1))) (by first | exact Kd.N_base ho0 | exact Kd.R_base ho0) hb); have n1_ := A_ (Kd.N_lower (Kd.N_mono (ok' := fun k_ => (w.heap.size ≤ k_) ∧ k_ ≠ gb244 ∧ k_ ≠ gb245 ∧ k_ ≠ gb259) (Kd.R_N (Kd.R_bound ho0)) (fun k_ hk_ => ⟨(Nat.le_trans (below_size (bw_ HB.out)) hk_.2.1), (Kd.freshB (g := gb244) (o := .cells #[.int .i64 a0_0, .int .i64 a0_1, .string a0_2, .slice (some ad252) l0_3.length c0_3] 29 (0, 0)) (by refine bk_ ?_; refine blk_far ?_ NB244_259.out _; refine bk_ ?_; refine blk_far ?_ NB244_259.out _; refine bk_ ?_; refine blk_far ?_ NB244_259.out _; refine bk_ ?_; refine blk_far ?_ NB244_259.out _; refine bk_ ?_; exact BK244.out) k_ hk_.2.1), (Kd.freshB (g := gb245) (o := .cells #[.int .i64 0, .int .i64 0, .string (⟨#[]⟩ : ByteArray), .slice none 0 0] 29 (0, 0)) (by refine bk_ ?_; refine blk_far ?_ NB245_259.out _; refine bk_ ?_; refine blk_far ?_ NB245_259.out _; refine bk_ ?_; refine blk_far ?_ NB245_259.out _; refine bk_ ?_; refine blk_far ?_ NB245_259.out _; refine bk_ ?_; exact BK245.out) k_ hk_.2.1), (Kd.freshB (g := gb259) (o := .cells #[.int .i64 t253, .int .i64 t254, .string t255, .slice Ao25 t256.length co25] 29 (0, 0)) (by refine bk_ ?_; refine blk_put (cs := #[.int .i64 t253, .int .i64 t254, .string t255, .slice none 0 0]) ?_ 3 _ rfl; refine bk_ ?_; refine blk_put (cs := #[.int .i64 t253, .int .i64 t254, .string (⟨#[]⟩ : ByteArray), .slice none 0 0]) ?_ 2 _ rfl; refine bk_ ?_; refine blk_put (cs := #[.int .i64 t253, .int .i64 0, .string (⟨#[]⟩ : ByteArray), .slice none 0 0]) ?_ 1 _ rfl; refine bk_ ?_; refine blk_put (cs := #[.int .i64 0, .int .i64 0, .string (⟨#[]⟩ : ByteArray), .slice none 0 0]) ?_ 0 _ rfl; refine bk_ ?_; exact BK259.out) k_ hk_.2.1)⟩)) (below_size (bw_ HB.out))); have n2_ := A_ (blk_below (g := gb244) (o := .cells #[.int .i64 a0_0, .int .i64 a0_1, .string a0_2, .slice (some ad252) l0_3.length c0_3] 29 (0, 0)) (by refine bk_ ?_; refine blk_far ?_ NB244_259.out _; refine bk_ ?_; refine blk_far ?_ NB244_259.out _; refine bk_ ?_; refine blk_far ?_ NB244_259.out _; refine bk_ ?_; refine blk_far ?_ NB244_259.out _; refine bk_ ?_; exact BK244.out) hb); have n3_ := A_ (blk_below (g := gb245) (o := .cells #[.int .i64 0, .int .i64 0, .string (⟨#[]⟩ : ByteArray), .slice none 0 0] 29 (0, 0)) (by refine bk_ ?_; refine blk_far ?_ NB245_259.out _; refine bk_ ?_; refine blk_far ?_ NB245_259.out _; refine bk_ ?_; refine blk_far ?_ NB245_259.out _; refine bk_ ?_; refine blk_far ?_ NB245_259.out _; refine bk_ ?_; exact BK245.out) hb); have n4_ := A_ (blk_below (g := gb259) (o := .cells #[.int .i64 t253, .int .i64 t254, .string t255, .slice Ao25 t256.length co25] 29 (0, 0)) (by refine bk_ ?_; refine blk_put (cs := #[.int .i64 t253, .int .i64 t254, .string t255, .slice none 0 0]) ?_ 3 _ rfl; refine bk_ ?_; refine blk_put (cs := #[.int .i64 t253, .int .i64 t254, .string (⟨#[]⟩ : ByteArray), .slice none 0 0]) ?_ 2 _ rfl; refine bk_ ?_; refine blk_put (cs := #[.int .i64 t253, .int .i64 0, .string (⟨#[]⟩ : ByteArray), .slice none 0 0]) ?_ 1 _ rfl; refine bk_ ?_; refine blk_put (cs := #[.int .i64 0, .int .i64 0, .string (⟨#[]⟩ : ByteArray), .slice none 0 0]) ?_ 0 _ rfl; refine bk_ ?_; exact BK259.out) hb); have n5_ := A_ (below_step (bw_ HB.out) hb); clear HO258; clear BK244; clear BK245; clear BK259; clear HB; have HO258 := n0_; have HO265 := n1_; have BK244 := n2_; have BK245 := n3_; have BK259 := n4_; have HB := n5_; clear n0_ n1_ n2_ n3_ n4_ n5_; (try clear hb); (try clear hb2); (try clear hk); (try clear hi); (try clear ho0); have y28_0 : w27.cell? ⟨gb245, 0, none⟩ = some (.int .i64 0) := (blk_cell BK245.out 0).trans rfl; have y28_1 : w27.cell? ⟨gb245, 1, none⟩ = some (.int .i64 0) := (blk_cell BK245.out 1).trans rfl; have y28_2 : w27.cell? ⟨gb245, 2, none⟩ = some (.string (⟨#[]⟩ : ByteArray)) := (blk_cell BK245.out 2).trans rfl; have y28_3 : w27.cell? ⟨gb245, 3, none⟩ = some (.slice none 0 0) := (blk_cell BK245.out 3).trans rfl; have z28_0 := blk_frozen BK245.out 0; have z28_1 := blk_frozen BK245.out 1; have z28_2 := blk_frozen BK245.out 2; have z28_3 := blk_frozen BK245.out 3; obtain ⟨Ao29, co29, eo29⟩ := Kd.N_slice HO265.out; subst eo29))
     refine bodyPost_ret (results_cell_row rfl _ _ gb245 29 #[.int .i64 t260, .int .i64 t261, .string t262, .slice Ao29 t263.length co29] (0, 0) _ rfl ?hb_ Try.underlying29 rfl (by kernel_rfl)) rfl ?_
     (case hb_ => refine bk_ ?_; refine blk_put (cs := #[.int .i64 t260, .int .i64 t261, .string t262, .slice none 0 0]) ?_ 3 _ rfl; refine bk_ ?_; refine blk_put (cs := #[.int .i64 t260, .int .i64 t261, .string (⟨#[]⟩ : ByteArray), .slice none 0 0]) ?_ 2 _ rfl; refine bk_ ?_; refine blk_put (cs := #[.int .i64 t260, .int .i64 0, .string (⟨#[]⟩ : ByteArray), .slice none 0 0]) ?_ 1 _ rfl; refine bk_ ?_; refine blk_put (cs := #[.int .i64 0, .int .i64 0, .string (⟨#[]⟩ : ByteArray), .slice none 0 0]) ?_ 0 _ rfl; refine bk_ ?_; exact BK245.out)
     exact ⟨_, by first | rfl | (simp [errW_none, errW_some] <;> rfl) | (simp [*, errW_none, errW_some] <;> rfl), Kd.N_V (by (with_reducible repeat (first | apply Kd.N_alloc | apply Kd.N_drewN | apply Kd.N_drew)); exact Kd.N_mono (Kd.N_far (p := ⟨gb245, 3, none⟩) (Kd.N_far (p := ⟨gb245, 2, none⟩) (Kd.N_far (p := ⟨gb245, 1, none⟩) (Kd.N_far (p := ⟨gb245, 0, none⟩) (Kd.N_mono HO265.out (fun k_ hk => (⟨hk, hk.2.2.1⟩ : _ ∧ k_ ≠ gb245))) (fun _ hk => hk.2) (.int .i64 t260)) (fun _ hk => hk.2) (.int .i64 t261)) (fun _ hk => hk.2) (.string t262)) (fun _ hk => hk.2) (.slice Ao29 t263.length co29)) (fun _ hk => hk.1.1)), bw_ HB.out⟩
    ·rw [if_neg c14] at H
     have c14b0 := beq_eq_false_iff_ne.mpr c14
     have c14b1 := bne_iff_ne.mpr c14
     obtain ⟨y266, hy266⟩ : ∃ y_ : List (S29), y_ = (([(⟨t253, t254, t255, t256⟩ : S29)] : List (S29))) := ⟨_, rfl⟩
     replace H : (some (4, 0, (⟨#[]⟩ : ByteArray), y266)) = some (r1, r2, r3, r4) := by first | (rw [hy266]; with_reducible exact H) | (have H2_ := (Option.bind_some _ _).symm.trans H; rw [hy266]; with_reducible exact H2_) | (have H2_ := (Option.bind_some _ _).symm.trans H; with_reducible exact H2_) | with_reducible exact H | (rw [hy266]; exact H) | exact H
     have Ny266 := A_ hy266
     clear hy266
     simp only [Option.some.injEq, Prod.mk.injEq] at H
     obtain ⟨rfl, rfl, rfl, rfl⟩ := H
     go_enter Try.func58, Try.ntmps58
     go_wp2_with (first | ((with_reducible refine gate_dst (N := 1) rfl ?_); refine box_event ?hg (N := 1) ?hd (cs := #[.int .i64 a0_0, .int .i64 a0_1, .string a0_2, .slice A0_3 l0_3.length c0_3]) (t := 29) ?hr ?_; (case hd => rfl); (case hg => rfl); (case hr => first | (go_simp; done) | (go_simp; rfl)); intro gb244 hg w30 hbox hb; have n0_ := A_ (below_step (bw_ HB.out) hb); have n1_ := A_ (hbox); have n2_ := A_ ((by rw [hg]; exact (below_size (bw_ HB.out)) : w.heap.size ≤ gb244)); have n3_ := n2_; clear HB; have HB := n0_; have BK244 := n1_; have GW244 := n2_; have GE244 := n3_; have GI244 := GeI.mk GE244.out; clear n0_ n1_ n2_ n3_; clear hb hbox hg) | ((with_reducible refine gate_dst (N := 2) rfl ?_); refine box_event ?hg (N := 2) ?hd (cs := #[.int .i64 0, .int .i64 0, .string (⟨#[]⟩ : ByteArray), .slice none 0 0]) (t := 29) ?hr ?_; (case hd => rfl); (case hg => rfl); (case hr => first | (go_simp; done) | (go_simp; rfl)); intro gb245 hg w31 hbox hb; have n0_ := A_ (blk_below (bk_ BK244.out) hb); have n1_ := A_ (below_step (bw_ HB.out) hb); have n2_ := A_ (hbox); have n3_ := A_ ((by rw [hg]; exact (below_size (bw_ HB.out)) : w.heap.size ≤ gb245)); have n4_ := n3_; have n5_ := A_ ((by rw [hg]; exact Nat.ne_of_lt (blk_lt (bk_ BK244.out)) : gb244 ≠ gb245)); have n6_ := A_ n5_.out.symm; clear BK244; clear HB; have BK244 := n0_; have HB := n1_; have BK245 := n2_; have GW245 := n3_; have GE245 := n4_; have GI245 := GeI.mk GE245.out; have NB244_245 := n5_; have NB245_244 := n6_; clear n0_ n1_ n2_ n3_ n4_ n5_ n6_; clear hb hbox hg; have hnb32 := NB244_245.out; have hnc32 := NB245_244.out; have y33_0 : w31.cell? ⟨gb244, 0, none⟩ = some (.int .i64 a0_0) := (blk_cell BK244.out 0).trans rfl; have y33_1 : w31.cell? ⟨gb244, 1, none⟩ = some (.int .i64 a0_1) := (blk_cell BK244.out 1).trans rfl; have y33_2 : w31.cell? ⟨gb244, 2, none⟩ = some (.string a0_2) := (blk_cell BK244.out 2).trans rfl; have y33_3 : w31.cell? ⟨gb244, 3, none⟩ = some (.slice A0_3 l0_3.length c0_3) := (blk_cell BK244.out 3).trans rfl; have z33_0 := blk_frozen BK244.out 0; have z33_1 := blk_frozen BK244.out 1; have z33_2 := blk_frozen BK244.out 2; have z33_3 := blk_frozen BK244.out 3; have p252 : 0 ≤ (0 : Int) := (by omega); have q252 : 0 < (l0_3.length : Int) := of_decide_eq_true (by first | (with_reducible assumption) | assumption); obtain ⟨ad252, A252_3, c252_3, e252, hx252_0, hx252_1, hx252_2, hx252_3, hl252_3, hi252_3⟩ := at_T29 HR0_3.out 0 p252 q252; cases e252; have qi252 : (0 < l0_3.length) = True := eq_true (by omega); (try rw [show ((0 : Int)).toNat = 0 from rfl] at hx252_0); (try rw [show 0 * 4 = 0 from rfl] at hx252_0); (try rw [Addr.add_zero'] at hx252_0); (try rw [show ((0 : Int)).toNat = 0 from rfl] at hx252_1); (try rw [show 0 * 4 = 0 from rfl] at hx252_1); (try rw [Addr.add_zero'] at hx252_1); (try rw [show ((0 : Int)).toNat = 0 from rfl] at hx252_2); (try rw [show 0 * 4 = 0 from rfl] at hx252_2); (try rw [Addr.add_zero'] at hx252_2); (try rw [show ((0 : Int)).toNat = 0 from rfl] at hx252_3); (try rw [show 0 * 4 = 0 from rfl] at hx252_3); (try rw [Addr.add_zero'] at hx252_3); replace hx252_0 := (HB.out.cell (World.block_lt_of_cell? w _ hx252_0)).trans hx252_0; replace hx252_1 := (HB.out.cell (World.block_lt_of_cell? w _ hx252_1)).trans hx252_1; replace hx252_2 := (HB.out.cell (World.block_lt_of_cell? w _ hx252_2)).trans hx252_2; replace hx252_3 := (HB.out.cell (World.block_lt_of_cell? w _ hx252_3)).trans hx252_3; have HR252_3 := A_ hi252_3; have HC252_3 := A_ hl252_3; clear hi252_3 hl252_3; replace p252 := eq_true p252; replace q252 := eq_true q252) | ((with_reducible refine gate_callee (f := 58) rfl ?_); refine gL_ (some 17) Try.func58 #[.agg #[.int .i64 ((rd_T29 l0_3 0).f0), .int .i64 ((rd_T29 l0_3 0).f1), .string ((rd_T29 l0_3 0).f2), .slice A252_3 ((rd_T29 l0_3 0).f3).length c252_3]] ?_; (with_reducible refine (ih k (by omega) ((rd_T29 l0_3 0).f0) ((rd_T29 l0_3 0).f1) ((rd_T29 l0_3 0).f2) _ _ ((rd_T29 l0_3 0).f3) t253 t254 t255 t256 _ ?side1 ?side2 A12.out).mono ?_); (case side1 => repeat (first | exact (Kd.C_below HR252_3.out HB.out) | (with_reducible refine Kd.C_alloc ?_ _) | (with_reducible refine Kd.C_drewN ?_ _) | (with_reducible refine Kd.C_drew ?_))); (case side2 => exact HC252_3.out); rintro e w34 ⟨v257, rfl, ho0, hb⟩; refine ⟨_, rfl, ?_⟩; have n0_ := A_ (Kd.V_lower (Kd.V_mono (ok' := fun k_ => (w.heap.size ≤ k_) ∧ k_ ≠ gb244 ∧ k_ ≠ gb245) ho0 (fun k_ hk_ => ⟨(Nat.le_trans (below_size (bw_ HB.out)) hk_), (Kd.freshB (bk_ BK244.out) k_ hk_), (Kd.freshB (bk_ BK245.out) k_ hk_)⟩)) (below_size (bw_ HB.out))); have n1_ := A_ (blk_below (bk_ BK244.out) hb); have n2_ := A_ (blk_below (bk_ BK245.out) hb); have n3_ := A_ (below_step (bw_ HB.out) hb); clear BK244; clear BK245; clear HB; have HO258 := n0_; have BK244 := n1_; have BK245 := n2_; have HB := n3_; clear n0_ n1_ n2_ n3_; (try clear hb); (try clear hb2); (try clear hk); (try clear hi); (try clear ho0)) | ((with_reducible refine gate_dst (N := 3) rfl ?_); refine box_event ?hg (N := 3) ?hd (cs := #[.int .i64 0, .int .i64 0, .string (⟨#[]⟩ : ByteArray), .slice none 0 0]) (t := 29) ?hr ?_; (case hd => rfl); (case hg => rfl); (case hr => first | (go_simp; done) | (go_simp; rfl)); intro gb259 hg w35 hbox hb; have n0_ := A_ (Kd.V_below (Kd.V_elderB (kv_ HO258.out) gb259 (Nat.le_of_eq hg.symm)) hb); have n1_ := A_ (blk_below (bk_ BK244.out) hb); have n2_ := A_ (blk_below (bk_ BK245.out) hb); have n3_ := A_ (below_step (bw_ HB.out) hb); have n4_ := A_ (hbox); have n5_ := A_ ((by rw [hg]; exact (below_size (bw_ HB.out)) : w.heap.size ≤ gb259)); have n6_ := n5_; have n7_ := A_ ((by rw [hg]; exact Nat.ne_of_lt (blk_lt (bk_ BK244.out)) : gb244 ≠ gb259)); have n8_ := A_ n7_.out.symm; have n9_ := A_ ((by rw [hg]; exact Nat.ne_of_lt (blk_lt (bk_ BK245.out)) : gb245 ≠ gb259)); have n10_ := A_ n9_.out.symm; clear HO258; clear BK244; clear BK245; clear HB; have HO258 := n0_; have BK244 := n1_; have BK245 := n2_; have HB := n3_; have BK259 := n4_; have GW259 := n5_; have GE259 := n6_; have GI259 := GeI.mk GE259.out; have NB244_259 := n7_; have NB259_244 := n8_; have NB245_259 := n9_; have NB259_245 := n10_; clear n0_ n1_ n2_ n3_ n4_ n5_ n6_ n7_ n8_ n9_ n10_; clear hb hbox hg; have hnb36 := NB259_244.out; have hnc36 := NB244_259.out; have hnb37 := NB259_245.out; have hnc37 := NB245_259.out; have y38_0 : w35.cell? ⟨gb259, 0, none⟩ = some (.int .i64 0) := (blk_cell BK259.out 0).trans rfl; have y38_1 : w35.cell? ⟨gb259, 1, none⟩ = some (.int .i64 0) := (blk_cell BK259.out 1).trans rfl; have y38_2 : w35.cell? ⟨gb259, 2, none⟩ = some (.string (⟨#[]⟩ : ByteArray)) := (blk_cell BK259.out 2).trans rfl; have y38_3 : w35.cell? ⟨gb259, 3, none⟩ = some (.slice none 0 0) := (blk_cell BK259.out 3).trans rfl; have z38_0 := blk_frozen BK259.out 0; have z38_1 := blk_frozen BK259.out 1; have z38_2 := blk_frozen BK259.out 2; have z38_3 := blk_frozen BK259.out 3; obtain ⟨Ao39, co39, eo39⟩ := Kd.V_slice HO258.out; subst eo39) | ((with_reducible refine gate_store (t := 29) (p := 3) rfl ?_); refine store_event (t := 29) (p := 3) (v := ?vo_w40) (w1 := ((((w35.setCell ⟨gb259, 0, none⟩ (.int .i64 t253)).setCell ⟨gb259, 1, none⟩ (.int .i64 t254)).setCell ⟨gb259, 2, none⟩ (.string t255)).setCell ⟨gb259, 3, none⟩ (.slice Ao39 t256.length co39))) ?hg ?ho ?hn ?hr ?_; (case ho => rfl); (case hg => rfl); (case hn => rfl); (case hr => first | (go_simp; done) | (go_simp; rfl)); intro w40 hw; have n0_ : Aside0 (Kd.V k29 29 w40 w.heap.size (fun k_ => (w.heap.size ≤ k_) ∧ k_ ≠ gb244 ∧ k_ ≠ gb245 ∧ k_ ≠ gb259) (.slice Ao39 t256.length co39) t256) := ⟨(by rw [hw]; exact (by (with_reducible repeat (first | apply Kd.V_alloc | apply Kd.V_drewN | apply Kd.V_drew)); exact Kd.V_mono (Kd.V_far (p := ⟨gb259, 3, none⟩) (Kd.V_far (p := ⟨gb259, 2, none⟩) (Kd.V_far (p := ⟨gb259, 1, none⟩) (Kd.V_far (p := ⟨gb259, 0, none⟩) (Kd.V_mono HO258.out (fun k_ hk => (⟨hk, hk.2⟩ : _ ∧ k_ ≠ gb259))) (fun _ hk => hk.2) (.int .i64 t253)) (fun _ hk => hk.2) (.int .i64 t254)) (fun _ hk => hk.2) (.string t255)) (fun _ hk => hk.2) (.slice Ao39 t256.length co39)) (fun _ hk => ⟨hk.1.1.1, ⟨hk.1.1.2.1, ⟨hk.1.1.2.2, hk.1.2⟩⟩⟩)))⟩; have n1_ : Aside0 (w40.heap[gb244]? = some (.cells #[.int .i64 a0_0, .int .i64 a0_1, .string a0_2, .slice (some ad252) l0_3.length c0_3] 29 (0, 0))) := ⟨(by rw [hw]; exact (by refine bk_ ?_; refine blk_far ?_ NB244_259.out _; refine bk_ ?_; refine blk_far ?_ NB244_259.out _; refine bk_ ?_; refine blk_far ?_ NB244_259.out _; refine bk_ ?_; refine blk_far ?_ NB244_259.out _; refine bk_ ?_; exact BK244.out))⟩; have n2_ : Aside0 (w40.heap[gb245]? = some (.cells #[.int .i64 0, .int .i64 0, .string (⟨#[]⟩ : ByteArray), .slice none 0 0] 29 (0, 0))) := ⟨(by rw [hw]; exact (by refine bk_ ?_; refine blk_far ?_ NB245_259.out _; refine bk_ ?_; refine blk_far ?_ NB245_259.out _; refine bk_ ?_; refine blk_far ?_ NB245_259.out _; refine bk_ ?_; refine blk_far ?_ NB245_259.out _; refine bk_ ?_; exact BK245.out))⟩; have n3_ : Aside0 (w40.heap[gb259]? = some (.cells #[.int .i64 t253, .int .i64 t254, .string t255, .slice Ao39 t256.length co39] 29 (0, 0))) := ⟨(by rw [hw]; exact (by refine bk_ ?_; refine blk_put (cs := #[.int .i64 t253, .int .i64 t254, .string t255, .slice none 0 0]) ?_ 3 _ rfl; refine bk_ ?_; refine blk_put (cs := #[.int .i64 t253, .int .i64 t254, .string (⟨#[]⟩ : ByteArray), .slice none 0 0]) ?_ 2 _ rfl; refine bk_ ?_; refine blk_put (cs := #[.int .i64 t253, .int .i64 0, .string (⟨#[]⟩ : ByteArray), .slice none 0 0]) ?_ 1 _ rfl; refine bk_ ?_; refine blk_put (cs := #[.int .i64 0, .int .i64 0, .string (⟨#[]⟩ : ByteArray), .slice none 0 0]) ?_ 0 _ rfl; refine bk_ ?_; exact BK259.out))⟩; have n4_ : Aside0 (Below w.heap.size w w40) := ⟨(by rw [hw]; exact (bw_ HB.out))⟩; clear hw; clear HO258; clear BK244; clear BK245; clear BK259; clear HB; have HO258 := n0_; have BK244 := n1_; have BK245 := n2_; have BK259 := n3_; have HB := n4_; clear n0_ n1_ n2_ n3_ n4_; have y41_0 : w40.cell? ⟨gb244, 0, none⟩ = some (.int .i64 a0_0) := (blk_cell BK244.out 0).trans rfl; have y41_1 : w40.cell? ⟨gb244, 1, none⟩ = some (.int .i64 a0_1) := (blk_cell BK244.out 1).trans rfl; have y41_2 : w40.cell? ⟨gb244, 2, none⟩ = some (.string a0_2) := (blk_cell BK244.out 2).trans rfl; have y41_3 : w40.cell? ⟨gb244, 3, none⟩ = some (.slice (some ad252) l0_3.length c0_3) := (blk_cell BK244.out 3).trans rfl; have z41_0 := blk_frozen BK244.out 0; have z41_1 := blk_frozen BK244.out 1; have z41_2 := blk_frozen BK244.out 2; have z41_3 := blk_frozen BK244.out 3; have y42_0 : w40.cell? ⟨gb259, 0, none⟩ = some (.int .i64 t253) := (blk_cell BK259.out 0).trans rfl; have y42_1 : w40.cell? ⟨gb259, 1, none⟩ = some (.int .i64 t254) := (blk_cell BK259.out 1).trans rfl; have y42_2 : w40.cell? ⟨gb259, 2, none⟩ = some (.string t255) := (blk_cell BK259.out 2).trans rfl; have y42_3 : w40.cell? ⟨gb259, 3, none⟩ = some (.slice Ao39 t256.length co39) := (blk_cell BK259.out 3).trans rfl; have z42_0 := blk_frozen BK259.out 0; have z42_1 := blk_frozen BK259.out 1; have z42_2 := blk_frozen BK259.out 2; have z42_3 := blk_frozen BK259.out 3) | ((with_reducible refine gate_dst (N := 29) rfl ?_); refine Kd.N_lit k29 _ 29 ?hg (N' := 29) ?hd (xs := ([(⟨t253, t254, t255, t256⟩ : S29)] : List (S29))) (inner := [.int .i64 t253, .int .i64 t254, .string t255, .slice Ao39 t256.length co39]) (ok := (fun k_ => (w.heap.size ≤ k_) ∧ k_ ≠ gb244 ∧ k_ ≠ gb245 ∧ k_ ≠ gb259)) (okp := (fun k_ => (w.heap.size ≤ k_) ∧ k_ ≠ gb244 ∧ k_ ≠ gb245 ∧ k_ ≠ gb259)) ?hr ?hp (fun _ hk => hk) ((show ∀ k_, w40.heap.size ≤ k_ → (fun k_ => (w.heap.size ≤ k_) ∧ k_ ≠ gb244 ∧ k_ ≠ gb245 ∧ k_ ≠ gb259) k_ from fun k_ hk => ⟨(Nat.le_trans (below_size (bw_ HB.out)) hk), Kd.freshB (bk_ BK244.out) k_ hk, Kd.freshB (bk_ BK245.out) k_ hk, Kd.freshB (bk_ BK259.out) k_ hk⟩) _ (Nat.le_refl _)) (Below.refl _ _) (Nat.le_refl _) (by simp) ?_; (case hd => rfl); (case hg => rfl); (case hr => first | (go_simp; done) | (go_simp; rfl)); (case hp => exact (Reps.c4 (show Kd.FK k29 _ _ (⟨t253, t254, t255, t256⟩ : S29) [.int .i64 t253, .int .i64 t254, .string t255, .slice Ao39 t256.length co39] from (k29_mkF _ _ (⟨t253, t254, t255, t256⟩ : S29) (Kd.V_reads' (Kd.V_mono (ok' := (fun k_ => (w.heap.size ≤ k_) ∧ k_ ≠ gb244 ∧ k_ ≠ gb245 ∧ k_ ≠ gb259)) (HO258.out) (fun k_ hk => ⟨hk.1, ⟨hk.2.1, ⟨hk.2.2.1, hk.2.2.2⟩⟩⟩))).2.1 (Kd.V_F (Kd.V_mono (ok' := (fun k_ => (w.heap.size ≤ k_) ∧ k_ ≠ gb244 ∧ k_ ≠ gb245 ∧ k_ ≠ gb259)) (HO258.out) (fun k_ hk => ⟨hk.1, ⟨hk.2.1, ⟨hk.2.2.1, hk.2.2.2⟩⟩⟩))))) (Reps.none _ _))); intro v267 w43 ho44 hb hg_ hnew_; clear hg_ hnew_; (first | rw [← Ny266.out] at ho44 | (simp only [Int.reduceToNat] at ho44; rw [← Ny266.out] at ho44)); have n0_ := A_ (Kd.V_elder' (kv_ HO258.out) (Kd.N_base ho44) hb); have n1_ := A_ (Kd.N_lower ho44 (below_size (bw_ HB.out))); have n2_ := A_ (blk_below (bk_ BK244.out) hb); have n3_ := A_ (blk_below (bk_ BK245.out) hb); have n4_ := A_ (blk_below (bk_ BK259.out) hb); have n5_ := A_ (below_step (bw_ HB.out) hb); clear HO258; clear BK244; clear BK245; clear BK259; clear HB; have HO258 := n0_; have HO268 := n1_; have BK244 := n2_; have BK245 := n3_; have BK259 := n4_; have HB := n5_; clear n0_ n1_ n2_ n3_ n4_ n5_; clear hb ho44; obtain ⟨Ao45, co45, eo45⟩ := Kd.N_slice HO268.out; subst eo45; have y46_0 : w43.cell? ⟨gb245, 0, none⟩ = some (.int .i64 0) := (blk_cell BK245.out 0).trans rfl; have y46_1 : w43.cell? ⟨gb245, 1, none⟩ = some (.int .i64 0) := (blk_cell BK245.out 1).trans rfl; have y46_2 : w43.cell? ⟨gb245, 2, none⟩ = some (.string (⟨#[]⟩ : ByteArray)) := (blk_cell BK245.out 2).trans rfl; have y46_3 : w43.cell? ⟨gb245, 3, none⟩ = some (.slice none 0 0) := (blk_cell BK245.out 3).trans rfl; have z46_0 := blk_frozen BK245.out 0; have z46_1 := blk_frozen BK245.out 1; have z46_2 := blk_frozen BK245.out 2; have z46_3 := blk_frozen BK245.out 3))
     refine bodyPost_ret (results_cell_row rfl _ _ gb245 29 #[.int .i64 4, .int .i64 0, .string (⟨#[]⟩ : ByteArray), .slice Ao45 y266.length co45] (0, 0) _ rfl ?hb_ Try.underlying29 rfl (by kernel_rfl)) rfl ?_
     (case hb_ => refine bk_ ?_; refine blk_put (cs := #[.int .i64 4, .int .i64 0, .string (⟨#[]⟩ : ByteArray), .slice none 0 0]) ?_ 3 _ rfl; refine bk_ ?_; refine blk_put (cs := #[.int .i64 4, .int .i64 0, .string (⟨#[]⟩ : ByteArray), .slice none 0 0]) ?_ 2 _ rfl; refine bk_ ?_; refine blk_put (cs := #[.int .i64 4, .int .i64 0, .string (⟨#[]⟩ : ByteArray), .slice none 0 0]) ?_ 1 _ rfl; refine bk_ ?_; refine blk_put (cs := #[.int .i64 0, .int .i64 0, .string (⟨#[]⟩ : ByteArray), .slice none 0 0]) ?_ 0 _ rfl; refine bk_ ?_; exact BK245.out)
     exact ⟨_, by first | rfl | (simp [errW_none, errW_some] <;> rfl) | (simp [*, errW_none, errW_some] <;> rfl), Kd.N_V (by (with_reducible repeat (first | apply Kd.N_alloc | apply Kd.N_drewN | apply Kd.N_drew)); exact Kd.N_mono (Kd.N_far (p := ⟨gb245, 3, none⟩) (Kd.N_far (p := ⟨gb245, 2, none⟩) (Kd.N_far (p := ⟨gb245, 1, none⟩) (Kd.N_far (p := ⟨gb245, 0, none⟩) (Kd.N_mono HO268.out (fun k_ hk => (⟨hk, hk.2.2.1⟩ : _ ∧ k_ ≠ gb245))) (fun _ hk => hk.2) (.int .i64 4)) (fun _ hk => hk.2) (.int .i64 0)) (fun _ hk => hk.2) (.string (⟨#[]⟩ : ByteArray))) (fun _ hk => hk.2) (.slice Ao45 y266.length co45)) (fun _ hk => hk.1.1)), bw_ HB.out⟩
   ·rw [if_neg c13] at H
    have c13b0 := beq_eq_false_iff_ne.mpr c13
    have c13b1 := bne_iff_ne.mpr c13
    by_cases c47 : 1 < (l0_3.length : Int)
    ·rw [if_pos c47] at H
     have c47b0 := decide_eq_true c47
     have c47b1 : decide (1 < l0_3.length) = true := decide_eq_true (by omega)
     clear c47
     replace H := Option.bind_eq_some_iff.mp H
     obtain ⟨⟨t270, t271, t272, t273⟩, A480, H⟩ := H
     try dsimp only at H
     have A48 := A_ A480
     clear A480
     have HC49 := A_ H
     clear H
     go_enter Try.func58, Try.ntmps58
     go_upto_region 9 with (first | ((with_reducible refine gate_dst (N := 1) rfl ?_); refine box_event ?hg (N := 1) ?hd (cs := #[.int .i64 a0_0, .int .i64 a0_1, .string a0_2, .slice A0_3 l0_3.length c0_3]) (t := 29) ?hr ?_; (case hd => rfl); (case hg => rfl); (case hr => first | (go_simp; done) | (go_simp; rfl)); intro gb244 hg w50 hbox hb; have n0_ := A_ (below_step (bw_ HB.out) hb); have n1_ := A_ (hbox); have n2_ := A_ ((by rw [hg]; exact (below_size (bw_ HB.out)) : w.heap.size ≤ gb244)); have n3_ := n2_; clear HB; have HB := n0_; have BK244 := n1_; have GW244 := n2_; have GE244 := n3_; have GI244 := GeI.mk GE244.out; clear n0_ n1_ n2_ n3_; clear hb hbox hg) | ((with_reducible refine gate_dst (N := 2) rfl ?_); refine box_event ?hg (N := 2) ?hd (cs := #[.int .i64 0, .int .i64 0, .string (⟨#[]⟩ : ByteArray), .slice none 0 0]) (t := 29) ?hr ?_; (case hd => rfl); (case hg => rfl); (case hr => first | (go_simp; done) | (go_simp; rfl)); intro gb245 hg w51 hbox hb; have n0_ := A_ (blk_below (bk_ BK244.out) hb); have n1_ := A_ (below_step (bw_ HB.out) hb); have n2_ := A_ (hbox); have n3_ := A_ ((by rw [hg]; exact (below_size (bw_ HB.out)) : w.heap.size ≤ gb245)); have n4_ := n3_; have n5_ := A_ ((by rw [hg]; exact Nat.ne_of_lt (blk_lt (bk_ BK244.out)) : gb244 ≠ gb245)); have n6_ := A_ n5_.out.symm; clear BK244; clear HB; have BK244 := n0_; have HB := n1_; have BK245 := n2_; have GW245 := n3_; have GE245 := n4_; have GI245 := GeI.mk GE245.out; have NB244_245 := n5_; have NB245_244 := n6_; clear n0_ n1_ n2_ n3_ n4_ n5_ n6_; clear hb hbox hg; have hnb52 := NB244_245.out; have hnc52 := NB245_244.out; have y53_0 : w51.cell? ⟨gb244, 0, none⟩ = some (.int .i64 a0_0) := (blk_cell BK244.out 0).trans rfl; have y53_1 : w51.cell? ⟨gb244, 1, none⟩ = some (.int .i64 a0_1) := (blk_cell BK244.out 1).trans rfl; have y53_2 : w51.cell? ⟨gb244, 2, none⟩ = some (.string a0_2) := (blk_cell BK244.out 2).trans rfl; have y53_3 : w51.cell? ⟨gb244, 3, none⟩ = some (.slice A0_3 l0_3.length c0_3) := (blk_cell BK244.out 3).trans rfl; have z53_0 := blk_frozen BK244.out 0; have z53_1 := blk_frozen BK244.out 1; have z53_2 := blk_frozen BK244.out 2; have z53_3 := blk_frozen BK244.out 3; have p252 : 0 ≤ (0 : Int) := (by omega); have q252 : 0 < (l0_3.length : Int) := of_decide_eq_true (by first | (with_reducible assumption) | assumption); obtain ⟨ad252, A252_3, c252_3, e252, hx252_0, hx252_1, hx252_2, hx252_3, hl252_3, hi252_3⟩ := at_T29 HR0_3.out 0 p252 q252; cases e252; have qi252 : (0 < l0_3.length) = True := eq_true (by omega); (try rw [show ((0 : Int)).toNat = 0 from rfl] at hx252_0); (try rw [show 0 * 4 = 0 from rfl] at hx252_0); (try rw [Addr.add_zero'] at hx252_0); (try rw [show ((0 : Int)).toNat = 0 from rfl] at hx252_1); (try rw [show 0 * 4 = 0 from rfl] at hx252_1); (try rw [Addr.add_zero'] at hx252_1); (try rw [show ((0 : Int)).toNat = 0 from rfl] at hx252_2); (try rw [show 0 * 4 = 0 from rfl] at hx252_2); (try rw [Addr.add_zero'] at hx252_2); (try rw [show ((0 : Int)).toNat = 0 from rfl] at hx252_3); (try rw [show 0 * 4 = 0 from rfl] at hx252_3); (try rw [Addr.add_zero'] at hx252_3); replace hx252_0 := (HB.out.cell (World.block_lt_of_cell? w _ hx252_0)).trans hx252_0; replace hx252_1 := (HB.out.cell (World.block_lt_of_cell? w _ hx252_1)).trans hx252_1; replace hx252_2 := (HB.out.cell (World.block_lt_of_cell? w _ hx252_2)).trans hx252_2; replace hx252_3 := (HB.out.cell (World.block_lt_of_cell? w _ hx252_3)).trans hx252_3; have HR252_3 := A_ hi252_3; have HC252_3 := A_ hl252_3; clear hi252_3 hl252_3; replace p252 := eq_true p252; replace q252 := eq_true q252) | ((with_reducible refine gate_callee (f := 58) rfl ?_); refine gL_ (some 17) Try.func58 #[.agg #[.int .i64 ((rd_T29 l0_3 0).f0), .int .i64 ((rd_T29 l0_3 0).f1), .string ((rd_T29 l0_3 0).f2), .slice A252_3 ((rd_T29 l0_3 0).f3).length c252_3]] ?_; (with_reducible refine (ih k (by omega) ((rd_T29 l0_3 0).f0) ((rd_T29 l0_3 0).f1) ((rd_T29 l0_3 0).f2) _ _ ((rd_T29 l0_3 0).f3) t253 t254 t255 t256 _ ?side1 ?side2 A12.out).mono ?_); (case side1 => repeat (first | exact (Kd.C_below HR252_3.out HB.out) | (with_reducible refine Kd.C_alloc ?_ _) | (with_reducible refine Kd.C_drewN ?_ _) | (with_reducible refine Kd.C_drew ?_))); (case side2 => exact HC252_3.out); rintro e w54 ⟨v257, rfl, ho0, hb⟩; refine ⟨_, rfl, ?_⟩; have n0_ := A_ (Kd.V_lower (Kd.V_mono (ok' := fun k_ => (w.heap.size ≤ k_) ∧ k_ ≠ gb244 ∧ k_ ≠ gb245) ho0 (fun k_ hk_ => ⟨(Nat.le_trans (below_size (bw_ HB.out)) hk_), (Kd.freshB (bk_ BK244.out) k_ hk_), (Kd.freshB (bk_ BK245.out) k_ hk_)⟩)) (below_size (bw_ HB.out))); have n1_ := A_ (blk_below (bk_ BK244.out) hb); have n2_ := A_ (blk_below (bk_ BK245.out) hb); have n3_ := A_ (below_step (bw_ HB.out) hb); clear BK244; clear BK245; clear HB; have HO258 := n0_; have BK244 := n1_; have BK245 := n2_; have HB := n3_; clear n0_ n1_ n2_ n3_; (try clear hb); (try clear hb2); (try clear hk); (try clear hi); (try clear ho0)) | ((with_reducible refine gate_dst (N := 3) rfl ?_); refine box_event ?hg (N := 3) ?hd (cs := #[.int .i64 0, .int .i64 0, .string (⟨#[]⟩ : ByteArray), .slice none 0 0]) (t := 29) ?hr ?_; (case hd => rfl); (case hg => rfl); (case hr => first | (go_simp; done) | (go_simp; rfl)); intro gb259 hg w55 hbox hb; have n0_ := A_ (Kd.V_below (Kd.V_elderB (kv_ HO258.out) gb259 (Nat.le_of_eq hg.symm)) hb); have n1_ := A_ (blk_below (bk_ BK244.out) hb); have n2_ := A_ (blk_below (bk_ BK245.out) hb); have n3_ := A_ (below_step (bw_ HB.out) hb); have n4_ := A_ (hbox); have n5_ := A_ ((by rw [hg]; exact (below_size (bw_ HB.out)) : w.heap.size ≤ gb259)); have n6_ := n5_; have n7_ := A_ ((by rw [hg]; exact Nat.ne_of_lt (blk_lt (bk_ BK244.out)) : gb244 ≠ gb259)); have n8_ := A_ n7_.out.symm; have n9_ := A_ ((by rw [hg]; exact Nat.ne_of_lt (blk_lt (bk_ BK245.out)) : gb245 ≠ gb259)); have n10_ := A_ n9_.out.symm; clear HO258; clear BK244; clear BK245; clear HB; have HO258 := n0_; have BK244 := n1_; have BK245 := n2_; have HB := n3_; have BK259 := n4_; have GW259 := n5_; have GE259 := n6_; have GI259 := GeI.mk GE259.out; have NB244_259 := n7_; have NB259_244 := n8_; have NB245_259 := n9_; have NB259_245 := n10_; clear n0_ n1_ n2_ n3_ n4_ n5_ n6_ n7_ n8_ n9_ n10_; clear hb hbox hg; have hnb56 := NB259_244.out; have hnc56 := NB244_259.out; have hnb57 := NB259_245.out; have hnc57 := NB245_259.out; have y58_0 : w55.cell? ⟨gb259, 0, none⟩ = some (.int .i64 0) := (blk_cell BK259.out 0).trans rfl; have y58_1 : w55.cell? ⟨gb259, 1, none⟩ = some (.int .i64 0) := (blk_cell BK259.out 1).trans rfl; have y58_2 : w55.cell? ⟨gb259, 2, none⟩ = some (.string (⟨#[]⟩ : ByteArray)) := (blk_cell BK259.out 2).trans rfl; have y58_3 : w55.cell? ⟨gb259, 3, none⟩ = some (.slice none 0 0) := (blk_cell BK259.out 3).trans rfl; have z58_0 := blk_frozen BK259.out 0; have z58_1 := blk_frozen BK259.out 1; have z58_2 := blk_frozen BK259.out 2; have z58_3 := blk_frozen BK259.out 3; obtain ⟨Ao59, co59, eo59⟩ := Kd.V_slice HO258.out; subst eo59; have y60_0 : w55.cell? ⟨gb244, 0, none⟩ = some (.int .i64 a0_0) := (blk_cell BK244.out 0).trans rfl; have y60_1 : w55.cell? ⟨gb244, 1, none⟩ = some (.int .i64 a0_1) := (blk_cell BK244.out 1).trans rfl; have y60_2 : w55.cell? ⟨gb244, 2, none⟩ = some (.string a0_2) := (blk_cell BK244.out 2).trans rfl; have y60_3 : w55.cell? ⟨gb244, 3, none⟩ = some (.slice (some ad252) l0_3.length c0_3) := (blk_cell BK244.out 3).trans rfl; have z60_0 := blk_frozen BK244.out 0; have z60_1 := blk_frozen BK244.out 1; have z60_2 := blk_frozen BK244.out 2; have z60_3 := blk_frozen BK244.out 3; have p269 : 0 ≤ (1 : Int) := (by omega); have q269 : 1 < (l0_3.length : Int) := of_decide_eq_true (by first | (with_reducible assumption) | assumption); obtain ⟨ad269, A269_3, c269_3, e269, hx269_0, hx269_1, hx269_2, hx269_3, hl269_3, hi269_3⟩ := at_T29 HR0_3.out 1 p269 q269; obtain rfl : ad252 = ad269 := (by injection e269); (try simp only [show (1 : Int).toNat = 1 from rfl, Nat.reduceMul, Nat.reduceEqDiff, Go.Addr.add, ↓reduceIte] at hx269_0); (try simp only [show (1 : Int).toNat = 1 from rfl, Nat.reduceMul, Nat.reduceEqDiff, Go.Addr.add, ↓reduceIte] at hx269_1); (try simp only [show (1 : Int).toNat = 1 from rfl, Nat.reduceMul, Nat.reduceEqDiff, Go.Addr.add, ↓reduceIte] at hx269_2); (try simp only [show (1 : Int).toNat = 1 from rfl, Nat.reduceMul, Nat.reduceEqDiff, Go.Addr.add, ↓reduceIte] at hx269_3); have qi269 : (1 < l0_3.length) = True := eq_true (by omega); (try rw [show ((1 : Int)).toNat = 1 from rfl] at hx269_0); (try rw [show 1 * 4 = 4 from rfl] at hx269_0); (try rw [show ((1 : Int)).toNat = 1 from rfl] at hx269_1); (try rw [show 1 * 4 = 4 from rfl] at hx269_1); (try rw [show ((1 : Int)).toNat = 1 from rfl] at hx269_2); (try rw [show 1 * 4 = 4 from rfl] at hx269_2); (try rw [show ((1 : Int)).toNat = 1 from rfl] at hx269_3); (try rw [show 1 * 4 = 4 from rfl] at hx269_3); have hn269_0 : ad252.block ≠ gb259 := Nat.ne_of_lt (Nat.lt_of_lt_of_le (by have := World.block_lt_of_cell? _ _ hx269_0; first | rwa [add_block] at this | exact this) GW259.out); have hn269_1 : ad252.block ≠ gb259 := Nat.ne_of_lt (Nat.lt_of_lt_of_le (by have := World.block_lt_of_cell? _ _ hx269_0; first | rwa [add_block] at this | exact this) GW259.out); have hn269_2 : ad252.block ≠ gb259 := Nat.ne_of_lt (Nat.lt_of_lt_of_le (by have := World.block_lt_of_cell? _ _ hx269_0; first | rwa [add_block] at this | exact this) GW259.out); have hn269_3 : ad252.block ≠ gb259 := Nat.ne_of_lt (Nat.lt_of_lt_of_le (by have := World.block_lt_of_cell? _ _ hx269_0; first | rwa [add_block] at this | exact this) GW259.out); replace hx269_0 := (HB.out.cell (World.block_lt_of_cell? w _ hx269_0)).trans hx269_0; replace hx269_1 := (HB.out.cell (World.block_lt_of_cell? w _ hx269_1)).trans hx269_1; replace hx269_2 := (HB.out.cell (World.block_lt_of_cell? w _ hx269_2)).trans hx269_2; replace hx269_3 := (HB.out.cell (World.block_lt_of_cell? w _ hx269_3)).trans hx269_3; have HR269_3 := A_ hi269_3; have HC269_3 := A_ hl269_3; clear hi269_3 hl269_3; replace hx269_0 := (cell_far (p := ⟨gb259, 0, none⟩) (by first | (rw [add_block]; exact hn269_0) | (show (Addr.add _ _).block ≠ _; rw [add_block]; exact hn269_0) | exact hn269_0) (.int .i64 t253)).trans hx269_0; replace hx269_1 := (cell_far (p := ⟨gb259, 0, none⟩) (by first | (rw [add_block]; exact hn269_0) | (show (Addr.add _ _).block ≠ _; rw [add_block]; exact hn269_0) | exact hn269_0) (.int .i64 t253)).trans hx269_1; replace hx269_2 := (cell_far (p := ⟨gb259, 0, none⟩) (by first | (rw [add_block]; exact hn269_0) | (show (Addr.add _ _).block ≠ _; rw [add_block]; exact hn269_0) | exact hn269_0) (.int .i64 t253)).trans hx269_2; replace hx269_3 := (cell_far (p := ⟨gb259, 0, none⟩) (by first | (rw [add_block]; exact hn269_0) | (show (Addr.add _ _).block ≠ _; rw [add_block]; exact hn269_0) | exact hn269_0) (.int .i64 t253)).trans hx269_3; replace hx269_0 := (cell_far (p := ⟨gb259, 1, none⟩) (by first | (rw [add_block]; exact hn269_1) | (show (Addr.add _ _).block ≠ _; rw [add_block]; exact hn269_1) | exact hn269_1) (.int .i64 t254)).trans hx269_0; replace hx269_1 := (cell_far (p := ⟨gb259, 1, none⟩) (by first | (rw [add_block]; exact hn269_1) | (show (Addr.add _ _).block ≠ _; rw [add_block]; exact hn269_1) | exact hn269_1) (.int .i64 t254)).trans hx269_1; replace hx269_2 := (cell_far (p := ⟨gb259, 1, none⟩) (by first | (rw [add_block]; exact hn269_1) | (show (Addr.add _ _).block ≠ _; rw [add_block]; exact hn269_1) | exact hn269_1) (.int .i64 t254)).trans hx269_2; replace hx269_3 := (cell_far (p := ⟨gb259, 1, none⟩) (by first | (rw [add_block]; exact hn269_1) | (show (Addr.add _ _).block ≠ _; rw [add_block]; exact hn269_1) | exact hn269_1) (.int .i64 t254)).trans hx269_3; replace hx269_0 := (cell_far (p := ⟨gb259, 2, none⟩) (by first | (rw [add_block]; exact hn269_2) | (show (Addr.add _ _).block ≠ _; rw [add_block]; exact hn269_2) | exact hn269_2) (.string t255)).trans hx269_0; replace hx269_1 := (cell_far (p := ⟨gb259, 2, none⟩) (by first | (rw [add_block]; exact hn269_2) | (show (Addr.add _ _).block ≠ _; rw [add_block]; exact hn269_2) | exact hn269_2) (.string t255)).trans hx269_1; replace hx269_2 := (cell_far (p := ⟨gb259, 2, none⟩) (by first | (rw [add_block]; exact hn269_2) | (show (Addr.add _ _).block ≠ _; rw [add_block]; exact hn269_2) | exact hn269_2) (.string t255)).trans hx269_2; replace hx269_3 := (cell_far (p := ⟨gb259, 2, none⟩) (by first | (rw [add_block]; exact hn269_2) | (show (Addr.add _ _).block ≠ _; rw [add_block]; exact hn269_2) | exact hn269_2) (.string t255)).trans hx269_3; replace hx269_0 := (cell_far (p := ⟨gb259, 3, none⟩) (by first | (rw [add_block]; exact hn269_3) | (show (Addr.add _ _).block ≠ _; rw [add_block]; exact hn269_3) | exact hn269_3) (.slice Ao59 t256.length co59)).trans hx269_0; replace hx269_1 := (cell_far (p := ⟨gb259, 3, none⟩) (by first | (rw [add_block]; exact hn269_3) | (show (Addr.add _ _).block ≠ _; rw [add_block]; exact hn269_3) | exact hn269_3) (.slice Ao59 t256.length co59)).trans hx269_1; replace hx269_2 := (cell_far (p := ⟨gb259, 3, none⟩) (by first | (rw [add_block]; exact hn269_3) | (show (Addr.add _ _).block ≠ _; rw [add_block]; exact hn269_3) | exact hn269_3) (.slice Ao59 t256.length co59)).trans hx269_2; replace hx269_3 := (cell_far (p := ⟨gb259, 3, none⟩) (by first | (rw [add_block]; exact hn269_3) | (show (Addr.add _ _).block ≠ _; rw [add_block]; exact hn269_3) | exact hn269_3) (.slice Ao59 t256.length co59)).trans hx269_3; clear hn269_0; clear hn269_1; clear hn269_2; clear hn269_3; replace p269 := eq_true p269; replace q269 := eq_true q269) | ((with_reducible refine gate_callee (f := 58) rfl ?_); refine gL_ (some 35) Try.func58 #[.agg #[.int .i64 ((rd_T29 l0_3 1).f0), .int .i64 ((rd_T29 l0_3 1).f1), .string ((rd_T29 l0_3 1).f2), .slice A269_3 ((rd_T29 l0_3 1).f3).length c269_3]] ?_; (with_reducible refine (ih k (by omega) ((rd_T29 l0_3 1).f0) ((rd_T29 l0_3 1).f1) ((rd_T29 l0_3 1).f2) _ _ ((rd_T29 l0_3 1).f3) t270 t271 t272 t273 _ ?side1 ?side2 A48.out).mono ?_); (case side1 => exact Kd.C_below HR269_3.out (bw_ HB.out)); (case side2 => exact HC269_3.out); rintro e w61 ⟨v274, rfl, ho0, hb⟩; refine ⟨_, rfl, ?_⟩; have n0_ := A_ (Kd.V_below (by (with_reducible repeat (first | apply Kd.V_alloc | apply Kd.V_drewN | apply Kd.V_drew)); exact (Kd.V_mono (Kd.V_far (p := ⟨gb259, 3, none⟩) (Kd.V_far (p := ⟨gb259, 2, none⟩) (Kd.V_far (p := ⟨gb259, 1, none⟩) (Kd.V_far (p := ⟨gb259, 0, none⟩) (Kd.V_mono HO258.out (fun k_ hk => (⟨hk, hk.2⟩ : _ ∧ k_ ≠ gb259))) (fun _ hk => hk.2) (.int .i64 t253)) (fun _ hk => hk.2) (.int .i64 t254)) (fun _ hk => hk.2) (.string t255)) (fun _ hk => hk.2) (.slice Ao59 t256.length co59)) (fun _ h_ => h_.1))) hb); have n1_ := A_ (Kd.V_lower (Kd.V_mono (ok' := fun k_ => (w.heap.size ≤ k_) ∧ k_ ≠ gb244 ∧ k_ ≠ gb245 ∧ k_ ≠ gb259) ho0 (fun k_ hk_ => ⟨(Nat.le_trans (below_size (bw_ HB.out)) hk_), (Kd.freshB (g := gb244) (o := .cells #[.int .i64 a0_0, .int .i64 a0_1, .string a0_2, .slice (some ad252) l0_3.length c0_3] 29 (0, 0)) (by refine bk_ ?_; refine blk_far ?_ NB244_259.out _; refine bk_ ?_; refine blk_far ?_ NB244_259.out _; refine bk_ ?_; refine blk_far ?_ NB244_259.out _; refine bk_ ?_; refine blk_far ?_ NB244_259.out _; refine bk_ ?_; exact BK244.out) k_ hk_), (Kd.freshB (g := gb245) (o := .cells #[.int .i64 0, .int .i64 0, .string (⟨#[]⟩ : ByteArray), .slice none 0 0] 29 (0, 0)) (by refine bk_ ?_; refine blk_far ?_ NB245_259.out _; refine bk_ ?_; refine blk_far ?_ NB245_259.out _; refine bk_ ?_; refine blk_far ?_ NB245_259.out _; refine bk_ ?_; refine blk_far ?_ NB245_259.out _; refine bk_ ?_; exact BK245.out) k_ hk_), (Kd.freshB (g := gb259) (o := .cells #[.int .i64 t253, .int .i64 t254, .string t255, .slice Ao59 t256.length co59] 29 (0, 0)) (by refine bk_ ?_; refine blk_put (cs := #[.int .i64 t253, .int .i64 t254, .string t255, .slice none 0 0]) ?_ 3 _ rfl; refine bk_ ?_; refine blk_put (cs := #[.int .i64 t253, .int .i64 t254, .string (⟨#[]⟩ : ByteArray), .slice none 0 0]) ?_ 2 _ rfl; refine bk_ ?_; refine blk_put (cs := #[.int .i64 t253, .int .i64 0, .string (⟨#[]⟩ : ByteArray), .slice none 0 0]) ?_ 1 _ rfl; refine bk_ ?_; refine blk_put (cs := #[.int .i64 0, .int .i64 0, .string (⟨#[]⟩ : ByteArray), .slice none 0 0]) ?_ 0 _ rfl; refine bk_ ?_; exact BK259.out) k_ hk_)⟩)) (below_size (bw_ HB.out))); have n2_ := A_ (blk_below (g := gb244) (o := .cells #[.int .i64 a0_0, .int .i64 a0_1, .string a0_2, .slice (some ad252) l0_3.length c0_3] 29 (0, 0)) (by refine bk_ ?_; refine blk_far ?_ NB244_259.out _; refine bk_ ?_; refine blk_far ?_ NB244_259.out _; refine bk_ ?_; refine blk_far ?_ NB244_259.out _; refine bk_ ?_; refine blk_far ?_ NB244_259.out _; refine bk_ ?_; exact BK244.out) hb); have n3_ := A_ (blk_below (g := gb245) (o := .cells #[.int .i64 0, .int .i64 0, .string (⟨#[]⟩ : ByteArray), .slice none 0 0] 29 (0, 0)) (by refine bk_ ?_; refine blk_far ?_ NB245_259.out _; refine bk_ ?_; refine blk_far ?_ NB245_259.out _; refine bk_ ?_; refine blk_far ?_ NB245_259.out _; refine bk_ ?_; refine blk_far ?_ NB245_259.out _; refine bk_ ?_; exact BK245.out) hb); have n4_ := A_ (blk_below (g := gb259) (o := .cells #[.int .i64 t253, .int .i64 t254, .string t255, .slice Ao59 t256.length co59] 29 (0, 0)) (by refine bk_ ?_; refine blk_put (cs := #[.int .i64 t253, .int .i64 t254, .string t255, .slice none 0 0]) ?_ 3 _ rfl; refine bk_ ?_; refine blk_put (cs := #[.int .i64 t253, .int .i64 t254, .string (⟨#[]⟩ : ByteArray), .slice none 0 0]) ?_ 2 _ rfl; refine bk_ ?_; refine blk_put (cs := #[.int .i64 t253, .int .i64 0, .string (⟨#[]⟩ : ByteArray), .slice none 0 0]) ?_ 1 _ rfl; refine bk_ ?_; refine blk_put (cs := #[.int .i64 0, .int .i64 0, .string (⟨#[]⟩ : ByteArray), .slice none 0 0]) ?_ 0 _ rfl; refine bk_ ?_; exact BK259.out) hb); have n5_ := A_ (below_step (bw_ HB.out) hb); clear HO258; clear BK244; clear BK245; clear BK259; clear HB; have HO258 := n0_; have HO275 := n1_; have BK244 := n2_; have BK245 := n3_; have BK259 := n4_; have HB := n5_; clear n0_ n1_ n2_ n3_ n4_ n5_; (try clear hb); (try clear hb2); (try clear hk); (try clear hi); (try clear ho0)) | ((with_reducible refine gate_dst (N := 4) rfl ?_); refine box_event ?hg (N := 4) ?hd (cs := #[.int .i64 0, .int .i64 0, .string (⟨#[]⟩ : ByteArray), .slice none 0 0]) (t := 29) ?hr ?_; (case hd => rfl); (case hg => rfl); (case hr => first | (go_simp; done) | (go_simp; rfl)); intro gb276 hg w62 hbox hb; have n0_ := A_ (Kd.V_below (Kd.V_elderB (kv_ HO258.out) gb276 (Nat.le_of_eq hg.symm)) hb); have n1_ := A_ (Kd.V_below (Kd.V_elderB (kv_ HO275.out) gb276 (Nat.le_of_eq hg.symm)) hb); have n2_ := A_ (blk_below (bk_ BK244.out) hb); have n3_ := A_ (blk_below (bk_ BK245.out) hb); have n4_ := A_ (blk_below (bk_ BK259.out) hb); have n5_ := A_ (below_step (bw_ HB.out) hb); have n6_ := A_ (hbox); have n7_ := A_ ((by rw [hg]; exact (below_size (bw_ HB.out)) : w.heap.size ≤ gb276)); have n8_ := n7_; have n9_ := A_ ((by rw [hg]; exact Nat.ne_of_lt (blk_lt (bk_ BK244.out)) : gb244 ≠ gb276)); have n10_ := A_ n9_.out.symm; have n11_ := A_ ((by rw [hg]; exact Nat.ne_of_lt (blk_lt (bk_ BK245.out)) : gb245 ≠ gb276)); have n12_ := A_ n11_.out.symm; have n13_ := A_ ((by rw [hg]; exact Nat.ne_of_lt (blk_lt (bk_ BK259.out)) : gb259 ≠ gb276)); have n14_ := A_ n13_.out.symm; clear HO258; clear HO275; clear BK244; clear BK245; clear BK259; clear HB; have HO258 := n0_; have HO275 := n1_; have BK244 := n2_; have BK245 := n3_; have BK259 := n4_; have HB := n5_; have BK276 := n6_; have GW276 := n7_; have GE276 := n8_; have GI276 := GeI.mk GE276.out; have NB244_276 := n9_; have NB276_244 := n10_; have NB245_276 := n11_; have NB276_245 := n12_; have NB259_276 := n13_; have NB276_259 := n14_; clear n0_ n1_ n2_ n3_ n4_ n5_ n6_ n7_ n8_ n9_ n10_ n11_ n12_ n13_ n14_; clear hb hbox hg; have hnb63 := NB276_244.out; have hnc63 := NB244_276.out; have hnb64 := NB276_245.out; have hnc64 := NB245_276.out; have hnb65 := NB276_259.out; have hnc65 := NB259_276.out; have y66_0 : w62.cell? ⟨gb276, 0, none⟩ = some (.int .i64 0) := (blk_cell BK276.out 0).trans rfl; have y66_1 : w62.cell? ⟨gb276, 1, none⟩ = some (.int .i64 0) := (blk_cell BK276.out 1).trans rfl; have y66_2 : w62.cell? ⟨gb276, 2, none⟩ = some (.string (⟨#[]⟩ : ByteArray)) := (blk_cell BK276.out 2).trans rfl; have y66_3 : w62.cell? ⟨gb276, 3, none⟩ = some (.slice none 0 0) := (blk_cell BK276.out 3).trans rfl; have z66_0 := blk_frozen BK276.out 0; have z66_1 := blk_frozen BK276.out 1; have z66_2 := blk_frozen BK276.out 2; have z66_3 := blk_frozen BK276.out 3; obtain ⟨Ao67, co67, eo67⟩ := Kd.V_slice HO275.out; subst eo67))
     (try simp only [Act.put, List.setIfInBounds_toArray, List.set_cons_zero, List.set_cons_succ])
     go_cut [43] (fun v43 wc => ∃ (kq : Nat) (x43_48 : Bool), v43 = .bool x43_48 ∧ Aside0 (spec_l11Fold.j0 kq x43_48 a0_0 a0_1 a0_2 l0_3 t253 t254 t255 t256 t270 t271 t272 t273 = some (r1, r2, r3, r4)) ∧ Aside0 (kq ≤ k) ∧ Aside0 (Kd.V k29 29 wc w.heap.size (fun k_ => (w.heap.size ≤ k_) ∧ k_ ≠ gb244 ∧ k_ ≠ gb245 ∧ k_ ≠ gb259 ∧ k_ ≠ gb276) (.slice Ao59 t256.length co59) t256) ∧ Aside0 (Kd.V k29 29 wc w.heap.size (fun k_ => (w.heap.size ≤ k_) ∧ k_ ≠ gb244 ∧ k_ ≠ gb245 ∧ k_ ≠ gb259 ∧ k_ ≠ gb276) (.slice Ao67 t273.length co67) t273) ∧ Aside0 (wc.heap[gb244]? = some (.cells #[.int .i64 a0_0, .int .i64 a0_1, .string a0_2, (.slice (some ad252) l0_3.length c0_3)] 29 (0, 0))) ∧ Aside0 (wc.heap[gb245]? = some (.cells #[.int .i64 0, .int .i64 0, .string (⟨#[]⟩ : ByteArray), (.slice none 0 0)] 29 (0, 0))) ∧ Aside0 (wc.heap[gb259]? = some (.cells #[.int .i64 t253, .int .i64 t254, .string t255, (.slice Ao59 t256.length co59)] 29 (0, 0))) ∧ Aside0 (wc.heap[gb276]? = some (.cells #[.int .i64 t270, .int .i64 t271, .string t272, (.slice Ao67 t273.length co67)] 29 (0, 0))) ∧ Aside0 (Below w.heap.size w wc))
     case first =>
      have H := HC49.out
      clear HC49
      by_cases c68 : t253 = 1
      ·rw [if_pos c68] at H
       have c68b0 := beq_iff_eq.mpr c68
       have c68b1 := bne_eq_false_iff_eq.mpr c68
       clear c68
       (first | rw [c68b0] | (simp only [i64_w, i32_w]; rw [c68b0]) | skip)
       have H' := A_ H
       clear H
       have hnb69 := NB259_244.out
       have hnc69 := NB244_259.out
       have hnb70 := NB259_245.out
       have hnc70 := NB245_259.out
       have hnb71 := NB259_276.out
       have hnc71 := NB276_259.out
       obtain ⟨y72_0, y72_1, y72_2, y72_3, z72_0, z72_1, z72_2, z72_3⟩ := cz4_ BK259.out
       have hnb73 := NB276_244.out
       have hnc73 := NB244_276.out
       have hnb74 := NB276_245.out
       have hnc74 := NB245_276.out
       obtain ⟨y75_0, y75_1, y75_2, y75_3, z75_0, z75_1, z75_2, z75_3⟩ := cz4_ BK276.out
       go_wp2
       go_meet
       case rel => exact ⟨_, ((t270 == 1)), (by first | rfl | (simp; done) | (simp [*]; done) | (simp [wrap64]; done)), H', ⟨by first | omega | exact Nat.le_refl _⟩, ⟨by (with_reducible repeat (first | apply Kd.V_alloc | apply Kd.V_drewN | apply Kd.V_drew)); exact Kd.V_mono (Kd.V_far (p := ⟨gb276, 3, none⟩) (Kd.V_far (p := ⟨gb276, 2, none⟩) (Kd.V_far (p := ⟨gb276, 1, none⟩) (Kd.V_far (p := ⟨gb276, 0, none⟩) (Kd.V_mono HO258.out (fun k_ hk => (⟨hk, hk.2⟩ : _ ∧ k_ ≠ gb276))) (fun _ hk => hk.2) (.int .i64 t270)) (fun _ hk => hk.2) (.int .i64 t271)) (fun _ hk => hk.2) (.string t272)) (fun _ hk => hk.2) (.slice Ao67 t273.length co67)) (fun _ hk => ⟨hk.1.1.1.1, ⟨hk.1.1.1.2.1, ⟨hk.1.1.1.2.2, ⟨hk.1.1.2, hk.1.2⟩⟩⟩⟩)⟩, ⟨by (with_reducible repeat (first | apply Kd.V_alloc | apply Kd.V_drewN | apply Kd.V_drew)); exact Kd.V_mono (Kd.V_far (p := ⟨gb276, 3, none⟩) (Kd.V_far (p := ⟨gb276, 2, none⟩) (Kd.V_far (p := ⟨gb276, 1, none⟩) (Kd.V_far (p := ⟨gb276, 0, none⟩) (Kd.V_mono HO275.out (fun k_ hk => (⟨hk, hk.2⟩ : _ ∧ k_ ≠ gb276))) (fun _ hk => hk.2) (.int .i64 t270)) (fun _ hk => hk.2) (.int .i64 t271)) (fun _ hk => hk.2) (.string t272)) (fun _ hk => hk.2) (.slice Ao67 t273.length co67)) (fun _ hk => ⟨hk.1.1.1, ⟨hk.1.1.2.1, ⟨hk.1.1.2.2.1, ⟨hk.1.1.2.2.2, hk.1.2⟩⟩⟩⟩)⟩, ⟨by refine bk_ ?_; refine blk_far ?_ NB244_276.out _; refine bk_ ?_; refine blk_far ?_ NB244_276.out _; refine bk_ ?_; refine blk_far ?_ NB244_276.out _; refine bk_ ?_; refine blk_far ?_ NB244_276.out _; refine bk_ ?_; exact BK244.out⟩, ⟨by refine bk_ ?_; refine blk_far ?_ NB245_276.out _; refine bk_ ?_; refine blk_far ?_ NB245_276.out _; refine bk_ ?_; refine blk_far ?_ NB245_276.out _; refine bk_ ?_; refine blk_far ?_ NB245_276.out _; refine bk_ ?_; exact BK245.out⟩, ⟨by refine bk_ ?_; refine blk_far ?_ NB259_276.out _; refine bk_ ?_; refine blk_far ?_ NB259_276.out _; refine bk_ ?_; refine blk_far ?_ NB259_276.out _; refine bk_ ?_; refine blk_far ?_ NB259_276.out _; refine bk_ ?_; exact BK259.out⟩, ⟨by refine bk_ ?_; refine blk_put (cs := #[.int .i64 t270, .int .i64 t271, .string t272, .slice none 0 0]) ?_ 3 _ rfl; refine bk_ ?_; refine blk_put (cs := #[.int .i64 t270, .int .i64 t271, .string (⟨#[]⟩ : ByteArray), .slice none 0 0]) ?_ 2 _ rfl; refine bk_ ?_; refine blk_put (cs := #[.int .i64 t270, .int .i64 0, .string (⟨#[]⟩ : ByteArray), .slice none 0 0]) ?_ 1 _ rfl; refine bk_ ?_; refine blk_put (cs := #[.int .i64 0, .int .i64 0, .string (⟨#[]⟩ : ByteArray), .slice none 0 0]) ?_ 0 _ rfl; refine bk_ ?_; exact BK276.out⟩, ⟨bw_ HB.out⟩⟩
      ·rw [if_neg c68] at H
       have c68b0 := beq_eq_false_iff_ne.mpr c68
       have c68b1 := bne_iff_ne.mpr c68
       (first | rw [c68b0] | (simp only [i64_w, i32_w]; rw [c68b0]) | skip)
       have H' := A_ H
       clear H
       have hnb76 := NB259_244.out
       have hnc76 := NB244_259.out
       have hnb77 := NB259_245.out
       have hnc77 := NB245_259.out
       have hnb78 := NB259_276.out
       have hnc78 := NB276_259.out
       obtain ⟨y79_0, y79_1, y79_2, y79_3, z79_0, z79_1, z79_2, z79_3⟩ := cz4_ BK259.out
       go_wp2
       go_meet
       case rel => exact ⟨_, (false), (by first | rfl | (simp; done) | (simp [*]; done) | (simp [wrap64]; done)), H', ⟨by first | omega | exact Nat.le_refl _⟩, ⟨by (with_reducible repeat (first | apply Kd.V_alloc | apply Kd.V_drewN | apply Kd.V_drew)); exact Kd.V_mono (Kd.V_far (p := ⟨gb276, 3, none⟩) (Kd.V_far (p := ⟨gb276, 2, none⟩) (Kd.V_far (p := ⟨gb276, 1, none⟩) (Kd.V_far (p := ⟨gb276, 0, none⟩) (Kd.V_mono HO258.out (fun k_ hk => (⟨hk, hk.2⟩ : _ ∧ k_ ≠ gb276))) (fun _ hk => hk.2) (.int .i64 t270)) (fun _ hk => hk.2) (.int .i64 t271)) (fun _ hk => hk.2) (.string t272)) (fun _ hk => hk.2) (.slice Ao67 t273.length co67)) (fun _ hk => ⟨hk.1.1.1.1, ⟨hk.1.1.1.2.1, ⟨hk.1.1.1.2.2, ⟨hk.1.1.2, hk.1.2⟩⟩⟩⟩)⟩, ⟨by (with_reducible repeat (first | apply Kd.V_alloc | apply Kd.V_drewN | apply Kd.V_drew)); exact Kd.V_mono (Kd.V_far (p := ⟨gb276, 3, none⟩) (Kd.V_far (p := ⟨gb276, 2, none⟩) (Kd.V_far (p := ⟨gb276, 1, none⟩) (Kd.V_far (p := ⟨gb276, 0, none⟩) (Kd.V_mono HO275.out (fun k_ hk => (⟨hk, hk.2⟩ : _ ∧ k_ ≠ gb276))) (fun _ hk => hk.2) (.int .i64 t270)) (fun _ hk => hk.2) (.int .i64 t271)) (fun _ hk => hk.2) (.string t272)) (fun _ hk => hk.2) (.slice Ao67 t273.length co67)) (fun _ hk => ⟨hk.1.1.1, ⟨hk.1.1.2.1, ⟨hk.1.1.2.2.1, ⟨hk.1.1.2.2.2, hk.1.2⟩⟩⟩⟩)⟩, ⟨by refine bk_ ?_; refine blk_far ?_ NB244_276.out _; refine bk_ ?_; refine blk_far ?_ NB244_276.out _; refine bk_ ?_; refine blk_far ?_ NB244_276.out _; refine bk_ ?_; refine blk_far ?_ NB244_276.out _; refine bk_ ?_; exact BK244.out⟩, ⟨by refine bk_ ?_; refine blk_far ?_ NB245_276.out _; refine bk_ ?_; refine blk_far ?_ NB245_276.out _; refine bk_ ?_; refine blk_far ?_ NB245_276.out _; refine bk_ ?_; refine blk_far ?_ NB245_276.out _; refine bk_ ?_; exact BK245.out⟩, ⟨by refine bk_ ?_; refine blk_far ?_ NB259_276.out _; refine bk_ ?_; refine blk_far ?_ NB259_276.out _; refine bk_ ?_; refine blk_far ?_ NB259_276.out _; refine bk_ ?_; refine blk_far ?_ NB259_276.out _; refine bk_ ?_; exact BK259.out⟩, ⟨by refine bk_ ?_; refine blk_put (cs := #[.int .i64 t270, .int .i64 t271, .string t272, .slice none 0 0]) ?_ 3 _ rfl; refine bk_ ?_; refine blk_put (cs := #[.int .i64 t270, .int .i64 t271, .string (⟨#[]⟩ : ByteArray), .slice none 0 0]) ?_ 2 _ rfl; refine bk_ ?_; refine blk_put (cs := #[.int .i64 t270, .int .i64 0, .string (⟨#[]⟩ : ByteArray), .slice none 0 0]) ?_ 1 _ rfl; refine bk_ ?_; refine blk_put (cs := #[.int .i64 0, .int .i64 0, .string (⟨#[]⟩ : ByteArray), .slice none 0 0]) ?_ 0 _ rfl; refine bk_ ?_; exact BK276.out⟩, ⟨bw_ HB.out⟩⟩
     case rest =>
      clear HC49
      try clear c1
      try clear c2
      try clear c2b0
      try clear c2b1
      try clear c2b2
      try clear p2
      try clear q2
      try clear hx2
      try clear qi2
      try clear c3
      try clear c4
      try clear c5
      try clear c6
      try clear p6
      try clear c7
      try clear c11
      try clear c11b0
      try clear c11b1
      try clear c13
      try clear c13b0
      try clear c13b1
      try clear c14
      try clear c14b0
      try clear c14b1
      try clear c18
      try clear c22
      try clear c23
      try clear c25
      try clear p25
      try clear q25
      try clear hx25
      try clear qi25
      try clear c26
      try clear p26
      try clear q26
      try clear hx26
      try clear qi26
      try clear c32
      try clear c36
      try clear c37
      try clear c47
      try clear c47b0
      try clear c47b1
      try clear c52
      try clear c56
      try clear c57
      try clear c58
      try clear c63
      try clear c64
      try clear p64
      try clear c65
      try clear c68
      try clear c68b0
      try clear c68b1
      try clear c69
      try clear c70
      try clear c71
      try clear c73
      try clear c74
      try clear c76
      try clear c77
      try clear c78
      try clear c79
      try clear y19_0 y19_1 y19_2 y19_3 z19_0 z19_1 z19_2 z19_3
      try clear y24_0 y24_1 y24_2 y24_3 z24_0 z24_1 z24_2 z24_3
      try clear y26_0 y26_1 y26_2 y26_3 z26_0 z26_1 z26_2 z26_3
      try clear y28_0 y28_1 y28_2 y28_3 z28_0 z28_1 z28_2 z28_3
      try clear y33_0 y33_1 y33_2 y33_3 z33_0 z33_1 z33_2 z33_3
      try clear y38_0 y38_1 y38_2 y38_3 z38_0 z38_1 z38_2 z38_3
      try clear y41_0 y41_1 y41_2 y41_3 z41_0 z41_1 z41_2 z41_3
      try clear y42_0 y42_1 y42_2 y42_3 z42_0 z42_1 z42_2 z42_3
      try clear y46_0 y46_1 y46_2 y46_3 z46_0 z46_1 z46_2 z46_3
      try clear y53_0 y53_1 y53_2 y53_3 z53_0 z53_1 z53_2 z53_3
      try clear y58_0 y58_1 y58_2 y58_3 z58_0 z58_1 z58_2 z58_3
      try clear y60_0 y60_1 y60_2 y60_3 z60_0 z60_1 z60_2 z60_3
      try clear y66_0 y66_1 y66_2 y66_3 z66_0 z66_1 z66_2 z66_3
      try clear y72_0 y72_1 y72_2 y72_3 z72_0 z72_1 z72_2 z72_3
      try clear y75_0 y75_1 y75_2 y75_3 z75_0 z75_1 z75_2 z75_3
      try clear y79_0 y79_1 y79_2 y79_3 z79_0 z79_1 z79_2 z79_3
      try clear y7_0 y7_1 y7_2 y7_3 z7_0 z7_1 z7_2 z7_3
      try clear y9_0 y9_1 y9_2 y9_3 z9_0 z9_1 z9_2 z9_3
      try clear hx252_0 hx252_1 hx252_2 hx252_3
      try clear hx269_0 hx269_1 hx269_2 hx269_3
      try clear p252
      try clear p269
      try clear q252
      try clear q269
      obtain ⟨kq, x43_48, rfl, HA, HJ48, HO_260003, HO_277003, BK244, BK245, BK259, BK276, HB⟩ := hcut
      cases kq with
      | zero => exact absurd HA.out (by simp [spec_l11Fold.j0])
      | succ kj48 =>
       have H := HA.out
       clear HA
       simp only [spec_l11Fold.j0] at H
       have HC80 := A_ H
       clear H
       go_upto_if 43 with (fail)
       go_cut [] (fun wc => ∃ (kq : Nat) (x246000_79 : Int) (x246001_79 : Int) (x246002_79 : ByteArray), Aside0 (spec_l11Fold.j1 kq a0_0 a0_1 a0_2 l0_3 t253 t254 t255 t256 t270 t271 t272 t273 = some (r1, r2, r3, r4)) ∧ Aside0 (kq ≤ kj48) ∧ Aside0 (Kd.V k29 29 wc w.heap.size (fun k_ => (w.heap.size ≤ k_) ∧ k_ ≠ gb244 ∧ k_ ≠ gb245 ∧ k_ ≠ gb259 ∧ k_ ≠ gb276) (.slice Ao59 t256.length co59) t256) ∧ Aside0 (Kd.V k29 29 wc w.heap.size (fun k_ => (w.heap.size ≤ k_) ∧ k_ ≠ gb244 ∧ k_ ≠ gb245 ∧ k_ ≠ gb259 ∧ k_ ≠ gb276) (.slice Ao67 t273.length co67) t273) ∧ Aside0 (wc.heap[gb244]? = some (.cells #[.int .i64 a0_0, .int .i64 a0_1, .string a0_2, (.slice (some ad252) l0_3.length c0_3)] 29 (0, 0))) ∧ Aside0 (wc.heap[gb245]? = some (.cells #[.int .i64 x246000_79, .int .i64 x246001_79, .string x246002_79, (.slice none 0 0)] 29 (0, 0))) ∧ Aside0 (wc.heap[gb259]? = some (.cells #[.int .i64 t253, .int .i64 t254, .string t255, (.slice Ao59 t256.length co59)] 29 (0, 0))) ∧ Aside0 (wc.heap[gb276]? = some (.cells #[.int .i64 t270, .int .i64 t271, .string t272, (.slice Ao67 t273.length co67)] 29 (0, 0))) ∧ Aside0 (Below w.heap.size w wc))
       case first =>
        have H := HC80.out
        clear HC80
        by_cases c81 : x43_48 = true
        ·subst c81
         rw [if_pos rfl] at H
         replace H := Option.bind_eq_some_iff.mp H
         obtain ⟨⟨t277, t278⟩, A820, H⟩ := H
         try dsimp only at H
         have A82 := A_ A820
         clear A820
         by_cases c83 : t278 = true
         ·subst c83
          rw [if_pos rfl] at H
          replace H := Option.bind_eq_some_iff.mp H
          obtain ⟨⟨t279, t280, t281, t282⟩, A840, H⟩ := H
          try dsimp only at H
          have A84 := A_ A840
          clear A840
          simp only [Option.some.injEq, Prod.mk.injEq] at H
          obtain ⟨rfl, rfl, rfl, rfl⟩ := H
          have hnb85 := NB244_245.out
          have hnc85 := NB245_244.out
          have hnb86 := NB244_259.out
          have hnc86 := NB259_244.out
          have hnb87 := NB244_276.out
          have hnc87 := NB276_244.out
          obtain ⟨y88_0, y88_1, y88_2, y88_3, z88_0, z88_1, z88_2, z88_3⟩ := cz4_ BK244.out
          have hnb89 := NB259_245.out
          have hnc89 := NB245_259.out
          have hnb90 := NB259_276.out
          have hnc90 := NB276_259.out
          obtain ⟨y91_0, y91_1, y91_2, y91_3, z91_0, z91_1, z91_2, z91_3⟩ := cz4_ BK259.out
          have hnb92 := NB276_245.out
          have hnc92 := NB245_276.out
          obtain ⟨y93_0, y93_1, y93_2, y93_3, z93_0, z93_1, z93_2, z93_3⟩ := cz4_ BK276.out
          go_wp2_with (first | ((with_reducible refine gate_callee (f := 75) rfl ?_); refine gL_ (some 51) Try.func75 #[.int .i64 a0_0, .int .i64 t254, .int .i64 t271] ?_; (with_reducible refine (spec_l11Two.calls a0_0 t254 t271 t277 true _ A82.out).mono ?_); rintro e w' ⟨rfl, ⟨nd, rfl⟩⟩; refine ⟨_, rfl, ?_⟩; (try (rw [drewN_self wc]; generalize hq_ : World.drewN wc _ = wc; have n0_ : Aside0 (Kd.V k29 29 wc w.heap.size (fun k_ => (w.heap.size ≤ k_) ∧ k_ ≠ gb244 ∧ k_ ≠ gb245 ∧ k_ ≠ gb259 ∧ k_ ≠ gb276) (.slice Ao59 t256.length co59) t256) := ⟨by rw [← hq_]; exact (kv_ HO_260003.out)⟩; have n1_ : Aside0 (Kd.V k29 29 wc w.heap.size (fun k_ => (w.heap.size ≤ k_) ∧ k_ ≠ gb244 ∧ k_ ≠ gb245 ∧ k_ ≠ gb259 ∧ k_ ≠ gb276) (.slice Ao67 t273.length co67) t273) := ⟨by rw [← hq_]; exact (kv_ HO_277003.out)⟩; have n2_ : Aside0 (wc.heap[gb244]? = some (.cells #[.int .i64 a0_0, .int .i64 a0_1, .string a0_2, .slice (some ad252) l0_3.length c0_3] 29 (0, 0))) := ⟨by rw [← hq_]; exact (bk_ BK244.out)⟩; have n3_ : Aside0 (wc.heap[gb245]? = some (.cells #[.int .i64 0, .int .i64 0, .string (⟨#[]⟩ : ByteArray), .slice none 0 0] 29 (0, 0))) := ⟨by rw [← hq_]; exact (bk_ BK245.out)⟩; have n4_ : Aside0 (wc.heap[gb259]? = some (.cells #[.int .i64 t253, .int .i64 t254, .string t255, .slice Ao59 t256.length co59] 29 (0, 0))) := ⟨by rw [← hq_]; exact (bk_ BK259.out)⟩; have n5_ : Aside0 (wc.heap[gb276]? = some (.cells #[.int .i64 t270, .int .i64 t271, .string t272, .slice Ao67 t273.length co67] 29 (0, 0))) := ⟨by rw [← hq_]; exact (bk_ BK276.out)⟩; have n6_ : Aside0 (Below w.heap.size w wc) := ⟨by rw [← hq_]; exact (bw_ HB.out)⟩; clear HO_260003 HO_277003 BK244 BK245 BK259 BK276 HB hq_; have HO_260003 := n0_; have HO_277003 := n1_; have BK244 := n2_; have BK245 := n3_; have BK259 := n4_; have BK276 := n5_; have HB := n6_; clear n0_ n1_ n2_ n3_ n4_ n5_ n6_))) | ((with_reducible refine gate_callee (f := 79) rfl ?_); refine gL_ (some 56) Try.func79 #[.int .i64 t277] ?_; (with_reducible refine (spec_l10Num.calls t277 t279 t280 t281 t282 _ A84.out).mono ?_); rintro e w94 ⟨v283, rfl, ho0, hb⟩; refine ⟨_, rfl, ?_⟩; have n0_ := A_ (Kd.V_elder' (kv_ HO_260003.out) (by first | exact Kd.N_base ho0 | exact Kd.R_base ho0) hb); have n1_ := A_ (Kd.V_elder' (kv_ HO_277003.out) (by first | exact Kd.N_base ho0 | exact Kd.R_base ho0) hb); have n2_ := A_ (Kd.N_lower (Kd.N_mono (ok' := fun k_ => (w.heap.size ≤ k_) ∧ k_ ≠ gb244 ∧ k_ ≠ gb245 ∧ k_ ≠ gb259 ∧ k_ ≠ gb276) (Kd.R_N (Kd.R_bound ho0)) (fun k_ hk_ => ⟨(Nat.le_trans (below_size (bw_ HB.out)) hk_.2.1), (Kd.freshB (bk_ BK244.out) k_ hk_.2.1), (Kd.freshB (bk_ BK245.out) k_ hk_.2.1), (Kd.freshB (bk_ BK259.out) k_ hk_.2.1), (Kd.freshB (bk_ BK276.out) k_ hk_.2.1)⟩)) (below_size (bw_ HB.out))); have n3_ := A_ (blk_below (bk_ BK244.out) hb); have n4_ := A_ (blk_below (bk_ BK245.out) hb); have n5_ := A_ (blk_below (bk_ BK259.out) hb); have n6_ := A_ (blk_below (bk_ BK276.out) hb); have n7_ := A_ (below_step (bw_ HB.out) hb); clear HO_260003; clear HO_277003; clear BK244; clear BK245; clear BK259; clear BK276; clear HB; have HO_260003 := n0_; have HO_277003 := n1_; have HO284 := n2_; have BK244 := n3_; have BK245 := n4_; have BK259 := n5_; have BK276 := n6_; have HB := n7_; clear n0_ n1_ n2_ n3_ n4_ n5_ n6_ n7_; (try clear hb); (try clear hb2); (try clear hk); (try clear hi); (try clear ho0); have y95_0 : w94.cell? ⟨gb245, 0, none⟩ = some (.int .i64 0) := (blk_cell BK245.out 0).trans rfl; have y95_1 : w94.cell? ⟨gb245, 1, none⟩ = some (.int .i64 0) := (blk_cell BK245.out 1).trans rfl; have y95_2 : w94.cell? ⟨gb245, 2, none⟩ = some (.string (⟨#[]⟩ : ByteArray)) := (blk_cell BK245.out 2).trans rfl; have y95_3 : w94.cell? ⟨gb245, 3, none⟩ = some (.slice none 0 0) := (blk_cell BK245.out 3).trans rfl; have z95_0 := blk_frozen BK245.out 0; have z95_1 := blk_frozen BK245.out 1; have z95_2 := blk_frozen BK245.out 2; have z95_3 := blk_frozen BK245.out 3; obtain ⟨Ao96, co96, eo96⟩ := Kd.N_slice HO284.out; subst eo96))
          refine bodyPost_ret (results_cell_row rfl _ _ gb245 29 #[.int .i64 t279, .int .i64 t280, .string t281, .slice Ao96 t282.length co96] (0, 0) _ rfl ?hb_ Try.underlying29 rfl (by kernel_rfl)) rfl ?_
          (case hb_ => refine bk_ ?_; refine blk_put (cs := #[.int .i64 t279, .int .i64 t280, .string t281, .slice none 0 0]) ?_ 3 _ rfl; refine bk_ ?_; refine blk_put (cs := #[.int .i64 t279, .int .i64 t280, .string (⟨#[]⟩ : ByteArray), .slice none 0 0]) ?_ 2 _ rfl; refine bk_ ?_; refine blk_put (cs := #[.int .i64 t279, .int .i64 0, .string (⟨#[]⟩ : ByteArray), .slice none 0 0]) ?_ 1 _ rfl; refine bk_ ?_; refine blk_put (cs := #[.int .i64 0, .int .i64 0, .string (⟨#[]⟩ : ByteArray), .slice none 0 0]) ?_ 0 _ rfl; refine bk_ ?_; exact BK245.out)
          exact ⟨_, by first | rfl | (simp [errW_none, errW_some] <;> rfl) | (simp [*, errW_none, errW_some] <;> rfl), Kd.N_V (by (with_reducible repeat (first | apply Kd.N_alloc | apply Kd.N_drewN | apply Kd.N_drew)); exact Kd.N_mono (Kd.N_far (p := ⟨gb245, 3, none⟩) (Kd.N_far (p := ⟨gb245, 2, none⟩) (Kd.N_far (p := ⟨gb245, 1, none⟩) (Kd.N_far (p := ⟨gb245, 0, none⟩) (Kd.N_mono HO284.out (fun k_ hk => (⟨hk, hk.2.2.1⟩ : _ ∧ k_ ≠ gb245))) (fun _ hk => hk.2) (.int .i64 t279)) (fun _ hk => hk.2) (.int .i64 t280)) (fun _ hk => hk.2) (.string t281)) (fun _ hk => hk.2) (.slice Ao96 t282.length co96)) (fun _ hk => hk.1.1)), bw_ HB.out⟩
         ·replace c83 := Bool.eq_false_iff.mpr c83
          subst c83
          rw [if_neg (show ¬ (false = true) by decide)] at H
          have H' := A_ H
          clear H
          have hnb97 := NB244_245.out
          have hnc97 := NB245_244.out
          have hnb98 := NB244_259.out
          have hnc98 := NB259_244.out
          have hnb99 := NB244_276.out
          have hnc99 := NB276_244.out
          obtain ⟨y100_0, y100_1, y100_2, y100_3, z100_0, z100_1, z100_2, z100_3⟩ := cz4_ BK244.out
          have hnb101 := NB259_245.out
          have hnc101 := NB245_259.out
          have hnb102 := NB259_276.out
          have hnc102 := NB276_259.out
          obtain ⟨y103_0, y103_1, y103_2, y103_3, z103_0, z103_1, z103_2, z103_3⟩ := cz4_ BK259.out
          have hnb104 := NB276_245.out
          have hnc104 := NB245_276.out
          obtain ⟨y105_0, y105_1, y105_2, y105_3, z105_0, z105_1, z105_2, z105_3⟩ := cz4_ BK276.out
          go_wp2_with (first | ((with_reducible refine gate_callee (f := 75) rfl ?_); refine gL_ (some 51) Try.func75 #[.int .i64 a0_0, .int .i64 t254, .int .i64 t271] ?_; (with_reducible refine (spec_l11Two.calls a0_0 t254 t271 t277 false _ A82.out).mono ?_); rintro e w' ⟨rfl, ⟨nd, rfl⟩⟩; refine ⟨_, rfl, ?_⟩))
          go_meet
          case rel => exact ⟨_, (0), (0), ((⟨#[]⟩ : ByteArray)), H', ⟨by have := HJ48.out; first | omega | exact Nat.le_refl _⟩, ⟨by (with_reducible repeat (first | apply Kd.V_alloc | apply Kd.V_drewN | apply Kd.V_drew)); exact HO_260003.out⟩, ⟨by (with_reducible repeat (first | apply Kd.V_alloc | apply Kd.V_drewN | apply Kd.V_drew)); exact HO_277003.out⟩, ⟨by refine bk_ ?_; exact BK244.out⟩, ⟨by refine bk_ ?_; exact BK245.out⟩, ⟨by refine bk_ ?_; exact BK259.out⟩, ⟨by refine bk_ ?_; exact BK276.out⟩, ⟨bw_ HB.out⟩⟩
        ·replace c81 := Bool.eq_false_iff.mpr c81
         subst c81
         rw [if_neg (show ¬ (false = true) by decide)] at H
         have H' := A_ H
         clear H
         go_wp2
         go_meet
         case rel => exact ⟨_, (0), (0), ((⟨#[]⟩ : ByteArray)), H', ⟨by have := HJ48.out; first | omega | exact Nat.le_refl _⟩, ⟨by (with_reducible repeat (first | apply Kd.V_alloc | apply Kd.V_drewN | apply Kd.V_drew)); exact HO_260003.out⟩, ⟨by (with_reducible repeat (first | apply Kd.V_alloc | apply Kd.V_drewN | apply Kd.V_drew)); exact HO_277003.out⟩, ⟨by refine bk_ ?_; exact BK244.out⟩, ⟨by refine bk_ ?_; exact BK245.out⟩, ⟨by refine bk_ ?_; exact BK259.out⟩, ⟨by refine bk_ ?_; exact BK276.out⟩, ⟨bw_ HB.out⟩⟩
       case rest =>
        clear HC80
        try clear c1
        try clear c2
        try clear c2b0
        try clear c2b1
        try clear c2b2
        try clear p2
        try clear q2
        try clear hx2
        try clear qi2
        try clear c3
        try clear c4
        try clear c5
        try clear c6
        try clear p6
        try clear c7
        try clear c8
        try clear c9
        try clear c10
        try clear c11
        try clear c11b0
        try clear c11b1
        try clear c13
        try clear c13b0
        try clear c13b1
        try clear c14
        try clear c14b0
        try clear c14b1
        try clear c18
        try clear c22
        try clear c23
        try clear c25
        try clear p25
        try clear q25
        try clear hx25
        try clear qi25
        try clear c26
        try clear p26
        try clear q26
        try clear hx26
        try clear qi26
        try clear c32
        try clear c36
        try clear c37
        try clear c47
        try clear c47b0
        try clear c47b1
        try clear c52
        try clear c56
        try clear c57
        try clear c58
        try clear c63
        try clear c64
        try clear p64
        try clear c65
        try clear c68
        try clear c68b0
        try clear c68b1
        try clear c69
        try clear c70
        try clear c71
        try clear c73
        try clear c74
        try clear c75
        try clear c76
        try clear c77
        try clear c78
        try clear c79
        try clear c81
        try clear c83
        try clear c85
        try clear c86
        try clear c87
        try clear c89
        try clear c90
        try clear c92
        try clear c97
        try clear c98
        try clear c99
        try clear c101
        try clear c102
        try clear c104
        try clear y100_0 y100_1 y100_2 y100_3 z100_0 z100_1 z100_2 z100_3
        try clear y103_0 y103_1 y103_2 y103_3 z103_0 z103_1 z103_2 z103_3
        try clear y105_0 y105_1 y105_2 y105_3 z105_0 z105_1 z105_2 z105_3
        try clear y19_0 y19_1 y19_2 y19_3 z19_0 z19_1 z19_2 z19_3
        try clear y24_0 y24_1 y24_2 y24_3 z24_0 z24_1 z24_2 z24_3
        try clear y26_0 y26_1 y26_2 y26_3 z26_0 z26_1 z26_2 z26_3
        try clear y28_0 y28_1 y28_2 y28_3 z28_0 z28_1 z28_2 z28_3
        try clear y33_0 y33_1 y33_2 y33_3 z33_0 z33_1 z33_2 z33_3
        try clear y38_0 y38_1 y38_2 y38_3 z38_0 z38_1 z38_2 z38_3
        try clear y41_0 y41_1 y41_2 y41_3 z41_0 z41_1 z41_2 z41_3
        try clear y42_0 y42_1 y42_2 y42_3 z42_0 z42_1 z42_2 z42_3
        try clear y46_0 y46_1 y46_2 y46_3 z46_0 z46_1 z46_2 z46_3
        try clear y53_0 y53_1 y53_2 y53_3 z53_0 z53_1 z53_2 z53_3
        try clear y58_0 y58_1 y58_2 y58_3 z58_0 z58_1 z58_2 z58_3
        try clear y60_0 y60_1 y60_2 y60_3 z60_0 z60_1 z60_2 z60_3
        try clear y66_0 y66_1 y66_2 y66_3 z66_0 z66_1 z66_2 z66_3
        try clear y72_0 y72_1 y72_2 y72_3 z72_0 z72_1 z72_2 z72_3
        try clear y75_0 y75_1 y75_2 y75_3 z75_0 z75_1 z75_2 z75_3
        try clear y79_0 y79_1 y79_2 y79_3 z79_0 z79_1 z79_2 z79_3
        try clear y7_0 y7_1 y7_2 y7_3 z7_0 z7_1 z7_2 z7_3
        try clear y88_0 y88_1 y88_2 y88_3 z88_0 z88_1 z88_2 z88_3
        try clear y91_0 y91_1 y91_2 y91_3 z91_0 z91_1 z91_2 z91_3
        try clear y93_0 y93_1 y93_2 y93_3 z93_0 z93_1 z93_2 z93_3
        try clear y95_0 y95_1 y95_2 y95_3 z95_0 z95_1 z95_2 z95_3
        try clear y9_0 y9_1 y9_2 y9_3 z9_0 z9_1 z9_2 z9_3
        try clear hx252_0 hx252_1 hx252_2 hx252_3
        try clear hx269_0 hx269_1 hx269_2 hx269_3
        try clear p2
        try clear p25
        try clear p252
        try clear p26
        try clear p269
        try clear p6
        try clear p64
        try clear q2
        try clear q25
        try clear q252
        try clear q26
        try clear q269
        obtain ⟨kq, x246000_79, x246001_79, x246002_79, HA, HJ79, HO_260003, HO_277003, BK244, BK245, BK259, BK276, HB⟩ := hcut
        cases kq with
        | zero => exact absurd HA.out (by simp [spec_l11Fold.j1])
        | succ kj79 =>
         have H := HA.out
         clear HA
         simp only [spec_l11Fold.j1] at H
         by_cases c106 : a0_0 = 6
         ·rw [if_pos c106] at H
          have c106b0 := beq_iff_eq.mpr c106
          have c106b1 := bne_eq_false_iff_eq.mpr c106
          clear c106
          replace H := Option.bind_eq_some_iff.mp H
          obtain ⟨⟨t285, t286, t287, t288⟩, A1070, H⟩ := H
          try dsimp only at H
          have A107 := A_ A1070
          clear A1070
          simp only [Option.some.injEq, Prod.mk.injEq] at H
          obtain ⟨rfl, rfl, rfl, rfl⟩ := H
          have hnb108 := NB244_245.out
          have hnc108 := NB245_244.out
          have hnb109 := NB244_259.out
          have hnc109 := NB259_244.out
          have hnb110 := NB244_276.out
          have hnc110 := NB276_244.out
          obtain ⟨y111_0, y111_1, y111_2, y111_3, z111_0, z111_1, z111_2, z111_3⟩ := cz4_ BK244.out
          have hnb112 := NB259_245.out
          have hnc112 := NB245_259.out
          have hnb113 := NB259_276.out
          have hnc113 := NB276_259.out
          obtain ⟨y114_0, y114_1, y114_2, y114_3, z114_0, z114_1, z114_2, z114_3⟩ := cz4_ BK259.out
          have hnb115 := NB276_245.out
          have hnc115 := NB245_276.out
          obtain ⟨y116_0, y116_1, y116_2, y116_3, z116_0, z116_1, z116_2, z116_3⟩ := cz4_ BK276.out
          go_wp2_with (first | ((with_reducible refine gate_callee (f := 80) rfl ?_); refine gL_ (some 63) Try.func80 #[.agg #[.int .i64 t253, .int .i64 t254, .string t255, .slice Ao59 t256.length co59], .agg #[.int .i64 t270, .int .i64 t271, .string t272, .slice Ao67 t273.length co67]] ?_; (with_reducible refine (spec_l11Sub.calls t253 t254 t255 (fun k_ => ((w.heap.size ≤ k_) ∧ (k_ ≠ gb244 ∧ (k_ ≠ gb245 ∧ (k_ ≠ gb259 ∧ k_ ≠ gb276))))) _ _ t256 t270 t271 t272 (fun k_ => ((w.heap.size ≤ k_) ∧ (k_ ≠ gb244 ∧ (k_ ≠ gb245 ∧ (k_ ≠ gb259 ∧ k_ ≠ gb276))))) _ _ t273 t285 t286 t287 t288 _ ?side1 ?side2 A107.out).mono ?_); (case side1 => exact HO_260003.out); (case side2 => exact HO_277003.out); rintro e w117 ⟨v289, rfl, ho0, hb⟩; refine ⟨_, rfl, ?_⟩; have n0_ := A_ (Kd.V_below (kv_ HO_260003.out) hb); have n1_ := A_ (Kd.V_below (kv_ HO_277003.out) hb); have n2_ := A_ (Kd.V_lower (Kd.V_mono (ok' := fun k_ => (w.heap.size ≤ k_) ∧ k_ ≠ gb244 ∧ k_ ≠ gb245 ∧ k_ ≠ gb259 ∧ k_ ≠ gb276) ho0 (fun k_ hk_ => ⟨Or.elim hk_ (fun hs_ => Or.elim hs_ (fun hs_ => hs_.1) (fun hs_ => hs_.1)) (fun hn_ => (Nat.le_trans (below_size (bw_ HB.out)) hn_)), Or.elim hk_ (fun hs_ => Or.elim hs_ (fun hs_ => hs_.2.1) (fun hs_ => hs_.2.1)) (fun hn_ => (Kd.freshB (bk_ BK244.out) k_ hn_)), Or.elim hk_ (fun hs_ => Or.elim hs_ (fun hs_ => hs_.2.2.1) (fun hs_ => hs_.2.2.1)) (fun hn_ => (Kd.freshB (bk_ BK245.out) k_ hn_)), Or.elim hk_ (fun hs_ => Or.elim hs_ (fun hs_ => hs_.2.2.2.1) (fun hs_ => hs_.2.2.2.1)) (fun hn_ => (Kd.freshB (bk_ BK259.out) k_ hn_)), Or.elim hk_ (fun hs_ => Or.elim hs_ (fun hs_ => hs_.2.2.2.2) (fun hs_ => hs_.2.2.2.2)) (fun hn_ => (Kd.freshB (bk_ BK276.out) k_ hn_))⟩)) (below_size (bw_ HB.out))); have n3_ := A_ (blk_below (bk_ BK244.out) hb); have n4_ := A_ (blk_below (bk_ BK245.out) hb); have n5_ := A_ (blk_below (bk_ BK259.out) hb); have n6_ := A_ (blk_below (bk_ BK276.out) hb); have n7_ := A_ (below_step (bw_ HB.out) hb); clear HO_260003; clear HO_277003; clear BK244; clear BK245; clear BK259; clear BK276; clear HB; have HO_260003 := n0_; have HO_277003 := n1_; have HO290 := n2_; have BK244 := n3_; have BK245 := n4_; have BK259 := n5_; have BK276 := n6_; have HB := n7_; clear n0_ n1_ n2_ n3_ n4_ n5_ n6_ n7_; (try clear hb); (try clear hb2); (try clear hk); (try clear hi); (try clear ho0); have y118_0 : w117.cell? ⟨gb245, 0, none⟩ = some (.int .i64 x246000_79) := (blk_cell BK245.out 0).trans rfl; have y118_1 : w117.cell? ⟨gb245, 1, none⟩ = some (.int .i64 x246001_79) := (blk_cell BK245.out 1).trans rfl; have y118_2 : w117.cell? ⟨gb245, 2, none⟩ = some (.string x246002_79) := (blk_cell BK245.out 2).trans rfl; have y118_3 : w117.cell? ⟨gb245, 3, none⟩ = some (.slice none 0 0) := (blk_cell BK245.out 3).trans rfl; have z118_0 := blk_frozen BK245.out 0; have z118_1 := blk_frozen BK245.out 1; have z118_2 := blk_frozen BK245.out 2; have z118_3 := blk_frozen BK245.out 3; obtain ⟨Ao119, co119, eo119⟩ := Kd.V_slice HO290.out; subst eo119))
          refine bodyPost_ret (results_cell_row rfl _ _ gb245 29 #[.int .i64 t285, .int .i64 t286, .string t287, .slice Ao119 t288.length co119] (0, 0) _ rfl ?hb_ Try.underlying29 rfl (by kernel_rfl)) rfl ?_
          (case hb_ => refine bk_ ?_; refine blk_put (cs := #[.int .i64 t285, .int .i64 t286, .string t287, .slice none 0 0]) ?_ 3 _ rfl; refine bk_ ?_; refine blk_put (cs := #[.int .i64 t285, .int .i64 t286, .string x246002_79, .slice none 0 0]) ?_ 2 _ rfl; refine bk_ ?_; refine blk_put (cs := #[.int .i64 t285, .int .i64 x246001_79, .string x246002_79, .slice none 0 0]) ?_ 1 _ rfl; refine bk_ ?_; refine blk_put (cs := #[.int .i64 x246000_79, .int .i64 x246001_79, .string x246002_79, .slice none 0 0]) ?_ 0 _ rfl; refine bk_ ?_; exact BK245.out)
          exact ⟨_, by first | rfl | (simp [errW_none, errW_some] <;> rfl) | (simp [*, errW_none, errW_some] <;> rfl), by (with_reducible repeat (first | apply Kd.V_alloc | apply Kd.V_drewN | apply Kd.V_drew)); exact Kd.V_mono (Kd.V_far (p := ⟨gb245, 3, none⟩) (Kd.V_far (p := ⟨gb245, 2, none⟩) (Kd.V_far (p := ⟨gb245, 1, none⟩) (Kd.V_far (p := ⟨gb245, 0, none⟩) (Kd.V_mono HO290.out (fun k_ hk => (⟨hk, hk.2.2.1⟩ : _ ∧ k_ ≠ gb245))) (fun _ hk => hk.2) (.int .i64 t285)) (fun _ hk => hk.2) (.int .i64 t286)) (fun _ hk => hk.2) (.string t287)) (fun _ hk => hk.2) (.slice Ao119 t288.length co119)) (fun _ hk => hk.1.1), bw_ HB.out⟩
         ·rw [if_neg c106] at H
          have c106b0 := beq_eq_false_iff_ne.mpr c106
          have c106b1 := bne_iff_ne.mpr c106
          have HC120 := A_ H
          clear H
          have hnb121 := NB244_245.out
          have hnc121 := NB245_244.out
          have hnb122 := NB244_259.out
          have hnc122 := NB259_244.out
          have hnb123 := NB244_276.out
          have hnc123 := NB276_244.out
          obtain ⟨y124_0, y124_1, y124_2, y124_3, z124_0, z124_1, z124_2, z124_3⟩ := cz4_ BK244.out
          go_upto_region 15 with (fail)
          go_cut [64] (fun v64 wc => ∃ (kq : Nat) (x64_119 : Bool), v64 = .bool x64_119 ∧ Aside0 (spec_l11Fold.j2 kq x64_119 a0_0 a0_1 a0_2 l0_3 t253 t254 t255 t256 t270 t271 t272 t273 = some (r1, r2, r3, r4)) ∧ Aside0 (kq ≤ kj79) ∧ Aside0 (Kd.V k29 29 wc w.heap.size (fun k_ => (w.heap.size ≤ k_) ∧ k_ ≠ gb244 ∧ k_ ≠ gb245 ∧ k_ ≠ gb259 ∧ k_ ≠ gb276) (.slice Ao59 t256.length co59) t256) ∧ Aside0 (Kd.V k29 29 wc w.heap.size (fun k_ => (w.heap.size ≤ k_) ∧ k_ ≠ gb244 ∧ k_ ≠ gb245 ∧ k_ ≠ gb259 ∧ k_ ≠ gb276) (.slice Ao67 t273.length co67) t273) ∧ Aside0 (wc.heap[gb244]? = some (.cells #[.int .i64 a0_0, .int .i64 a0_1, .string a0_2, (.slice (some ad252) l0_3.length c0_3)] 29 (0, 0))) ∧ Aside0 (wc.heap[gb245]? = some (.cells #[.int .i64 x246000_79, .int .i64 x246001_79, .string x246002_79, (.slice none 0 0)] 29 (0, 0))) ∧ Aside0 (wc.heap[gb259]? = some (.cells #[.int .i64 t253, .int .i64 t254, .string t255, (.slice Ao59 t256.length co59)] 29 (0, 0))) ∧ Aside0 (wc.heap[gb276]? = some (.cells #[.int .i64 t270, .int .i64 t271, .string t272, (.slice Ao67 t273.length co67)] 29 (0, 0))) ∧ Aside0 (Below w.heap.size w wc))
          case first =>
           have H := HC120.out
           clear HC120
           by_cases c125 : a0_0 = 5
           ·rw [if_pos c125] at H
            have c125b0 := beq_iff_eq.mpr c125
            have c125b1 := bne_eq_false_iff_eq.mpr c125
            clear c125
            (first | rw [c125b0] | (simp only [i64_w, i32_w]; rw [c125b0]) | skip)
            have H' := A_ H
            clear H
            have hnb126 := NB244_245.out
            have hnc126 := NB245_244.out
            have hnb127 := NB244_259.out
            have hnc127 := NB259_244.out
            have hnb128 := NB244_276.out
            have hnc128 := NB276_244.out
            obtain ⟨y129_0, y129_1, y129_2, y129_3, z129_0, z129_1, z129_2, z129_3⟩ := cz4_ BK244.out
            have hnb130 := NB259_245.out
            have hnc130 := NB245_259.out
            have hnb131 := NB259_276.out
            have hnc131 := NB276_259.out
            obtain ⟨y132_0, y132_1, y132_2, y132_3, z132_0, z132_1, z132_2, z132_3⟩ := cz4_ BK259.out
            go_wp2
            go_meet
            case rel => exact ⟨_, ((t253 == 1)), (by first | rfl | (simp; done) | (simp [*]; done) | (simp [wrap64]; done)), H', ⟨by have := HJ48.out; have := HJ79.out; first | omega | exact Nat.le_refl _⟩, ⟨by (with_reducible repeat (first | apply Kd.V_alloc | apply Kd.V_drewN | apply Kd.V_drew)); exact HO_260003.out⟩, ⟨by (with_reducible repeat (first | apply Kd.V_alloc | apply Kd.V_drewN | apply Kd.V_drew)); exact HO_277003.out⟩, ⟨by refine bk_ ?_; exact BK244.out⟩, ⟨by refine bk_ ?_; exact BK245.out⟩, ⟨by refine bk_ ?_; exact BK259.out⟩, ⟨by refine bk_ ?_; exact BK276.out⟩, ⟨bw_ HB.out⟩⟩
           ·rw [if_neg c125] at H
            have c125b0 := beq_eq_false_iff_ne.mpr c125
            have c125b1 := bne_iff_ne.mpr c125
            (first | rw [c125b0] | (simp only [i64_w, i32_w]; rw [c125b0]) | skip)
            have H' := A_ H
            clear H
            have hnb133 := NB244_245.out
            have hnc133 := NB245_244.out
            have hnb134 := NB244_259.out
            have hnc134 := NB259_244.out
            have hnb135 := NB244_276.out
            have hnc135 := NB276_244.out
            obtain ⟨y136_0, y136_1, y136_2, y136_3, z136_0, z136_1, z136_2, z136_3⟩ := cz4_ BK244.out
            go_wp2
            go_meet
            case rel => exact ⟨_, (false), (by first | rfl | (simp; done) | (simp [*]; done) | (simp [wrap64]; done)), H', ⟨by have := HJ48.out; have := HJ79.out; first | omega | exact Nat.le_refl _⟩, ⟨by (with_reducible repeat (first | apply Kd.V_alloc | apply Kd.V_drewN | apply Kd.V_drew)); exact HO_260003.out⟩, ⟨by (with_reducible repeat (first | apply Kd.V_alloc | apply Kd.V_drewN | apply Kd.V_drew)); exact HO_277003.out⟩, ⟨by refine bk_ ?_; exact BK244.out⟩, ⟨by refine bk_ ?_; exact BK245.out⟩, ⟨by refine bk_ ?_; exact BK259.out⟩, ⟨by refine bk_ ?_; exact BK276.out⟩, ⟨bw_ HB.out⟩⟩
          case rest =>
           clear HC120
           try clear c1
           try clear c2
           try clear c2b0
           try clear c2b1
           try clear c2b2
           try clear p2
           try clear q2
           try clear hx2
           try clear qi2
           try clear c3
           try clear c4
           try clear c5
           try clear c6
           try clear p6
           try clear c7
           try clear c8
           try clear c9
           try clear c10
           try clear c11
           try clear c11b0
           try clear c11b1
           try clear c12
           try clear c13
           try clear c13b0
           try clear c13b1
           try clear c14
           try clear c14b0
           try clear c14b1
           try clear c18
           try clear c22
           try clear c23
           try clear c25
           try clear p25
           try clear q25
           try clear hx25
           try clear qi25
           try clear c26
           try clear p26
           try clear q26
           try clear hx26
           try clear qi26
           try clear c32
           try clear c36
           try clear c37
           try clear c47
           try clear c47b0
           try clear c47b1
           try clear c52
           try clear c56
           try clear c57
           try clear c58
           try clear c63
           try clear c64
           try clear p64
           try clear c65
           try clear c68
           try clear c68b0
           try clear c68b1
           try clear c69
           try clear c70
           try clear c71
           try clear c73
           try clear c74
           try clear c75
           try clear c76
           try clear c77
           try clear c78
           try clear c79
           try clear c80
           try clear c81
           try clear c83
           try clear c85
           try clear c86
           try clear c87
           try clear c89
           try clear c90
           try clear c92
           try clear c97
           try clear c98
           try clear c99
           try clear c101
           try clear c102
           try clear c104
           try clear c106
           try clear c106b0
           try clear c106b1
           try clear c108
           try clear c109
           try clear c110
           try clear c112
           try clear c113
           try clear c115
           try clear c121
           try clear c122
           try clear c123
           try clear c125
           try clear c125b0
           try clear c125b1
           try clear c126
           try clear c127
           try clear c128
           try clear c130
           try clear c131
           try clear c133
           try clear c134
           try clear c135
           try clear y100_0 y100_1 y100_2 y100_3 z100_0 z100_1 z100_2 z100_3
           try clear y103_0 y103_1 y103_2 y103_3 z103_0 z103_1 z103_2 z103_3
           try clear y105_0 y105_1 y105_2 y105_3 z105_0 z105_1 z105_2 z105_3
           try clear y111_0 y111_1 y111_2 y111_3 z111_0 z111_1 z111_2 z111_3
           try clear y114_0 y114_1 y114_2 y114_3 z114_0 z114_1 z114_2 z114_3
           try clear y116_0 y116_1 y116_2 y116_3 z116_0 z116_1 z116_2 z116_3
           try clear y118_0 y118_1 y118_2 y118_3 z118_0 z118_1 z118_2 z118_3
           try clear y124_0 y124_1 y124_2 y124_3 z124_0 z124_1 z124_2 z124_3
           try clear y129_0 y129_1 y129_2 y129_3 z129_0 z129_1 z129_2 z129_3
           try clear y132_0 y132_1 y132_2 y132_3 z132_0 z132_1 z132_2 z132_3
           try clear y136_0 y136_1 y136_2 y136_3 z136_0 z136_1 z136_2 z136_3
           try clear y19_0 y19_1 y19_2 y19_3 z19_0 z19_1 z19_2 z19_3
           try clear y24_0 y24_1 y24_2 y24_3 z24_0 z24_1 z24_2 z24_3
           try clear y26_0 y26_1 y26_2 y26_3 z26_0 z26_1 z26_2 z26_3
           try clear y28_0 y28_1 y28_2 y28_3 z28_0 z28_1 z28_2 z28_3
           try clear y33_0 y33_1 y33_2 y33_3 z33_0 z33_1 z33_2 z33_3
           try clear y38_0 y38_1 y38_2 y38_3 z38_0 z38_1 z38_2 z38_3
           try clear y41_0 y41_1 y41_2 y41_3 z41_0 z41_1 z41_2 z41_3
           try clear y42_0 y42_1 y42_2 y42_3 z42_0 z42_1 z42_2 z42_3
           try clear y46_0 y46_1 y46_2 y46_3 z46_0 z46_1 z46_2 z46_3
           try clear y53_0 y53_1 y53_2 y53_3 z53_0 z53_1 z53_2 z53_3
           try clear y58_0 y58_1 y58_2 y58_3 z58_0 z58_1 z58_2 z58_3
           try clear y60_0 y60_1 y60_2 y60_3 z60_0 z60_1 z60_2 z60_3
           try clear y66_0 y66_1 y66_2 y66_3 z66_0 z66_1 z66_2 z66_3
           try clear y72_0 y72_1 y72_2 y72_3 z72_0 z72_1 z72_2 z72_3
           try clear y75_0 y75_1 y75_2 y75_3 z75_0 z75_1 z75_2 z75_3
           try clear y79_0 y79_1 y79_2 y79_3 z79_0 z79_1 z79_2 z79_3
           try clear y7_0 y7_1 y7_2 y7_3 z7_0 z7_1 z7_2 z7_3
           try clear y88_0 y88_1 y88_2 y88_3 z88_0 z88_1 z88_2 z88_3
           try clear y91_0 y91_1 y91_2 y91_3 z91_0 z91_1 z91_2 z91_3
           try clear y93_0 y93_1 y93_2 y93_3 z93_0 z93_1 z93_2 z93_3
           try clear y95_0 y95_1 y95_2 y95_3 z95_0 z95_1 z95_2 z95_3
           try clear y9_0 y9_1 y9_2 y9_3 z9_0 z9_1 z9_2 z9_3
           try clear hx252_0 hx252_1 hx252_2 hx252_3
           try clear hx269_0 hx269_1 hx269_2 hx269_3
           try clear p2
           try clear p25
           try clear p252
           try clear p26
           try clear p269
           try clear p6
           try clear p64
           try clear q2
           try clear q25
           try clear q252
           try clear q26
           try clear q269
           obtain ⟨kq, x64_119, rfl, HA, HJ119, HO_260003, HO_277003, BK244, BK245, BK259, BK276, HB⟩ := hcut
           cases kq with
           | zero => exact absurd HA.out (by simp [spec_l11Fold.j2])
           | succ kj119 =>
            have H := HA.out
            clear HA
            simp only [spec_l11Fold.j2] at H
            by_cases c137 : x64_119 = true
            ·subst c137
             rw [if_pos rfl] at H
             replace H := Option.bind_eq_some_iff.mp H
             obtain ⟨⟨t291, t292, t293, t294⟩, A1380, H⟩ := H
             try dsimp only at H
             have A138 := A_ A1380
             clear A1380
             simp only [Option.some.injEq, Prod.mk.injEq] at H
             obtain ⟨rfl, rfl, rfl, rfl⟩ := H
             have hnb139 := NB276_244.out
             have hnc139 := NB244_276.out
             have hnb140 := NB276_245.out
             have hnc140 := NB245_276.out
             have hnb141 := NB276_259.out
             have hnc141 := NB259_276.out
             obtain ⟨y142_0, y142_1, y142_2, y142_3, z142_0, z142_1, z142_2, z142_3⟩ := cz4_ BK276.out
             have hnb143 := NB259_244.out
             have hnc143 := NB244_259.out
             have hnb144 := NB259_245.out
             have hnc144 := NB245_259.out
             obtain ⟨y145_0, y145_1, y145_2, y145_3, z145_0, z145_1, z145_2, z145_3⟩ := cz4_ BK259.out
             go_wp2_with (first | ((with_reducible refine gate_callee (f := 81) rfl ?_); refine gL_ (some 76) Try.func81 #[.agg #[.int .i64 t270, .int .i64 t271, .string t272, .slice Ao67 t273.length co67], .int .i64 t254] ?_; (with_reducible refine (spec_l11Sum.calls t270 t271 t272 (fun k_ => ((w.heap.size ≤ k_) ∧ (k_ ≠ gb244 ∧ (k_ ≠ gb245 ∧ (k_ ≠ gb259 ∧ k_ ≠ gb276))))) _ _ t273 t254 t291 t292 t293 t294 _ ?side1 A138.out).mono ?_); (case side1 => exact HO_277003.out); rintro e w146 ⟨v295, rfl, ho0, hb⟩; refine ⟨_, rfl, ?_⟩; have n0_ := A_ (Kd.V_below (kv_ HO_260003.out) hb); have n1_ := A_ (Kd.V_below (kv_ HO_277003.out) hb); have n2_ := A_ (Kd.V_lower (Kd.V_mono (ok' := fun k_ => (w.heap.size ≤ k_) ∧ k_ ≠ gb244 ∧ k_ ≠ gb245 ∧ k_ ≠ gb259 ∧ k_ ≠ gb276) ho0 (fun k_ hk_ => ⟨Or.elim hk_ (fun hs_ => hs_.1) (fun hn_ => (Nat.le_trans (below_size (bw_ HB.out)) hn_)), Or.elim hk_ (fun hs_ => hs_.2.1) (fun hn_ => (Kd.freshB (bk_ BK244.out) k_ hn_)), Or.elim hk_ (fun hs_ => hs_.2.2.1) (fun hn_ => (Kd.freshB (bk_ BK245.out) k_ hn_)), Or.elim hk_ (fun hs_ => hs_.2.2.2.1) (fun hn_ => (Kd.freshB (bk_ BK259.out) k_ hn_)), Or.elim hk_ (fun hs_ => hs_.2.2.2.2) (fun hn_ => (Kd.freshB (bk_ BK276.out) k_ hn_))⟩)) (below_size (bw_ HB.out))); have n3_ := A_ (blk_below (bk_ BK244.out) hb); have n4_ := A_ (blk_below (bk_ BK245.out) hb); have n5_ := A_ (blk_below (bk_ BK259.out) hb); have n6_ := A_ (blk_below (bk_ BK276.out) hb); have n7_ := A_ (below_step (bw_ HB.out) hb); clear HO_260003; clear HO_277003; clear BK244; clear BK245; clear BK259; clear BK276; clear HB; have HO_260003 := n0_; have HO_277003 := n1_; have HO296 := n2_; have BK244 := n3_; have BK245 := n4_; have BK259 := n5_; have BK276 := n6_; have HB := n7_; clear n0_ n1_ n2_ n3_ n4_ n5_ n6_ n7_; (try clear hb); (try clear hb2); (try clear hk); (try clear hi); (try clear ho0); have hnb147 := NB245_244.out; have hnc147 := NB244_245.out; have y148_0 : w146.cell? ⟨gb245, 0, none⟩ = some (.int .i64 x246000_79) := (blk_cell BK245.out 0).trans rfl; have y148_1 : w146.cell? ⟨gb245, 1, none⟩ = some (.int .i64 x246001_79) := (blk_cell BK245.out 1).trans rfl; have y148_2 : w146.cell? ⟨gb245, 2, none⟩ = some (.string x246002_79) := (blk_cell BK245.out 2).trans rfl; have y148_3 : w146.cell? ⟨gb245, 3, none⟩ = some (.slice none 0 0) := (blk_cell BK245.out 3).trans rfl; have z148_0 := blk_frozen BK245.out 0; have z148_1 := blk_frozen BK245.out 1; have z148_2 := blk_frozen BK245.out 2; have z148_3 := blk_frozen BK245.out 3; obtain ⟨Ao149, co149, eo149⟩ := Kd.V_slice HO296.out; subst eo149))
             refine bodyPost_ret (results_cell_row rfl _ _ gb245 29 #[.int .i64 t291, .int .i64 t292, .string t293, .slice Ao149 t294.length co149] (0, 0) _ rfl ?hb_ Try.underlying29 rfl (by kernel_rfl)) rfl ?_
             (case hb_ => refine bk_ ?_; refine blk_put (cs := #[.int .i64 t291, .int .i64 t292, .string t293, .slice none 0 0]) ?_ 3 _ rfl; refine bk_ ?_; refine blk_put (cs := #[.int .i64 t291, .int .i64 t292, .string x246002_79, .slice none 0 0]) ?_ 2 _ rfl; refine bk_ ?_; refine blk_put (cs := #[.int .i64 t291, .int .i64 x246001_79, .string x246002_79, .slice none 0 0]) ?_ 1 _ rfl; refine bk_ ?_; refine blk_put (cs := #[.int .i64 x246000_79, .int .i64 x246001_79, .string x246002_79, .slice none 0 0]) ?_ 0 _ rfl; refine bk_ ?_; exact BK245.out)
             exact ⟨_, by first | rfl | (simp [errW_none, errW_some] <;> rfl) | (simp [*, errW_none, errW_some] <;> rfl), by (with_reducible repeat (first | apply Kd.V_alloc | apply Kd.V_drewN | apply Kd.V_drew)); exact Kd.V_mono (Kd.V_far (p := ⟨gb245, 3, none⟩) (Kd.V_far (p := ⟨gb245, 2, none⟩) (Kd.V_far (p := ⟨gb245, 1, none⟩) (Kd.V_far (p := ⟨gb245, 0, none⟩) (Kd.V_mono HO296.out (fun k_ hk => (⟨hk, hk.2.2.1⟩ : _ ∧ k_ ≠ gb245))) (fun _ hk => hk.2) (.int .i64 t291)) (fun _ hk => hk.2) (.int .i64 t292)) (fun _ hk => hk.2) (.string t293)) (fun _ hk => hk.2) (.slice Ao149 t294.length co149)) (fun _ hk => hk.1.1), bw_ HB.out⟩
            ·replace c137 := Bool.eq_false_iff.mpr c137
             subst c137
             rw [if_neg (show ¬ (false = true) by decide)] at H
             by_cases c150 : a0_0 = 5
             ·rw [if_pos c150] at H
              have c150b0 := beq_iff_eq.mpr c150
              have c150b1 := bne_eq_false_iff_eq.mpr c150
              clear c150
              by_cases c151 : t270 = 1
              ·rw [if_pos c151] at H
               have c151b0 := beq_iff_eq.mpr c151
               have c151b1 := bne_eq_false_iff_eq.mpr c151
               clear c151
               replace H := Option.bind_eq_some_iff.mp H
               obtain ⟨⟨t297, t298, t299, t300⟩, A1520, H⟩ := H
               try dsimp only at H
               have A152 := A_ A1520
               clear A1520
               simp only [Option.some.injEq, Prod.mk.injEq] at H
               obtain ⟨rfl, rfl, rfl, rfl⟩ := H
               have hnb153 := NB244_245.out
               have hnc153 := NB245_244.out
               have hnb154 := NB244_259.out
               have hnc154 := NB259_244.out
               have hnb155 := NB244_276.out
               have hnc155 := NB276_244.out
               obtain ⟨y156_0, y156_1, y156_2, y156_3, z156_0, z156_1, z156_2, z156_3⟩ := cz4_ BK244.out
               have hnb157 := NB276_245.out
               have hnc157 := NB245_276.out
               have hnb158 := NB276_259.out
               have hnc158 := NB259_276.out
               obtain ⟨y159_0, y159_1, y159_2, y159_3, z159_0, z159_1, z159_2, z159_3⟩ := cz4_ BK276.out
               have hnb160 := NB259_245.out
               have hnc160 := NB245_259.out
               obtain ⟨y161_0, y161_1, y161_2, y161_3, z161_0, z161_1, z161_2, z161_3⟩ := cz4_ BK259.out
               go_wp2_with (first | ((with_reducible refine gate_callee (f := 81) rfl ?_); refine gL_ (some 89) Try.func81 #[.agg #[.int .i64 t253, .int .i64 t254, .string t255, .slice Ao59 t256.length co59], .int .i64 t271] ?_; (with_reducible refine (spec_l11Sum.calls t253 t254 t255 (fun k_ => ((w.heap.size ≤ k_) ∧ (k_ ≠ gb244 ∧ (k_ ≠ gb245 ∧ (k_ ≠ gb259 ∧ k_ ≠ gb276))))) _ _ t256 t271 t297 t298 t299 t300 _ ?side1 A152.out).mono ?_); (case side1 => exact HO_260003.out); rintro e w162 ⟨v301, rfl, ho0, hb⟩; refine ⟨_, rfl, ?_⟩; have n0_ := A_ (Kd.V_below (kv_ HO_260003.out) hb); have n1_ := A_ (Kd.V_below (kv_ HO_277003.out) hb); have n2_ := A_ (Kd.V_lower (Kd.V_mono (ok' := fun k_ => (w.heap.size ≤ k_) ∧ k_ ≠ gb244 ∧ k_ ≠ gb245 ∧ k_ ≠ gb259 ∧ k_ ≠ gb276) ho0 (fun k_ hk_ => ⟨Or.elim hk_ (fun hs_ => hs_.1) (fun hn_ => (Nat.le_trans (below_size (bw_ HB.out)) hn_)), Or.elim hk_ (fun hs_ => hs_.2.1) (fun hn_ => (Kd.freshB (bk_ BK244.out) k_ hn_)), Or.elim hk_ (fun hs_ => hs_.2.2.1) (fun hn_ => (Kd.freshB (bk_ BK245.out) k_ hn_)), Or.elim hk_ (fun hs_ => hs_.2.2.2.1) (fun hn_ => (Kd.freshB (bk_ BK259.out) k_ hn_)), Or.elim hk_ (fun hs_ => hs_.2.2.2.2) (fun hn_ => (Kd.freshB (bk_ BK276.out) k_ hn_))⟩)) (below_size (bw_ HB.out))); have n3_ := A_ (blk_below (bk_ BK244.out) hb); have n4_ := A_ (blk_below (bk_ BK245.out) hb); have n5_ := A_ (blk_below (bk_ BK259.out) hb); have n6_ := A_ (blk_below (bk_ BK276.out) hb); have n7_ := A_ (below_step (bw_ HB.out) hb); clear HO_260003; clear HO_277003; clear BK244; clear BK245; clear BK259; clear BK276; clear HB; have HO_260003 := n0_; have HO_277003 := n1_; have HO302 := n2_; have BK244 := n3_; have BK245 := n4_; have BK259 := n5_; have BK276 := n6_; have HB := n7_; clear n0_ n1_ n2_ n3_ n4_ n5_ n6_ n7_; (try clear hb); (try clear hb2); (try clear hk); (try clear hi); (try clear ho0); have y163_0 : w162.cell? ⟨gb245, 0, none⟩ = some (.int .i64 x246000_79) := (blk_cell BK245.out 0).trans rfl; have y163_1 : w162.cell? ⟨gb245, 1, none⟩ = some (.int .i64 x246001_79) := (blk_cell BK245.out 1).trans rfl; have y163_2 : w162.cell? ⟨gb245, 2, none⟩ = some (.string x246002_79) := (blk_cell BK245.out 2).trans rfl; have y163_3 : w162.cell? ⟨gb245, 3, none⟩ = some (.slice none 0 0) := (blk_cell BK245.out 3).trans rfl; have z163_0 := blk_frozen BK245.out 0; have z163_1 := blk_frozen BK245.out 1; have z163_2 := blk_frozen BK245.out 2; have z163_3 := blk_frozen BK245.out 3; obtain ⟨Ao164, co164, eo164⟩ := Kd.V_slice HO302.out; subst eo164))
               refine bodyPost_ret (results_cell_row rfl _ _ gb245 29 #[.int .i64 t297, .int .i64 t298, .string t299, .slice Ao164 t300.length co164] (0, 0) _ rfl ?hb_ Try.underlying29 rfl (by kernel_rfl)) rfl ?_
               (case hb_ => refine bk_ ?_; refine blk_put (cs := #[.int .i64 t297, .int .i64 t298, .string t299, .slice none 0 0]) ?_ 3 _ rfl; refine bk_ ?_; refine blk_put (cs := #[.int .i64 t297, .int .i64 t298, .string x246002_79, .slice none 0 0]) ?_ 2 _ rfl; refine bk_ ?_; refine blk_put (cs := #[.int .i64 t297, .int .i64 x246001_79, .string x246002_79, .slice none 0 0]) ?_ 1 _ rfl; refine bk_ ?_; refine blk_put (cs := #[.int .i64 x246000_79, .int .i64 x246001_79, .string x246002_79, .slice none 0 0]) ?_ 0 _ rfl; refine bk_ ?_; exact BK245.out)
               exact ⟨_, by first | rfl | (simp [errW_none, errW_some] <;> rfl) | (simp [*, errW_none, errW_some] <;> rfl), by (with_reducible repeat (first | apply Kd.V_alloc | apply Kd.V_drewN | apply Kd.V_drew)); exact Kd.V_mono (Kd.V_far (p := ⟨gb245, 3, none⟩) (Kd.V_far (p := ⟨gb245, 2, none⟩) (Kd.V_far (p := ⟨gb245, 1, none⟩) (Kd.V_far (p := ⟨gb245, 0, none⟩) (Kd.V_mono HO302.out (fun k_ hk => (⟨hk, hk.2.2.1⟩ : _ ∧ k_ ≠ gb245))) (fun _ hk => hk.2) (.int .i64 t297)) (fun _ hk => hk.2) (.int .i64 t298)) (fun _ hk => hk.2) (.string t299)) (fun _ hk => hk.2) (.slice Ao164 t300.length co164)) (fun _ hk => hk.1.1), bw_ HB.out⟩
              ·rw [if_neg c151] at H
               have c151b0 := beq_eq_false_iff_ne.mpr c151
               have c151b1 := bne_iff_ne.mpr c151
               obtain ⟨y303, hy303⟩ : ∃ y_ : List (S29), y_ = (([(⟨t253, t254, t255, t256⟩ : S29), (⟨t270, t271, t272, t273⟩ : S29)] : List (S29))) := ⟨_, rfl⟩
               replace H : (some (a0_0, 0, (⟨#[]⟩ : ByteArray), y303)) = some (r1, r2, r3, r4) := by first | (rw [hy303]; with_reducible exact H) | (have H2_ := (Option.bind_some _ _).symm.trans H; rw [hy303]; with_reducible exact H2_) | (have H2_ := (Option.bind_some _ _).symm.trans H; with_reducible exact H2_) | with_reducible exact H | (rw [hy303]; exact H) | exact H
               have Ny303 := A_ hy303
               clear hy303
               simp only [Option.some.injEq, Prod.mk.injEq] at H
               obtain ⟨rfl, rfl, rfl, rfl⟩ := H
               have hnb165 := NB244_245.out
               have hnc165 := NB245_244.out
               have hnb166 := NB244_259.out
               have hnc166 := NB259_244.out
               have hnb167 := NB244_276.out
               have hnc167 := NB276_244.out
               obtain ⟨y168_0, y168_1, y168_2, y168_3, z168_0, z168_1, z168_2, z168_3⟩ := cz4_ BK244.out
               have hnb169 := NB276_245.out
               have hnc169 := NB245_276.out
               have hnb170 := NB276_259.out
               have hnc170 := NB259_276.out
               obtain ⟨y171_0, y171_1, y171_2, y171_3, z171_0, z171_1, z171_2, z171_3⟩ := cz4_ BK276.out
               have hnb172 := NB259_245.out
               have hnc172 := NB245_259.out
               obtain ⟨y173_0, y173_1, y173_2, y173_3, z173_0, z173_1, z173_2, z173_3⟩ := cz4_ BK259.out
               go_wp2_with (first | ((with_reducible refine gate_dst (N := 94) rfl ?_); refine Kd.N_lit k29 _ 29 ?hg (N' := 94) ?hd (xs := ([(⟨t253, t254, t255, t256⟩ : S29), (⟨t270, t271, t272, t273⟩ : S29)] : List (S29))) (inner := [.int .i64 t253, .int .i64 t254, .string t255, .slice Ao59 t256.length co59, .int .i64 t270, .int .i64 t271, .string t272, .slice Ao67 t273.length co67]) (ok := (fun k_ => (w.heap.size ≤ k_) ∧ k_ ≠ gb244 ∧ k_ ≠ gb245 ∧ k_ ≠ gb259 ∧ k_ ≠ gb276)) (okp := (fun k_ => (w.heap.size ≤ k_) ∧ k_ ≠ gb244 ∧ k_ ≠ gb245 ∧ k_ ≠ gb259 ∧ k_ ≠ gb276)) ?hr ?hp (fun _ hk => hk) ((show ∀ k_, wc.heap.size ≤ k_ → (fun k_ => (w.heap.size ≤ k_) ∧ k_ ≠ gb244 ∧ k_ ≠ gb245 ∧ k_ ≠ gb259 ∧ k_ ≠ gb276) k_ from fun k_ hk => ⟨(Nat.le_trans (below_size (bw_ HB.out)) hk), Kd.freshB (bk_ BK244.out) k_ hk, Kd.freshB (bk_ BK245.out) k_ hk, Kd.freshB (bk_ BK259.out) k_ hk, Kd.freshB (bk_ BK276.out) k_ hk⟩) _ (Nat.le_refl _)) (Below.refl _ _) (Nat.le_refl _) (by simp) ?_; (case hd => rfl); (case hg => rfl); (case hr => first | (go_simp; done) | (go_simp; rfl)); (case hp => exact (Reps.c4 (show Kd.FK k29 _ _ (⟨t253, t254, t255, t256⟩ : S29) [.int .i64 t253, .int .i64 t254, .string t255, .slice Ao59 t256.length co59] from (k29_mkF _ _ (⟨t253, t254, t255, t256⟩ : S29) (Kd.V_reads' (Kd.V_mono (ok' := (fun k_ => (w.heap.size ≤ k_) ∧ k_ ≠ gb244 ∧ k_ ≠ gb245 ∧ k_ ≠ gb259 ∧ k_ ≠ gb276)) (HO_260003.out) (fun k_ hk => ⟨hk.1, ⟨hk.2.1, ⟨hk.2.2.1, ⟨hk.2.2.2.1, hk.2.2.2.2⟩⟩⟩⟩))).2.1 (Kd.V_F (Kd.V_mono (ok' := (fun k_ => (w.heap.size ≤ k_) ∧ k_ ≠ gb244 ∧ k_ ≠ gb245 ∧ k_ ≠ gb259 ∧ k_ ≠ gb276)) (HO_260003.out) (fun k_ hk => ⟨hk.1, ⟨hk.2.1, ⟨hk.2.2.1, ⟨hk.2.2.2.1, hk.2.2.2.2⟩⟩⟩⟩))))) (Reps.c4 (show Kd.FK k29 _ _ (⟨t270, t271, t272, t273⟩ : S29) [.int .i64 t270, .int .i64 t271, .string t272, .slice Ao67 t273.length co67] from (k29_mkF _ _ (⟨t270, t271, t272, t273⟩ : S29) (Kd.V_reads' (Kd.V_mono (ok' := (fun k_ => (w.heap.size ≤ k_) ∧ k_ ≠ gb244 ∧ k_ ≠ gb245 ∧ k_ ≠ gb259 ∧ k_ ≠ gb276)) (HO_277003.out) (fun k_ hk => ⟨hk.1, ⟨hk.2.1, ⟨hk.2.2.1, ⟨hk.2.2.2.1, hk.2.2.2.2⟩⟩⟩⟩))).2.1 (Kd.V_F (Kd.V_mono (ok' := (fun k_ => (w.heap.size ≤ k_) ∧ k_ ≠ gb244 ∧ k_ ≠ gb245 ∧ k_ ≠ gb259 ∧ k_ ≠ gb276)) (HO_277003.out) (fun k_ hk => ⟨hk.1, ⟨hk.2.1, ⟨hk.2.2.1, ⟨hk.2.2.2.1, hk.2.2.2.2⟩⟩⟩⟩))))) (Reps.none _ _)))); intro v304 w174 ho175 hb hg_ hnew_; clear hg_ hnew_; (first | rw [← Ny303.out] at ho175 | (simp only [Int.reduceToNat] at ho175; rw [← Ny303.out] at ho175)); have n0_ := A_ (Kd.V_elder' (kv_ HO_260003.out) (Kd.N_base ho175) hb); have n1_ := A_ (Kd.V_elder' (kv_ HO_277003.out) (Kd.N_base ho175) hb); have n2_ := A_ (Kd.N_lower ho175 (below_size (bw_ HB.out))); have n3_ := A_ (blk_below (bk_ BK244.out) hb); have n4_ := A_ (blk_below (bk_ BK245.out) hb); have n5_ := A_ (blk_below (bk_ BK259.out) hb); have n6_ := A_ (blk_below (bk_ BK276.out) hb); have n7_ := A_ (below_step (bw_ HB.out) hb); clear HO_260003; clear HO_277003; clear BK244; clear BK245; clear BK259; clear BK276; clear HB; have HO_260003 := n0_; have HO_277003 := n1_; have HO305 := n2_; have BK244 := n3_; have BK245 := n4_; have BK259 := n5_; have BK276 := n6_; have HB := n7_; clear n0_ n1_ n2_ n3_ n4_ n5_ n6_ n7_; clear hb ho175; obtain ⟨Ao176, co176, eo176⟩ := Kd.N_slice HO305.out; subst eo176; have y177_0 : w174.cell? ⟨gb245, 0, none⟩ = some (.int .i64 x246000_79) := (blk_cell BK245.out 0).trans rfl; have y177_1 : w174.cell? ⟨gb245, 1, none⟩ = some (.int .i64 x246001_79) := (blk_cell BK245.out 1).trans rfl; have y177_2 : w174.cell? ⟨gb245, 2, none⟩ = some (.string x246002_79) := (blk_cell BK245.out 2).trans rfl; have y177_3 : w174.cell? ⟨gb245, 3, none⟩ = some (.slice none 0 0) := (blk_cell BK245.out 3).trans rfl; have z177_0 := blk_frozen BK245.out 0; have z177_1 := blk_frozen BK245.out 1; have z177_2 := blk_frozen BK245.out 2; have z177_3 := blk_frozen BK245.out 3))
               refine bodyPost_ret (results_cell_row rfl _ _ gb245 29 #[.int .i64 a0_0, .int .i64 0, .string (⟨#[]⟩ : ByteArray), .slice Ao176 y303.length co176] (0, 0) _ rfl ?hb_ Try.underlying29 rfl (by kernel_rfl)) rfl ?_
               (case hb_ => refine bk_ ?_; refine blk_put (cs := #[.int .i64 a0_0, .int .i64 0, .string (⟨#[]⟩ : ByteArray), .slice none 0 0]) ?_ 3 _ rfl; refine bk_ ?_; refine blk_put (cs := #[.int .i64 a0_0, .int .i64 0, .string x246002_79, .slice none 0 0]) ?_ 2 _ rfl; refine bk_ ?_; refine blk_put (cs := #[.int .i64 a0_0, .int .i64 x246001_79, .string x246002_79, .slice none 0 0]) ?_ 1 _ rfl; refine bk_ ?_; refine blk_put (cs := #[.int .i64 x246000_79, .int .i64 x246001_79, .string x246002_79, .slice none 0 0]) ?_ 0 _ rfl; refine bk_ ?_; exact BK245.out)
               exact ⟨_, by first | rfl | (simp [errW_none, errW_some] <;> rfl) | (simp [*, errW_none, errW_some] <;> rfl), Kd.N_V (by (with_reducible repeat (first | apply Kd.N_alloc | apply Kd.N_drewN | apply Kd.N_drew)); exact Kd.N_mono (Kd.N_far (p := ⟨gb245, 3, none⟩) (Kd.N_far (p := ⟨gb245, 2, none⟩) (Kd.N_far (p := ⟨gb245, 1, none⟩) (Kd.N_far (p := ⟨gb245, 0, none⟩) (Kd.N_mono HO305.out (fun k_ hk => (⟨hk, hk.2.2.1⟩ : _ ∧ k_ ≠ gb245))) (fun _ hk => hk.2) (.int .i64 a0_0)) (fun _ hk => hk.2) (.int .i64 0)) (fun _ hk => hk.2) (.string (⟨#[]⟩ : ByteArray))) (fun _ hk => hk.2) (.slice Ao176 y303.length co176)) (fun _ hk => hk.1.1)), bw_ HB.out⟩
             ·rw [if_neg c150] at H
              have c150b0 := beq_eq_false_iff_ne.mpr c150
              have c150b1 := bne_iff_ne.mpr c150
              obtain ⟨y306, hy306⟩ : ∃ y_ : List (S29), y_ = (([(⟨t253, t254, t255, t256⟩ : S29), (⟨t270, t271, t272, t273⟩ : S29)] : List (S29))) := ⟨_, rfl⟩
              replace H : (some (a0_0, 0, (⟨#[]⟩ : ByteArray), y306)) = some (r1, r2, r3, r4) := by first | (rw [hy306]; with_reducible exact H) | (have H2_ := (Option.bind_some _ _).symm.trans H; rw [hy306]; with_reducible exact H2_) | (have H2_ := (Option.bind_some _ _).symm.trans H; with_reducible exact H2_) | with_reducible exact H | (rw [hy306]; exact H) | exact H
              have Ny306 := A_ hy306
              clear hy306
              simp only [Option.some.injEq, Prod.mk.injEq] at H
              obtain ⟨rfl, rfl, rfl, rfl⟩ := H
              have hnb178 := NB244_245.out
              have hnc178 := NB245_244.out
              have hnb179 := NB244_259.out
              have hnc179 := NB259_244.out
              have hnb180 := NB244_276.out
              have hnc180 := NB276_244.out
              obtain ⟨y181_0, y181_1, y181_2, y181_3, z181_0, z181_1, z181_2, z181_3⟩ := cz4_ BK244.out
              have hnb182 := NB259_245.out
              have hnc182 := NB245_259.out
              have hnb183 := NB259_276.out
              have hnc183 := NB276_259.out
              obtain ⟨y184_0, y184_1, y184_2, y184_3, z184_0, z184_1, z184_2, z184_3⟩ := cz4_ BK259.out
              have hnb185 := NB276_245.out
              have hnc185 := NB245_276.out
              obtain ⟨y186_0, y186_1, y186_2, y186_3, z186_0, z186_1, z186_2, z186_3⟩ := cz4_ BK276.out
              go_wp2_with (first | ((with_reducible refine gate_dst (N := 94) rfl ?_); refine Kd.N_lit k29 _ 29 ?hg (N' := 94) ?hd (xs := ([(⟨t253, t254, t255, t256⟩ : S29), (⟨t270, t271, t272, t273⟩ : S29)] : List (S29))) (inner := [.int .i64 t253, .int .i64 t254, .string t255, .slice Ao59 t256.length co59, .int .i64 t270, .int .i64 t271, .string t272, .slice Ao67 t273.length co67]) (ok := (fun k_ => (w.heap.size ≤ k_) ∧ k_ ≠ gb244 ∧ k_ ≠ gb245 ∧ k_ ≠ gb259 ∧ k_ ≠ gb276)) (okp := (fun k_ => (w.heap.size ≤ k_) ∧ k_ ≠ gb244 ∧ k_ ≠ gb245 ∧ k_ ≠ gb259 ∧ k_ ≠ gb276)) ?hr ?hp (fun _ hk => hk) ((show ∀ k_, wc.heap.size ≤ k_ → (fun k_ => (w.heap.size ≤ k_) ∧ k_ ≠ gb244 ∧ k_ ≠ gb245 ∧ k_ ≠ gb259 ∧ k_ ≠ gb276) k_ from fun k_ hk => ⟨(Nat.le_trans (below_size (bw_ HB.out)) hk), Kd.freshB (bk_ BK244.out) k_ hk, Kd.freshB (bk_ BK245.out) k_ hk, Kd.freshB (bk_ BK259.out) k_ hk, Kd.freshB (bk_ BK276.out) k_ hk⟩) _ (Nat.le_refl _)) (Below.refl _ _) (Nat.le_refl _) (by simp) ?_; (case hd => rfl); (case hg => rfl); (case hr => first | (go_simp; done) | (go_simp; rfl)); (case hp => exact (Reps.c4 (show Kd.FK k29 _ _ (⟨t253, t254, t255, t256⟩ : S29) [.int .i64 t253, .int .i64 t254, .string t255, .slice Ao59 t256.length co59] from (k29_mkF _ _ (⟨t253, t254, t255, t256⟩ : S29) (Kd.V_reads' (Kd.V_mono (ok' := (fun k_ => (w.heap.size ≤ k_) ∧ k_ ≠ gb244 ∧ k_ ≠ gb245 ∧ k_ ≠ gb259 ∧ k_ ≠ gb276)) (HO_260003.out) (fun k_ hk => ⟨hk.1, ⟨hk.2.1, ⟨hk.2.2.1, ⟨hk.2.2.2.1, hk.2.2.2.2⟩⟩⟩⟩))).2.1 (Kd.V_F (Kd.V_mono (ok' := (fun k_ => (w.heap.size ≤ k_) ∧ k_ ≠ gb244 ∧ k_ ≠ gb245 ∧ k_ ≠ gb259 ∧ k_ ≠ gb276)) (HO_260003.out) (fun k_ hk => ⟨hk.1, ⟨hk.2.1, ⟨hk.2.2.1, ⟨hk.2.2.2.1, hk.2.2.2.2⟩⟩⟩⟩))))) (Reps.c4 (show Kd.FK k29 _ _ (⟨t270, t271, t272, t273⟩ : S29) [.int .i64 t270, .int .i64 t271, .string t272, .slice Ao67 t273.length co67] from (k29_mkF _ _ (⟨t270, t271, t272, t273⟩ : S29) (Kd.V_reads' (Kd.V_mono (ok' := (fun k_ => (w.heap.size ≤ k_) ∧ k_ ≠ gb244 ∧ k_ ≠ gb245 ∧ k_ ≠ gb259 ∧ k_ ≠ gb276)) (HO_277003.out) (fun k_ hk => ⟨hk.1, ⟨hk.2.1, ⟨hk.2.2.1, ⟨hk.2.2.2.1, hk.2.2.2.2⟩⟩⟩⟩))).2.1 (Kd.V_F (Kd.V_mono (ok' := (fun k_ => (w.heap.size ≤ k_) ∧ k_ ≠ gb244 ∧ k_ ≠ gb245 ∧ k_ ≠ gb259 ∧ k_ ≠ gb276)) (HO_277003.out) (fun k_ hk => ⟨hk.1, ⟨hk.2.1, ⟨hk.2.2.1, ⟨hk.2.2.2.1, hk.2.2.2.2⟩⟩⟩⟩))))) (Reps.none _ _)))); intro v307 w187 ho188 hb hg_ hnew_; clear hg_ hnew_; (first | rw [← Ny306.out] at ho188 | (simp only [Int.reduceToNat] at ho188; rw [← Ny306.out] at ho188)); have n0_ := A_ (Kd.V_elder' (kv_ HO_260003.out) (Kd.N_base ho188) hb); have n1_ := A_ (Kd.V_elder' (kv_ HO_277003.out) (Kd.N_base ho188) hb); have n2_ := A_ (Kd.N_lower ho188 (below_size (bw_ HB.out))); have n3_ := A_ (blk_below (bk_ BK244.out) hb); have n4_ := A_ (blk_below (bk_ BK245.out) hb); have n5_ := A_ (blk_below (bk_ BK259.out) hb); have n6_ := A_ (blk_below (bk_ BK276.out) hb); have n7_ := A_ (below_step (bw_ HB.out) hb); clear HO_260003; clear HO_277003; clear BK244; clear BK245; clear BK259; clear BK276; clear HB; have HO_260003 := n0_; have HO_277003 := n1_; have HO308 := n2_; have BK244 := n3_; have BK245 := n4_; have BK259 := n5_; have BK276 := n6_; have HB := n7_; clear n0_ n1_ n2_ n3_ n4_ n5_ n6_ n7_; clear hb ho188; obtain ⟨Ao189, co189, eo189⟩ := Kd.N_slice HO308.out; subst eo189; have y190_0 : w187.cell? ⟨gb245, 0, none⟩ = some (.int .i64 x246000_79) := (blk_cell BK245.out 0).trans rfl; have y190_1 : w187.cell? ⟨gb245, 1, none⟩ = some (.int .i64 x246001_79) := (blk_cell BK245.out 1).trans rfl; have y190_2 : w187.cell? ⟨gb245, 2, none⟩ = some (.string x246002_79) := (blk_cell BK245.out 2).trans rfl; have y190_3 : w187.cell? ⟨gb245, 3, none⟩ = some (.slice none 0 0) := (blk_cell BK245.out 3).trans rfl; have z190_0 := blk_frozen BK245.out 0; have z190_1 := blk_frozen BK245.out 1; have z190_2 := blk_frozen BK245.out 2; have z190_3 := blk_frozen BK245.out 3))
              refine bodyPost_ret (results_cell_row rfl _ _ gb245 29 #[.int .i64 a0_0, .int .i64 0, .string (⟨#[]⟩ : ByteArray), .slice Ao189 y306.length co189] (0, 0) _ rfl ?hb_ Try.underlying29 rfl (by kernel_rfl)) rfl ?_
              (case hb_ => refine bk_ ?_; refine blk_put (cs := #[.int .i64 a0_0, .int .i64 0, .string (⟨#[]⟩ : ByteArray), .slice none 0 0]) ?_ 3 _ rfl; refine bk_ ?_; refine blk_put (cs := #[.int .i64 a0_0, .int .i64 0, .string x246002_79, .slice none 0 0]) ?_ 2 _ rfl; refine bk_ ?_; refine blk_put (cs := #[.int .i64 a0_0, .int .i64 x246001_79, .string x246002_79, .slice none 0 0]) ?_ 1 _ rfl; refine bk_ ?_; refine blk_put (cs := #[.int .i64 x246000_79, .int .i64 x246001_79, .string x246002_79, .slice none 0 0]) ?_ 0 _ rfl; refine bk_ ?_; exact BK245.out)
              exact ⟨_, by first | rfl | (simp [errW_none, errW_some] <;> rfl) | (simp [*, errW_none, errW_some] <;> rfl), Kd.N_V (by (with_reducible repeat (first | apply Kd.N_alloc | apply Kd.N_drewN | apply Kd.N_drew)); exact Kd.N_mono (Kd.N_far (p := ⟨gb245, 3, none⟩) (Kd.N_far (p := ⟨gb245, 2, none⟩) (Kd.N_far (p := ⟨gb245, 1, none⟩) (Kd.N_far (p := ⟨gb245, 0, none⟩) (Kd.N_mono HO308.out (fun k_ hk => (⟨hk, hk.2.2.1⟩ : _ ∧ k_ ≠ gb245))) (fun _ hk => hk.2) (.int .i64 a0_0)) (fun _ hk => hk.2) (.int .i64 0)) (fun _ hk => hk.2) (.string (⟨#[]⟩ : ByteArray))) (fun _ hk => hk.2) (.slice Ao189 y306.length co189)) (fun _ hk => hk.1.1)), bw_ HB.out⟩
    ·rw [if_neg c47] at H
     exact absurd H (by simp)
  ·rw [if_neg c11] at H
   exact absurd H (by simp)

end Go.Proofs.Ytcpnhlhigpgonaa.PFnExactKnown
