-- Laid by a program of this session (a changed copy of the kit's printer); Lean checks every line.
import Derived.Test.YtajkjkdfcegdpaaPFnCodesx0
import Derived.Test.YtajkjkdfcegdpaaPFnCodesx3
import Derived.Test.YtajkjkdfcegdpaaPFnCodesx4
namespace Go.Proofs.Ytajkjkdfcegdpaa.PFnCodes
open Go.RowKit Go.Proofs.YtajkjkdfcegdpaaW.PrintWords Go.Proofs.YtajkjkdfcegdpaaW.PrintLast Go.Proofs.YtajkjkdfcegdpaaW.PrintMore
attribute [local go_sem] max2_int min2_int max_two min_two max_three min_three max_four min_four   -- for this text's walks alone
set_option linter.unusedVariables false
set_option linter.unusedSimpArgs false

/-! ### impl_Encode: function 22 -/
mutual
def impl_Encode.j0 : Nat → List Int → Bool → Int → Int → Int → Int → Int → Int → Int → Int → Option (List Int)
 | 0, _, _, _, _, _, _, _, _, _, _ => none
 | k + 1, x3, x17, x162000, x162001, x162002, x162003, x162004, x162005, x162006, x162007 => if x17 = true then (if x3.length < 17592186044416 then (impl_Encode.j1 k (x3 ++ [x162003]) x162000 x162001 x162002 x162003 x162004 x162005 x162006 x162007) else (none)) else (impl_Encode.j1 k x3 x162000 x162001 x162002 x162003 x162004 x162005 x162006 x162007)
def impl_Encode.j1 : Nat → List Int → Int → Int → Int → Int → Int → Int → Int → Int → Option (List Int)
 | 0, _, _, _, _, _, _, _, _, _ => none
 | k + 1, x3, x162000, x162001, x162002, x162003, x162004, x162005, x162006, x162007 => (impl_hasDst.f x162000).bind fun t172 => (if t172 = true then ((impl_HasX.f x162004 x162005 x162006).bind fun t173 => (if t173 = true then (if x3.length < 17592186044416 then (some (x3 ++ [x162006])) else (none)) else (some x3))) else (some x3))
end
def impl_Encode.f (k : Nat) (a0_0 : Int) (a0_1 : Int) (a0_2 : Int) (a0_3 : Int) (a0_4 : Int) (a0_5 : Int) (a0_6 : Int) (a0_7 : Int) : Option (List Int) := (impl_InsOk.f k a0_0 a0_1 a0_2 a0_3 a0_4 a0_5 a0_6 a0_7).bind fun t162 => (if t162 = true then ((impl_codeWord.f k a0_0 a0_1 a0_2 a0_3 a0_4 a0_5 a0_6 a0_7).bind fun t163 => ((some (([t163] : List Int) : List Int)).bind fun y164 => ((impl_hasSrc.f a0_0).bind fun t167 => (if t167 = true then ((impl_HasX.f a0_1 a0_2 a0_3).bind fun t168 => (impl_Encode.j0 k y164 t168 a0_0 a0_1 a0_2 a0_3 a0_4 a0_5 a0_6 a0_7)) else (impl_Encode.j0 k y164 false a0_0 a0_1 a0_2 a0_3 a0_4 a0_5 a0_6 a0_7))))) else (some ([] : List Int)))
theorem impl_Encode.mono_l : ∀ k, (∀ y0 y1 y2 y3 y4 y5 y6 y7 y8 y9, LeO (impl_Encode.j0 k y0 y1 y2 y3 y4 y5 y6 y7 y8 y9) (impl_Encode.j0 (k + 1) y0 y1 y2 y3 y4 y5 y6 y7 y8 y9)) ∧ (∀ y0 y1 y2 y3 y4 y5 y6 y7 y8, LeO (impl_Encode.j1 k y0 y1 y2 y3 y4 y5 y6 y7 y8) (impl_Encode.j1 (k + 1) y0 y1 y2 y3 y4 y5 y6 y7 y8))
 | 0 => ⟨fun _ _ _ _ _ _ _ _ _ _ r h => by simp [impl_Encode.j0] at h, fun _ _ _ _ _ _ _ _ _ r h => by simp [impl_Encode.j1] at h⟩
 | k + 1 => by
  obtain ⟨ih0, ih1⟩ := impl_Encode.mono_l k
  refine ⟨?_, ?_⟩
  ·intro y0 y1 y2 y3 y4 y5 y6 y7 y8 y9
   unfold impl_Encode.j0
   repeat' first
   | (with_reducible exact ih0 _ _ _ _ _ _ _ _ _ _)
   | (with_reducible exact ih1 _ _ _ _ _ _ _ _ _)
   | (with_reducible exact impl_InsOk.mono _ _ _ _ _ _ _ _ _)
   | (with_reducible exact impl_codeWord.mono _ _ _ _ _ _ _ _ _)
   | (with_reducible exact LeO.refl _)
   | (with_reducible exact LeO.none _)
   | (with_reducible refine LeO.ite ?_ ?_)
   | (with_reducible refine LeO.bind ?_ (fun _ => ?_))
   | exact ih0 _ _ _ _ _ _ _ _ _ _
   | exact ih1 _ _ _ _ _ _ _ _ _
   | exact impl_InsOk.mono _ _ _ _ _ _ _ _ _
   | exact impl_codeWord.mono _ _ _ _ _ _ _ _ _
   | exact LeO.none _
   | refine LeO.ite ?_ ?_
   | refine LeO.bind ?_ (fun _ => ?_)
  ·intro y0 y1 y2 y3 y4 y5 y6 y7 y8
   unfold impl_Encode.j1
   repeat' first
   | (with_reducible exact ih0 _ _ _ _ _ _ _ _ _ _)
   | (with_reducible exact ih1 _ _ _ _ _ _ _ _ _)
   | (with_reducible exact impl_InsOk.mono _ _ _ _ _ _ _ _ _)
   | (with_reducible exact impl_codeWord.mono _ _ _ _ _ _ _ _ _)
   | (with_reducible exact LeO.refl _)
   | (with_reducible exact LeO.none _)
   | (with_reducible refine LeO.ite ?_ ?_)
   | (with_reducible refine LeO.bind ?_ (fun _ => ?_))
   | exact ih0 _ _ _ _ _ _ _ _ _ _
   | exact ih1 _ _ _ _ _ _ _ _ _
   | exact impl_InsOk.mono _ _ _ _ _ _ _ _ _
   | exact impl_codeWord.mono _ _ _ _ _ _ _ _ _
   | exact LeO.none _
   | refine LeO.ite ?_ ?_
   | refine LeO.bind ?_ (fun _ => ?_)
theorem impl_Encode.mono : ∀ a0 a1 a2 a3 a4 a5 a6 a7 k, LeO (impl_Encode.f k a0 a1 a2 a3 a4 a5 a6 a7) (impl_Encode.f (k + 1) a0 a1 a2 a3 a4 a5 a6 a7) := by
 intro a0 a1 a2 a3 a4 a5 a6 a7 k
 obtain ⟨ih0, ih1⟩ := impl_Encode.mono_l k
 unfold impl_Encode.f
 repeat' first
   | (with_reducible exact ih0 _ _ _ _ _ _ _ _ _ _)
   | (with_reducible exact ih1 _ _ _ _ _ _ _ _ _)
   | (with_reducible exact impl_InsOk.mono _ _ _ _ _ _ _ _ _)
   | (with_reducible exact impl_codeWord.mono _ _ _ _ _ _ _ _ _)
   | (with_reducible exact LeO.refl _)
   | (with_reducible exact LeO.none _)
   | (with_reducible refine LeO.ite ?_ ?_)
   | (with_reducible refine LeO.bind ?_ (fun _ => ?_))
   | exact ih0 _ _ _ _ _ _ _ _ _ _
   | exact ih1 _ _ _ _ _ _ _ _ _
   | exact impl_InsOk.mono _ _ _ _ _ _ _ _ _
   | exact impl_codeWord.mono _ _ _ _ _ _ _ _ _
   | exact LeO.none _
   | refine LeO.ite ?_ ?_
   | refine LeO.bind ?_ (fun _ => ?_)
set_option maxHeartbeats 8000000 in
set_option maxRecDepth 100000 in
theorem impl_Encode.calls (k : Nat) (a0_0 : Int) (a0_1 : Int) (a0_2 : Int) (a0_3 : Int) (a0_4 : Int) (a0_5 : Int) (a0_6 : Int) (a0_7 : Int) (r : List Int) (w : World) (h : impl_Encode.f k a0_0 a0_1 a0_2 a0_3 a0_4 a0_5 a0_6 a0_7 = some r) :
  Calls Try.prog 22 #[.agg #[.int .i64 a0_0, .int .i64 a0_1, .int .i64 a0_2, .int .i64 a0_3, .int .i64 a0_4, .int .i64 a0_5, .int .i64 a0_6, .int .i64 a0_7]] w fun e w' => ∃ v0_ : Value, e = .returned (v0_) ∧ Kd.R (Kd.int .i64) 3 w' w.heap.size (fun _ => True) v0_ r ∧ Below w.heap.size w w' := by
 have hu32 := Try.underlying32
 have hu25 := Try.underlying25
 have HB := Aside0.mk (Below.refl w.heap.size w)
 have H : ((impl_InsOk.f k a0_0 a0_1 a0_2 a0_3 a0_4 a0_5 a0_6 a0_7).bind fun t162 => (if t162 = true then ((impl_codeWord.f k a0_0 a0_1 a0_2 a0_3 a0_4 a0_5 a0_6 a0_7).bind fun t163 => ((some (([t163] : List Int) : List Int)).bind fun y164 => ((impl_hasSrc.f a0_0).bind fun t167 => (if t167 = true then ((impl_HasX.f a0_1 a0_2 a0_3).bind fun t168 => (impl_Encode.j0 k y164 t168 a0_0 a0_1 a0_2 a0_3 a0_4 a0_5 a0_6 a0_7)) else (impl_Encode.j0 k y164 false a0_0 a0_1 a0_2 a0_3 a0_4 a0_5 a0_6 a0_7))))) else (some ([] : List Int)))) = some r := h
 clear h
 replace H := Option.bind_eq_some_iff.mp H
 obtain ⟨t162, A20, H⟩ := H
 try dsimp only at H
 have A2 := Aside0.mk A20
 clear A20
 by_cases c3 : t162 = true
 ·subst c3
  rw [if_pos rfl] at H
  replace H := Option.bind_eq_some_iff.mp H
  obtain ⟨t163, A40, H⟩ := H
  try dsimp only at H
  have A4 := Aside0.mk A40
  clear A40
  obtain ⟨y164, hy164⟩ : ∃ y_ : List Int, y_ = (([t163] : List Int)) := ⟨_, rfl⟩
  replace H : ((impl_hasSrc.f a0_0).bind fun t167 => (if t167 = true then ((impl_HasX.f a0_1 a0_2 a0_3).bind fun t168 => (impl_Encode.j0 k y164 t168 a0_0 a0_1 a0_2 a0_3 a0_4 a0_5 a0_6 a0_7)) else (impl_Encode.j0 k y164 false a0_0 a0_1 a0_2 a0_3 a0_4 a0_5 a0_6 a0_7))) = some r := by first | (rw [hy164]; with_reducible exact H) | (have H2_ := (Option.bind_some _ _).symm.trans H; rw [hy164]; with_reducible exact H2_) | (have H2_ := (Option.bind_some _ _).symm.trans H; with_reducible exact H2_) | with_reducible exact H | (rw [hy164]; exact H) | exact H
  have Ny164 := Aside0.mk hy164
  clear hy164
  have HC5 := Aside0.mk H
  clear H
  go_enter Try.func22, Try.ntmps22
  go_upto_region 4 with (first | ((with_reducible refine gate_dst (N := 1) rfl ?_); refine box_event ?hg (N := 1) ?hd (cs := #[.int .i64 a0_0, .int .i64 a0_1, .int .i64 a0_2, .int .i64 a0_3, .int .i64 a0_4, .int .i64 a0_5, .int .i64 a0_6, .int .i64 a0_7]) (t := 32) ?hr ?_; (case hd => rfl); (case hg => rfl); (case hr => first | (go_simp; done) | (go_simp; rfl)); intro gb161 hg w6 hbox hb; have n0_ := Aside0.mk (below_step (bw_ HB.out) hb); have n1_ := Aside0.mk (hbox); have n2_ := Aside0.mk ((by rw [hg]; exact (below_size (bw_ HB.out)) : w.heap.size ≤ gb161)); have n3_ := n2_; clear HB; have HB := n0_; have BK161 := n1_; have GW161 := n2_; have GE161 := n3_; have GI161 := GeI.mk GE161.out; clear n0_ n1_ n2_ n3_; clear hb hbox hg; have hcz7_0 : w6.cell? ⟨gb161, 0, none⟩ = some (.int .i64 a0_0) := (blk_cell BK161.out 0).trans rfl; have hcz7_1 : w6.cell? ⟨gb161, 1, none⟩ = some (.int .i64 a0_1) := (blk_cell BK161.out 1).trans rfl; have hcz7_2 : w6.cell? ⟨gb161, 2, none⟩ = some (.int .i64 a0_2) := (blk_cell BK161.out 2).trans rfl; have hcz7_3 : w6.cell? ⟨gb161, 3, none⟩ = some (.int .i64 a0_3) := (blk_cell BK161.out 3).trans rfl; have hcz7_4 : w6.cell? ⟨gb161, 4, none⟩ = some (.int .i64 a0_4) := (blk_cell BK161.out 4).trans rfl; have hcz7_5 : w6.cell? ⟨gb161, 5, none⟩ = some (.int .i64 a0_5) := (blk_cell BK161.out 5).trans rfl; have hcz7_6 : w6.cell? ⟨gb161, 6, none⟩ = some (.int .i64 a0_6) := (blk_cell BK161.out 6).trans rfl; have hcz7_7 : w6.cell? ⟨gb161, 7, none⟩ = some (.int .i64 a0_7) := (blk_cell BK161.out 7).trans rfl; have hfz7_0 := blk_frozen BK161.out 0; have hfz7_1 := blk_frozen BK161.out 1; have hfz7_2 := blk_frozen BK161.out 2; have hfz7_3 := blk_frozen BK161.out 3; have hfz7_4 := blk_frozen BK161.out 4; have hfz7_5 := blk_frozen BK161.out 5; have hfz7_6 := blk_frozen BK161.out 6; have hfz7_7 := blk_frozen BK161.out 7) | ((with_reducible refine gate_callee (f := 20) rfl ?_); refine gL_ (some 5) Try.func20 #[.agg #[.int .i64 a0_0, .int .i64 a0_1, .int .i64 a0_2, .int .i64 a0_3, .int .i64 a0_4, .int .i64 a0_5, .int .i64 a0_6, .int .i64 a0_7]] ?_; (with_reducible refine (impl_InsOk.calls k a0_0 a0_1 a0_2 a0_3 a0_4 a0_5 a0_6 a0_7 true _ A2.out).mono ?_); rintro e w8 ⟨rfl, hb⟩; refine ⟨_, rfl, ?_⟩; have n0_ := Aside0.mk (blk_below (bk_ BK161.out) hb); have n1_ := Aside0.mk (below_step (bw_ HB.out) hb); clear BK161; clear HB; have BK161 := n0_; have HB := n1_; clear n0_ n1_; (try clear hb); (try clear hb2); (try clear hk); (try clear hi); have hcz9_0 : w8.cell? ⟨gb161, 0, none⟩ = some (.int .i64 a0_0) := (blk_cell BK161.out 0).trans rfl; have hcz9_1 : w8.cell? ⟨gb161, 1, none⟩ = some (.int .i64 a0_1) := (blk_cell BK161.out 1).trans rfl; have hcz9_2 : w8.cell? ⟨gb161, 2, none⟩ = some (.int .i64 a0_2) := (blk_cell BK161.out 2).trans rfl; have hcz9_3 : w8.cell? ⟨gb161, 3, none⟩ = some (.int .i64 a0_3) := (blk_cell BK161.out 3).trans rfl; have hcz9_4 : w8.cell? ⟨gb161, 4, none⟩ = some (.int .i64 a0_4) := (blk_cell BK161.out 4).trans rfl; have hcz9_5 : w8.cell? ⟨gb161, 5, none⟩ = some (.int .i64 a0_5) := (blk_cell BK161.out 5).trans rfl; have hcz9_6 : w8.cell? ⟨gb161, 6, none⟩ = some (.int .i64 a0_6) := (blk_cell BK161.out 6).trans rfl; have hcz9_7 : w8.cell? ⟨gb161, 7, none⟩ = some (.int .i64 a0_7) := (blk_cell BK161.out 7).trans rfl; have hfz9_0 := blk_frozen BK161.out 0; have hfz9_1 := blk_frozen BK161.out 1; have hfz9_2 := blk_frozen BK161.out 2; have hfz9_3 := blk_frozen BK161.out 3; have hfz9_4 := blk_frozen BK161.out 4; have hfz9_5 := blk_frozen BK161.out 5; have hfz9_6 := blk_frozen BK161.out 6; have hfz9_7 := blk_frozen BK161.out 7) | ((with_reducible refine gate_callee (f := 45) rfl ?_); refine gL_ (some 8) Try.func45 #[.agg #[.int .i64 a0_0, .int .i64 a0_1, .int .i64 a0_2, .int .i64 a0_3, .int .i64 a0_4, .int .i64 a0_5, .int .i64 a0_6, .int .i64 a0_7]] ?_; (with_reducible refine (impl_codeWord.calls k a0_0 a0_1 a0_2 a0_3 a0_4 a0_5 a0_6 a0_7 t163 _ A4.out).mono ?_); rintro e w10 ⟨rfl, hb⟩; refine ⟨_, rfl, ?_⟩; have n0_ := Aside0.mk (blk_below (bk_ BK161.out) hb); have n1_ := Aside0.mk (below_step (bw_ HB.out) hb); clear BK161; clear HB; have BK161 := n0_; have HB := n1_; clear n0_ n1_; (try clear hb); (try clear hb2); (try clear hk); (try clear hi)) | ((with_reducible refine gate_dst (N := 9) rfl ?_); refine Kd.R_lit (Kd.int .i64) _ 3 ?hg (N := 9) ?hd (xs := ([t163] : List Int)) (inner := [.int .i64 t163]) (ok := fun _ => True) (okp := fun _ => True) ?hr ?hp (fun _ hk => hk) trivial (Below.refl _ _) (Nat.le_refl _) (by simp) ?_; (case hd => rfl); (case hg => rfl); (case hr => first | (go_simp; done) | (go_simp; rfl)); (case hp => exact (Reps.one (show Kd.M (Kd.int .i64) _ _ _ t163 [.int .i64 t163] from rfl) (Reps.none _ _))); intro v165 w11 ho12 hb hg_ hnew_; clear hg_ hnew_; (first | rw [← Ny164.out] at ho12 | (simp only [Int.reduceToNat] at ho12; rw [← Ny164.out] at ho12)); have n0_ := Aside0.mk (Kd.R_lower ho12 (below_size (bw_ HB.out))); have n1_ := Aside0.mk (blk_below (bk_ BK161.out) hb); have n2_ := Aside0.mk (below_step (bw_ HB.out) hb); clear BK161; clear HB; have HO166 := n0_; have BK161 := n1_; have HB := n2_; clear n0_ n1_ n2_; clear hb ho12))
  (try simp only [Act.put, List.setIfInBounds_toArray, List.set_cons_zero, List.set_cons_succ])
  go_cut [17] (fun v17 wc => ∃ (kq : Nat) (x17_4 : Bool), v17 = .bool x17_4 ∧ Aside0 (impl_Encode.j0 kq y164 x17_4 a0_0 a0_1 a0_2 a0_3 a0_4 a0_5 a0_6 a0_7 = some r) ∧ Aside0 (kq ≤ k) ∧ Aside0 (Kd.R (Kd.int .i64) 3 wc w.heap.size (fun _ => True) v165 y164) ∧ Aside0 (wc.heap[gb161]? = some (.cells #[.int .i64 a0_0, .int .i64 a0_1, .int .i64 a0_2, .int .i64 a0_3, .int .i64 a0_4, .int .i64 a0_5, .int .i64 a0_6, .int .i64 a0_7] 32 (0, 0))) ∧ Aside0 (Below w.heap.size w wc))
  case first =>
   have H := HC5.out
   clear HC5
   replace H := Option.bind_eq_some_iff.mp H
   obtain ⟨t167, A130, H⟩ := H
   try dsimp only at H
   have A13 := Aside0.mk A130
   clear A130
   by_cases c14 : t167 = true
   ·subst c14
    rw [if_pos rfl] at H
    replace H := Option.bind_eq_some_iff.mp H
    obtain ⟨t168, A150, H⟩ := H
    try dsimp only at H
    have A15 := Aside0.mk A150
    clear A150
    have H' := Aside0.mk H
    clear H
    obtain ⟨hcz16_0, hcz16_1, hcz16_2, hcz16_3, hcz16_4, hcz16_5, hcz16_6, hcz16_7, hfz16_0, hfz16_1, hfz16_2, hfz16_3, hfz16_4, hfz16_5, hfz16_6, hfz16_7⟩ := cz8_ BK161.out
    go_wp2_with (first | ((with_reducible refine gate_callee (f := 39) rfl ?_); refine gL_ (some 12) Try.func39 #[.int .i64 a0_0] ?_; (with_reducible refine (impl_hasSrc.calls a0_0 true _ A13.out).mono ?_); rintro e w' ⟨rfl, ⟨nd, rfl⟩⟩; refine ⟨_, rfl, ?_⟩) | (go_at_call 13; (with_reducible refine (impl_HasX.calls a0_1 a0_2 a0_3 t168 _ A15.out).mono ?_); rintro e w17 ⟨rfl, hb⟩; have n0_ := Aside0.mk (Kd.R_below (by (with_reducible repeat (first | apply Kd.R_alloc | apply Kd.R_drewN | apply Kd.R_drew)); exact HO166.out) hb); have n1_ := Aside0.mk (blk_below (bk_ BK161.out) hb); have n2_ := Aside0.mk (below_step (bw_ HB.out) hb); clear HO166; clear BK161; clear HB; have HO166 := n0_; have BK161 := n1_; have HB := n2_; clear n0_ n1_ n2_; (try clear hb); (try clear hb2); (try clear hk); (try clear hi)))
    go_meet
    case rel => exact ⟨_, (t168), (by first | rfl | (simp; done) | (simp [*]; done) | (simp [wrap64]; done)), H', ⟨by first | omega | exact Nat.le_refl _⟩, ⟨by (with_reducible repeat (first | apply Kd.R_alloc | apply Kd.R_drewN | apply Kd.R_drew)); exact HO166.out⟩, ⟨by refine bk_ ?_; exact BK161.out⟩, ⟨bw_ HB.out⟩⟩
   ·replace c14 := Bool.eq_false_iff.mpr c14
    subst c14
    rw [if_neg (show ¬ (false = true) by decide)] at H
    have H' := Aside0.mk H
    clear H
    obtain ⟨hcz18_0, hcz18_1, hcz18_2, hcz18_3, hcz18_4, hcz18_5, hcz18_6, hcz18_7, hfz18_0, hfz18_1, hfz18_2, hfz18_3, hfz18_4, hfz18_5, hfz18_6, hfz18_7⟩ := cz8_ BK161.out
    go_wp2_with (first | ((with_reducible refine gate_callee (f := 39) rfl ?_); refine gL_ (some 12) Try.func39 #[.int .i64 a0_0] ?_; (with_reducible refine (impl_hasSrc.calls a0_0 false _ A13.out).mono ?_); rintro e w' ⟨rfl, ⟨nd, rfl⟩⟩; refine ⟨_, rfl, ?_⟩))
    go_meet
    case rel => exact ⟨_, (false), (by first | rfl | (simp; done) | (simp [*]; done) | (simp [wrap64]; done)), H', ⟨by first | omega | exact Nat.le_refl _⟩, ⟨by (with_reducible repeat (first | apply Kd.R_alloc | apply Kd.R_drewN | apply Kd.R_drew)); exact HO166.out⟩, ⟨by refine bk_ ?_; exact BK161.out⟩, ⟨bw_ HB.out⟩⟩
  case rest =>
   clear HC5
   try clear c1
   try clear c2
   try clear p2
   try clear c3
   try clear c4
   try clear c14
   try clear hcz16_0 hcz16_1 hcz16_2 hcz16_3 hcz16_4 hcz16_5 hcz16_6 hcz16_7 hfz16_0 hfz16_1 hfz16_2 hfz16_3 hfz16_4 hfz16_5 hfz16_6 hfz16_7
   try clear hcz18_0 hcz18_1 hcz18_2 hcz18_3 hcz18_4 hcz18_5 hcz18_6 hcz18_7 hfz18_0 hfz18_1 hfz18_2 hfz18_3 hfz18_4 hfz18_5 hfz18_6 hfz18_7
   try clear hcz7_0 hcz7_1 hcz7_2 hcz7_3 hcz7_4 hcz7_5 hcz7_6 hcz7_7 hfz7_0 hfz7_1 hfz7_2 hfz7_3 hfz7_4 hfz7_5 hfz7_6 hfz7_7
   try clear hcz9_0 hcz9_1 hcz9_2 hcz9_3 hcz9_4 hcz9_5 hcz9_6 hcz9_7 hfz9_0 hfz9_1 hfz9_2 hfz9_3 hfz9_4 hfz9_5 hfz9_6 hfz9_7
   obtain ⟨kq, x17_4, rfl, HA, HJ4, HO_3, BK161, HB⟩ := hcut
   cases kq with
   | zero => exact absurd HA.out (by simp [impl_Encode.j0])
   | succ kj4 =>
    have H := HA.out
    clear HA
    simp only [impl_Encode.j0] at H
    have HC19 := Aside0.mk H
    clear H
    go_upto_if 17 with (fail)
    go_cut [3] (fun v3 wc => ∃ (kq : Nat) (x3_18 : List Int), Aside0 (impl_Encode.j1 kq x3_18 a0_0 a0_1 a0_2 a0_3 a0_4 a0_5 a0_6 a0_7 = some r) ∧ Aside0 (kq ≤ kj4) ∧ Aside0 (Kd.R (Kd.int .i64) 3 wc w.heap.size (fun _ => True) v3 x3_18) ∧ Aside0 (wc.heap[gb161]? = some (.cells #[.int .i64 a0_0, .int .i64 a0_1, .int .i64 a0_2, .int .i64 a0_3, .int .i64 a0_4, .int .i64 a0_5, .int .i64 a0_6, .int .i64 a0_7] 32 (0, 0))) ∧ Aside0 (Below w.heap.size w wc))
    case first =>
     have H := HC19.out
     clear HC19
     by_cases c20 : x17_4 = true
     ·subst c20
      rw [if_pos rfl] at H
      by_cases c21 : y164.length < 17592186044416
      ·rw [if_pos c21] at H
       have LMc21 := Aside0.mk c21
       clear c21
       obtain ⟨y169, hy169⟩ : ∃ y_ : List Int, y_ = (y164 ++ [a0_3]) := ⟨_, rfl⟩
       replace H : (impl_Encode.j1 kj4 y169 a0_0 a0_1 a0_2 a0_3 a0_4 a0_5 a0_6 a0_7) = some r := by first | (rw [hy169]; with_reducible exact H) | (have H2_ := (Option.bind_some _ _).symm.trans H; rw [hy169]; with_reducible exact H2_) | (have H2_ := (Option.bind_some _ _).symm.trans H; with_reducible exact H2_) | with_reducible exact H | (rw [hy169]; exact H) | exact H
       have Ny169 := Aside0.mk hy169
       clear hy169
       have H' := Aside0.mk H
       clear H
       obtain ⟨hcz22_0, hcz22_1, hcz22_2, hcz22_3, hcz22_4, hcz22_5, hcz22_6, hcz22_7, hfz22_0, hfz22_1, hfz22_2, hfz22_3, hfz22_4, hfz22_5, hfz22_6, hfz22_7⟩ := cz8_ BK161.out
       go_wp2_with (first | ((with_reducible refine gate_builtin (b := .append) (xs := #[.tmp 18, .tmp 22]) rfl ?_); at_builtin; refine Kd.R_append (Kd.int .i64) (w0 := w) w.heap.size rfl (.tmp 18) (.tmp 22) 36 3 (.int .i64 0) 8 rfl Try.underlying36 info3 rfl (by decide) (by omega) v165 y164 a0_3 [.int .i64 a0_3] (fun _ => True) (fun _ => False) rfl rfl ?aP (fun _ hk => hk.elim) ?aF ?aO ?aB ?aS ?aL ?_; (case aP => exact rfl); (case aB => exact (bw_ HB.out)); (case aF => exact (fun _ _ => trivial)); (case aO => exact (by (with_reducible repeat (first | apply Kd.R_alloc | apply Kd.R_drewN | apply Kd.R_drew)); exact HO_3.out)); (case aS => exact (below_size (bw_ HB.out))); (case aL => have := LMc21.out; omega); intro v170 w23 ho hb hg hat; rw [← Ny169.out] at ho; have n0_ := Aside0.mk (blk_grown (bk_ BK161.out) hg (Kd.R_ne HO_3.out BK161.out (by decide))); have n1_ := Aside0.mk (hb); have n2_ := Aside0.mk (ho); clear BK161; clear HB; clear HO_3; have BK161 := n0_; have HB := n1_; have HO171 := n2_; clear n0_ n1_ n2_; clear ho hb hg hat))
       go_meet
       case rel => exact ⟨_, (y169), H', ⟨by have := HJ4.out; first | omega | exact Nat.le_refl _⟩, ⟨by (with_reducible repeat (first | apply Kd.R_alloc | apply Kd.R_drewN | apply Kd.R_drew)); exact HO171.out⟩, ⟨by refine bk_ ?_; exact BK161.out⟩, ⟨bw_ HB.out⟩⟩
      ·rw [if_neg c21] at H
       exact absurd H (by simp)
     ·replace c20 := Bool.eq_false_iff.mpr c20
      subst c20
      rw [if_neg (show ¬ (false = true) by decide)] at H
      have H' := Aside0.mk H
      clear H
      go_wp2
      go_meet
      case rel => exact ⟨_, (y164), H', ⟨by have := HJ4.out; first | omega | exact Nat.le_refl _⟩, ⟨by (with_reducible repeat (first | apply Kd.R_alloc | apply Kd.R_drewN | apply Kd.R_drew)); exact HO_3.out⟩, ⟨by refine bk_ ?_; exact BK161.out⟩, ⟨bw_ HB.out⟩⟩
    case rest =>
     clear HC19
     try clear c1
     try clear c2
     try clear p2
     try clear c3
     try clear c4
     try clear c14
     try clear c20
     try clear c21
     try clear c22
     try clear hcz16_0 hcz16_1 hcz16_2 hcz16_3 hcz16_4 hcz16_5 hcz16_6 hcz16_7 hfz16_0 hfz16_1 hfz16_2 hfz16_3 hfz16_4 hfz16_5 hfz16_6 hfz16_7
     try clear hcz18_0 hcz18_1 hcz18_2 hcz18_3 hcz18_4 hcz18_5 hcz18_6 hcz18_7 hfz18_0 hfz18_1 hfz18_2 hfz18_3 hfz18_4 hfz18_5 hfz18_6 hfz18_7
     try clear hcz22_0 hcz22_1 hcz22_2 hcz22_3 hcz22_4 hcz22_5 hcz22_6 hcz22_7 hfz22_0 hfz22_1 hfz22_2 hfz22_3 hfz22_4 hfz22_5 hfz22_6 hfz22_7
     try clear hcz7_0 hcz7_1 hcz7_2 hcz7_3 hcz7_4 hcz7_5 hcz7_6 hcz7_7 hfz7_0 hfz7_1 hfz7_2 hfz7_3 hfz7_4 hfz7_5 hfz7_6 hfz7_7
     try clear hcz9_0 hcz9_1 hcz9_2 hcz9_3 hcz9_4 hcz9_5 hcz9_6 hcz9_7 hfz9_0 hfz9_1 hfz9_2 hfz9_3 hfz9_4 hfz9_5 hfz9_6 hfz9_7
     try clear p2
     obtain ⟨kq, x3_18, HA, HJ18, HO_3, BK161, HB⟩ := hcut
     cases kq with
     | zero => exact absurd HA.out (by simp [impl_Encode.j1])
     | succ kj18 =>
      have H := HA.out
      clear HA
      simp only [impl_Encode.j1] at H
      replace H := Option.bind_eq_some_iff.mp H
      obtain ⟨t172, A240, H⟩ := H
      try dsimp only at H
      have A24 := Aside0.mk A240
      clear A240
      by_cases c25 : t172 = true
      ·subst c25
       rw [if_pos rfl] at H
       replace H := Option.bind_eq_some_iff.mp H
       obtain ⟨t173, A260, H⟩ := H
       try dsimp only at H
       have A26 := Aside0.mk A260
       clear A260
       by_cases c27 : t173 = true
       ·subst c27
        rw [if_pos rfl] at H
        by_cases c28 : x3_18.length < 17592186044416
        ·rw [if_pos c28] at H
         have LMc28 := Aside0.mk c28
         clear c28
         obtain ⟨y174, hy174⟩ : ∃ y_ : List Int, y_ = (x3_18 ++ [a0_6]) := ⟨_, rfl⟩
         replace H : (some y174) = some r := by first | (rw [hy174]; with_reducible exact H) | (have H2_ := (Option.bind_some _ _).symm.trans H; rw [hy174]; with_reducible exact H2_) | (have H2_ := (Option.bind_some _ _).symm.trans H; with_reducible exact H2_) | with_reducible exact H | (rw [hy174]; exact H) | exact H
         have Ny174 := Aside0.mk hy174
         clear hy174
         obtain rfl := Option.some.inj H
         obtain ⟨hcz29_0, hcz29_1, hcz29_2, hcz29_3, hcz29_4, hcz29_5, hcz29_6, hcz29_7, hfz29_0, hfz29_1, hfz29_2, hfz29_3, hfz29_4, hfz29_5, hfz29_6, hfz29_7⟩ := cz8_ BK161.out
         go_wp2_with (first | ((with_reducible refine gate_callee (f := 40) rfl ?_); refine gL_ (some 26) Try.func40 #[.int .i64 a0_0] ?_; (with_reducible refine (impl_hasDst.calls a0_0 true _ A24.out).mono ?_); rintro e w' ⟨rfl, ⟨nd, rfl⟩⟩; refine ⟨_, rfl, ?_⟩) | (go_at_call 13; (with_reducible refine (impl_HasX.calls a0_4 a0_5 a0_6 true _ A26.out).mono ?_); rintro e w30 ⟨rfl, hb⟩; have n0_ := Aside0.mk (Kd.R_below (by (with_reducible repeat (first | apply Kd.R_alloc | apply Kd.R_drewN | apply Kd.R_drew)); exact HO_3.out) hb); have n1_ := Aside0.mk (blk_below (bk_ BK161.out) hb); have n2_ := Aside0.mk (below_step (bw_ HB.out) hb); clear HO_3; clear BK161; clear HB; have HO_3 := n0_; have BK161 := n1_; have HB := n2_; clear n0_ n1_ n2_; (try clear hb); (try clear hb2); (try clear hk); (try clear hi); have hcz31_0 : w30.cell? ⟨gb161, 0, none⟩ = some (.int .i64 a0_0) := (blk_cell BK161.out 0).trans rfl; have hcz31_1 : w30.cell? ⟨gb161, 1, none⟩ = some (.int .i64 a0_1) := (blk_cell BK161.out 1).trans rfl; have hcz31_2 : w30.cell? ⟨gb161, 2, none⟩ = some (.int .i64 a0_2) := (blk_cell BK161.out 2).trans rfl; have hcz31_3 : w30.cell? ⟨gb161, 3, none⟩ = some (.int .i64 a0_3) := (blk_cell BK161.out 3).trans rfl; have hcz31_4 : w30.cell? ⟨gb161, 4, none⟩ = some (.int .i64 a0_4) := (blk_cell BK161.out 4).trans rfl; have hcz31_5 : w30.cell? ⟨gb161, 5, none⟩ = some (.int .i64 a0_5) := (blk_cell BK161.out 5).trans rfl; have hcz31_6 : w30.cell? ⟨gb161, 6, none⟩ = some (.int .i64 a0_6) := (blk_cell BK161.out 6).trans rfl; have hcz31_7 : w30.cell? ⟨gb161, 7, none⟩ = some (.int .i64 a0_7) := (blk_cell BK161.out 7).trans rfl; have hfz31_0 := blk_frozen BK161.out 0; have hfz31_1 := blk_frozen BK161.out 1; have hfz31_2 := blk_frozen BK161.out 2; have hfz31_3 := blk_frozen BK161.out 3; have hfz31_4 := blk_frozen BK161.out 4; have hfz31_5 := blk_frozen BK161.out 5; have hfz31_6 := blk_frozen BK161.out 6; have hfz31_7 := blk_frozen BK161.out 7) | ((with_reducible refine gate_builtin (b := .append) (xs := #[.tmp 32, .tmp 36]) rfl ?_); at_builtin; refine Kd.R_append (Kd.int .i64) (w0 := w) w.heap.size rfl (.tmp 32) (.tmp 36) 36 3 (.int .i64 0) 8 rfl Try.underlying36 info3 rfl (by decide) (by omega) u3 x3_18 a0_6 [.int .i64 a0_6] (fun _ => True) (fun _ => False) rfl rfl ?aP (fun _ hk => hk.elim) ?aF ?aO ?aB ?aS ?aL ?_; (case aP => exact rfl); (case aB => exact (bw_ HB.out)); (case aF => exact (fun _ _ => trivial)); (case aO => exact (by (with_reducible repeat (first | apply Kd.R_alloc | apply Kd.R_drewN | apply Kd.R_drew)); exact HO_3.out)); (case aS => exact (below_size (bw_ HB.out))); (case aL => have := LMc28.out; omega); intro v175 w32 ho hb hg hat; rw [← Ny174.out] at ho; have n0_ := Aside0.mk (blk_grown (bk_ BK161.out) hg (Kd.R_ne HO_3.out BK161.out (by decide))); have n1_ := Aside0.mk (hb); have n2_ := Aside0.mk (ho); clear BK161; clear HB; clear HO_3; have BK161 := n0_; have HB := n1_; have HO176 := n2_; clear n0_ n1_ n2_; clear ho hb hg hat))
         go_ret
         exact ⟨_, by first | rfl | (simp [errW_none, errW_some] <;> rfl) | (simp [*, errW_none, errW_some] <;> rfl), by (with_reducible repeat (first | apply Kd.R_alloc | apply Kd.R_drewN | apply Kd.R_drew)); exact HO176.out, bw_ HB.out⟩
        ·rw [if_neg c28] at H
         exact absurd H (by simp)
       ·replace c27 := Bool.eq_false_iff.mpr c27
        subst c27
        rw [if_neg (show ¬ (false = true) by decide)] at H
        obtain rfl := Option.some.inj H
        obtain ⟨hcz33_0, hcz33_1, hcz33_2, hcz33_3, hcz33_4, hcz33_5, hcz33_6, hcz33_7, hfz33_0, hfz33_1, hfz33_2, hfz33_3, hfz33_4, hfz33_5, hfz33_6, hfz33_7⟩ := cz8_ BK161.out
        go_wp2_with (first | ((with_reducible refine gate_callee (f := 40) rfl ?_); refine gL_ (some 26) Try.func40 #[.int .i64 a0_0] ?_; (with_reducible refine (impl_hasDst.calls a0_0 true _ A24.out).mono ?_); rintro e w' ⟨rfl, ⟨nd, rfl⟩⟩; refine ⟨_, rfl, ?_⟩) | (go_at_call 13; (with_reducible refine (impl_HasX.calls a0_4 a0_5 a0_6 false _ A26.out).mono ?_); rintro e w34 ⟨rfl, hb⟩; have n0_ := Aside0.mk (Kd.R_below (by (with_reducible repeat (first | apply Kd.R_alloc | apply Kd.R_drewN | apply Kd.R_drew)); exact HO_3.out) hb); have n1_ := Aside0.mk (blk_below (bk_ BK161.out) hb); have n2_ := Aside0.mk (below_step (bw_ HB.out) hb); clear HO_3; clear BK161; clear HB; have HO_3 := n0_; have BK161 := n1_; have HB := n2_; clear n0_ n1_ n2_; (try clear hb); (try clear hb2); (try clear hk); (try clear hi)))
        go_ret
        exact ⟨_, by first | rfl | (simp [errW_none, errW_some] <;> rfl) | (simp [*, errW_none, errW_some] <;> rfl), by (with_reducible repeat (first | apply Kd.R_alloc | apply Kd.R_drewN | apply Kd.R_drew)); exact HO_3.out, bw_ HB.out⟩
      ·replace c25 := Bool.eq_false_iff.mpr c25
       subst c25
       rw [if_neg (show ¬ (false = true) by decide)] at H
       obtain rfl := Option.some.inj H
       obtain ⟨hcz35_0, hcz35_1, hcz35_2, hcz35_3, hcz35_4, hcz35_5, hcz35_6, hcz35_7, hfz35_0, hfz35_1, hfz35_2, hfz35_3, hfz35_4, hfz35_5, hfz35_6, hfz35_7⟩ := cz8_ BK161.out
       go_wp2_with (first | ((with_reducible refine gate_callee (f := 40) rfl ?_); refine gL_ (some 26) Try.func40 #[.int .i64 a0_0] ?_; (with_reducible refine (impl_hasDst.calls a0_0 false _ A24.out).mono ?_); rintro e w' ⟨rfl, ⟨nd, rfl⟩⟩; refine ⟨_, rfl, ?_⟩))
       go_ret
       exact ⟨_, by first | rfl | (simp [errW_none, errW_some] <;> rfl) | (simp [*, errW_none, errW_some] <;> rfl), by (with_reducible repeat (first | apply Kd.R_alloc | apply Kd.R_drewN | apply Kd.R_drew)); exact HO_3.out, bw_ HB.out⟩
 ·replace c3 := Bool.eq_false_iff.mpr c3
  subst c3
  rw [if_neg (show ¬ (false = true) by decide)] at H
  obtain rfl := Option.some.inj H
  go_enter Try.func22, Try.ntmps22
  go_wp2_with (first | ((with_reducible refine gate_dst (N := 1) rfl ?_); refine box_event ?hg (N := 1) ?hd (cs := #[.int .i64 a0_0, .int .i64 a0_1, .int .i64 a0_2, .int .i64 a0_3, .int .i64 a0_4, .int .i64 a0_5, .int .i64 a0_6, .int .i64 a0_7]) (t := 32) ?hr ?_; (case hd => rfl); (case hg => rfl); (case hr => first | (go_simp; done) | (go_simp; rfl)); intro gb161 hg w36 hbox hb; have n0_ := Aside0.mk (below_step (bw_ HB.out) hb); have n1_ := Aside0.mk (hbox); have n2_ := Aside0.mk ((by rw [hg]; exact (below_size (bw_ HB.out)) : w.heap.size ≤ gb161)); have n3_ := n2_; clear HB; have HB := n0_; have BK161 := n1_; have GW161 := n2_; have GE161 := n3_; have GI161 := GeI.mk GE161.out; clear n0_ n1_ n2_ n3_; clear hb hbox hg; have hcz37_0 : w36.cell? ⟨gb161, 0, none⟩ = some (.int .i64 a0_0) := (blk_cell BK161.out 0).trans rfl; have hcz37_1 : w36.cell? ⟨gb161, 1, none⟩ = some (.int .i64 a0_1) := (blk_cell BK161.out 1).trans rfl; have hcz37_2 : w36.cell? ⟨gb161, 2, none⟩ = some (.int .i64 a0_2) := (blk_cell BK161.out 2).trans rfl; have hcz37_3 : w36.cell? ⟨gb161, 3, none⟩ = some (.int .i64 a0_3) := (blk_cell BK161.out 3).trans rfl; have hcz37_4 : w36.cell? ⟨gb161, 4, none⟩ = some (.int .i64 a0_4) := (blk_cell BK161.out 4).trans rfl; have hcz37_5 : w36.cell? ⟨gb161, 5, none⟩ = some (.int .i64 a0_5) := (blk_cell BK161.out 5).trans rfl; have hcz37_6 : w36.cell? ⟨gb161, 6, none⟩ = some (.int .i64 a0_6) := (blk_cell BK161.out 6).trans rfl; have hcz37_7 : w36.cell? ⟨gb161, 7, none⟩ = some (.int .i64 a0_7) := (blk_cell BK161.out 7).trans rfl; have hfz37_0 := blk_frozen BK161.out 0; have hfz37_1 := blk_frozen BK161.out 1; have hfz37_2 := blk_frozen BK161.out 2; have hfz37_3 := blk_frozen BK161.out 3; have hfz37_4 := blk_frozen BK161.out 4; have hfz37_5 := blk_frozen BK161.out 5; have hfz37_6 := blk_frozen BK161.out 6; have hfz37_7 := blk_frozen BK161.out 7) | ((with_reducible refine gate_callee (f := 20) rfl ?_); refine gL_ (some 5) Try.func20 #[.agg #[.int .i64 a0_0, .int .i64 a0_1, .int .i64 a0_2, .int .i64 a0_3, .int .i64 a0_4, .int .i64 a0_5, .int .i64 a0_6, .int .i64 a0_7]] ?_; (with_reducible refine (impl_InsOk.calls k a0_0 a0_1 a0_2 a0_3 a0_4 a0_5 a0_6 a0_7 false _ A2.out).mono ?_); rintro e w38 ⟨rfl, hb⟩; refine ⟨_, rfl, ?_⟩; have n0_ := Aside0.mk (blk_below (bk_ BK161.out) hb); have n1_ := Aside0.mk (below_step (bw_ HB.out) hb); clear BK161; clear HB; have BK161 := n0_; have HB := n1_; clear n0_ n1_; (try clear hb); (try clear hb2); (try clear hk); (try clear hi)))
  go_ret
  exact ⟨_, by first | rfl | (simp [errW_none, errW_some] <;> rfl) | (simp [*, errW_none, errW_some] <;> rfl), by first | exact Kd.R_nil _ _ _ _ _ | exact Kd.N_nil _ _ _ _ _ | exact Kd.V_nil _ _ _ _ _ | exact Kd.Q_nil _ _ _ _ _ | exact Kd.S_nil _ _ _ _ _, bw_ HB.out⟩

/-! ### spec_l4Base: function 43 -/
def spec_l4Base.f (a0 : Int) : Option (Int) := (some (([0, 4096, 8192, 16384, 20480, 24576, 57344, 2560, 2688, 2752, 2816, 3008, 3200, 3264, 64, 2048, 128, 256, 512, 768, 1024, 1280, 0, 34816] : List Int) : List Int)).bind fun y177 => (if 0 ≤ a0 then (if a0 < (y177.length : Int) then (some (rd y177 a0)) else (none)) else (none))
set_option maxHeartbeats 8000000 in
set_option maxRecDepth 100000 in
theorem spec_l4Base.calls (a0 : Int) (r : Int) (w : World) (h : spec_l4Base.f a0 = some r) :
  Calls Try.prog 43 #[.int .i64 a0] w fun e w' => e = .returned (.int .i64 r) ∧ Below w.heap.size w w' := by
 have HB := Aside0.mk (Below.refl w.heap.size w)
 have H : ((some (([0, 4096, 8192, 16384, 20480, 24576, 57344, 2560, 2688, 2752, 2816, 3008, 3200, 3264, 64, 2048, 128, 256, 512, 768, 1024, 1280, 0, 34816] : List Int) : List Int)).bind fun y177 => (if 0 ≤ a0 then (if a0 < (y177.length : Int) then (some (rd y177 a0)) else (none)) else (none))) = some r := h
 clear h
 obtain ⟨y177, hy177⟩ : ∃ y_ : List Int, y_ = (([0, 4096, 8192, 16384, 20480, 24576, 57344, 2560, 2688, 2752, 2816, 3008, 3200, 3264, 64, 2048, 128, 256, 512, 768, 1024, 1280, 0, 34816] : List Int)) := ⟨_, rfl⟩
 replace H : (if 0 ≤ a0 then (if a0 < (y177.length : Int) then (some (rd y177 a0)) else (none)) else (none)) = some r := by first | (rw [hy177]; with_reducible exact H) | (have H2_ := (Option.bind_some _ _).symm.trans H; rw [hy177]; with_reducible exact H2_) | (have H2_ := (Option.bind_some _ _).symm.trans H; with_reducible exact H2_) | with_reducible exact H | (rw [hy177]; exact H) | exact H
 have Ny177 := Aside0.mk hy177
 clear hy177
 by_cases c2 : 0 ≤ a0
 ·rw [if_pos c2] at H
  have c2b0 : decide (0 ≤ a0) = true := decide_eq_true c2
  clear c2
  by_cases c3 : a0 < (y177.length : Int)
  ·rw [if_pos c3] at H
   have c3b0 : decide (a0 < (y177.length : Int)) = true := decide_eq_true c3
   clear c3
   obtain rfl := Option.some.inj H
   go_enter Try.func43, Try.ntmps43
   go_wp2_with (first | ((with_reducible refine gate_dst (N := 4) rfl ?_); refine Kd.R_lit (Kd.int .i64) _ 3 ?hg (N := 4) ?hd (xs := ([0, 4096, 8192, 16384, 20480, 24576, 57344, 2560, 2688, 2752, 2816, 3008, 3200, 3264, 64, 2048, 128, 256, 512, 768, 1024, 1280, 0, 34816] : List Int)) (inner := [.int .i64 0, .int .i64 4096, .int .i64 8192, .int .i64 16384, .int .i64 20480, .int .i64 24576, .int .i64 57344, .int .i64 2560, .int .i64 2688, .int .i64 2752, .int .i64 2816, .int .i64 3008, .int .i64 3200, .int .i64 3264, .int .i64 64, .int .i64 2048, .int .i64 128, .int .i64 256, .int .i64 512, .int .i64 768, .int .i64 1024, .int .i64 1280, .int .i64 0, .int .i64 34816]) (ok := fun _ => True) (okp := fun _ => True) ?hr ?hp (fun _ hk => hk) trivial (Below.refl _ _) (Nat.le_refl _) (by simp) ?_; (case hd => rfl); (case hg => rfl); (case hr => first | (go_simp; done) | (go_simp; rfl)); (case hp => exact (Reps.one (show Kd.M (Kd.int .i64) _ _ _ 0 [.int .i64 0] from rfl) (Reps.one (show Kd.M (Kd.int .i64) _ _ _ 4096 [.int .i64 4096] from rfl) (Reps.one (show Kd.M (Kd.int .i64) _ _ _ 8192 [.int .i64 8192] from rfl) (Reps.one (show Kd.M (Kd.int .i64) _ _ _ 16384 [.int .i64 16384] from rfl) (Reps.one (show Kd.M (Kd.int .i64) _ _ _ 20480 [.int .i64 20480] from rfl) (Reps.one (show Kd.M (Kd.int .i64) _ _ _ 24576 [.int .i64 24576] from rfl) (Reps.one (show Kd.M (Kd.int .i64) _ _ _ 57344 [.int .i64 57344] from rfl) (Reps.one (show Kd.M (Kd.int .i64) _ _ _ 2560 [.int .i64 2560] from rfl) (Reps.one (show Kd.M (Kd.int .i64) _ _ _ 2688 [.int .i64 2688] from rfl) (Reps.one (show Kd.M (Kd.int .i64) _ _ _ 2752 [.int .i64 2752] from rfl) (Reps.one (show Kd.M (Kd.int .i64) _ _ _ 2816 [.int .i64 2816] from rfl) (Reps.one (show Kd.M (Kd.int .i64) _ _ _ 3008 [.int .i64 3008] from rfl) (Reps.one (show Kd.M (Kd.int .i64) _ _ _ 3200 [.int .i64 3200] from rfl) (Reps.one (show Kd.M (Kd.int .i64) _ _ _ 3264 [.int .i64 3264] from rfl) (Reps.one (show Kd.M (Kd.int .i64) _ _ _ 64 [.int .i64 64] from rfl) (Reps.one (show Kd.M (Kd.int .i64) _ _ _ 2048 [.int .i64 2048] from rfl) (Reps.one (show Kd.M (Kd.int .i64) _ _ _ 128 [.int .i64 128] from rfl) (Reps.one (show Kd.M (Kd.int .i64) _ _ _ 256 [.int .i64 256] from rfl) (Reps.one (show Kd.M (Kd.int .i64) _ _ _ 512 [.int .i64 512] from rfl) (Reps.one (show Kd.M (Kd.int .i64) _ _ _ 768 [.int .i64 768] from rfl) (Reps.one (show Kd.M (Kd.int .i64) _ _ _ 1024 [.int .i64 1024] from rfl) (Reps.one (show Kd.M (Kd.int .i64) _ _ _ 1280 [.int .i64 1280] from rfl) (Reps.one (show Kd.M (Kd.int .i64) _ _ _ 0 [.int .i64 0] from rfl) (Reps.one (show Kd.M (Kd.int .i64) _ _ _ 34816 [.int .i64 34816] from rfl) (Reps.none _ _)))))))))))))))))))))))))); intro v178 w4 ho5 hb hg_ hnew_; clear hg_ hnew_; (first | rw [← Ny177.out] at ho5 | (simp only [Int.reduceToNat] at ho5; rw [← Ny177.out] at ho5)); have n0_ := Aside0.mk (Kd.R_lower ho5 (below_size (bw_ HB.out))); have n1_ := Aside0.mk (below_step (bw_ HB.out) hb); clear HB; have HO179 := n0_; have HB := n1_; clear n0_ n1_; clear hb ho5; obtain ⟨Ao6, co6, eo6⟩ := Kd.R_slice HO179.out; subst eo6; have p180 : 0 ≤ (a0 : Int) := of_decide_eq_true (by first | (with_reducible assumption) | assumption); have q180 : a0 < (y177.length : Int) := of_decide_eq_true (by first | (with_reducible assumption) | assumption); obtain ⟨ad180, e180, hx180_0⟩ := Kd.at_int (Kd.R_reads' HO179.out).2.2 a0 p180 q180; cases e180; replace p180 := eq_true p180; replace q180 := eq_true q180))
   go_ret
   exact rt_ (bw_ HB.out)
  ·rw [if_neg c3] at H
   exact absurd H (by simp)
 ·rw [if_neg c2] at H
  exact absurd H (by simp)

/-! ### spec_l4Opd: function 58 -/
def spec_l4Opd.f (a0 : Int) : Option (Int × Int × Int) := some (Go.bits .and .i64 (a0 / 8) 7, Go.bits .and .i64 a0 7, 0)
set_option maxHeartbeats 8000000 in
set_option maxRecDepth 100000 in
theorem spec_l4Opd.calls (a0 : Int) (r1 : Int) (r2 : Int) (r3 : Int) (w : World) (h : spec_l4Opd.f a0 = some (r1, r2, r3)) :
  Calls Try.prog 58 #[.int .i64 a0] w fun e w' => e = .returned (.agg #[.int .i64 r1, .int .i64 r2, .int .i64 r3]) ∧ Below w.heap.size w w' := by
 have hu25 := Try.underlying25
 have HB := Aside0.mk (Below.refl w.heap.size w)
 have H : (some (Go.bits .and .i64 (a0 / 8) 7, Go.bits .and .i64 a0 7, 0)) = some (r1, r2, r3) := h
 clear h
 simp only [Option.some.injEq, Prod.mk.injEq] at H
 obtain ⟨rfl, rfl, rfl⟩ := H
 go_enter Try.func58, Try.ntmps58
 go_wp2_with (first | ((with_reducible refine gate_dst (N := 2) rfl ?_); refine box_event ?hg (N := 2) ?hd (cs := #[.int .i64 0, .int .i64 0, .int .i64 0]) (t := 25) ?hr ?_; (case hd => rfl); (case hg => rfl); (case hr => first | (go_simp; done) | (go_simp; rfl)); intro gb181 hg w2 hbox hb; have n0_ := Aside0.mk (below_step (bw_ HB.out) hb); have n1_ := Aside0.mk (hbox); have n2_ := Aside0.mk ((by rw [hg]; exact (below_size (bw_ HB.out)) : w.heap.size ≤ gb181)); have n3_ := n2_; clear HB; have HB := n0_; have BK181 := n1_; have GW181 := n2_; have GE181 := n3_; have GI181 := GeI.mk GE181.out; clear n0_ n1_ n2_ n3_; clear hb hbox hg; have hcz3_0 : w2.cell? ⟨gb181, 0, none⟩ = some (.int .i64 0) := (blk_cell BK181.out 0).trans rfl; have hcz3_1 : w2.cell? ⟨gb181, 1, none⟩ = some (.int .i64 0) := (blk_cell BK181.out 1).trans rfl; have hcz3_2 : w2.cell? ⟨gb181, 2, none⟩ = some (.int .i64 0) := (blk_cell BK181.out 2).trans rfl; have hfz3_0 := blk_frozen BK181.out 0; have hfz3_1 := blk_frozen BK181.out 1; have hfz3_2 := blk_frozen BK181.out 2))
 refine bodyPost_ret (results_cell_row rfl _ _ gb181 25 #[.int .i64 (Go.bits .and .i64 (a0 / 8) 7), .int .i64 (Go.bits .and .i64 a0 7), .int .i64 0] (0, 0) _ rfl ?hb_ Try.underlying25 rfl (by kernel_rfl)) rfl ?_
 (case hb_ => refine bk_ ?_; refine blk_put (cs := #[.int .i64 (Go.bits .and .i64 (a0 / 8) 7), .int .i64 (Go.bits .and .i64 a0 7), .int .i64 0]) ?_ 2 _ rfl; refine bk_ ?_; refine blk_put (cs := #[.int .i64 (Go.bits .and .i64 (a0 / 8) 7), .int .i64 0, .int .i64 0]) ?_ 1 _ rfl; refine bk_ ?_; refine blk_put (cs := #[.int .i64 0, .int .i64 0, .int .i64 0]) ?_ 0 _ rfl; refine bk_ ?_; exact BK181.out)
 exact rt_ (bw_ HB.out)

theorem gen_world {P : Program} {c : Code} {Q : Exit → Act → World → Prop} {a : Act} {W : World} (R : World → Prop) (hR : R W) (h : ∀ W', R W' → Code.wp P c Q a W') : Code.wp P c Q a W := h W hR
/-! ### spec_l4Op: function 46 -/
mutual
def spec_l4Op.l0 : Nat → Int → Int → Option (Int × Int × Int × Int × Int × Int × Int × Int)
 | 0, _, _ => none
 | k + 1, x0, x3 => if x3 ≤ 6 then ((spec_l4Base.f x3).bind fun t183 => (if (Go.bits .and .i64 x0 61440) = t183 then ((spec_l4Opd.f (x0 / 64)).bind fun bt184 => ((spec_l4Opd.f x0).bind fun bt187 => (some (x3, bt184.1, bt184.2.1, bt184.2.2, bt187.1, bt187.2.1, bt187.2.2, 0)))) else (spec_l4Op.l0 k x0 (wrap64 (x3 + 1))))) else (spec_l4Op.l1 k x0 7)
def spec_l4Op.l1 : Nat → Int → Int → Option (Int × Int × Int × Int × Int × Int × Int × Int)
 | 0, _, _ => none
 | k + 1, x0, x4 => if x4 ≤ 14 then ((spec_l4Base.f x4).bind fun t190 => (if (Go.bits .and .i64 x0 65472) = t190 then ((spec_l4Opd.f x0).bind fun bt191 => (some (x4, 0, 0, 0, bt191.1, bt191.2.1, bt191.2.2, 0))) else (spec_l4Op.l1 k x0 (wrap64 (x4 + 1))))) else (if (Go.bits .and .i64 x0 65024) = 2048 then ((spec_l4Opd.f x0).bind fun bt194 => (some (15, 0, 0, 0, bt194.1, bt194.2.1, bt194.2.2, Go.bits .and .i64 (x0 / 64) 7))) else (if (Go.bits .and .i64 x0 65528) = 128 then (some (16, 0, 0, 0, 0, 0, 0, Go.bits .and .i64 x0 7)) else (if (Go.bits .and .i64 x0 65280) = 34816 then (some (23, 0, 0, 0, 0, 0, 0, Go.bits .and .i64 x0 255)) else (spec_l4Op.l2 k x0 17))))
def spec_l4Op.l2 : Nat → Int → Int → Option (Int × Int × Int × Int × Int × Int × Int × Int)
 | 0, _, _ => none
 | k + 1, x0, x5 => if x5 ≤ 21 then ((spec_l4Base.f x5).bind fun t197 => (if (Go.bits .and .i64 x0 65280) = t197 then (if (Go.bits .and .i64 x0 255) > 127 then (some (x5, 0, 0, 0, 0, 0, 0, wrap64 ((Go.bits .and .i64 x0 255) - 256))) else (some (x5, 0, 0, 0, 0, 0, 0, Go.bits .and .i64 x0 255))) else (spec_l4Op.l2 k x0 (wrap64 (x5 + 1))))) else (some (0, 0, 0, 0, 0, 0, 0, 0))
end
def spec_l4Op.f (k : Nat) (a0 : Int) : Option (Int × Int × Int × Int × Int × Int × Int × Int) := if a0 = 0 then (some (22, 0, 0, 0, 0, 0, 0, 0)) else (spec_l4Op.l0 k a0 1)
theorem spec_l4Op.mono_l : ∀ k, (∀ y0 y1, LeO (spec_l4Op.l0 k y0 y1) (spec_l4Op.l0 (k + 1) y0 y1)) ∧ (∀ y0 y1, LeO (spec_l4Op.l1 k y0 y1) (spec_l4Op.l1 (k + 1) y0 y1)) ∧ (∀ y0 y1, LeO (spec_l4Op.l2 k y0 y1) (spec_l4Op.l2 (k + 1) y0 y1))
 | 0 => ⟨fun _ _ r h => by simp [spec_l4Op.l0] at h, fun _ _ r h => by simp [spec_l4Op.l1] at h, fun _ _ r h => by simp [spec_l4Op.l2] at h⟩
 | k + 1 => by
  obtain ⟨ih0, ih1, ih2⟩ := spec_l4Op.mono_l k
  refine ⟨?_, ?_, ?_⟩
  ·intro y0 y1
   unfold spec_l4Op.l0
   repeat' first
   | (with_reducible exact ih0 _ _)
   | (with_reducible exact ih1 _ _)
   | (with_reducible exact ih2 _ _)
   | (with_reducible exact LeO.refl _)
   | (with_reducible exact LeO.none _)
   | (with_reducible refine LeO.ite ?_ ?_)
   | (with_reducible refine LeO.bind ?_ (fun _ => ?_))
   | exact ih0 _ _
   | exact ih1 _ _
   | exact ih2 _ _
   | exact LeO.none _
   | refine LeO.ite ?_ ?_
   | refine LeO.bind ?_ (fun _ => ?_)
  ·intro y0 y1
   unfold spec_l4Op.l1
   repeat' first
   | (with_reducible exact ih0 _ _)
   | (with_reducible exact ih1 _ _)
   | (with_reducible exact ih2 _ _)
   | (with_reducible exact LeO.refl _)
   | (with_reducible exact LeO.none _)
   | (with_reducible refine LeO.ite ?_ ?_)
   | (with_reducible refine LeO.bind ?_ (fun _ => ?_))
   | exact ih0 _ _
   | exact ih1 _ _
   | exact ih2 _ _
   | exact LeO.none _
   | refine LeO.ite ?_ ?_
   | refine LeO.bind ?_ (fun _ => ?_)
  ·intro y0 y1
   unfold spec_l4Op.l2
   repeat' first
   | (with_reducible exact ih0 _ _)
   | (with_reducible exact ih1 _ _)
   | (with_reducible exact ih2 _ _)
   | (with_reducible exact LeO.refl _)
   | (with_reducible exact LeO.none _)
   | (with_reducible refine LeO.ite ?_ ?_)
   | (with_reducible refine LeO.bind ?_ (fun _ => ?_))
   | exact ih0 _ _
   | exact ih1 _ _
   | exact ih2 _ _
   | exact LeO.none _
   | refine LeO.ite ?_ ?_
   | refine LeO.bind ?_ (fun _ => ?_)
theorem spec_l4Op.mono : ∀ a0 k, LeO (spec_l4Op.f k a0) (spec_l4Op.f (k + 1) a0) := by
 intro a0 k
 obtain ⟨ih0, ih1, ih2⟩ := spec_l4Op.mono_l k
 unfold spec_l4Op.f
 repeat' first
   | (with_reducible exact ih0 _ _)
   | (with_reducible exact ih1 _ _)
   | (with_reducible exact ih2 _ _)
   | (with_reducible exact LeO.refl _)
   | (with_reducible exact LeO.none _)
   | (with_reducible refine LeO.ite ?_ ?_)
   | (with_reducible refine LeO.bind ?_ (fun _ => ?_))
   | exact ih0 _ _
   | exact ih1 _ _
   | exact ih2 _ _
   | exact LeO.none _
   | refine LeO.ite ?_ ?_
   | refine LeO.bind ?_ (fun _ => ?_)
set_option maxHeartbeats 8000000 in
set_option maxRecDepth 100000 in
theorem spec_l4Op.calls (k : Nat) (a0 : Int) (r1 : Int) (r2 : Int) (r3 : Int) (r4 : Int) (r5 : Int) (r6 : Int) (r7 : Int) (r8 : Int) (w : World) (h : spec_l4Op.f k a0 = some (r1, r2, r3, r4, r5, r6, r7, r8)) :
  Calls Try.prog 46 #[.int .i64 a0] w fun e w' => e = .returned (.agg #[.int .i64 r1, .int .i64 r2, .int .i64 r3, .int .i64 r4, .int .i64 r5, .int .i64 r6, .int .i64 r7, .int .i64 r8]) ∧ Below w.heap.size w w' := by
 have hu32 := Try.underlying32
 have HB := Aside0.mk (Below.refl w.heap.size w)
 have H : (if a0 = 0 then (some (22, 0, 0, 0, 0, 0, 0, 0)) else (spec_l4Op.l0 k a0 1)) = some (r1, r2, r3, r4, r5, r6, r7, r8) := h
 clear h
 by_cases c2 : a0 = 0
 ·rw [if_pos c2] at H
  have c2b0 : (a0 == 0) = true := beq_iff_eq.mpr c2
  have c2b1 : (a0 != 0) = false := bne_eq_false_iff_eq.mpr c2
  clear c2
  simp only [Option.some.injEq, Prod.mk.injEq] at H
  obtain ⟨rfl, rfl, rfl, rfl, rfl, rfl, rfl, rfl⟩ := H
  go_enter Try.func46, Try.ntmps46
  go_wp2_with (first | ((with_reducible refine gate_dst (N := 2) rfl ?_); refine box_event ?hg (N := 2) ?hd (cs := #[.int .i64 0, .int .i64 0, .int .i64 0, .int .i64 0, .int .i64 0, .int .i64 0, .int .i64 0, .int .i64 0]) (t := 32) ?hr ?_; (case hd => rfl); (case hg => rfl); (case hr => first | (go_simp; done) | (go_simp; rfl)); intro gb182 hg w3 hbox hb; have n0_ := Aside0.mk (below_step (bw_ HB.out) hb); have n1_ := Aside0.mk (hbox); have n2_ := Aside0.mk ((by rw [hg]; exact (below_size (bw_ HB.out)) : w.heap.size ≤ gb182)); have n3_ := n2_; clear HB; have HB := n0_; have BK182 := n1_; have GW182 := n2_; have GE182 := n3_; have GI182 := GeI.mk GE182.out; clear n0_ n1_ n2_ n3_; clear hb hbox hg; have hcz4_0 : w3.cell? ⟨gb182, 0, none⟩ = some (.int .i64 0) := (blk_cell BK182.out 0).trans rfl; have hcz4_1 : w3.cell? ⟨gb182, 1, none⟩ = some (.int .i64 0) := (blk_cell BK182.out 1).trans rfl; have hcz4_2 : w3.cell? ⟨gb182, 2, none⟩ = some (.int .i64 0) := (blk_cell BK182.out 2).trans rfl; have hcz4_3 : w3.cell? ⟨gb182, 3, none⟩ = some (.int .i64 0) := (blk_cell BK182.out 3).trans rfl; have hcz4_4 : w3.cell? ⟨gb182, 4, none⟩ = some (.int .i64 0) := (blk_cell BK182.out 4).trans rfl; have hcz4_5 : w3.cell? ⟨gb182, 5, none⟩ = some (.int .i64 0) := (blk_cell BK182.out 5).trans rfl; have hcz4_6 : w3.cell? ⟨gb182, 6, none⟩ = some (.int .i64 0) := (blk_cell BK182.out 6).trans rfl; have hcz4_7 : w3.cell? ⟨gb182, 7, none⟩ = some (.int .i64 0) := (blk_cell BK182.out 7).trans rfl; have hfz4_0 := blk_frozen BK182.out 0; have hfz4_1 := blk_frozen BK182.out 1; have hfz4_2 := blk_frozen BK182.out 2; have hfz4_3 := blk_frozen BK182.out 3; have hfz4_4 := blk_frozen BK182.out 4; have hfz4_5 := blk_frozen BK182.out 5; have hfz4_6 := blk_frozen BK182.out 6; have hfz4_7 := blk_frozen BK182.out 7))
  refine bodyPost_ret (results_cell_row rfl _ _ gb182 32 #[.int .i64 22, .int .i64 0, .int .i64 0, .int .i64 0, .int .i64 0, .int .i64 0, .int .i64 0, .int .i64 0] (0, 0) _ rfl ?hb_ Try.underlying32 rfl (by kernel_rfl)) rfl ?_
  (case hb_ => refine bk_ ?_; refine blk_put (cs := #[.int .i64 22, .int .i64 0, .int .i64 0, .int .i64 0, .int .i64 0, .int .i64 0, .int .i64 0, .int .i64 0]) ?_ 7 _ rfl; refine bk_ ?_; refine blk_put (cs := #[.int .i64 22, .int .i64 0, .int .i64 0, .int .i64 0, .int .i64 0, .int .i64 0, .int .i64 0, .int .i64 0]) ?_ 6 _ rfl; refine bk_ ?_; refine blk_put (cs := #[.int .i64 22, .int .i64 0, .int .i64 0, .int .i64 0, .int .i64 0, .int .i64 0, .int .i64 0, .int .i64 0]) ?_ 5 _ rfl; refine bk_ ?_; refine blk_put (cs := #[.int .i64 22, .int .i64 0, .int .i64 0, .int .i64 0, .int .i64 0, .int .i64 0, .int .i64 0, .int .i64 0]) ?_ 4 _ rfl; refine bk_ ?_; refine blk_put (cs := #[.int .i64 22, .int .i64 0, .int .i64 0, .int .i64 0, .int .i64 0, .int .i64 0, .int .i64 0, .int .i64 0]) ?_ 3 _ rfl; refine bk_ ?_; refine blk_put (cs := #[.int .i64 22, .int .i64 0, .int .i64 0, .int .i64 0, .int .i64 0, .int .i64 0, .int .i64 0, .int .i64 0]) ?_ 2 _ rfl; refine bk_ ?_; refine blk_put (cs := #[.int .i64 22, .int .i64 0, .int .i64 0, .int .i64 0, .int .i64 0, .int .i64 0, .int .i64 0, .int .i64 0]) ?_ 1 _ rfl; refine bk_ ?_; refine blk_put (cs := #[.int .i64 0, .int .i64 0, .int .i64 0, .int .i64 0, .int .i64 0, .int .i64 0, .int .i64 0, .int .i64 0]) ?_ 0 _ rfl; refine bk_ ?_; exact BK182.out)
  exact rt_ (bw_ HB.out)
 ·rw [if_neg c2] at H
  have c2b0 : (a0 == 0) = false := beq_eq_false_iff_ne.mpr c2
  have c2b1 : (a0 != 0) = true := bne_iff_ne.mpr c2
  have H' := Aside0.mk H
  clear H
  go_enter Try.func46, Try.ntmps46
  go_wp2_with (first | ((with_reducible refine gate_dst (N := 2) rfl ?_); refine box_event ?hg (N := 2) ?hd (cs := #[.int .i64 0, .int .i64 0, .int .i64 0, .int .i64 0, .int .i64 0, .int .i64 0, .int .i64 0, .int .i64 0]) (t := 32) ?hr ?_; (case hd => rfl); (case hg => rfl); (case hr => first | (go_simp; done) | (go_simp; rfl)); intro gb182 hg w5 hbox hb; have n0_ := Aside0.mk (below_step (bw_ HB.out) hb); have n1_ := Aside0.mk (hbox); have n2_ := Aside0.mk ((by rw [hg]; exact (below_size (bw_ HB.out)) : w.heap.size ≤ gb182)); have n3_ := n2_; clear HB; have HB := n0_; have BK182 := n1_; have GW182 := n2_; have GE182 := n3_; have GI182 := GeI.mk GE182.out; clear n0_ n1_ n2_ n3_; clear hb hbox hg))
  go_loopg [3] k (fun kq v3 w' => ∃ (x3_1 : Int) (x183000_1 : Int) (x183001_1 : Int) (x183002_1 : Int) (x183003_1 : Int) (x183004_1 : Int) (x183005_1 : Int) (x183006_1 : Int) (x183007_1 : Int), v3 = .int .i64 x3_1 ∧ Aside0 (spec_l4Op.l0 kq a0 x3_1 = some (r1, r2, r3, r4, r5, r6, r7, r8)) ∧ Aside0 (kq ≤ k) ∧ Aside0 (w'.heap[gb182]? = some (.cells #[.int .i64 x183000_1, .int .i64 x183001_1, .int .i64 x183002_1, .int .i64 x183003_1, .int .i64 x183004_1, .int .i64 x183005_1, .int .i64 x183006_1, .int .i64 x183007_1] 32 (0, 0))) ∧ Aside0 (Below w.heap.size w w'))
  case atStart => exact ⟨(1), (0), (0), (0), (0), (0), (0), (0), (0), (by first | rfl | (simp; done) | (simp [*]; done) | (simp [wrap64]; done)), H', ⟨Nat.le_refl _⟩, ⟨by refine bk_ ?_; exact BK182.out⟩, ⟨bw_ HB.out⟩⟩
  case round =>
   clear H'
   try clear c2
   try clear c2b0
   try clear c2b1
   try clear p2
   try clear c4
   try clear hcz4_0 hcz4_1 hcz4_2 hcz4_3 hcz4_4 hcz4_5 hcz4_6 hcz4_7 hfz4_0 hfz4_1 hfz4_2 hfz4_3 hfz4_4 hfz4_5 hfz4_6 hfz4_7
   obtain ⟨x3_1, x183000_1, x183001_1, x183002_1, x183003_1, x183004_1, x183005_1, x183006_1, x183007_1, rfl, HA, HK1, BK182, HB⟩ := hrel
   cases gk with
   | zero => exact absurd HA.out (by simp [spec_l4Op.l0])
   | succ k1 =>
    have H := HA.out
    clear HA
    simp only [spec_l4Op.l0] at H
    by_cases c6 : x3_1 ≤ 6
    ·rw [if_pos c6] at H
     have c6b0 : decide (x3_1 ≤ 6) = true := decide_eq_true c6
     clear c6
     replace H := Option.bind_eq_some_iff.mp H
     obtain ⟨t183, A70, H⟩ := H
     try dsimp only at H
     have A7 := Aside0.mk A70
     clear A70
     by_cases c8 : (Go.bits .and .i64 a0 61440) = t183
     ·rw [if_pos c8] at H
      have c8b0 : ((Go.bits .and .i64 a0 61440) == t183) = true := beq_iff_eq.mpr c8
      have c8b1 : ((Go.bits .and .i64 a0 61440) != t183) = false := bne_eq_false_iff_eq.mpr c8
      clear c8
      replace H := Option.bind_eq_some_iff.mp H
      obtain ⟨⟨t184, t185, t186⟩, A90, H⟩ := H
      try dsimp only at H
      have A9 := Aside0.mk A90
      clear A90
      replace H := Option.bind_eq_some_iff.mp H
      obtain ⟨⟨t187, t188, t189⟩, A100, H⟩ := H
      try dsimp only at H
      have A10 := Aside0.mk A100
      clear A100
      simp only [Option.some.injEq, Prod.mk.injEq] at H
      obtain ⟨rfl, rfl, rfl, rfl, rfl, rfl, rfl, rfl⟩ := H
      go_wp2_with (first | ((with_reducible refine gate_callee (f := 43) rfl ?_); refine gL_ (some 17) Try.func43 #[.int .i64 x3_1] ?_; (with_reducible refine (spec_l4Base.calls x3_1 t183 _ A7.out).mono ?_); rintro e w11 ⟨rfl, hb⟩; refine ⟨_, rfl, ?_⟩; have n0_ := Aside0.mk (blk_below (bk_ BK182.out) hb); have n1_ := Aside0.mk (below_step (bw_ HB.out) hb); clear BK182; clear HB; have BK182 := n0_; have HB := n1_; clear n0_ n1_; (try clear hb); (try clear hb2); (try clear hk); (try clear hi)) | ((with_reducible refine gate_callee (f := 58) rfl ?_); refine gL_ (some 22) Try.func58 #[.int .i64 (a0 / 64)] ?_; (with_reducible refine (spec_l4Opd.calls (a0 / 64) t184 t185 t186 _ A9.out).mono ?_); rintro e w12 ⟨rfl, hb⟩; refine ⟨_, rfl, ?_⟩; have n0_ := Aside0.mk (blk_below (bk_ BK182.out) hb); have n1_ := Aside0.mk (below_step (bw_ HB.out) hb); clear BK182; clear HB; have BK182 := n0_; have HB := n1_; clear n0_ n1_; (try clear hb); (try clear hb2); (try clear hk); (try clear hi)) | ((with_reducible refine gate_callee (f := 58) rfl ?_); refine gL_ (some 24) Try.func58 #[.int .i64 a0] ?_; (with_reducible refine (spec_l4Opd.calls a0 t187 t188 t189 _ A10.out).mono ?_); rintro e w13 ⟨rfl, hb⟩; refine ⟨_, rfl, ?_⟩; have n0_ := Aside0.mk (blk_below (bk_ BK182.out) hb); have n1_ := Aside0.mk (below_step (bw_ HB.out) hb); clear BK182; clear HB; have BK182 := n0_; have HB := n1_; clear n0_ n1_; (try clear hb); (try clear hb2); (try clear hk); (try clear hi); have hcz14_0 : w13.cell? ⟨gb182, 0, none⟩ = some (.int .i64 x183000_1) := (blk_cell BK182.out 0).trans rfl; have hcz14_1 : w13.cell? ⟨gb182, 1, none⟩ = some (.int .i64 x183001_1) := (blk_cell BK182.out 1).trans rfl; have hcz14_2 : w13.cell? ⟨gb182, 2, none⟩ = some (.int .i64 x183002_1) := (blk_cell BK182.out 2).trans rfl; have hcz14_3 : w13.cell? ⟨gb182, 3, none⟩ = some (.int .i64 x183003_1) := (blk_cell BK182.out 3).trans rfl; have hcz14_4 : w13.cell? ⟨gb182, 4, none⟩ = some (.int .i64 x183004_1) := (blk_cell BK182.out 4).trans rfl; have hcz14_5 : w13.cell? ⟨gb182, 5, none⟩ = some (.int .i64 x183005_1) := (blk_cell BK182.out 5).trans rfl; have hcz14_6 : w13.cell? ⟨gb182, 6, none⟩ = some (.int .i64 x183006_1) := (blk_cell BK182.out 6).trans rfl; have hcz14_7 : w13.cell? ⟨gb182, 7, none⟩ = some (.int .i64 x183007_1) := (blk_cell BK182.out 7).trans rfl; have hfz14_0 := blk_frozen BK182.out 0; have hfz14_1 := blk_frozen BK182.out 1; have hfz14_2 := blk_frozen BK182.out 2; have hfz14_3 := blk_frozen BK182.out 3; have hfz14_4 := blk_frozen BK182.out 4; have hfz14_5 := blk_frozen BK182.out 5; have hfz14_6 := blk_frozen BK182.out 6; have hfz14_7 := blk_frozen BK182.out 7))
      refine bodyPost_ret (results_cell_row rfl _ _ gb182 32 #[.int .i64 x3_1, .int .i64 t184, .int .i64 t185, .int .i64 t186, .int .i64 t187, .int .i64 t188, .int .i64 t189, .int .i64 0] (0, 0) _ rfl ?hb_ Try.underlying32 rfl (by kernel_rfl)) rfl ?_
      (case hb_ => refine bk_ ?_; refine blk_put (cs := #[.int .i64 x3_1, .int .i64 t184, .int .i64 t185, .int .i64 t186, .int .i64 t187, .int .i64 t188, .int .i64 t189, .int .i64 x183007_1]) ?_ 7 _ rfl; refine bk_ ?_; refine blk_put (cs := #[.int .i64 x3_1, .int .i64 t184, .int .i64 t185, .int .i64 t186, .int .i64 t187, .int .i64 t188, .int .i64 x183006_1, .int .i64 x183007_1]) ?_ 6 _ rfl; refine bk_ ?_; refine blk_put (cs := #[.int .i64 x3_1, .int .i64 t184, .int .i64 t185, .int .i64 t186, .int .i64 t187, .int .i64 x183005_1, .int .i64 x183006_1, .int .i64 x183007_1]) ?_ 5 _ rfl; refine bk_ ?_; refine blk_put (cs := #[.int .i64 x3_1, .int .i64 t184, .int .i64 t185, .int .i64 t186, .int .i64 x183004_1, .int .i64 x183005_1, .int .i64 x183006_1, .int .i64 x183007_1]) ?_ 4 _ rfl; refine bk_ ?_; refine blk_put (cs := #[.int .i64 x3_1, .int .i64 t184, .int .i64 t185, .int .i64 x183003_1, .int .i64 x183004_1, .int .i64 x183005_1, .int .i64 x183006_1, .int .i64 x183007_1]) ?_ 3 _ rfl; refine bk_ ?_; refine blk_put (cs := #[.int .i64 x3_1, .int .i64 t184, .int .i64 x183002_1, .int .i64 x183003_1, .int .i64 x183004_1, .int .i64 x183005_1, .int .i64 x183006_1, .int .i64 x183007_1]) ?_ 2 _ rfl; refine bk_ ?_; refine blk_put (cs := #[.int .i64 x3_1, .int .i64 x183001_1, .int .i64 x183002_1, .int .i64 x183003_1, .int .i64 x183004_1, .int .i64 x183005_1, .int .i64 x183006_1, .int .i64 x183007_1]) ?_ 1 _ rfl; refine bk_ ?_; refine blk_put (cs := #[.int .i64 x183000_1, .int .i64 x183001_1, .int .i64 x183002_1, .int .i64 x183003_1, .int .i64 x183004_1, .int .i64 x183005_1, .int .i64 x183006_1, .int .i64 x183007_1]) ?_ 0 _ rfl; refine bk_ ?_; exact BK182.out)
      exact rt_ (bw_ HB.out)
     ·rw [if_neg c8] at H
      have c8b0 : ((Go.bits .and .i64 a0 61440) == t183) = false := beq_eq_false_iff_ne.mpr c8
      have c8b1 : ((Go.bits .and .i64 a0 61440) != t183) = true := bne_iff_ne.mpr c8
      have H' := Aside0.mk H
      clear H
      go_wp2_with (first | ((with_reducible refine gate_callee (f := 43) rfl ?_); refine gL_ (some 17) Try.func43 #[.int .i64 x3_1] ?_; (with_reducible refine (spec_l4Base.calls x3_1 t183 _ A7.out).mono ?_); rintro e w15 ⟨rfl, hb⟩; refine ⟨_, rfl, ?_⟩; have n0_ := Aside0.mk (blk_below (bk_ BK182.out) hb); have n1_ := Aside0.mk (below_step (bw_ HB.out) hb); clear BK182; clear HB; have BK182 := n0_; have HB := n1_; clear n0_ n1_; (try clear hb); (try clear hb2); (try clear hk); (try clear hi)))
      go_roundg k1
      case measure => have := HK1.out; omega
      case rel => exact ⟨(wrap64 (x3_1 + 1)), (x183000_1), (x183001_1), (x183002_1), (x183003_1), (x183004_1), (x183005_1), (x183006_1), (x183007_1), (by first | rfl | (simp; done) | (simp [*]; done) | (simp [wrap64]; done)), H', ⟨by have := HK1.out; omega⟩, ⟨by refine bk_ ?_; exact BK182.out⟩, ⟨bw_ HB.out⟩⟩
    ·rw [if_neg c6] at H
     have c6b0 : decide (x3_1 ≤ 6) = false := decide_eq_false c6
     clear c6
     have H' := Aside0.mk H
     clear H
     go_wp2
     go_loopg [4] k1 (fun kq v4 w' => ∃ (x4_2 : Int) (x183000_2 : Int) (x183001_2 : Int) (x183002_2 : Int) (x183003_2 : Int) (x183004_2 : Int) (x183005_2 : Int) (x183006_2 : Int) (x183007_2 : Int), v4 = .int .i64 x4_2 ∧ Aside0 (spec_l4Op.l1 kq a0 x4_2 = some (r1, r2, r3, r4, r5, r6, r7, r8)) ∧ Aside0 (kq ≤ k1) ∧ Aside0 (w'.heap[gb182]? = some (.cells #[.int .i64 x183000_2, .int .i64 x183001_2, .int .i64 x183002_2, .int .i64 x183003_2, .int .i64 x183004_2, .int .i64 x183005_2, .int .i64 x183006_2, .int .i64 x183007_2] 32 (0, 0))) ∧ Aside0 (Below w.heap.size w w'))
     case atStart => exact ⟨(7), (x183000_1), (x183001_1), (x183002_1), (x183003_1), (x183004_1), (x183005_1), (x183006_1), (x183007_1), (by first | rfl | (simp; done) | (simp [*]; done) | (simp [wrap64]; done)), H', ⟨Nat.le_refl _⟩, ⟨by refine bk_ ?_; exact BK182.out⟩, ⟨bw_ HB.out⟩⟩
     case round =>
      clear H'
      try clear c2
      try clear c2b0
      try clear c2b1
      try clear p2
      try clear c4
      try clear c5
      try clear c6
      try clear c6b0
      try clear p6
      try clear c8
      try clear c8b0
      try clear c8b1
      try clear hcz14_0 hcz14_1 hcz14_2 hcz14_3 hcz14_4 hcz14_5 hcz14_6 hcz14_7 hfz14_0 hfz14_1 hfz14_2 hfz14_3 hfz14_4 hfz14_5 hfz14_6 hfz14_7
      try clear hcz4_0 hcz4_1 hcz4_2 hcz4_3 hcz4_4 hcz4_5 hcz4_6 hcz4_7 hfz4_0 hfz4_1 hfz4_2 hfz4_3 hfz4_4 hfz4_5 hfz4_6 hfz4_7
      try clear p2
      obtain ⟨x4_2, x183000_2, x183001_2, x183002_2, x183003_2, x183004_2, x183005_2, x183006_2, x183007_2, rfl, HA, HK2, BK182, HB⟩ := hrel
      cases gk with
      | zero => exact absurd HA.out (by simp [spec_l4Op.l1])
      | succ k2 =>
       have H := HA.out
       clear HA
       simp only [spec_l4Op.l1] at H
       by_cases c16 : x4_2 ≤ 14
       ·rw [if_pos c16] at H
        have c16b0 : decide (x4_2 ≤ 14) = true := decide_eq_true c16
        clear c16
        replace H := Option.bind_eq_some_iff.mp H
        obtain ⟨t190, A170, H⟩ := H
        try dsimp only at H
        have A17 := Aside0.mk A170
        clear A170
        by_cases c18 : (Go.bits .and .i64 a0 65472) = t190
        ·rw [if_pos c18] at H
         have c18b0 : ((Go.bits .and .i64 a0 65472) == t190) = true := beq_iff_eq.mpr c18
         have c18b1 : ((Go.bits .and .i64 a0 65472) != t190) = false := bne_eq_false_iff_eq.mpr c18
         clear c18
         replace H := Option.bind_eq_some_iff.mp H
         obtain ⟨⟨t191, t192, t193⟩, A190, H⟩ := H
         try dsimp only at H
         have A19 := Aside0.mk A190
         clear A190
         simp only [Option.some.injEq, Prod.mk.injEq] at H
         obtain ⟨rfl, rfl, rfl, rfl, rfl, rfl, rfl, rfl⟩ := H
         go_wp2_with (first | ((with_reducible refine gate_callee (f := 43) rfl ?_); refine gL_ (some 33) Try.func43 #[.int .i64 x4_2] ?_; (with_reducible refine (spec_l4Base.calls x4_2 t190 _ A17.out).mono ?_); rintro e w20 ⟨rfl, hb⟩; refine ⟨_, rfl, ?_⟩; have n0_ := Aside0.mk (blk_below (bk_ BK182.out) hb); have n1_ := Aside0.mk (below_step (bw_ HB.out) hb); clear BK182; clear HB; have BK182 := n0_; have HB := n1_; clear n0_ n1_; (try clear hb); (try clear hb2); (try clear hk); (try clear hi)) | ((with_reducible refine gate_callee (f := 58) rfl ?_); refine gL_ (some 37) Try.func58 #[.int .i64 a0] ?_; (with_reducible refine (spec_l4Opd.calls a0 t191 t192 t193 _ A19.out).mono ?_); rintro e w21 ⟨rfl, hb⟩; refine ⟨_, rfl, ?_⟩; have n0_ := Aside0.mk (blk_below (bk_ BK182.out) hb); have n1_ := Aside0.mk (below_step (bw_ HB.out) hb); clear BK182; clear HB; have BK182 := n0_; have HB := n1_; clear n0_ n1_; (try clear hb); (try clear hb2); (try clear hk); (try clear hi); have hcz22_0 : w21.cell? ⟨gb182, 0, none⟩ = some (.int .i64 x183000_2) := (blk_cell BK182.out 0).trans rfl; have hcz22_1 : w21.cell? ⟨gb182, 1, none⟩ = some (.int .i64 x183001_2) := (blk_cell BK182.out 1).trans rfl; have hcz22_2 : w21.cell? ⟨gb182, 2, none⟩ = some (.int .i64 x183002_2) := (blk_cell BK182.out 2).trans rfl; have hcz22_3 : w21.cell? ⟨gb182, 3, none⟩ = some (.int .i64 x183003_2) := (blk_cell BK182.out 3).trans rfl; have hcz22_4 : w21.cell? ⟨gb182, 4, none⟩ = some (.int .i64 x183004_2) := (blk_cell BK182.out 4).trans rfl; have hcz22_5 : w21.cell? ⟨gb182, 5, none⟩ = some (.int .i64 x183005_2) := (blk_cell BK182.out 5).trans rfl; have hcz22_6 : w21.cell? ⟨gb182, 6, none⟩ = some (.int .i64 x183006_2) := (blk_cell BK182.out 6).trans rfl; have hcz22_7 : w21.cell? ⟨gb182, 7, none⟩ = some (.int .i64 x183007_2) := (blk_cell BK182.out 7).trans rfl; have hfz22_0 := blk_frozen BK182.out 0; have hfz22_1 := blk_frozen BK182.out 1; have hfz22_2 := blk_frozen BK182.out 2; have hfz22_3 := blk_frozen BK182.out 3; have hfz22_4 := blk_frozen BK182.out 4; have hfz22_5 := blk_frozen BK182.out 5; have hfz22_6 := blk_frozen BK182.out 6; have hfz22_7 := blk_frozen BK182.out 7))
         refine bodyPost_ret (results_cell_row rfl _ _ gb182 32 #[.int .i64 x4_2, .int .i64 0, .int .i64 0, .int .i64 0, .int .i64 t191, .int .i64 t192, .int .i64 t193, .int .i64 0] (0, 0) _ rfl ?hb_ Try.underlying32 rfl (by kernel_rfl)) rfl ?_
         (case hb_ => refine bk_ ?_; refine blk_put (cs := #[.int .i64 x4_2, .int .i64 0, .int .i64 0, .int .i64 0, .int .i64 t191, .int .i64 t192, .int .i64 t193, .int .i64 x183007_2]) ?_ 7 _ rfl; refine bk_ ?_; refine blk_put (cs := #[.int .i64 x4_2, .int .i64 0, .int .i64 0, .int .i64 0, .int .i64 t191, .int .i64 t192, .int .i64 x183006_2, .int .i64 x183007_2]) ?_ 6 _ rfl; refine bk_ ?_; refine blk_put (cs := #[.int .i64 x4_2, .int .i64 0, .int .i64 0, .int .i64 0, .int .i64 t191, .int .i64 x183005_2, .int .i64 x183006_2, .int .i64 x183007_2]) ?_ 5 _ rfl; refine bk_ ?_; refine blk_put (cs := #[.int .i64 x4_2, .int .i64 0, .int .i64 0, .int .i64 0, .int .i64 x183004_2, .int .i64 x183005_2, .int .i64 x183006_2, .int .i64 x183007_2]) ?_ 4 _ rfl; refine bk_ ?_; refine blk_put (cs := #[.int .i64 x4_2, .int .i64 0, .int .i64 0, .int .i64 x183003_2, .int .i64 x183004_2, .int .i64 x183005_2, .int .i64 x183006_2, .int .i64 x183007_2]) ?_ 3 _ rfl; refine bk_ ?_; refine blk_put (cs := #[.int .i64 x4_2, .int .i64 0, .int .i64 x183002_2, .int .i64 x183003_2, .int .i64 x183004_2, .int .i64 x183005_2, .int .i64 x183006_2, .int .i64 x183007_2]) ?_ 2 _ rfl; refine bk_ ?_; refine blk_put (cs := #[.int .i64 x4_2, .int .i64 x183001_2, .int .i64 x183002_2, .int .i64 x183003_2, .int .i64 x183004_2, .int .i64 x183005_2, .int .i64 x183006_2, .int .i64 x183007_2]) ?_ 1 _ rfl; refine bk_ ?_; refine blk_put (cs := #[.int .i64 x183000_2, .int .i64 x183001_2, .int .i64 x183002_2, .int .i64 x183003_2, .int .i64 x183004_2, .int .i64 x183005_2, .int .i64 x183006_2, .int .i64 x183007_2]) ?_ 0 _ rfl; refine bk_ ?_; exact BK182.out)
         exact rt_ (bw_ HB.out)
        ·rw [if_neg c18] at H
         have c18b0 : ((Go.bits .and .i64 a0 65472) == t190) = false := beq_eq_false_iff_ne.mpr c18
         have c18b1 : ((Go.bits .and .i64 a0 65472) != t190) = true := bne_iff_ne.mpr c18
         have H' := Aside0.mk H
         clear H
         go_wp2_with (first | ((with_reducible refine gate_callee (f := 43) rfl ?_); refine gL_ (some 33) Try.func43 #[.int .i64 x4_2] ?_; (with_reducible refine (spec_l4Base.calls x4_2 t190 _ A17.out).mono ?_); rintro e w23 ⟨rfl, hb⟩; refine ⟨_, rfl, ?_⟩; have n0_ := Aside0.mk (blk_below (bk_ BK182.out) hb); have n1_ := Aside0.mk (below_step (bw_ HB.out) hb); clear BK182; clear HB; have BK182 := n0_; have HB := n1_; clear n0_ n1_; (try clear hb); (try clear hb2); (try clear hk); (try clear hi)))
         go_roundg k2
         case measure => have := HK1.out; have := HK2.out; omega
         case rel => exact ⟨(wrap64 (x4_2 + 1)), (x183000_2), (x183001_2), (x183002_2), (x183003_2), (x183004_2), (x183005_2), (x183006_2), (x183007_2), (by first | rfl | (simp; done) | (simp [*]; done) | (simp [wrap64]; done)), H', ⟨by have := HK1.out; have := HK2.out; omega⟩, ⟨by refine bk_ ?_; exact BK182.out⟩, ⟨bw_ HB.out⟩⟩
       ·rw [if_neg c16] at H
        have c16b0 : decide (x4_2 ≤ 14) = false := decide_eq_false c16
        clear c16
        by_cases c24 : (Go.bits .and .i64 a0 65024) = 2048
        ·rw [if_pos c24] at H
         have c24b0 : ((Go.bits .and .i64 a0 65024) == 2048) = true := beq_iff_eq.mpr c24
         have c24b1 : ((Go.bits .and .i64 a0 65024) != 2048) = false := bne_eq_false_iff_eq.mpr c24
         clear c24
         replace H := Option.bind_eq_some_iff.mp H
         obtain ⟨⟨t194, t195, t196⟩, A250, H⟩ := H
         try dsimp only at H
         have A25 := Aside0.mk A250
         clear A250
         simp only [Option.some.injEq, Prod.mk.injEq] at H
         obtain ⟨rfl, rfl, rfl, rfl, rfl, rfl, rfl, rfl⟩ := H
         go_wp2_with (first | ((with_reducible refine gate_callee (f := 58) rfl ?_); refine gL_ (some 47) Try.func58 #[.int .i64 a0] ?_; (with_reducible refine (spec_l4Opd.calls a0 t194 t195 t196 _ A25.out).mono ?_); rintro e w26 ⟨rfl, hb⟩; refine ⟨_, rfl, ?_⟩; have n0_ := Aside0.mk (blk_below (bk_ BK182.out) hb); have n1_ := Aside0.mk (below_step (bw_ HB.out) hb); clear BK182; clear HB; have BK182 := n0_; have HB := n1_; clear n0_ n1_; (try clear hb); (try clear hb2); (try clear hk); (try clear hi); have hcz27_0 : w26.cell? ⟨gb182, 0, none⟩ = some (.int .i64 x183000_2) := (blk_cell BK182.out 0).trans rfl; have hcz27_1 : w26.cell? ⟨gb182, 1, none⟩ = some (.int .i64 x183001_2) := (blk_cell BK182.out 1).trans rfl; have hcz27_2 : w26.cell? ⟨gb182, 2, none⟩ = some (.int .i64 x183002_2) := (blk_cell BK182.out 2).trans rfl; have hcz27_3 : w26.cell? ⟨gb182, 3, none⟩ = some (.int .i64 x183003_2) := (blk_cell BK182.out 3).trans rfl; have hcz27_4 : w26.cell? ⟨gb182, 4, none⟩ = some (.int .i64 x183004_2) := (blk_cell BK182.out 4).trans rfl; have hcz27_5 : w26.cell? ⟨gb182, 5, none⟩ = some (.int .i64 x183005_2) := (blk_cell BK182.out 5).trans rfl; have hcz27_6 : w26.cell? ⟨gb182, 6, none⟩ = some (.int .i64 x183006_2) := (blk_cell BK182.out 6).trans rfl; have hcz27_7 : w26.cell? ⟨gb182, 7, none⟩ = some (.int .i64 x183007_2) := (blk_cell BK182.out 7).trans rfl; have hfz27_0 := blk_frozen BK182.out 0; have hfz27_1 := blk_frozen BK182.out 1; have hfz27_2 := blk_frozen BK182.out 2; have hfz27_3 := blk_frozen BK182.out 3; have hfz27_4 := blk_frozen BK182.out 4; have hfz27_5 := blk_frozen BK182.out 5; have hfz27_6 := blk_frozen BK182.out 6; have hfz27_7 := blk_frozen BK182.out 7))
         refine bodyPost_ret (results_cell_row rfl _ _ gb182 32 #[.int .i64 15, .int .i64 0, .int .i64 0, .int .i64 0, .int .i64 t194, .int .i64 t195, .int .i64 t196, .int .i64 (Go.bits .and .i64 (a0 / 64) 7)] (0, 0) _ rfl ?hb_ Try.underlying32 rfl (by kernel_rfl)) rfl ?_
         (case hb_ => refine bk_ ?_; refine blk_put (cs := #[.int .i64 15, .int .i64 0, .int .i64 0, .int .i64 0, .int .i64 t194, .int .i64 t195, .int .i64 t196, .int .i64 x183007_2]) ?_ 7 _ rfl; refine bk_ ?_; refine blk_put (cs := #[.int .i64 15, .int .i64 0, .int .i64 0, .int .i64 0, .int .i64 t194, .int .i64 t195, .int .i64 x183006_2, .int .i64 x183007_2]) ?_ 6 _ rfl; refine bk_ ?_; refine blk_put (cs := #[.int .i64 15, .int .i64 0, .int .i64 0, .int .i64 0, .int .i64 t194, .int .i64 x183005_2, .int .i64 x183006_2, .int .i64 x183007_2]) ?_ 5 _ rfl; refine bk_ ?_; refine blk_put (cs := #[.int .i64 15, .int .i64 0, .int .i64 0, .int .i64 0, .int .i64 x183004_2, .int .i64 x183005_2, .int .i64 x183006_2, .int .i64 x183007_2]) ?_ 4 _ rfl; refine bk_ ?_; refine blk_put (cs := #[.int .i64 15, .int .i64 0, .int .i64 0, .int .i64 x183003_2, .int .i64 x183004_2, .int .i64 x183005_2, .int .i64 x183006_2, .int .i64 x183007_2]) ?_ 3 _ rfl; refine bk_ ?_; refine blk_put (cs := #[.int .i64 15, .int .i64 0, .int .i64 x183002_2, .int .i64 x183003_2, .int .i64 x183004_2, .int .i64 x183005_2, .int .i64 x183006_2, .int .i64 x183007_2]) ?_ 2 _ rfl; refine bk_ ?_; refine blk_put (cs := #[.int .i64 15, .int .i64 x183001_2, .int .i64 x183002_2, .int .i64 x183003_2, .int .i64 x183004_2, .int .i64 x183005_2, .int .i64 x183006_2, .int .i64 x183007_2]) ?_ 1 _ rfl; refine bk_ ?_; refine blk_put (cs := #[.int .i64 x183000_2, .int .i64 x183001_2, .int .i64 x183002_2, .int .i64 x183003_2, .int .i64 x183004_2, .int .i64 x183005_2, .int .i64 x183006_2, .int .i64 x183007_2]) ?_ 0 _ rfl; refine bk_ ?_; exact BK182.out)
         exact rt_ (bw_ HB.out)
        ·rw [if_neg c24] at H
         have c24b0 : ((Go.bits .and .i64 a0 65024) == 2048) = false := beq_eq_false_iff_ne.mpr c24
         have c24b1 : ((Go.bits .and .i64 a0 65024) != 2048) = true := bne_iff_ne.mpr c24
         by_cases c28 : (Go.bits .and .i64 a0 65528) = 128
         ·rw [if_pos c28] at H
          have c28b0 : ((Go.bits .and .i64 a0 65528) == 128) = true := beq_iff_eq.mpr c28
          have c28b1 : ((Go.bits .and .i64 a0 65528) != 128) = false := bne_eq_false_iff_eq.mpr c28
          clear c28
          simp only [Option.some.injEq, Prod.mk.injEq] at H
          obtain ⟨rfl, rfl, rfl, rfl, rfl, rfl, rfl, rfl⟩ := H
          obtain ⟨hcz29_0, hcz29_1, hcz29_2, hcz29_3, hcz29_4, hcz29_5, hcz29_6, hcz29_7, hfz29_0, hfz29_1, hfz29_2, hfz29_3, hfz29_4, hfz29_5, hfz29_6, hfz29_7⟩ := cz8_ BK182.out
          go_wp2
          refine bodyPost_ret (results_cell_row rfl _ _ gb182 32 #[.int .i64 16, .int .i64 0, .int .i64 0, .int .i64 0, .int .i64 0, .int .i64 0, .int .i64 0, .int .i64 (Go.bits .and .i64 a0 7)] (0, 0) _ rfl ?hb_ Try.underlying32 rfl (by kernel_rfl)) rfl ?_
          (case hb_ => refine bk_ ?_; refine blk_put (cs := #[.int .i64 16, .int .i64 0, .int .i64 0, .int .i64 0, .int .i64 0, .int .i64 0, .int .i64 0, .int .i64 x183007_2]) ?_ 7 _ rfl; refine bk_ ?_; refine blk_put (cs := #[.int .i64 16, .int .i64 0, .int .i64 0, .int .i64 0, .int .i64 0, .int .i64 0, .int .i64 x183006_2, .int .i64 x183007_2]) ?_ 6 _ rfl; refine bk_ ?_; refine blk_put (cs := #[.int .i64 16, .int .i64 0, .int .i64 0, .int .i64 0, .int .i64 0, .int .i64 x183005_2, .int .i64 x183006_2, .int .i64 x183007_2]) ?_ 5 _ rfl; refine bk_ ?_; refine blk_put (cs := #[.int .i64 16, .int .i64 0, .int .i64 0, .int .i64 0, .int .i64 x183004_2, .int .i64 x183005_2, .int .i64 x183006_2, .int .i64 x183007_2]) ?_ 4 _ rfl; refine bk_ ?_; refine blk_put (cs := #[.int .i64 16, .int .i64 0, .int .i64 0, .int .i64 x183003_2, .int .i64 x183004_2, .int .i64 x183005_2, .int .i64 x183006_2, .int .i64 x183007_2]) ?_ 3 _ rfl; refine bk_ ?_; refine blk_put (cs := #[.int .i64 16, .int .i64 0, .int .i64 x183002_2, .int .i64 x183003_2, .int .i64 x183004_2, .int .i64 x183005_2, .int .i64 x183006_2, .int .i64 x183007_2]) ?_ 2 _ rfl; refine bk_ ?_; refine blk_put (cs := #[.int .i64 16, .int .i64 x183001_2, .int .i64 x183002_2, .int .i64 x183003_2, .int .i64 x183004_2, .int .i64 x183005_2, .int .i64 x183006_2, .int .i64 x183007_2]) ?_ 1 _ rfl; refine bk_ ?_; refine blk_put (cs := #[.int .i64 x183000_2, .int .i64 x183001_2, .int .i64 x183002_2, .int .i64 x183003_2, .int .i64 x183004_2, .int .i64 x183005_2, .int .i64 x183006_2, .int .i64 x183007_2]) ?_ 0 _ rfl; refine bk_ ?_; exact BK182.out)
          exact rt_ (bw_ HB.out)
         ·rw [if_neg c28] at H
          have c28b0 : ((Go.bits .and .i64 a0 65528) == 128) = false := beq_eq_false_iff_ne.mpr c28
          have c28b1 : ((Go.bits .and .i64 a0 65528) != 128) = true := bne_iff_ne.mpr c28
          by_cases c30 : (Go.bits .and .i64 a0 65280) = 34816
          ·rw [if_pos c30] at H
           have c30b0 : ((Go.bits .and .i64 a0 65280) == 34816) = true := beq_iff_eq.mpr c30
           have c30b1 : ((Go.bits .and .i64 a0 65280) != 34816) = false := bne_eq_false_iff_eq.mpr c30
           clear c30
           simp only [Option.some.injEq, Prod.mk.injEq] at H
           obtain ⟨rfl, rfl, rfl, rfl, rfl, rfl, rfl, rfl⟩ := H
           obtain ⟨hcz31_0, hcz31_1, hcz31_2, hcz31_3, hcz31_4, hcz31_5, hcz31_6, hcz31_7, hfz31_0, hfz31_1, hfz31_2, hfz31_3, hfz31_4, hfz31_5, hfz31_6, hfz31_7⟩ := cz8_ BK182.out
           go_wp2
           refine bodyPost_ret (results_cell_row rfl _ _ gb182 32 #[.int .i64 23, .int .i64 0, .int .i64 0, .int .i64 0, .int .i64 0, .int .i64 0, .int .i64 0, .int .i64 (Go.bits .and .i64 a0 255)] (0, 0) _ rfl ?hb_ Try.underlying32 rfl (by kernel_rfl)) rfl ?_
           (case hb_ => refine bk_ ?_; refine blk_put (cs := #[.int .i64 23, .int .i64 0, .int .i64 0, .int .i64 0, .int .i64 0, .int .i64 0, .int .i64 0, .int .i64 x183007_2]) ?_ 7 _ rfl; refine bk_ ?_; refine blk_put (cs := #[.int .i64 23, .int .i64 0, .int .i64 0, .int .i64 0, .int .i64 0, .int .i64 0, .int .i64 x183006_2, .int .i64 x183007_2]) ?_ 6 _ rfl; refine bk_ ?_; refine blk_put (cs := #[.int .i64 23, .int .i64 0, .int .i64 0, .int .i64 0, .int .i64 0, .int .i64 x183005_2, .int .i64 x183006_2, .int .i64 x183007_2]) ?_ 5 _ rfl; refine bk_ ?_; refine blk_put (cs := #[.int .i64 23, .int .i64 0, .int .i64 0, .int .i64 0, .int .i64 x183004_2, .int .i64 x183005_2, .int .i64 x183006_2, .int .i64 x183007_2]) ?_ 4 _ rfl; refine bk_ ?_; refine blk_put (cs := #[.int .i64 23, .int .i64 0, .int .i64 0, .int .i64 x183003_2, .int .i64 x183004_2, .int .i64 x183005_2, .int .i64 x183006_2, .int .i64 x183007_2]) ?_ 3 _ rfl; refine bk_ ?_; refine blk_put (cs := #[.int .i64 23, .int .i64 0, .int .i64 x183002_2, .int .i64 x183003_2, .int .i64 x183004_2, .int .i64 x183005_2, .int .i64 x183006_2, .int .i64 x183007_2]) ?_ 2 _ rfl; refine bk_ ?_; refine blk_put (cs := #[.int .i64 23, .int .i64 x183001_2, .int .i64 x183002_2, .int .i64 x183003_2, .int .i64 x183004_2, .int .i64 x183005_2, .int .i64 x183006_2, .int .i64 x183007_2]) ?_ 1 _ rfl; refine bk_ ?_; refine blk_put (cs := #[.int .i64 x183000_2, .int .i64 x183001_2, .int .i64 x183002_2, .int .i64 x183003_2, .int .i64 x183004_2, .int .i64 x183005_2, .int .i64 x183006_2, .int .i64 x183007_2]) ?_ 0 _ rfl; refine bk_ ?_; exact BK182.out)
           exact rt_ (bw_ HB.out)
          ·rw [if_neg c30] at H
           have c30b0 : ((Go.bits .and .i64 a0 65280) == 34816) = false := beq_eq_false_iff_ne.mpr c30
           have c30b1 : ((Go.bits .and .i64 a0 65280) != 34816) = true := bne_iff_ne.mpr c30
           have H' := Aside0.mk H
           clear H
           go_wp2
           go_loopg [5] k2 (fun kq v5 w' => ∃ (x5_3 : Int) (x183000_3 : Int) (x183001_3 : Int) (x183002_3 : Int) (x183003_3 : Int) (x183004_3 : Int) (x183005_3 : Int) (x183006_3 : Int) (x183007_3 : Int), v5 = .int .i64 x5_3 ∧ Aside0 (spec_l4Op.l2 kq a0 x5_3 = some (r1, r2, r3, r4, r5, r6, r7, r8)) ∧ Aside0 (kq ≤ k2) ∧ Aside0 (w'.heap[gb182]? = some (.cells #[.int .i64 x183000_3, .int .i64 x183001_3, .int .i64 x183002_3, .int .i64 x183003_3, .int .i64 x183004_3, .int .i64 x183005_3, .int .i64 x183006_3, .int .i64 x183007_3] 32 (0, 0))) ∧ Aside0 (Below w.heap.size w w'))
           case atStart => exact ⟨(17), (x183000_2), (x183001_2), (x183002_2), (x183003_2), (x183004_2), (x183005_2), (x183006_2), (x183007_2), (by first | rfl | (simp; done) | (simp [*]; done) | (simp [wrap64]; done)), H', ⟨Nat.le_refl _⟩, ⟨by refine bk_ ?_; exact BK182.out⟩, ⟨bw_ HB.out⟩⟩
           case round =>
            clear H'
            try clear c1
            try clear c2
            try clear c2b0
            try clear c2b1
            try clear p2
            try clear c3
            try clear c4
            try clear c5
            try clear c6
            try clear c6b0
            try clear p6
            try clear c8
            try clear c8b0
            try clear c8b1
            try clear c16
            try clear c16b0
            try clear c18
            try clear c18b0
            try clear c18b1
            try clear c24
            try clear c24b0
            try clear c24b1
            try clear c28
            try clear c28b0
            try clear c28b1
            try clear c30
            try clear c30b0
            try clear c30b1
            try clear hcz14_0 hcz14_1 hcz14_2 hcz14_3 hcz14_4 hcz14_5 hcz14_6 hcz14_7 hfz14_0 hfz14_1 hfz14_2 hfz14_3 hfz14_4 hfz14_5 hfz14_6 hfz14_7
            try clear hcz22_0 hcz22_1 hcz22_2 hcz22_3 hcz22_4 hcz22_5 hcz22_6 hcz22_7 hfz22_0 hfz22_1 hfz22_2 hfz22_3 hfz22_4 hfz22_5 hfz22_6 hfz22_7
            try clear hcz27_0 hcz27_1 hcz27_2 hcz27_3 hcz27_4 hcz27_5 hcz27_6 hcz27_7 hfz27_0 hfz27_1 hfz27_2 hfz27_3 hfz27_4 hfz27_5 hfz27_6 hfz27_7
            try clear hcz29_0 hcz29_1 hcz29_2 hcz29_3 hcz29_4 hcz29_5 hcz29_6 hcz29_7 hfz29_0 hfz29_1 hfz29_2 hfz29_3 hfz29_4 hfz29_5 hfz29_6 hfz29_7
            try clear hcz31_0 hcz31_1 hcz31_2 hcz31_3 hcz31_4 hcz31_5 hcz31_6 hcz31_7 hfz31_0 hfz31_1 hfz31_2 hfz31_3 hfz31_4 hfz31_5 hfz31_6 hfz31_7
            try clear hcz4_0 hcz4_1 hcz4_2 hcz4_3 hcz4_4 hcz4_5 hcz4_6 hcz4_7 hfz4_0 hfz4_1 hfz4_2 hfz4_3 hfz4_4 hfz4_5 hfz4_6 hfz4_7
            try clear p2
            try clear p6
            obtain ⟨x5_3, x183000_3, x183001_3, x183002_3, x183003_3, x183004_3, x183005_3, x183006_3, x183007_3, rfl, HA, HK3, BK182, HB⟩ := hrel
            cases gk with
            | zero => exact absurd HA.out (by simp [spec_l4Op.l2])
            | succ k3 =>
             have H := HA.out
             clear HA
             simp only [spec_l4Op.l2] at H
             by_cases c32 : x5_3 ≤ 21
             ·rw [if_pos c32] at H
              have c32b0 : decide (x5_3 ≤ 21) = true := decide_eq_true c32
              clear c32
              replace H := Option.bind_eq_some_iff.mp H
              obtain ⟨t197, A330, H⟩ := H
              try dsimp only at H
              have A33 := Aside0.mk A330
              clear A330
              by_cases c34 : (Go.bits .and .i64 a0 65280) = t197
              ·rw [if_pos c34] at H
               have c34b0 : ((Go.bits .and .i64 a0 65280) == t197) = true := beq_iff_eq.mpr c34
               have c34b1 : ((Go.bits .and .i64 a0 65280) != t197) = false := bne_eq_false_iff_eq.mpr c34
               clear c34
               by_cases c35 : (Go.bits .and .i64 a0 255) > 127
               ·rw [if_pos c35] at H
                have c35b0 : decide (127 < (Go.bits .and .i64 a0 255)) = true := decide_eq_true c35
                clear c35
                simp only [Option.some.injEq, Prod.mk.injEq] at H
                obtain ⟨rfl, rfl, rfl, rfl, rfl, rfl, rfl, rfl⟩ := H
                go_upto_region 26 with (first | ((with_reducible refine gate_callee (f := 43) rfl ?_); refine gL_ (some 70) Try.func43 #[.int .i64 x5_3] ?_; (with_reducible refine (spec_l4Base.calls x5_3 t197 _ A33.out).mono ?_); rintro e w36 ⟨rfl, hb⟩; refine ⟨_, rfl, ?_⟩; have n0_ := Aside0.mk (blk_below (bk_ BK182.out) hb); have n1_ := Aside0.mk (below_step (bw_ HB.out) hb); clear BK182; clear HB; have BK182 := n0_; have HB := n1_; clear n0_ n1_; (try clear hb); (try clear hb2); (try clear hk); (try clear hi)) | ((with_reducible refine gate_dst (N := 6) rfl ?_); refine box_event ?hg (N := 6) ?hd (cs := #[.int .i64 0, .int .i64 0, .int .i64 0, .int .i64 0, .int .i64 0, .int .i64 0, .int .i64 0, .int .i64 0]) (t := 32) ?hr ?_; (case hd => rfl); (case hg => rfl); (case hr => first | (go_simp; done) | (go_simp; rfl)); intro gb198 hg w37 hbox hb; have n0_ := Aside0.mk (blk_below (bk_ BK182.out) hb); have n1_ := Aside0.mk (below_step (bw_ HB.out) hb); have n2_ := Aside0.mk (hbox); have n3_ := Aside0.mk ((by rw [hg]; exact (below_size (bw_ HB.out)) : w.heap.size ≤ gb198)); have n4_ := n3_; have n5_ := Aside0.mk ((by rw [hg]; exact Nat.ne_of_lt (blk_lt (bk_ BK182.out)) : gb182 ≠ gb198)); have n6_ := Aside0.mk n5_.out.symm; clear BK182; clear HB; have BK182 := n0_; have HB := n1_; have BK198 := n2_; have GW198 := n3_; have GE198 := n4_; have GI198 := GeI.mk GE198.out; have NB182_198 := n5_; have NB198_182 := n6_; clear n0_ n1_ n2_ n3_ n4_ n5_ n6_; clear hb hbox hg; have hnb38 := NB198_182.out; have hnc38 := NB182_198.out; have hcz39_0 : w37.cell? ⟨gb198, 0, none⟩ = some (.int .i64 0) := (blk_cell BK198.out 0).trans rfl; have hcz39_1 : w37.cell? ⟨gb198, 1, none⟩ = some (.int .i64 0) := (blk_cell BK198.out 1).trans rfl; have hcz39_2 : w37.cell? ⟨gb198, 2, none⟩ = some (.int .i64 0) := (blk_cell BK198.out 2).trans rfl; have hcz39_3 : w37.cell? ⟨gb198, 3, none⟩ = some (.int .i64 0) := (blk_cell BK198.out 3).trans rfl; have hcz39_4 : w37.cell? ⟨gb198, 4, none⟩ = some (.int .i64 0) := (blk_cell BK198.out 4).trans rfl; have hcz39_5 : w37.cell? ⟨gb198, 5, none⟩ = some (.int .i64 0) := (blk_cell BK198.out 5).trans rfl; have hcz39_6 : w37.cell? ⟨gb198, 6, none⟩ = some (.int .i64 0) := (blk_cell BK198.out 6).trans rfl; have hcz39_7 : w37.cell? ⟨gb198, 7, none⟩ = some (.int .i64 0) := (blk_cell BK198.out 7).trans rfl; have hfz39_0 := blk_frozen BK198.out 0; have hfz39_1 := blk_frozen BK198.out 1; have hfz39_2 := blk_frozen BK198.out 2; have hfz39_3 := blk_frozen BK198.out 3; have hfz39_4 := blk_frozen BK198.out 4; have hfz39_5 := blk_frozen BK198.out 5; have hfz39_6 := blk_frozen BK198.out 6; have hfz39_7 := blk_frozen BK198.out 7; have hcz40_0 : w37.cell? ⟨gb182, 0, none⟩ = some (.int .i64 x183000_3) := (blk_cell BK182.out 0).trans rfl; have hcz40_1 : w37.cell? ⟨gb182, 1, none⟩ = some (.int .i64 x183001_3) := (blk_cell BK182.out 1).trans rfl; have hcz40_2 : w37.cell? ⟨gb182, 2, none⟩ = some (.int .i64 x183002_3) := (blk_cell BK182.out 2).trans rfl; have hcz40_3 : w37.cell? ⟨gb182, 3, none⟩ = some (.int .i64 x183003_3) := (blk_cell BK182.out 3).trans rfl; have hcz40_4 : w37.cell? ⟨gb182, 4, none⟩ = some (.int .i64 x183004_3) := (blk_cell BK182.out 4).trans rfl; have hcz40_5 : w37.cell? ⟨gb182, 5, none⟩ = some (.int .i64 x183005_3) := (blk_cell BK182.out 5).trans rfl; have hcz40_6 : w37.cell? ⟨gb182, 6, none⟩ = some (.int .i64 x183006_3) := (blk_cell BK182.out 6).trans rfl; have hcz40_7 : w37.cell? ⟨gb182, 7, none⟩ = some (.int .i64 x183007_3) := (blk_cell BK182.out 7).trans rfl; have hfz40_0 := blk_frozen BK182.out 0; have hfz40_1 := blk_frozen BK182.out 1; have hfz40_2 := blk_frozen BK182.out 2; have hfz40_3 := blk_frozen BK182.out 3; have hfz40_4 := blk_frozen BK182.out 4; have hfz40_5 := blk_frozen BK182.out 5; have hfz40_6 := blk_frozen BK182.out 6; have hfz40_7 := blk_frozen BK182.out 7))
                refine gen_world (fun W' => W'.heap[gb198]? = some (.cells #[.int .i64 x5_3, .int .i64 0, .int .i64 0, .int .i64 0, .int .i64 0, .int .i64 0, .int .i64 0, .int .i64 (wrap64 ((Go.bits .and .i64 a0 255) - 256))] 32 (0, 0)) ∧ W'.heap[gb182]? = some (.cells #[.int .i64 x183000_3, .int .i64 x183001_3, .int .i64 x183002_3, .int .i64 x183003_3, .int .i64 x183004_3, .int .i64 x183005_3, .int .i64 x183006_3, .int .i64 x183007_3] 32 (0, 0)) ∧ Below w.heap.size w W') ⟨by (refine blk_put (cs := #[.int .i64 x5_3, .int .i64 0, .int .i64 0, .int .i64 0, .int .i64 0, .int .i64 0, .int .i64 0, .int .i64 (Go.bits .and .i64 a0 255)]) ?_ 7 _ rfl; refine blk_put (cs := #[.int .i64 x5_3, .int .i64 0, .int .i64 0, .int .i64 0, .int .i64 0, .int .i64 0, .int .i64 0, .int .i64 0]) ?_ 7 _ rfl; refine blk_put (cs := #[.int .i64 x5_3, .int .i64 0, .int .i64 0, .int .i64 0, .int .i64 0, .int .i64 0, .int .i64 0, .int .i64 0]) ?_ 6 _ rfl; refine blk_put (cs := #[.int .i64 x5_3, .int .i64 0, .int .i64 0, .int .i64 0, .int .i64 0, .int .i64 0, .int .i64 0, .int .i64 0]) ?_ 5 _ rfl; refine blk_put (cs := #[.int .i64 x5_3, .int .i64 0, .int .i64 0, .int .i64 0, .int .i64 0, .int .i64 0, .int .i64 0, .int .i64 0]) ?_ 4 _ rfl; refine blk_put (cs := #[.int .i64 x5_3, .int .i64 0, .int .i64 0, .int .i64 0, .int .i64 0, .int .i64 0, .int .i64 0, .int .i64 0]) ?_ 3 _ rfl; refine blk_put (cs := #[.int .i64 x5_3, .int .i64 0, .int .i64 0, .int .i64 0, .int .i64 0, .int .i64 0, .int .i64 0, .int .i64 0]) ?_ 2 _ rfl; refine blk_put (cs := #[.int .i64 x5_3, .int .i64 0, .int .i64 0, .int .i64 0, .int .i64 0, .int .i64 0, .int .i64 0, .int .i64 0]) ?_ 1 _ rfl; refine blk_put (cs := #[.int .i64 0, .int .i64 0, .int .i64 0, .int .i64 0, .int .i64 0, .int .i64 0, .int .i64 0, .int .i64 0]) ?_ 0 _ rfl; exact BK198.out), by (refine blk_far ?_ NB182_198.out _; refine blk_far ?_ NB182_198.out _; refine blk_far ?_ NB182_198.out _; refine blk_far ?_ NB182_198.out _; refine blk_far ?_ NB182_198.out _; refine blk_far ?_ NB182_198.out _; refine blk_far ?_ NB182_198.out _; refine blk_far ?_ NB182_198.out _; refine blk_far ?_ NB182_198.out _; exact BK182.out), by (with_reducible repeat (first | exact HB.out | refine below_set ?_ GE198.out))⟩ ?_
                clear BK198 BK182 HB
                rintro w50 ⟨b50, b51, b52⟩
                have BK198 := Aside0.mk b50
                have BK182 := Aside0.mk b51
                have HB := Aside0.mk b52
                clear b50 b51 b52
                have hcx50_0 : w50.cell? ⟨gb198, 0, none⟩ = some (.int .i64 x5_3) := (blk_cell BK198.out 0).trans rfl
                have hcx50_1 : w50.cell? ⟨gb198, 1, none⟩ = some (.int .i64 0) := (blk_cell BK198.out 1).trans rfl
                have hcx50_2 : w50.cell? ⟨gb198, 2, none⟩ = some (.int .i64 0) := (blk_cell BK198.out 2).trans rfl
                have hcx50_3 : w50.cell? ⟨gb198, 3, none⟩ = some (.int .i64 0) := (blk_cell BK198.out 3).trans rfl
                have hcx50_4 : w50.cell? ⟨gb198, 4, none⟩ = some (.int .i64 0) := (blk_cell BK198.out 4).trans rfl
                have hcx50_5 : w50.cell? ⟨gb198, 5, none⟩ = some (.int .i64 0) := (blk_cell BK198.out 5).trans rfl
                have hcx50_6 : w50.cell? ⟨gb198, 6, none⟩ = some (.int .i64 0) := (blk_cell BK198.out 6).trans rfl
                have hcx50_7 : w50.cell? ⟨gb198, 7, none⟩ = some (.int .i64 (wrap64 ((Go.bits .and .i64 a0 255) - 256))) := (blk_cell BK198.out 7).trans rfl
                have hcx51_0 : w50.cell? ⟨gb182, 0, none⟩ = some (.int .i64 x183000_3) := (blk_cell BK182.out 0).trans rfl
                have hcx51_1 : w50.cell? ⟨gb182, 1, none⟩ = some (.int .i64 x183001_3) := (blk_cell BK182.out 1).trans rfl
                have hcx51_2 : w50.cell? ⟨gb182, 2, none⟩ = some (.int .i64 x183002_3) := (blk_cell BK182.out 2).trans rfl
                have hcx51_3 : w50.cell? ⟨gb182, 3, none⟩ = some (.int .i64 x183003_3) := (blk_cell BK182.out 3).trans rfl
                have hcx51_4 : w50.cell? ⟨gb182, 4, none⟩ = some (.int .i64 x183004_3) := (blk_cell BK182.out 4).trans rfl
                have hcx51_5 : w50.cell? ⟨gb182, 5, none⟩ = some (.int .i64 x183005_3) := (blk_cell BK182.out 5).trans rfl
                have hcx51_6 : w50.cell? ⟨gb182, 6, none⟩ = some (.int .i64 x183006_3) := (blk_cell BK182.out 6).trans rfl
                have hcx51_7 : w50.cell? ⟨gb182, 7, none⟩ = some (.int .i64 x183007_3) := (blk_cell BK182.out 7).trans rfl
                have hfx50_0 := blk_frozen BK198.out 0
                have hfx51_0 := blk_frozen BK182.out 0
                have hfx50_1 := blk_frozen BK198.out 1
                have hfx51_1 := blk_frozen BK182.out 1
                have hfx50_2 := blk_frozen BK198.out 2
                have hfx51_2 := blk_frozen BK182.out 2
                have hfx50_3 := blk_frozen BK198.out 3
                have hfx51_3 := blk_frozen BK182.out 3
                have hfx50_4 := blk_frozen BK198.out 4
                have hfx51_4 := blk_frozen BK182.out 4
                have hfx50_5 := blk_frozen BK198.out 5
                have hfx51_5 := blk_frozen BK182.out 5
                have hfx50_6 := blk_frozen BK198.out 6
                have hfx51_6 := blk_frozen BK182.out 6
                have hfx50_7 := blk_frozen BK198.out 7
                have hfx51_7 := blk_frozen BK182.out 7
                go_wp2
                refine bodyPost_ret (results_cell_row rfl _ _ gb182 32 #[.int .i64 x5_3, .int .i64 0, .int .i64 0, .int .i64 0, .int .i64 0, .int .i64 0, .int .i64 0, .int .i64 (wrap64 ((Go.bits .and .i64 a0 255) - 256))] (0, 0) _ rfl ?hb_ Try.underlying32 rfl (by kernel_rfl)) rfl ?_
                (case hb_ => refine bk_ ?_; refine blk_put (cs := #[.int .i64 x5_3, .int .i64 0, .int .i64 0, .int .i64 0, .int .i64 0, .int .i64 0, .int .i64 0, .int .i64 x183007_3]) ?_ 7 _ rfl; refine bk_ ?_; refine blk_put (cs := #[.int .i64 x5_3, .int .i64 0, .int .i64 0, .int .i64 0, .int .i64 0, .int .i64 0, .int .i64 x183006_3, .int .i64 x183007_3]) ?_ 6 _ rfl; refine bk_ ?_; refine blk_put (cs := #[.int .i64 x5_3, .int .i64 0, .int .i64 0, .int .i64 0, .int .i64 0, .int .i64 x183005_3, .int .i64 x183006_3, .int .i64 x183007_3]) ?_ 5 _ rfl; refine bk_ ?_; refine blk_put (cs := #[.int .i64 x5_3, .int .i64 0, .int .i64 0, .int .i64 0, .int .i64 x183004_3, .int .i64 x183005_3, .int .i64 x183006_3, .int .i64 x183007_3]) ?_ 4 _ rfl; refine bk_ ?_; refine blk_put (cs := #[.int .i64 x5_3, .int .i64 0, .int .i64 0, .int .i64 x183003_3, .int .i64 x183004_3, .int .i64 x183005_3, .int .i64 x183006_3, .int .i64 x183007_3]) ?_ 3 _ rfl; refine bk_ ?_; refine blk_put (cs := #[.int .i64 x5_3, .int .i64 0, .int .i64 x183002_3, .int .i64 x183003_3, .int .i64 x183004_3, .int .i64 x183005_3, .int .i64 x183006_3, .int .i64 x183007_3]) ?_ 2 _ rfl; refine bk_ ?_; refine blk_put (cs := #[.int .i64 x5_3, .int .i64 x183001_3, .int .i64 x183002_3, .int .i64 x183003_3, .int .i64 x183004_3, .int .i64 x183005_3, .int .i64 x183006_3, .int .i64 x183007_3]) ?_ 1 _ rfl; refine bk_ ?_; refine blk_put (cs := #[.int .i64 x183000_3, .int .i64 x183001_3, .int .i64 x183002_3, .int .i64 x183003_3, .int .i64 x183004_3, .int .i64 x183005_3, .int .i64 x183006_3, .int .i64 x183007_3]) ?_ 0 _ rfl; refine bk_ ?_; exact BK182.out)
                exact rt_ (bw_ HB.out)
               ·rw [if_neg c35] at H
                have c35b0 : decide (127 < (Go.bits .and .i64 a0 255)) = false := decide_eq_false c35
                clear c35
                simp only [Option.some.injEq, Prod.mk.injEq] at H
                obtain ⟨rfl, rfl, rfl, rfl, rfl, rfl, rfl, rfl⟩ := H
                go_upto_region 26 with (first | ((with_reducible refine gate_callee (f := 43) rfl ?_); refine gL_ (some 70) Try.func43 #[.int .i64 x5_3] ?_; (with_reducible refine (spec_l4Base.calls x5_3 t197 _ A33.out).mono ?_); rintro e w41 ⟨rfl, hb⟩; refine ⟨_, rfl, ?_⟩; have n0_ := Aside0.mk (blk_below (bk_ BK182.out) hb); have n1_ := Aside0.mk (below_step (bw_ HB.out) hb); clear BK182; clear HB; have BK182 := n0_; have HB := n1_; clear n0_ n1_; (try clear hb); (try clear hb2); (try clear hk); (try clear hi)) | ((with_reducible refine gate_dst (N := 6) rfl ?_); refine box_event ?hg (N := 6) ?hd (cs := #[.int .i64 0, .int .i64 0, .int .i64 0, .int .i64 0, .int .i64 0, .int .i64 0, .int .i64 0, .int .i64 0]) (t := 32) ?hr ?_; (case hd => rfl); (case hg => rfl); (case hr => first | (go_simp; done) | (go_simp; rfl)); intro gb198 hg w42 hbox hb; have n0_ := Aside0.mk (blk_below (bk_ BK182.out) hb); have n1_ := Aside0.mk (below_step (bw_ HB.out) hb); have n2_ := Aside0.mk (hbox); have n3_ := Aside0.mk ((by rw [hg]; exact (below_size (bw_ HB.out)) : w.heap.size ≤ gb198)); have n4_ := n3_; have n5_ := Aside0.mk ((by rw [hg]; exact Nat.ne_of_lt (blk_lt (bk_ BK182.out)) : gb182 ≠ gb198)); have n6_ := Aside0.mk n5_.out.symm; clear BK182; clear HB; have BK182 := n0_; have HB := n1_; have BK198 := n2_; have GW198 := n3_; have GE198 := n4_; have GI198 := GeI.mk GE198.out; have NB182_198 := n5_; have NB198_182 := n6_; clear n0_ n1_ n2_ n3_ n4_ n5_ n6_; clear hb hbox hg; have hnb43 := NB198_182.out; have hnc43 := NB182_198.out; have hcz44_0 : w42.cell? ⟨gb198, 0, none⟩ = some (.int .i64 0) := (blk_cell BK198.out 0).trans rfl; have hcz44_1 : w42.cell? ⟨gb198, 1, none⟩ = some (.int .i64 0) := (blk_cell BK198.out 1).trans rfl; have hcz44_2 : w42.cell? ⟨gb198, 2, none⟩ = some (.int .i64 0) := (blk_cell BK198.out 2).trans rfl; have hcz44_3 : w42.cell? ⟨gb198, 3, none⟩ = some (.int .i64 0) := (blk_cell BK198.out 3).trans rfl; have hcz44_4 : w42.cell? ⟨gb198, 4, none⟩ = some (.int .i64 0) := (blk_cell BK198.out 4).trans rfl; have hcz44_5 : w42.cell? ⟨gb198, 5, none⟩ = some (.int .i64 0) := (blk_cell BK198.out 5).trans rfl; have hcz44_6 : w42.cell? ⟨gb198, 6, none⟩ = some (.int .i64 0) := (blk_cell BK198.out 6).trans rfl; have hcz44_7 : w42.cell? ⟨gb198, 7, none⟩ = some (.int .i64 0) := (blk_cell BK198.out 7).trans rfl; have hfz44_0 := blk_frozen BK198.out 0; have hfz44_1 := blk_frozen BK198.out 1; have hfz44_2 := blk_frozen BK198.out 2; have hfz44_3 := blk_frozen BK198.out 3; have hfz44_4 := blk_frozen BK198.out 4; have hfz44_5 := blk_frozen BK198.out 5; have hfz44_6 := blk_frozen BK198.out 6; have hfz44_7 := blk_frozen BK198.out 7; have hcz45_0 : w42.cell? ⟨gb182, 0, none⟩ = some (.int .i64 x183000_3) := (blk_cell BK182.out 0).trans rfl; have hcz45_1 : w42.cell? ⟨gb182, 1, none⟩ = some (.int .i64 x183001_3) := (blk_cell BK182.out 1).trans rfl; have hcz45_2 : w42.cell? ⟨gb182, 2, none⟩ = some (.int .i64 x183002_3) := (blk_cell BK182.out 2).trans rfl; have hcz45_3 : w42.cell? ⟨gb182, 3, none⟩ = some (.int .i64 x183003_3) := (blk_cell BK182.out 3).trans rfl; have hcz45_4 : w42.cell? ⟨gb182, 4, none⟩ = some (.int .i64 x183004_3) := (blk_cell BK182.out 4).trans rfl; have hcz45_5 : w42.cell? ⟨gb182, 5, none⟩ = some (.int .i64 x183005_3) := (blk_cell BK182.out 5).trans rfl; have hcz45_6 : w42.cell? ⟨gb182, 6, none⟩ = some (.int .i64 x183006_3) := (blk_cell BK182.out 6).trans rfl; have hcz45_7 : w42.cell? ⟨gb182, 7, none⟩ = some (.int .i64 x183007_3) := (blk_cell BK182.out 7).trans rfl; have hfz45_0 := blk_frozen BK182.out 0; have hfz45_1 := blk_frozen BK182.out 1; have hfz45_2 := blk_frozen BK182.out 2; have hfz45_3 := blk_frozen BK182.out 3; have hfz45_4 := blk_frozen BK182.out 4; have hfz45_5 := blk_frozen BK182.out 5; have hfz45_6 := blk_frozen BK182.out 6; have hfz45_7 := blk_frozen BK182.out 7))
                refine gen_world (fun W' => W'.heap[gb198]? = some (.cells #[.int .i64 x5_3, .int .i64 0, .int .i64 0, .int .i64 0, .int .i64 0, .int .i64 0, .int .i64 0, .int .i64 (Go.bits .and .i64 a0 255)] 32 (0, 0)) ∧ W'.heap[gb182]? = some (.cells #[.int .i64 x183000_3, .int .i64 x183001_3, .int .i64 x183002_3, .int .i64 x183003_3, .int .i64 x183004_3, .int .i64 x183005_3, .int .i64 x183006_3, .int .i64 x183007_3] 32 (0, 0)) ∧ Below w.heap.size w W') ⟨by (refine blk_put (cs := #[.int .i64 x5_3, .int .i64 0, .int .i64 0, .int .i64 0, .int .i64 0, .int .i64 0, .int .i64 0, .int .i64 0]) ?_ 7 _ rfl; refine blk_put (cs := #[.int .i64 x5_3, .int .i64 0, .int .i64 0, .int .i64 0, .int .i64 0, .int .i64 0, .int .i64 0, .int .i64 0]) ?_ 6 _ rfl; refine blk_put (cs := #[.int .i64 x5_3, .int .i64 0, .int .i64 0, .int .i64 0, .int .i64 0, .int .i64 0, .int .i64 0, .int .i64 0]) ?_ 5 _ rfl; refine blk_put (cs := #[.int .i64 x5_3, .int .i64 0, .int .i64 0, .int .i64 0, .int .i64 0, .int .i64 0, .int .i64 0, .int .i64 0]) ?_ 4 _ rfl; refine blk_put (cs := #[.int .i64 x5_3, .int .i64 0, .int .i64 0, .int .i64 0, .int .i64 0, .int .i64 0, .int .i64 0, .int .i64 0]) ?_ 3 _ rfl; refine blk_put (cs := #[.int .i64 x5_3, .int .i64 0, .int .i64 0, .int .i64 0, .int .i64 0, .int .i64 0, .int .i64 0, .int .i64 0]) ?_ 2 _ rfl; refine blk_put (cs := #[.int .i64 x5_3, .int .i64 0, .int .i64 0, .int .i64 0, .int .i64 0, .int .i64 0, .int .i64 0, .int .i64 0]) ?_ 1 _ rfl; refine blk_put (cs := #[.int .i64 0, .int .i64 0, .int .i64 0, .int .i64 0, .int .i64 0, .int .i64 0, .int .i64 0, .int .i64 0]) ?_ 0 _ rfl; exact BK198.out), by (refine blk_far ?_ NB182_198.out _; refine blk_far ?_ NB182_198.out _; refine blk_far ?_ NB182_198.out _; refine blk_far ?_ NB182_198.out _; refine blk_far ?_ NB182_198.out _; refine blk_far ?_ NB182_198.out _; refine blk_far ?_ NB182_198.out _; refine blk_far ?_ NB182_198.out _; exact BK182.out), by (with_reducible repeat (first | exact HB.out | refine below_set ?_ GE198.out))⟩ ?_
                clear BK198 BK182 HB
                rintro w50 ⟨b50, b51, b52⟩
                have BK198 := Aside0.mk b50
                have BK182 := Aside0.mk b51
                have HB := Aside0.mk b52
                clear b50 b51 b52
                have hcx50_0 : w50.cell? ⟨gb198, 0, none⟩ = some (.int .i64 x5_3) := (blk_cell BK198.out 0).trans rfl
                have hcx50_1 : w50.cell? ⟨gb198, 1, none⟩ = some (.int .i64 0) := (blk_cell BK198.out 1).trans rfl
                have hcx50_2 : w50.cell? ⟨gb198, 2, none⟩ = some (.int .i64 0) := (blk_cell BK198.out 2).trans rfl
                have hcx50_3 : w50.cell? ⟨gb198, 3, none⟩ = some (.int .i64 0) := (blk_cell BK198.out 3).trans rfl
                have hcx50_4 : w50.cell? ⟨gb198, 4, none⟩ = some (.int .i64 0) := (blk_cell BK198.out 4).trans rfl
                have hcx50_5 : w50.cell? ⟨gb198, 5, none⟩ = some (.int .i64 0) := (blk_cell BK198.out 5).trans rfl
                have hcx50_6 : w50.cell? ⟨gb198, 6, none⟩ = some (.int .i64 0) := (blk_cell BK198.out 6).trans rfl
                have hcx50_7 : w50.cell? ⟨gb198, 7, none⟩ = some (.int .i64 (Go.bits .and .i64 a0 255)) := (blk_cell BK198.out 7).trans rfl
                have hcx51_0 : w50.cell? ⟨gb182, 0, none⟩ = some (.int .i64 x183000_3) := (blk_cell BK182.out 0).trans rfl
                have hcx51_1 : w50.cell? ⟨gb182, 1, none⟩ = some (.int .i64 x183001_3) := (blk_cell BK182.out 1).trans rfl
                have hcx51_2 : w50.cell? ⟨gb182, 2, none⟩ = some (.int .i64 x183002_3) := (blk_cell BK182.out 2).trans rfl
                have hcx51_3 : w50.cell? ⟨gb182, 3, none⟩ = some (.int .i64 x183003_3) := (blk_cell BK182.out 3).trans rfl
                have hcx51_4 : w50.cell? ⟨gb182, 4, none⟩ = some (.int .i64 x183004_3) := (blk_cell BK182.out 4).trans rfl
                have hcx51_5 : w50.cell? ⟨gb182, 5, none⟩ = some (.int .i64 x183005_3) := (blk_cell BK182.out 5).trans rfl
                have hcx51_6 : w50.cell? ⟨gb182, 6, none⟩ = some (.int .i64 x183006_3) := (blk_cell BK182.out 6).trans rfl
                have hcx51_7 : w50.cell? ⟨gb182, 7, none⟩ = some (.int .i64 x183007_3) := (blk_cell BK182.out 7).trans rfl
                have hfx50_0 := blk_frozen BK198.out 0
                have hfx51_0 := blk_frozen BK182.out 0
                have hfx50_1 := blk_frozen BK198.out 1
                have hfx51_1 := blk_frozen BK182.out 1
                have hfx50_2 := blk_frozen BK198.out 2
                have hfx51_2 := blk_frozen BK182.out 2
                have hfx50_3 := blk_frozen BK198.out 3
                have hfx51_3 := blk_frozen BK182.out 3
                have hfx50_4 := blk_frozen BK198.out 4
                have hfx51_4 := blk_frozen BK182.out 4
                have hfx50_5 := blk_frozen BK198.out 5
                have hfx51_5 := blk_frozen BK182.out 5
                have hfx50_6 := blk_frozen BK198.out 6
                have hfx51_6 := blk_frozen BK182.out 6
                have hfx50_7 := blk_frozen BK198.out 7
                have hfx51_7 := blk_frozen BK182.out 7
                go_wp2
                refine bodyPost_ret (results_cell_row rfl _ _ gb182 32 #[.int .i64 x5_3, .int .i64 0, .int .i64 0, .int .i64 0, .int .i64 0, .int .i64 0, .int .i64 0, .int .i64 (Go.bits .and .i64 a0 255)] (0, 0) _ rfl ?hb_ Try.underlying32 rfl (by kernel_rfl)) rfl ?_
                (case hb_ => refine bk_ ?_; refine blk_put (cs := #[.int .i64 x5_3, .int .i64 0, .int .i64 0, .int .i64 0, .int .i64 0, .int .i64 0, .int .i64 0, .int .i64 x183007_3]) ?_ 7 _ rfl; refine bk_ ?_; refine blk_put (cs := #[.int .i64 x5_3, .int .i64 0, .int .i64 0, .int .i64 0, .int .i64 0, .int .i64 0, .int .i64 x183006_3, .int .i64 x183007_3]) ?_ 6 _ rfl; refine bk_ ?_; refine blk_put (cs := #[.int .i64 x5_3, .int .i64 0, .int .i64 0, .int .i64 0, .int .i64 0, .int .i64 x183005_3, .int .i64 x183006_3, .int .i64 x183007_3]) ?_ 5 _ rfl; refine bk_ ?_; refine blk_put (cs := #[.int .i64 x5_3, .int .i64 0, .int .i64 0, .int .i64 0, .int .i64 x183004_3, .int .i64 x183005_3, .int .i64 x183006_3, .int .i64 x183007_3]) ?_ 4 _ rfl; refine bk_ ?_; refine blk_put (cs := #[.int .i64 x5_3, .int .i64 0, .int .i64 0, .int .i64 x183003_3, .int .i64 x183004_3, .int .i64 x183005_3, .int .i64 x183006_3, .int .i64 x183007_3]) ?_ 3 _ rfl; refine bk_ ?_; refine blk_put (cs := #[.int .i64 x5_3, .int .i64 0, .int .i64 x183002_3, .int .i64 x183003_3, .int .i64 x183004_3, .int .i64 x183005_3, .int .i64 x183006_3, .int .i64 x183007_3]) ?_ 2 _ rfl; refine bk_ ?_; refine blk_put (cs := #[.int .i64 x5_3, .int .i64 x183001_3, .int .i64 x183002_3, .int .i64 x183003_3, .int .i64 x183004_3, .int .i64 x183005_3, .int .i64 x183006_3, .int .i64 x183007_3]) ?_ 1 _ rfl; refine bk_ ?_; refine blk_put (cs := #[.int .i64 x183000_3, .int .i64 x183001_3, .int .i64 x183002_3, .int .i64 x183003_3, .int .i64 x183004_3, .int .i64 x183005_3, .int .i64 x183006_3, .int .i64 x183007_3]) ?_ 0 _ rfl; refine bk_ ?_; exact BK182.out)
                exact rt_ (bw_ HB.out)
              ·rw [if_neg c34] at H
               have c34b0 : ((Go.bits .and .i64 a0 65280) == t197) = false := beq_eq_false_iff_ne.mpr c34
               have c34b1 : ((Go.bits .and .i64 a0 65280) != t197) = true := bne_iff_ne.mpr c34
               have H' := Aside0.mk H
               clear H
               go_wp2_with (first | ((with_reducible refine gate_callee (f := 43) rfl ?_); refine gL_ (some 70) Try.func43 #[.int .i64 x5_3] ?_; (with_reducible refine (spec_l4Base.calls x5_3 t197 _ A33.out).mono ?_); rintro e w46 ⟨rfl, hb⟩; refine ⟨_, rfl, ?_⟩; have n0_ := Aside0.mk (blk_below (bk_ BK182.out) hb); have n1_ := Aside0.mk (below_step (bw_ HB.out) hb); clear BK182; clear HB; have BK182 := n0_; have HB := n1_; clear n0_ n1_; (try clear hb); (try clear hb2); (try clear hk); (try clear hi)))
               go_roundg k3
               case measure => have := HK1.out; have := HK2.out; have := HK3.out; omega
               case rel => exact ⟨(wrap64 (x5_3 + 1)), (x183000_3), (x183001_3), (x183002_3), (x183003_3), (x183004_3), (x183005_3), (x183006_3), (x183007_3), (by first | rfl | (simp; done) | (simp [*]; done) | (simp [wrap64]; done)), H', ⟨by have := HK1.out; have := HK2.out; have := HK3.out; omega⟩, ⟨by refine bk_ ?_; exact BK182.out⟩, ⟨bw_ HB.out⟩⟩
             ·rw [if_neg c32] at H
              have c32b0 : decide (x5_3 ≤ 21) = false := decide_eq_false c32
              clear c32
              simp only [Option.some.injEq, Prod.mk.injEq] at H
              obtain ⟨rfl, rfl, rfl, rfl, rfl, rfl, rfl, rfl⟩ := H
              obtain ⟨hcz47_0, hcz47_1, hcz47_2, hcz47_3, hcz47_4, hcz47_5, hcz47_6, hcz47_7, hfz47_0, hfz47_1, hfz47_2, hfz47_3, hfz47_4, hfz47_5, hfz47_6, hfz47_7⟩ := cz8_ BK182.out
              go_wp2
              refine bodyPost_ret (results_cell_row rfl _ _ gb182 32 #[.int .i64 0, .int .i64 0, .int .i64 0, .int .i64 0, .int .i64 0, .int .i64 0, .int .i64 0, .int .i64 0] (0, 0) _ rfl ?hb_ Try.underlying32 rfl (by kernel_rfl)) rfl ?_
              (case hb_ => refine bk_ ?_; refine blk_put (cs := #[.int .i64 0, .int .i64 0, .int .i64 0, .int .i64 0, .int .i64 0, .int .i64 0, .int .i64 0, .int .i64 x183007_3]) ?_ 7 _ rfl; refine bk_ ?_; refine blk_put (cs := #[.int .i64 0, .int .i64 0, .int .i64 0, .int .i64 0, .int .i64 0, .int .i64 0, .int .i64 x183006_3, .int .i64 x183007_3]) ?_ 6 _ rfl; refine bk_ ?_; refine blk_put (cs := #[.int .i64 0, .int .i64 0, .int .i64 0, .int .i64 0, .int .i64 0, .int .i64 x183005_3, .int .i64 x183006_3, .int .i64 x183007_3]) ?_ 5 _ rfl; refine bk_ ?_; refine blk_put (cs := #[.int .i64 0, .int .i64 0, .int .i64 0, .int .i64 0, .int .i64 x183004_3, .int .i64 x183005_3, .int .i64 x183006_3, .int .i64 x183007_3]) ?_ 4 _ rfl; refine bk_ ?_; refine blk_put (cs := #[.int .i64 0, .int .i64 0, .int .i64 0, .int .i64 x183003_3, .int .i64 x183004_3, .int .i64 x183005_3, .int .i64 x183006_3, .int .i64 x183007_3]) ?_ 3 _ rfl; refine bk_ ?_; refine blk_put (cs := #[.int .i64 0, .int .i64 0, .int .i64 x183002_3, .int .i64 x183003_3, .int .i64 x183004_3, .int .i64 x183005_3, .int .i64 x183006_3, .int .i64 x183007_3]) ?_ 2 _ rfl; refine bk_ ?_; refine blk_put (cs := #[.int .i64 0, .int .i64 x183001_3, .int .i64 x183002_3, .int .i64 x183003_3, .int .i64 x183004_3, .int .i64 x183005_3, .int .i64 x183006_3, .int .i64 x183007_3]) ?_ 1 _ rfl; refine bk_ ?_; refine blk_put (cs := #[.int .i64 x183000_3, .int .i64 x183001_3, .int .i64 x183002_3, .int .i64 x183003_3, .int .i64 x183004_3, .int .i64 x183005_3, .int .i64 x183006_3, .int .i64 x183007_3]) ?_ 0 _ rfl; refine bk_ ?_; exact BK182.out)
              exact rt_ (bw_ HB.out)

end Go.Proofs.Ytajkjkdfcegdpaa.PFnCodes
