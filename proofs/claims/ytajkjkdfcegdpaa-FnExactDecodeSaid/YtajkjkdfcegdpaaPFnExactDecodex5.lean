-- Laid by a program of this session (a changed copy of the kit's printer); Lean checks every line.
import Derived.Test.YtajkjkdfcegdpaaPFnExactDecodex0
import Derived.Test.YtajkjkdfcegdpaaPFnExactDecodex2
import Derived.Test.YtajkjkdfcegdpaaPFnExactDecodex3
import Derived.Test.YtajkjkdfcegdpaaPFnExactDecodex4
namespace Go.Proofs.Ytajkjkdfcegdpaa.PFnExactDecode
open Go.RowKit Go.Proofs.YtajkjkdfcegdpaaW.PrintWords Go.Proofs.YtajkjkdfcegdpaaW.PrintLast Go.Proofs.YtajkjkdfcegdpaaW.PrintMore
attribute [local go_sem] max2_int min2_int max_two min_two max_three min_three max_four min_four   -- for this text's walks alone
set_option linter.unusedVariables false
set_option linter.unusedSimpArgs false

/-! ### spec_Decode: function 26 -/
mutual
def spec_Decode.j0 : Nat → List Int → Int → Bool → Option (Int × Int × Int × Int × Int × Int × Int × Int × Int × Bool)
  | 0, _, _, _ => none
  | k + 1, x0, x1, x22 => if x22 = true then (some (0, 0, 0, 0, 0, 0, 0, 0, 0, false)) else (if 0 ≤ x1 then (if x1 < (x0.length : Int) then ((spec_l4Op.f k (rd x0 x1)).bind fun bt153 => (if bt153.1 ≤ 6 then ((spec_HasX.f bt153.2.1 bt153.2.2.1 bt153.2.2.2.1).bind fun t162 => (spec_Decode.j1 k x0 x1 (wrap64 (x1 + 1)) t162 bt153.1 bt153.2.1 bt153.2.2.1 bt153.2.2.2.1 bt153.2.2.2.2.1 bt153.2.2.2.2.2.1 bt153.2.2.2.2.2.2.1 bt153.2.2.2.2.2.2.2)) else (spec_Decode.j1 k x0 x1 (wrap64 (x1 + 1)) false bt153.1 bt153.2.1 bt153.2.2.1 bt153.2.2.2.1 bt153.2.2.2.2.1 bt153.2.2.2.2.2.1 bt153.2.2.2.2.2.2.1 bt153.2.2.2.2.2.2.2))) else (none)) else (none))
def spec_Decode.j1 : Nat → List Int → Int → Int → Bool → Int → Int → Int → Int → Int → Int → Int → Int → Option (Int × Int × Int × Int × Int × Int × Int × Int × Int × Bool)
  | 0, _, _, _, _, _, _, _, _, _, _, _, _ => none
  | k + 1, x0, x1, x8, x38, x162000, x162001, x162002, x162003, x162004, x162005, x162006, x162007 => if x38 = true then (if x8 ≥ (x0.length : Int) then (some (0, 0, 0, 0, 0, 0, 0, 0, 0, false)) else (if 0 ≤ x8 then (if x8 < (x0.length : Int) then (spec_Decode.j2 k x0 x1 (wrap64 (x8 + 1)) x162000 x162001 x162002 (rd x0 x8) x162004 x162005 x162006 x162007) else (none)) else (none))) else (spec_Decode.j2 k x0 x1 x8 x162000 x162001 x162002 x162003 x162004 x162005 x162006 x162007)
def spec_Decode.j2 : Nat → List Int → Int → Int → Int → Int → Int → Int → Int → Int → Int → Int → Option (Int × Int × Int × Int × Int × Int × Int × Int × Int × Bool)
  | 0, _, _, _, _, _, _, _, _, _, _, _ => none
  | k + 1, x0, x1, x8, x162000, x162001, x162002, x162003, x162004, x162005, x162006, x162007 => if x162000 ≤ 15 then ((spec_HasX.f x162004 x162005 x162006).bind fun t164 => (spec_Decode.j3 k x0 x1 x8 t164 x162000 x162001 x162002 x162003 x162004 x162005 x162006 x162007)) else (spec_Decode.j3 k x0 x1 x8 false x162000 x162001 x162002 x162003 x162004 x162005 x162006 x162007)
def spec_Decode.j3 : Nat → List Int → Int → Int → Bool → Int → Int → Int → Int → Int → Int → Int → Int → Option (Int × Int × Int × Int × Int × Int × Int × Int × Int × Bool)
  | 0, _, _, _, _, _, _, _, _, _, _, _, _ => none
  | k + 1, x0, x1, x8, x59, x162000, x162001, x162002, x162003, x162004, x162005, x162006, x162007 => if x59 = true then (if x8 ≥ (x0.length : Int) then (some (0, 0, 0, 0, 0, 0, 0, 0, 0, false)) else (if 0 ≤ x8 then (if x8 < (x0.length : Int) then ((spec_InsOk.f k x162000 x162001 x162002 x162003 x162004 x162005 (rd x0 x8) x162007).bind fun t166 => (if t166 = true then (some (x162000, x162001, x162002, x162003, x162004, x162005, rd x0 x8, x162007, wrap64 ((wrap64 (x8 + 1)) - x1), true)) else (some (0, 0, 0, 0, 0, 0, 0, 0, 0, false)))) else (none)) else (none))) else ((spec_InsOk.f k x162000 x162001 x162002 x162003 x162004 x162005 x162006 x162007).bind fun t167 => (if t167 = true then (some (x162000, x162001, x162002, x162003, x162004, x162005, x162006, x162007, wrap64 (x8 - x1), true)) else (some (0, 0, 0, 0, 0, 0, 0, 0, 0, false))))
end
def spec_Decode.f (k : Nat) (l0 : List Int) (a1 : Int) : Option (Int × Int × Int × Int × Int × Int × Int × Int × Int × Bool) := (spec_l1In.f a1 0 (wrap64 ((l0.length : Int) - 1))).bind fun t149 => (if t149 = true then (if 0 ≤ a1 then (if a1 < (l0.length : Int) then ((spec_l1In.f (rd l0 a1) 0 65535).bind fun t151 => (spec_Decode.j0 k l0 a1 (!t151))) else (none)) else (none)) else (spec_Decode.j0 k l0 a1 true))
theorem spec_Decode.mono_l : ∀ k, (∀ y0 y1 y2, LeO (spec_Decode.j0 k y0 y1 y2) (spec_Decode.j0 (k + 1) y0 y1 y2)) ∧ (∀ y0 y1 y2 y3 y4 y5 y6 y7 y8 y9 y10 y11, LeO (spec_Decode.j1 k y0 y1 y2 y3 y4 y5 y6 y7 y8 y9 y10 y11) (spec_Decode.j1 (k + 1) y0 y1 y2 y3 y4 y5 y6 y7 y8 y9 y10 y11)) ∧ (∀ y0 y1 y2 y3 y4 y5 y6 y7 y8 y9 y10, LeO (spec_Decode.j2 k y0 y1 y2 y3 y4 y5 y6 y7 y8 y9 y10) (spec_Decode.j2 (k + 1) y0 y1 y2 y3 y4 y5 y6 y7 y8 y9 y10)) ∧ (∀ y0 y1 y2 y3 y4 y5 y6 y7 y8 y9 y10 y11, LeO (spec_Decode.j3 k y0 y1 y2 y3 y4 y5 y6 y7 y8 y9 y10 y11) (spec_Decode.j3 (k + 1) y0 y1 y2 y3 y4 y5 y6 y7 y8 y9 y10 y11))
  | 0 => ⟨fun _ _ _ r h => by simp [spec_Decode.j0] at h, fun _ _ _ _ _ _ _ _ _ _ _ _ r h => by simp [spec_Decode.j1] at h, fun _ _ _ _ _ _ _ _ _ _ _ r h => by simp [spec_Decode.j2] at h, fun _ _ _ _ _ _ _ _ _ _ _ _ r h => by simp [spec_Decode.j3] at h⟩
  | k + 1 => by
    obtain ⟨ih0, ih1, ih2, ih3⟩ := spec_Decode.mono_l k
    refine ⟨?_, ?_, ?_, ?_⟩
    · intro y0 y1 y2
      unfold spec_Decode.j0
      repeat' first
      | (with_reducible exact ih0 _ _ _)
      | (with_reducible exact ih1 _ _ _ _ _ _ _ _ _ _ _ _)
      | (with_reducible exact ih2 _ _ _ _ _ _ _ _ _ _ _)
      | (with_reducible exact ih3 _ _ _ _ _ _ _ _ _ _ _ _)
      | (with_reducible exact spec_InsOk.mono _ _ _ _ _ _ _ _ _)
      | (with_reducible exact spec_l4Op.mono _ _)
      | (with_reducible exact LeO.refl _)
      | (with_reducible exact LeO.none _)
      | (with_reducible refine LeO.ite ?_ ?_)
      | (with_reducible refine LeO.bind ?_ (fun _ => ?_))
      | exact ih0 _ _ _
      | exact ih1 _ _ _ _ _ _ _ _ _ _ _ _
      | exact ih2 _ _ _ _ _ _ _ _ _ _ _
      | exact ih3 _ _ _ _ _ _ _ _ _ _ _ _
      | exact spec_InsOk.mono _ _ _ _ _ _ _ _ _
      | exact spec_l4Op.mono _ _
      | exact LeO.none _
      | refine LeO.ite ?_ ?_
      | refine LeO.bind ?_ (fun _ => ?_)
    · intro y0 y1 y2 y3 y4 y5 y6 y7 y8 y9 y10 y11
      unfold spec_Decode.j1
      repeat' first
      | (with_reducible exact ih0 _ _ _)
      | (with_reducible exact ih1 _ _ _ _ _ _ _ _ _ _ _ _)
      | (with_reducible exact ih2 _ _ _ _ _ _ _ _ _ _ _)
      | (with_reducible exact ih3 _ _ _ _ _ _ _ _ _ _ _ _)
      | (with_reducible exact spec_InsOk.mono _ _ _ _ _ _ _ _ _)
      | (with_reducible exact spec_l4Op.mono _ _)
      | (with_reducible exact LeO.refl _)
      | (with_reducible exact LeO.none _)
      | (with_reducible refine LeO.ite ?_ ?_)
      | (with_reducible refine LeO.bind ?_ (fun _ => ?_))
      | exact ih0 _ _ _
      | exact ih1 _ _ _ _ _ _ _ _ _ _ _ _
      | exact ih2 _ _ _ _ _ _ _ _ _ _ _
      | exact ih3 _ _ _ _ _ _ _ _ _ _ _ _
      | exact spec_InsOk.mono _ _ _ _ _ _ _ _ _
      | exact spec_l4Op.mono _ _
      | exact LeO.none _
      | refine LeO.ite ?_ ?_
      | refine LeO.bind ?_ (fun _ => ?_)
    · intro y0 y1 y2 y3 y4 y5 y6 y7 y8 y9 y10
      unfold spec_Decode.j2
      repeat' first
      | (with_reducible exact ih0 _ _ _)
      | (with_reducible exact ih1 _ _ _ _ _ _ _ _ _ _ _ _)
      | (with_reducible exact ih2 _ _ _ _ _ _ _ _ _ _ _)
      | (with_reducible exact ih3 _ _ _ _ _ _ _ _ _ _ _ _)
      | (with_reducible exact spec_InsOk.mono _ _ _ _ _ _ _ _ _)
      | (with_reducible exact spec_l4Op.mono _ _)
      | (with_reducible exact LeO.refl _)
      | (with_reducible exact LeO.none _)
      | (with_reducible refine LeO.ite ?_ ?_)
      | (with_reducible refine LeO.bind ?_ (fun _ => ?_))
      | exact ih0 _ _ _
      | exact ih1 _ _ _ _ _ _ _ _ _ _ _ _
      | exact ih2 _ _ _ _ _ _ _ _ _ _ _
      | exact ih3 _ _ _ _ _ _ _ _ _ _ _ _
      | exact spec_InsOk.mono _ _ _ _ _ _ _ _ _
      | exact spec_l4Op.mono _ _
      | exact LeO.none _
      | refine LeO.ite ?_ ?_
      | refine LeO.bind ?_ (fun _ => ?_)
    · intro y0 y1 y2 y3 y4 y5 y6 y7 y8 y9 y10 y11
      unfold spec_Decode.j3
      repeat' first
      | (with_reducible exact ih0 _ _ _)
      | (with_reducible exact ih1 _ _ _ _ _ _ _ _ _ _ _ _)
      | (with_reducible exact ih2 _ _ _ _ _ _ _ _ _ _ _)
      | (with_reducible exact ih3 _ _ _ _ _ _ _ _ _ _ _ _)
      | (with_reducible exact spec_InsOk.mono _ _ _ _ _ _ _ _ _)
      | (with_reducible exact spec_l4Op.mono _ _)
      | (with_reducible exact LeO.refl _)
      | (with_reducible exact LeO.none _)
      | (with_reducible refine LeO.ite ?_ ?_)
      | (with_reducible refine LeO.bind ?_ (fun _ => ?_))
      | exact ih0 _ _ _
      | exact ih1 _ _ _ _ _ _ _ _ _ _ _ _
      | exact ih2 _ _ _ _ _ _ _ _ _ _ _
      | exact ih3 _ _ _ _ _ _ _ _ _ _ _ _
      | exact spec_InsOk.mono _ _ _ _ _ _ _ _ _
      | exact spec_l4Op.mono _ _
      | exact LeO.none _
      | refine LeO.ite ?_ ?_
      | refine LeO.bind ?_ (fun _ => ?_)
theorem spec_Decode.mono : ∀ a0 a1 k, LeO (spec_Decode.f k a0 a1) (spec_Decode.f (k + 1) a0 a1) := by
  intro a0 a1 k
  obtain ⟨ih0, ih1, ih2, ih3⟩ := spec_Decode.mono_l k
  unfold spec_Decode.f
  repeat' first
      | (with_reducible exact ih0 _ _ _)
      | (with_reducible exact ih1 _ _ _ _ _ _ _ _ _ _ _ _)
      | (with_reducible exact ih2 _ _ _ _ _ _ _ _ _ _ _)
      | (with_reducible exact ih3 _ _ _ _ _ _ _ _ _ _ _ _)
      | (with_reducible exact spec_InsOk.mono _ _ _ _ _ _ _ _ _)
      | (with_reducible exact spec_l4Op.mono _ _)
      | (with_reducible exact LeO.refl _)
      | (with_reducible exact LeO.none _)
      | (with_reducible refine LeO.ite ?_ ?_)
      | (with_reducible refine LeO.bind ?_ (fun _ => ?_))
      | exact ih0 _ _ _
      | exact ih1 _ _ _ _ _ _ _ _ _ _ _ _
      | exact ih2 _ _ _ _ _ _ _ _ _ _ _
      | exact ih3 _ _ _ _ _ _ _ _ _ _ _ _
      | exact spec_InsOk.mono _ _ _ _ _ _ _ _ _
      | exact spec_l4Op.mono _ _
      | exact LeO.none _
      | refine LeO.ite ?_ ?_
      | refine LeO.bind ?_ (fun _ => ?_)
set_option maxHeartbeats 8000000 in
set_option maxRecDepth 100000 in
theorem spec_Decode.calls (k : Nat) (A0 : Option Addr) (c0 : Nat) (l0 : List Int) (a1 : Int) (r1 : Int) (r2 : Int) (r3 : Int) (r4 : Int) (r5 : Int) (r6 : Int) (r7 : Int) (r8 : Int) (r9 : Int) (r10 : Bool) (w : World) (hr0 : Kd.C (Kd.int .i64) w A0 l0.length l0) (hc0 : l0.length ≤ c0) (h : spec_Decode.f k l0 a1 = some (r1, r2, r3, r4, r5, r6, r7, r8, r9, r10)) :
    Calls Try.prog 26 #[.slice A0 l0.length c0, .int .i64 a1] w fun e w' => e = .returned (.tuple #[.agg #[.int .i64 r1, .int .i64 r2, .int .i64 r3, .int .i64 r4, .int .i64 r5, .int .i64 r6, .int .i64 r7, .int .i64 r8], .int .i64 r9, .bool r10]) ∧ Below w.heap.size w w' := by
  have hu32 := Try.underlying32
  have hu25 := Try.underlying25
  have HR0 := Aside0.mk hr0
  have HC0 := Aside0.mk hc0
  clear hr0 hc0
  have HB := Aside0.mk (Below.refl w.heap.size w)
  have H : ((spec_l1In.f a1 0 (wrap64 ((l0.length : Int) - 1))).bind fun t149 => (if t149 = true then (if 0 ≤ a1 then (if a1 < (l0.length : Int) then ((spec_l1In.f (rd l0 a1) 0 65535).bind fun t151 => (spec_Decode.j0 k l0 a1 (!t151))) else (none)) else (none)) else (spec_Decode.j0 k l0 a1 true))) = some (r1, r2, r3, r4, r5, r6, r7, r8, r9, r10) := h
  clear h
  have HC3 := Aside0.mk H
  clear H
  go_enter Try.func26, Try.ntmps26
  go_upto_region 1 with (first | ((with_reducible refine gate_dst (N := 4) rfl ?_); refine box_event ?hg (N := 4) ?hd (cs := #[.int .i64 0, .int .i64 0, .int .i64 0, .int .i64 0, .int .i64 0, .int .i64 0, .int .i64 0, .int .i64 0]) (t := 32) ?hr ?_; (case hd => rfl); (case hg => rfl); (case hr => first | (go_simp; done) | (go_simp; rfl)); intro gb148 hg w4 hbox hb; have n0_ := Aside0.mk (below_step (by repeat (first | (with_reducible first | exact HB.out | apply below_alloc | apply pw_below_drewN | apply below_drew1) | exact HB.out)) hb); have n1_ := Aside0.mk (hbox); have n2_ := Aside0.mk ((by rw [hg]; exact (below_size (by repeat (first | (with_reducible first | exact HB.out | apply below_alloc | apply pw_below_drewN | apply below_drew1) | exact HB.out))) : w.heap.size ≤ gb148)); have n3_ := Aside0.mk ((by rw [hg]; exact (below_size (by repeat (first | (with_reducible first | exact HB.out | apply below_alloc | apply pw_below_drewN | apply below_drew1) | exact HB.out))) : w.heap.size ≤ gb148)); clear HB; have HB := n0_; have BK148 := n1_; have GW148 := n2_; have GE148 := n3_; clear n0_ n1_ n2_ n3_; clear hb hbox hg))
  (try simp only [Act.put, List.setIfInBounds_toArray, List.set_cons_zero, List.set_cons_succ])
  go_cut [22] (fun v22 wc => ∃ (kq : Nat) (x22_2 : Bool), v22 = .bool x22_2 ∧ Aside0 (spec_Decode.j0 kq l0 a1 x22_2 = some (r1, r2, r3, r4, r5, r6, r7, r8, r9, r10)) ∧ Aside0 (kq ≤ k) ∧ Aside0 (wc.heap[gb148]? = some (.cells #[.int .i64 0, .int .i64 0, .int .i64 0, .int .i64 0, .int .i64 0, .int .i64 0, .int .i64 0, .int .i64 0] 32 (0, 0))) ∧ Aside0 (Below w.heap.size w wc))
  case first =>
    have H := HC3.out
    clear HC3
    replace H := Option.bind_eq_some_iff.mp H
    obtain ⟨t149, A50, H⟩ := H
    try dsimp only at H
    have A5 := Aside0.mk A50
    clear A50
    by_cases c6 : t149 = true
    · subst c6
      have H1 : (if 0 ≤ a1 then (if a1 < (l0.length : Int) then ((spec_l1In.f (rd l0 a1) 0 65535).bind fun t151 => (spec_Decode.j0 k l0 a1 (!t151))) else (none)) else (none)) = some (r1, r2, r3, r4, r5, r6, r7, r8, r9, r10) := by rw [if_pos rfl] at H; exact H
      clear H
      have H := H1
      clear H1
      by_cases c7 : 0 ≤ a1
      · rw [if_pos c7] at H
        have c7b0 : decide (0 ≤ a1) = true := decide_eq_true c7
        clear c7
        (first | rw [c7b0] | (simp only [i64_w, i32_w]; rw [c7b0]) | skip)
        by_cases c8 : a1 < (l0.length : Int)
        · rw [if_pos c8] at H
          have c8b0 : decide (a1 < (l0.length : Int)) = true := decide_eq_true c8
          clear c8
          replace H := Option.bind_eq_some_iff.mp H
          obtain ⟨t151, A90, H⟩ := H
          try dsimp only at H
          have A9 := Aside0.mk A90
          clear A90
          have H' := Aside0.mk H
          clear H
          go_wp2_with (first | ((with_reducible refine gate_callee (f := 35) rfl ?_); refine goesL_ (some 13) rfl rfl Try.func35 (by kernel_rfl) rfl #[.int .i64 a1, .int .i64 0, .int .i64 (wrap64 ((l0.length : Int) - 1))] rfl (by (try simp only [List.map_toArray, List.map_cons, List.map_nil]); first | done | rfl | (simp only [List.length_drop, List.length_take]; rfl)) ?_; (with_reducible refine (spec_l1In.calls a1 0 (wrap64 ((l0.length : Int) - 1)) true _ A5.out).mono ?_); rintro e w' ⟨rfl, ⟨nd, rfl⟩⟩; refine ⟨_, rfl, ?_⟩; have p150 : 0 ≤ (a1 : Int) := of_decide_eq_true (by first | (with_reducible assumption) | assumption); have q150 : a1 < (l0.length : Int) := of_decide_eq_true (by first | (with_reducible assumption) | assumption); obtain ⟨ad150, e150, hx150_0⟩ := Kd.at_int HR0.out a1 p150 q150; cases e150; replace hx150_0 := (HB.out.cell (World.block_lt_of_cell? w _ hx150_0)).trans hx150_0; replace p150 := eq_true p150; replace q150 := eq_true q150) | (go_at_call 35; (with_reducible refine (spec_l1In.calls (rd l0 a1) 0 65535 t151 _ A9.out).mono ?_); rintro e w' ⟨rfl, ⟨nd, rfl⟩⟩))
          go_meet
          case rel => exact ⟨_, (!t151), (by first | rfl | (simp; done) | (simp [*]; done) | (simp [wrap64]; done)), H', ⟨by first | omega | exact Nat.le_refl _⟩, ⟨by (with_reducible repeat (first | refine blk_drewN ?_ _ | refine blk_drew ?_ | refine blk_alloc ?_ _)); exact BK148.out⟩, ⟨by repeat (first | (with_reducible first | exact HB.out | apply below_alloc | apply pw_below_drewN | apply below_drew1 | refine below_set ?_ GE148.out) | exact HB.out)⟩⟩
        · rw [if_neg c8] at H
          exact absurd H (by simp)
      · rw [if_neg c7] at H
        exact absurd H (by simp)
    · replace c6 := Bool.eq_false_iff.mpr c6
      subst c6
      have H1 : (spec_Decode.j0 k l0 a1 true) = some (r1, r2, r3, r4, r5, r6, r7, r8, r9, r10) := by rw [if_neg (show ¬ (false = true) by decide)] at H; exact H
      clear H
      have H := H1
      clear H1
      have H' := Aside0.mk H
      clear H
      go_wp2_with (first | ((with_reducible refine gate_callee (f := 35) rfl ?_); refine goesL_ (some 13) rfl rfl Try.func35 (by kernel_rfl) rfl #[.int .i64 a1, .int .i64 0, .int .i64 (wrap64 ((l0.length : Int) - 1))] rfl (by (try simp only [List.map_toArray, List.map_cons, List.map_nil]); first | done | rfl | (simp only [List.length_drop, List.length_take]; rfl)) ?_; (with_reducible refine (spec_l1In.calls a1 0 (wrap64 ((l0.length : Int) - 1)) false _ A5.out).mono ?_); rintro e w' ⟨rfl, ⟨nd, rfl⟩⟩; refine ⟨_, rfl, ?_⟩))
      go_meet
      case rel => exact ⟨_, (true), (by first | rfl | (simp; done) | (simp [*]; done) | (simp [wrap64]; done)), H', ⟨by first | omega | exact Nat.le_refl _⟩, ⟨by (with_reducible repeat (first | refine blk_drewN ?_ _ | refine blk_drew ?_ | refine blk_alloc ?_ _)); exact BK148.out⟩, ⟨by repeat (first | (with_reducible first | exact HB.out | apply below_alloc | apply pw_below_drewN | apply below_drew1 | refine below_set ?_ GE148.out) | exact HB.out)⟩⟩
  case rest =>
    clear HC3
    try clear p1
    try clear q1
    try clear hx1
    try clear c2
    try clear p2
    try clear c3
    try clear c6
    try clear p6
    try clear c7
    try clear c7b0
    try clear c8
    try clear c8b0
    try clear hx150_0
    try clear p150
    try clear q150
    obtain ⟨kq, x22_2, rfl, HA, HJ2, BK148, HB⟩ := hcut
    cases kq with
    | zero => exact absurd HA.out (by simp [spec_Decode.j0])
    | succ kj2 =>
      have H := HA.out
      clear HA
      simp only [spec_Decode.j0] at H
      by_cases c10 : x22_2 = true
      · subst c10
        have H1 : (some (0, 0, 0, 0, 0, 0, 0, 0, 0, false)) = some (r1, r2, r3, r4, r5, r6, r7, r8, r9, r10) := by rw [if_pos rfl] at H; exact H
        clear H
        have H := H1
        clear H1
        simp only [Option.some.injEq, Prod.mk.injEq] at H
        obtain ⟨rfl, rfl, rfl, rfl, rfl, rfl, rfl, rfl, rfl, rfl⟩ := H
        have hcz11_0 : wc.cell? ⟨gb148, 0, none⟩ = some (.int .i64 0) := (blk_cell BK148.out 0).trans rfl
        have hcz11_1 : wc.cell? ⟨gb148, 1, none⟩ = some (.int .i64 0) := (blk_cell BK148.out 1).trans rfl
        have hcz11_2 : wc.cell? ⟨gb148, 2, none⟩ = some (.int .i64 0) := (blk_cell BK148.out 2).trans rfl
        have hcz11_3 : wc.cell? ⟨gb148, 3, none⟩ = some (.int .i64 0) := (blk_cell BK148.out 3).trans rfl
        have hcz11_4 : wc.cell? ⟨gb148, 4, none⟩ = some (.int .i64 0) := (blk_cell BK148.out 4).trans rfl
        have hcz11_5 : wc.cell? ⟨gb148, 5, none⟩ = some (.int .i64 0) := (blk_cell BK148.out 5).trans rfl
        have hcz11_6 : wc.cell? ⟨gb148, 6, none⟩ = some (.int .i64 0) := (blk_cell BK148.out 6).trans rfl
        have hcz11_7 : wc.cell? ⟨gb148, 7, none⟩ = some (.int .i64 0) := (blk_cell BK148.out 7).trans rfl
        have hfz11_0 := blk_frozen BK148.out 0
        have hfz11_1 := blk_frozen BK148.out 1
        have hfz11_2 := blk_frozen BK148.out 2
        have hfz11_3 := blk_frozen BK148.out 3
        have hfz11_4 := blk_frozen BK148.out 4
        have hfz11_5 := blk_frozen BK148.out 5
        have hfz11_6 := blk_frozen BK148.out 6
        have hfz11_7 := blk_frozen BK148.out 7
        go_wp2
        refine bodyPost_ret (results_ctt rfl _ _ gb148 32 #[.int .i64 0, .int .i64 0, .int .i64 0, .int .i64 0, .int .i64 0, .int .i64 0, .int .i64 0, .int .i64 0] (0, 0) _ rfl (by (with_reducible repeat (first | refine blk_drewN ?_ _ | refine blk_drew ?_ | refine blk_alloc ?_ _)); refine blk_put (cs := #[.int .i64 0, .int .i64 0, .int .i64 0, .int .i64 0, .int .i64 0, .int .i64 0, .int .i64 0, .int .i64 0]) ?_ 7 _ rfl; (with_reducible repeat (first | refine blk_drewN ?_ _ | refine blk_drew ?_ | refine blk_alloc ?_ _)); refine blk_put (cs := #[.int .i64 0, .int .i64 0, .int .i64 0, .int .i64 0, .int .i64 0, .int .i64 0, .int .i64 0, .int .i64 0]) ?_ 6 _ rfl; (with_reducible repeat (first | refine blk_drewN ?_ _ | refine blk_drew ?_ | refine blk_alloc ?_ _)); refine blk_put (cs := #[.int .i64 0, .int .i64 0, .int .i64 0, .int .i64 0, .int .i64 0, .int .i64 0, .int .i64 0, .int .i64 0]) ?_ 5 _ rfl; (with_reducible repeat (first | refine blk_drewN ?_ _ | refine blk_drew ?_ | refine blk_alloc ?_ _)); refine blk_put (cs := #[.int .i64 0, .int .i64 0, .int .i64 0, .int .i64 0, .int .i64 0, .int .i64 0, .int .i64 0, .int .i64 0]) ?_ 4 _ rfl; (with_reducible repeat (first | refine blk_drewN ?_ _ | refine blk_drew ?_ | refine blk_alloc ?_ _)); refine blk_put (cs := #[.int .i64 0, .int .i64 0, .int .i64 0, .int .i64 0, .int .i64 0, .int .i64 0, .int .i64 0, .int .i64 0]) ?_ 3 _ rfl; (with_reducible repeat (first | refine blk_drewN ?_ _ | refine blk_drew ?_ | refine blk_alloc ?_ _)); refine blk_put (cs := #[.int .i64 0, .int .i64 0, .int .i64 0, .int .i64 0, .int .i64 0, .int .i64 0, .int .i64 0, .int .i64 0]) ?_ 2 _ rfl; (with_reducible repeat (first | refine blk_drewN ?_ _ | refine blk_drew ?_ | refine blk_alloc ?_ _)); refine blk_put (cs := #[.int .i64 0, .int .i64 0, .int .i64 0, .int .i64 0, .int .i64 0, .int .i64 0, .int .i64 0, .int .i64 0]) ?_ 1 _ rfl; (with_reducible repeat (first | refine blk_drewN ?_ _ | refine blk_drew ?_ | refine blk_alloc ?_ _)); refine blk_put (cs := #[.int .i64 0, .int .i64 0, .int .i64 0, .int .i64 0, .int .i64 0, .int .i64 0, .int .i64 0, .int .i64 0]) ?_ 0 _ rfl; (with_reducible repeat (first | refine blk_drewN ?_ _ | refine blk_drew ?_ | refine blk_alloc ?_ _)); exact BK148.out) Try.underlying32 rfl (by kernel_rfl)) rfl ?_
        exact ⟨by first | rfl | (simp [errW_none, errW_some] <;> rfl) | (simp [*, errW_none, errW_some] <;> rfl), by repeat (first | (with_reducible first | exact HB.out | apply below_alloc | apply pw_below_drewN | apply below_drew1 | refine below_set ?_ GE148.out) | exact HB.out)⟩
      · replace c10 := Bool.eq_false_iff.mpr c10
        subst c10
        have H1 : (if 0 ≤ a1 then (if a1 < (l0.length : Int) then ((spec_l4Op.f kj2 (rd l0 a1)).bind fun bt153 => (if bt153.1 ≤ 6 then ((spec_HasX.f bt153.2.1 bt153.2.2.1 bt153.2.2.2.1).bind fun t162 => (spec_Decode.j1 kj2 l0 a1 (wrap64 (a1 + 1)) t162 bt153.1 bt153.2.1 bt153.2.2.1 bt153.2.2.2.1 bt153.2.2.2.2.1 bt153.2.2.2.2.2.1 bt153.2.2.2.2.2.2.1 bt153.2.2.2.2.2.2.2)) else (spec_Decode.j1 kj2 l0 a1 (wrap64 (a1 + 1)) false bt153.1 bt153.2.1 bt153.2.2.1 bt153.2.2.2.1 bt153.2.2.2.2.1 bt153.2.2.2.2.2.1 bt153.2.2.2.2.2.2.1 bt153.2.2.2.2.2.2.2))) else (none)) else (none)) = some (r1, r2, r3, r4, r5, r6, r7, r8, r9, r10) := by rw [if_neg (show ¬ (false = true) by decide)] at H; exact H
        clear H
        have H := H1
        clear H1
        by_cases c12 : 0 ≤ a1
        · rw [if_pos c12] at H
          have c12b0 : decide (0 ≤ a1) = true := decide_eq_true c12
          clear c12
          by_cases c13 : a1 < (l0.length : Int)
          · rw [if_pos c13] at H
            have c13b0 : decide (a1 < (l0.length : Int)) = true := decide_eq_true c13
            clear c13
            replace H := Option.bind_eq_some_iff.mp H
            obtain ⟨⟨t153, t154, t155, t156, t157, t158, t159, t160⟩, A140, H⟩ := H
            try dsimp only at H
            have A14 := Aside0.mk A140
            clear A140
            have HC15 := Aside0.mk H
            clear H
            have p152 : 0 ≤ (a1 : Int) := of_decide_eq_true (by first | (with_reducible assumption) | assumption)
            have q152 : a1 < (l0.length : Int) := of_decide_eq_true (by first | (with_reducible assumption) | assumption)
            obtain ⟨ad152, e152, hx152_0⟩ := Kd.at_int HR0.out a1 p152 q152
            cases e152
            replace hx152_0 := (HB.out.cell (World.block_lt_of_cell? w _ hx152_0)).trans hx152_0
            replace p152 := eq_true p152
            replace q152 := eq_true q152
            go_upto_region 5 with (first | ((with_reducible refine gate_callee (f := 46) rfl ?_); refine goesL_ (some 28) rfl rfl Try.func46 (by kernel_rfl) rfl #[.int .i64 (rd l0 a1)] rfl (by (try simp only [List.map_toArray, List.map_cons, List.map_nil]); first | done | rfl | (simp only [List.length_drop, List.length_take]; rfl)) ?_; (with_reducible refine (spec_l4Op.calls kj2 (rd l0 a1) t153 t154 t155 t156 t157 t158 t159 t160 _ A14.out).mono ?_); rintro e w16 ⟨rfl, hb⟩; refine ⟨_, rfl, ?_⟩; have n0_ := Aside0.mk (blk_below (g := gb148) (o := .cells #[.int .i64 0, .int .i64 0, .int .i64 0, .int .i64 0, .int .i64 0, .int .i64 0, .int .i64 0, .int .i64 0] 32 (0, 0)) (by (with_reducible repeat (first | refine blk_drewN ?_ _ | refine blk_drew ?_ | refine blk_alloc ?_ _)); exact BK148.out) hb); have n1_ := Aside0.mk (below_step (by repeat (first | (with_reducible first | exact HB.out | apply below_alloc | apply pw_below_drewN | apply below_drew1 | refine below_set ?_ GE148.out) | exact HB.out)) hb); clear BK148; clear HB; have BK148 := n0_; have HB := n1_; clear n0_ n1_; (try clear hb); (try clear hb2); (try clear hk); (try clear hi)) | ((with_reducible refine gate_dst (N := 7) rfl ?_); refine box_event ?hg (N := 7) ?hd (cs := #[.int .i64 0, .int .i64 0, .int .i64 0, .int .i64 0, .int .i64 0, .int .i64 0, .int .i64 0, .int .i64 0]) (t := 32) ?hr ?_; (case hd => rfl); (case hg => rfl); (case hr => first | (go_simp; done) | (go_simp; rfl)); intro gb161 hg w17 hbox hb; have n0_ := Aside0.mk (blk_below (g := gb148) (o := .cells #[.int .i64 0, .int .i64 0, .int .i64 0, .int .i64 0, .int .i64 0, .int .i64 0, .int .i64 0, .int .i64 0] 32 (0, 0)) (by (with_reducible repeat (first | refine blk_drewN ?_ _ | refine blk_drew ?_ | refine blk_alloc ?_ _)); exact BK148.out) hb); have n1_ := Aside0.mk (below_step (by repeat (first | (with_reducible first | exact HB.out | apply below_alloc | apply pw_below_drewN | apply below_drew1 | refine below_set ?_ GE148.out) | exact HB.out)) hb); have n2_ := Aside0.mk (hbox); have n3_ := Aside0.mk ((by rw [hg]; exact (below_size (by repeat (first | (with_reducible first | exact HB.out | apply below_alloc | apply pw_below_drewN | apply below_drew1 | refine below_set ?_ GE148.out) | exact HB.out))) : w.heap.size ≤ gb161)); have n4_ := Aside0.mk ((by rw [hg]; exact (below_size (by repeat (first | (with_reducible first | exact HB.out | apply below_alloc | apply pw_below_drewN | apply below_drew1 | refine below_set ?_ GE148.out) | exact HB.out))) : w.heap.size ≤ gb161)); have n5_ := Aside0.mk ((by rw [hg]; exact Nat.ne_of_lt (blk_lt (g := gb148) (o := .cells #[.int .i64 0, .int .i64 0, .int .i64 0, .int .i64 0, .int .i64 0, .int .i64 0, .int .i64 0, .int .i64 0] 32 (0, 0)) (by (with_reducible repeat (first | refine blk_drewN ?_ _ | refine blk_drew ?_ | refine blk_alloc ?_ _)); exact BK148.out)) : gb148 ≠ gb161)); have n6_ := Aside0.mk ((by rw [hg]; exact Nat.ne_of_gt (blk_lt (g := gb148) (o := .cells #[.int .i64 0, .int .i64 0, .int .i64 0, .int .i64 0, .int .i64 0, .int .i64 0, .int .i64 0, .int .i64 0] 32 (0, 0)) (by (with_reducible repeat (first | refine blk_drewN ?_ _ | refine blk_drew ?_ | refine blk_alloc ?_ _)); exact BK148.out)) : gb161 ≠ gb148)); clear BK148; clear HB; have BK148 := n0_; have HB := n1_; have BK161 := n2_; have GW161 := n3_; have GE161 := n4_; have NB148_161 := n5_; have NB161_148 := n6_; clear n0_ n1_ n2_ n3_ n4_ n5_ n6_; clear hb hbox hg; have hnb18 := NB161_148.out; have hnc18 := NB148_161.out; have hcz19_0 : w17.cell? ⟨gb161, 0, none⟩ = some (.int .i64 0) := (blk_cell BK161.out 0).trans rfl; have hcz19_1 : w17.cell? ⟨gb161, 1, none⟩ = some (.int .i64 0) := (blk_cell BK161.out 1).trans rfl; have hcz19_2 : w17.cell? ⟨gb161, 2, none⟩ = some (.int .i64 0) := (blk_cell BK161.out 2).trans rfl; have hcz19_3 : w17.cell? ⟨gb161, 3, none⟩ = some (.int .i64 0) := (blk_cell BK161.out 3).trans rfl; have hcz19_4 : w17.cell? ⟨gb161, 4, none⟩ = some (.int .i64 0) := (blk_cell BK161.out 4).trans rfl; have hcz19_5 : w17.cell? ⟨gb161, 5, none⟩ = some (.int .i64 0) := (blk_cell BK161.out 5).trans rfl; have hcz19_6 : w17.cell? ⟨gb161, 6, none⟩ = some (.int .i64 0) := (blk_cell BK161.out 6).trans rfl; have hcz19_7 : w17.cell? ⟨gb161, 7, none⟩ = some (.int .i64 0) := (blk_cell BK161.out 7).trans rfl; have hfz19_0 := blk_frozen BK161.out 0; have hfz19_1 := blk_frozen BK161.out 1; have hfz19_2 := blk_frozen BK161.out 2; have hfz19_3 := blk_frozen BK161.out 3; have hfz19_4 := blk_frozen BK161.out 4; have hfz19_5 := blk_frozen BK161.out 5; have hfz19_6 := blk_frozen BK161.out 6; have hfz19_7 := blk_frozen BK161.out 7))
            (try simp only [Act.put, List.setIfInBounds_toArray, List.set_cons_zero, List.set_cons_succ])
            go_cut [38] (fun v38 wc => ∃ (kq : Nat) (x38_14 : Bool), v38 = .bool x38_14 ∧ Aside0 (spec_Decode.j1 kq l0 a1 (wrap64 (a1 + 1)) x38_14 t153 t154 t155 t156 t157 t158 t159 t160 = some (r1, r2, r3, r4, r5, r6, r7, r8, r9, r10)) ∧ Aside0 (kq ≤ kj2) ∧ Aside0 (wc.heap[gb148]? = some (.cells #[.int .i64 0, .int .i64 0, .int .i64 0, .int .i64 0, .int .i64 0, .int .i64 0, .int .i64 0, .int .i64 0] 32 (0, 0))) ∧ Aside0 (wc.heap[gb161]? = some (.cells #[.int .i64 t153, .int .i64 t154, .int .i64 t155, .int .i64 t156, .int .i64 t157, .int .i64 t158, .int .i64 t159, .int .i64 t160] 32 (0, 0))) ∧ Aside0 (Below w.heap.size w wc))
            case first =>
              have H := HC15.out
              clear HC15
              by_cases c20 : t153 ≤ 6
              · rw [if_pos c20] at H
                have c20b0 : decide (t153 ≤ 6) = true := decide_eq_true c20
                clear c20
                (first | rw [c20b0] | (simp only [i64_w, i32_w]; rw [c20b0]) | skip)
                replace H := Option.bind_eq_some_iff.mp H
                obtain ⟨t162, A210, H⟩ := H
                try dsimp only at H
                have A21 := Aside0.mk A210
                clear A210
                have H' := Aside0.mk H
                clear H
                have hnb22 := NB161_148.out
                have hnc22 := NB148_161.out
                have hcz23_0 : w17.cell? ⟨gb161, 0, none⟩ = some (.int .i64 0) := (blk_cell BK161.out 0).trans rfl
                have hcz23_1 : w17.cell? ⟨gb161, 1, none⟩ = some (.int .i64 0) := (blk_cell BK161.out 1).trans rfl
                have hcz23_2 : w17.cell? ⟨gb161, 2, none⟩ = some (.int .i64 0) := (blk_cell BK161.out 2).trans rfl
                have hcz23_3 : w17.cell? ⟨gb161, 3, none⟩ = some (.int .i64 0) := (blk_cell BK161.out 3).trans rfl
                have hcz23_4 : w17.cell? ⟨gb161, 4, none⟩ = some (.int .i64 0) := (blk_cell BK161.out 4).trans rfl
                have hcz23_5 : w17.cell? ⟨gb161, 5, none⟩ = some (.int .i64 0) := (blk_cell BK161.out 5).trans rfl
                have hcz23_6 : w17.cell? ⟨gb161, 6, none⟩ = some (.int .i64 0) := (blk_cell BK161.out 6).trans rfl
                have hcz23_7 : w17.cell? ⟨gb161, 7, none⟩ = some (.int .i64 0) := (blk_cell BK161.out 7).trans rfl
                have hfz23_0 := blk_frozen BK161.out 0
                have hfz23_1 := blk_frozen BK161.out 1
                have hfz23_2 := blk_frozen BK161.out 2
                have hfz23_3 := blk_frozen BK161.out 3
                have hfz23_4 := blk_frozen BK161.out 4
                have hfz23_5 := blk_frozen BK161.out 5
                have hfz23_6 := blk_frozen BK161.out 6
                have hfz23_7 := blk_frozen BK161.out 7
                go_wp2_with (first | (go_at_call 11; (with_reducible refine (spec_HasX.calls t154 t155 t156 t162 _ A21.out).mono ?_); rintro e w24 ⟨rfl, hb⟩; have n0_ := Aside0.mk (blk_below (g := gb148) (o := .cells #[.int .i64 0, .int .i64 0, .int .i64 0, .int .i64 0, .int .i64 0, .int .i64 0, .int .i64 0, .int .i64 0] 32 (0, 0)) (by (with_reducible repeat (first | refine blk_drewN ?_ _ | refine blk_drew ?_ | refine blk_alloc ?_ _)); refine blk_far ?_ NB148_161.out _; (with_reducible repeat (first | refine blk_drewN ?_ _ | refine blk_drew ?_ | refine blk_alloc ?_ _)); refine blk_far ?_ NB148_161.out _; (with_reducible repeat (first | refine blk_drewN ?_ _ | refine blk_drew ?_ | refine blk_alloc ?_ _)); refine blk_far ?_ NB148_161.out _; (with_reducible repeat (first | refine blk_drewN ?_ _ | refine blk_drew ?_ | refine blk_alloc ?_ _)); refine blk_far ?_ NB148_161.out _; (with_reducible repeat (first | refine blk_drewN ?_ _ | refine blk_drew ?_ | refine blk_alloc ?_ _)); refine blk_far ?_ NB148_161.out _; (with_reducible repeat (first | refine blk_drewN ?_ _ | refine blk_drew ?_ | refine blk_alloc ?_ _)); refine blk_far ?_ NB148_161.out _; (with_reducible repeat (first | refine blk_drewN ?_ _ | refine blk_drew ?_ | refine blk_alloc ?_ _)); refine blk_far ?_ NB148_161.out _; (with_reducible repeat (first | refine blk_drewN ?_ _ | refine blk_drew ?_ | refine blk_alloc ?_ _)); refine blk_far ?_ NB148_161.out _; (with_reducible repeat (first | refine blk_drewN ?_ _ | refine blk_drew ?_ | refine blk_alloc ?_ _)); exact BK148.out) hb); have n1_ := Aside0.mk (blk_below (g := gb161) (o := .cells #[.int .i64 t153, .int .i64 t154, .int .i64 t155, .int .i64 t156, .int .i64 t157, .int .i64 t158, .int .i64 t159, .int .i64 t160] 32 (0, 0)) (by (with_reducible repeat (first | refine blk_drewN ?_ _ | refine blk_drew ?_ | refine blk_alloc ?_ _)); refine blk_put (cs := #[.int .i64 t153, .int .i64 t154, .int .i64 t155, .int .i64 t156, .int .i64 t157, .int .i64 t158, .int .i64 t159, .int .i64 0]) ?_ 7 _ rfl; (with_reducible repeat (first | refine blk_drewN ?_ _ | refine blk_drew ?_ | refine blk_alloc ?_ _)); refine blk_put (cs := #[.int .i64 t153, .int .i64 t154, .int .i64 t155, .int .i64 t156, .int .i64 t157, .int .i64 t158, .int .i64 0, .int .i64 0]) ?_ 6 _ rfl; (with_reducible repeat (first | refine blk_drewN ?_ _ | refine blk_drew ?_ | refine blk_alloc ?_ _)); refine blk_put (cs := #[.int .i64 t153, .int .i64 t154, .int .i64 t155, .int .i64 t156, .int .i64 t157, .int .i64 0, .int .i64 0, .int .i64 0]) ?_ 5 _ rfl; (with_reducible repeat (first | refine blk_drewN ?_ _ | refine blk_drew ?_ | refine blk_alloc ?_ _)); refine blk_put (cs := #[.int .i64 t153, .int .i64 t154, .int .i64 t155, .int .i64 t156, .int .i64 0, .int .i64 0, .int .i64 0, .int .i64 0]) ?_ 4 _ rfl; (with_reducible repeat (first | refine blk_drewN ?_ _ | refine blk_drew ?_ | refine blk_alloc ?_ _)); refine blk_put (cs := #[.int .i64 t153, .int .i64 t154, .int .i64 t155, .int .i64 0, .int .i64 0, .int .i64 0, .int .i64 0, .int .i64 0]) ?_ 3 _ rfl; (with_reducible repeat (first | refine blk_drewN ?_ _ | refine blk_drew ?_ | refine blk_alloc ?_ _)); refine blk_put (cs := #[.int .i64 t153, .int .i64 t154, .int .i64 0, .int .i64 0, .int .i64 0, .int .i64 0, .int .i64 0, .int .i64 0]) ?_ 2 _ rfl; (with_reducible repeat (first | refine blk_drewN ?_ _ | refine blk_drew ?_ | refine blk_alloc ?_ _)); refine blk_put (cs := #[.int .i64 t153, .int .i64 0, .int .i64 0, .int .i64 0, .int .i64 0, .int .i64 0, .int .i64 0, .int .i64 0]) ?_ 1 _ rfl; (with_reducible repeat (first | refine blk_drewN ?_ _ | refine blk_drew ?_ | refine blk_alloc ?_ _)); refine blk_put (cs := #[.int .i64 0, .int .i64 0, .int .i64 0, .int .i64 0, .int .i64 0, .int .i64 0, .int .i64 0, .int .i64 0]) ?_ 0 _ rfl; (with_reducible repeat (first | refine blk_drewN ?_ _ | refine blk_drew ?_ | refine blk_alloc ?_ _)); exact BK161.out) hb); have n2_ := Aside0.mk (below_step (by repeat (first | (with_reducible first | exact HB.out | apply below_alloc | apply pw_below_drewN | apply below_drew1 | refine below_set ?_ GE148.out | refine below_set ?_ GE161.out) | exact HB.out)) hb); clear BK148; clear BK161; clear HB; have BK148 := n0_; have BK161 := n1_; have HB := n2_; clear n0_ n1_ n2_; (try clear hb); (try clear hb2); (try clear hk); (try clear hi)))
                go_meet
                case rel => exact ⟨_, (t162), (by first | rfl | (simp; done) | (simp [*]; done) | (simp [wrap64]; done)), H', ⟨by have := HJ2.out; first | omega | exact Nat.le_refl _⟩, ⟨by (with_reducible repeat (first | refine blk_drewN ?_ _ | refine blk_drew ?_ | refine blk_alloc ?_ _)); exact BK148.out⟩, ⟨by (with_reducible repeat (first | refine blk_drewN ?_ _ | refine blk_drew ?_ | refine blk_alloc ?_ _)); exact BK161.out⟩, ⟨by repeat (first | (with_reducible first | exact HB.out | apply below_alloc | apply pw_below_drewN | apply below_drew1 | refine below_set ?_ GE148.out | refine below_set ?_ GE161.out) | exact HB.out)⟩⟩
              · rw [if_neg c20] at H
                have c20b0 : decide (t153 ≤ 6) = false := decide_eq_false c20
                clear c20
                (first | rw [c20b0] | (simp only [i64_w, i32_w]; rw [c20b0]) | skip)
                have H' := Aside0.mk H
                clear H
                have hnb25 := NB161_148.out
                have hnc25 := NB148_161.out
                have hcz26_0 : w17.cell? ⟨gb161, 0, none⟩ = some (.int .i64 0) := (blk_cell BK161.out 0).trans rfl
                have hcz26_1 : w17.cell? ⟨gb161, 1, none⟩ = some (.int .i64 0) := (blk_cell BK161.out 1).trans rfl
                have hcz26_2 : w17.cell? ⟨gb161, 2, none⟩ = some (.int .i64 0) := (blk_cell BK161.out 2).trans rfl
                have hcz26_3 : w17.cell? ⟨gb161, 3, none⟩ = some (.int .i64 0) := (blk_cell BK161.out 3).trans rfl
                have hcz26_4 : w17.cell? ⟨gb161, 4, none⟩ = some (.int .i64 0) := (blk_cell BK161.out 4).trans rfl
                have hcz26_5 : w17.cell? ⟨gb161, 5, none⟩ = some (.int .i64 0) := (blk_cell BK161.out 5).trans rfl
                have hcz26_6 : w17.cell? ⟨gb161, 6, none⟩ = some (.int .i64 0) := (blk_cell BK161.out 6).trans rfl
                have hcz26_7 : w17.cell? ⟨gb161, 7, none⟩ = some (.int .i64 0) := (blk_cell BK161.out 7).trans rfl
                have hfz26_0 := blk_frozen BK161.out 0
                have hfz26_1 := blk_frozen BK161.out 1
                have hfz26_2 := blk_frozen BK161.out 2
                have hfz26_3 := blk_frozen BK161.out 3
                have hfz26_4 := blk_frozen BK161.out 4
                have hfz26_5 := blk_frozen BK161.out 5
                have hfz26_6 := blk_frozen BK161.out 6
                have hfz26_7 := blk_frozen BK161.out 7
                go_wp2
                go_meet
                case rel => exact ⟨_, (false), (by first | rfl | (simp; done) | (simp [*]; done) | (simp [wrap64]; done)), H', ⟨by have := HJ2.out; first | omega | exact Nat.le_refl _⟩, ⟨by (with_reducible repeat (first | refine blk_drewN ?_ _ | refine blk_drew ?_ | refine blk_alloc ?_ _)); refine blk_far ?_ NB148_161.out _; (with_reducible repeat (first | refine blk_drewN ?_ _ | refine blk_drew ?_ | refine blk_alloc ?_ _)); refine blk_far ?_ NB148_161.out _; (with_reducible repeat (first | refine blk_drewN ?_ _ | refine blk_drew ?_ | refine blk_alloc ?_ _)); refine blk_far ?_ NB148_161.out _; (with_reducible repeat (first | refine blk_drewN ?_ _ | refine blk_drew ?_ | refine blk_alloc ?_ _)); refine blk_far ?_ NB148_161.out _; (with_reducible repeat (first | refine blk_drewN ?_ _ | refine blk_drew ?_ | refine blk_alloc ?_ _)); refine blk_far ?_ NB148_161.out _; (with_reducible repeat (first | refine blk_drewN ?_ _ | refine blk_drew ?_ | refine blk_alloc ?_ _)); refine blk_far ?_ NB148_161.out _; (with_reducible repeat (first | refine blk_drewN ?_ _ | refine blk_drew ?_ | refine blk_alloc ?_ _)); refine blk_far ?_ NB148_161.out _; (with_reducible repeat (first | refine blk_drewN ?_ _ | refine blk_drew ?_ | refine blk_alloc ?_ _)); refine blk_far ?_ NB148_161.out _; (with_reducible repeat (first | refine blk_drewN ?_ _ | refine blk_drew ?_ | refine blk_alloc ?_ _)); exact BK148.out⟩, ⟨by (with_reducible repeat (first | refine blk_drewN ?_ _ | refine blk_drew ?_ | refine blk_alloc ?_ _)); refine blk_put (cs := #[.int .i64 t153, .int .i64 t154, .int .i64 t155, .int .i64 t156, .int .i64 t157, .int .i64 t158, .int .i64 t159, .int .i64 0]) ?_ 7 _ rfl; (with_reducible repeat (first | refine blk_drewN ?_ _ | refine blk_drew ?_ | refine blk_alloc ?_ _)); refine blk_put (cs := #[.int .i64 t153, .int .i64 t154, .int .i64 t155, .int .i64 t156, .int .i64 t157, .int .i64 t158, .int .i64 0, .int .i64 0]) ?_ 6 _ rfl; (with_reducible repeat (first | refine blk_drewN ?_ _ | refine blk_drew ?_ | refine blk_alloc ?_ _)); refine blk_put (cs := #[.int .i64 t153, .int .i64 t154, .int .i64 t155, .int .i64 t156, .int .i64 t157, .int .i64 0, .int .i64 0, .int .i64 0]) ?_ 5 _ rfl; (with_reducible repeat (first | refine blk_drewN ?_ _ | refine blk_drew ?_ | refine blk_alloc ?_ _)); refine blk_put (cs := #[.int .i64 t153, .int .i64 t154, .int .i64 t155, .int .i64 t156, .int .i64 0, .int .i64 0, .int .i64 0, .int .i64 0]) ?_ 4 _ rfl; (with_reducible repeat (first | refine blk_drewN ?_ _ | refine blk_drew ?_ | refine blk_alloc ?_ _)); refine blk_put (cs := #[.int .i64 t153, .int .i64 t154, .int .i64 t155, .int .i64 0, .int .i64 0, .int .i64 0, .int .i64 0, .int .i64 0]) ?_ 3 _ rfl; (with_reducible repeat (first | refine blk_drewN ?_ _ | refine blk_drew ?_ | refine blk_alloc ?_ _)); refine blk_put (cs := #[.int .i64 t153, .int .i64 t154, .int .i64 0, .int .i64 0, .int .i64 0, .int .i64 0, .int .i64 0, .int .i64 0]) ?_ 2 _ rfl; (with_reducible repeat (first | refine blk_drewN ?_ _ | refine blk_drew ?_ | refine blk_alloc ?_ _)); refine blk_put (cs := #[.int .i64 t153, .int .i64 0, .int .i64 0, .int .i64 0, .int .i64 0, .int .i64 0, .int .i64 0, .int .i64 0]) ?_ 1 _ rfl; (with_reducible repeat (first | refine blk_drewN ?_ _ | refine blk_drew ?_ | refine blk_alloc ?_ _)); refine blk_put (cs := #[.int .i64 0, .int .i64 0, .int .i64 0, .int .i64 0, .int .i64 0, .int .i64 0, .int .i64 0, .int .i64 0]) ?_ 0 _ rfl; (with_reducible repeat (first | refine blk_drewN ?_ _ | refine blk_drew ?_ | refine blk_alloc ?_ _)); exact BK161.out⟩, ⟨by repeat (first | (with_reducible first | exact HB.out | apply below_alloc | apply pw_below_drewN | apply below_drew1 | refine below_set ?_ GE148.out | refine below_set ?_ GE161.out) | exact HB.out)⟩⟩
            case rest =>
              clear HC15
              try clear c1
              try clear p1
              try clear q1
              try clear hx1
              try clear c2
              try clear p2
              try clear c3
              try clear c4
              try clear c6
              try clear p6
              try clear c7
              try clear c7b0
              try clear c8
              try clear c8b0
              try clear c10
              try clear c12
              try clear c12b0
              try clear c13
              try clear c13b0
              try clear p15
              try clear q15
              try clear hx15
              try clear c18
              try clear c20
              try clear c20b0
              try clear c22
              try clear c25
              try clear c26
              try clear hcz11_0
              try clear hcz11_1
              try clear hcz11_2
              try clear hcz11_3
              try clear hcz11_4
              try clear hcz11_5
              try clear hcz11_6
              try clear hcz11_7
              try clear hcz19_0
              try clear hcz19_1
              try clear hcz19_2
              try clear hcz19_3
              try clear hcz19_4
              try clear hcz19_5
              try clear hcz19_6
              try clear hcz19_7
              try clear hcz23_0
              try clear hcz23_1
              try clear hcz23_2
              try clear hcz23_3
              try clear hcz23_4
              try clear hcz23_5
              try clear hcz23_6
              try clear hcz23_7
              try clear hcz26_0
              try clear hcz26_1
              try clear hcz26_2
              try clear hcz26_3
              try clear hcz26_4
              try clear hcz26_5
              try clear hcz26_6
              try clear hcz26_7
              try clear hfz11_0
              try clear hfz11_1
              try clear hfz11_2
              try clear hfz11_3
              try clear hfz11_4
              try clear hfz11_5
              try clear hfz11_6
              try clear hfz11_7
              try clear hfz19_0
              try clear hfz19_1
              try clear hfz19_2
              try clear hfz19_3
              try clear hfz19_4
              try clear hfz19_5
              try clear hfz19_6
              try clear hfz19_7
              try clear hfz23_0
              try clear hfz23_1
              try clear hfz23_2
              try clear hfz23_3
              try clear hfz23_4
              try clear hfz23_5
              try clear hfz23_6
              try clear hfz23_7
              try clear hfz26_0
              try clear hfz26_1
              try clear hfz26_2
              try clear hfz26_3
              try clear hfz26_4
              try clear hfz26_5
              try clear hfz26_6
              try clear hfz26_7
              try clear hx150_0
              try clear hx152_0
              try clear p1
              try clear p150
              try clear p152
              try clear p2
              try clear p6
              try clear q1
              try clear q150
              try clear q152
              obtain ⟨kq, x38_14, rfl, HA, HJ14, BK148, BK161, HB⟩ := hcut
              cases kq with
              | zero => exact absurd HA.out (by simp [spec_Decode.j1])
              | succ kj14 =>
                have H := HA.out
                clear HA
                simp only [spec_Decode.j1] at H
                have HC27 := Aside0.mk H
                clear H
                go_upto_if 38 with (fail)
                go_cut [8] (fun v8 wc => ∃ (kq : Nat) (x8_26 : Int) (x149000_26 : Int) (x149001_26 : Int) (x149002_26 : Int) (x149003_26 : Int) (x149004_26 : Int) (x149005_26 : Int) (x149006_26 : Int) (x149007_26 : Int) (x162003_26 : Int), v8 = .int .i64 x8_26 ∧ Aside0 (spec_Decode.j2 kq l0 a1 x8_26 t153 t154 t155 x162003_26 t157 t158 t159 t160 = some (r1, r2, r3, r4, r5, r6, r7, r8, r9, r10)) ∧ Aside0 (kq ≤ kj14) ∧ Aside0 (wc.heap[gb148]? = some (.cells #[.int .i64 x149000_26, .int .i64 x149001_26, .int .i64 x149002_26, .int .i64 x149003_26, .int .i64 x149004_26, .int .i64 x149005_26, .int .i64 x149006_26, .int .i64 x149007_26] 32 (0, 0))) ∧ Aside0 (wc.heap[gb161]? = some (.cells #[.int .i64 t153, .int .i64 t154, .int .i64 t155, .int .i64 x162003_26, .int .i64 t157, .int .i64 t158, .int .i64 t159, .int .i64 t160] 32 (0, 0))) ∧ Aside0 (Below w.heap.size w wc))
                case first =>
                  have H := HC27.out
                  clear HC27
                  by_cases c28 : x38_14 = true
                  · subst c28
                    have H1 : (if (wrap64 (a1 + 1)) ≥ (l0.length : Int) then (some (0, 0, 0, 0, 0, 0, 0, 0, 0, false)) else (if 0 ≤ (wrap64 (a1 + 1)) then (if (wrap64 (a1 + 1)) < (l0.length : Int) then (spec_Decode.j2 kj14 l0 a1 (wrap64 ((wrap64 (a1 + 1)) + 1)) t153 t154 t155 (rd l0 (wrap64 (a1 + 1))) t157 t158 t159 t160) else (none)) else (none))) = some (r1, r2, r3, r4, r5, r6, r7, r8, r9, r10) := by rw [if_pos rfl] at H; exact H
                    clear H
                    have H := H1
                    clear H1
                    by_cases c29 : (wrap64 (a1 + 1)) ≥ (l0.length : Int)
                    · rw [if_pos c29] at H
                      have c29b0 : decide ((l0.length : Int) ≤ (wrap64 (a1 + 1))) = true := decide_eq_true c29
                      clear c29
                      (first | rw [c29b0] | (simp only [i64_w, i32_w]; rw [c29b0]) | skip)
                      simp only [Option.some.injEq, Prod.mk.injEq] at H
                      obtain ⟨rfl, rfl, rfl, rfl, rfl, rfl, rfl, rfl, rfl, rfl⟩ := H
                      have hnb30 := NB148_161.out
                      have hnc30 := NB161_148.out
                      have hcz31_0 : wc.cell? ⟨gb148, 0, none⟩ = some (.int .i64 0) := (blk_cell BK148.out 0).trans rfl
                      have hcz31_1 : wc.cell? ⟨gb148, 1, none⟩ = some (.int .i64 0) := (blk_cell BK148.out 1).trans rfl
                      have hcz31_2 : wc.cell? ⟨gb148, 2, none⟩ = some (.int .i64 0) := (blk_cell BK148.out 2).trans rfl
                      have hcz31_3 : wc.cell? ⟨gb148, 3, none⟩ = some (.int .i64 0) := (blk_cell BK148.out 3).trans rfl
                      have hcz31_4 : wc.cell? ⟨gb148, 4, none⟩ = some (.int .i64 0) := (blk_cell BK148.out 4).trans rfl
                      have hcz31_5 : wc.cell? ⟨gb148, 5, none⟩ = some (.int .i64 0) := (blk_cell BK148.out 5).trans rfl
                      have hcz31_6 : wc.cell? ⟨gb148, 6, none⟩ = some (.int .i64 0) := (blk_cell BK148.out 6).trans rfl
                      have hcz31_7 : wc.cell? ⟨gb148, 7, none⟩ = some (.int .i64 0) := (blk_cell BK148.out 7).trans rfl
                      have hfz31_0 := blk_frozen BK148.out 0
                      have hfz31_1 := blk_frozen BK148.out 1
                      have hfz31_2 := blk_frozen BK148.out 2
                      have hfz31_3 := blk_frozen BK148.out 3
                      have hfz31_4 := blk_frozen BK148.out 4
                      have hfz31_5 := blk_frozen BK148.out 5
                      have hfz31_6 := blk_frozen BK148.out 6
                      have hfz31_7 := blk_frozen BK148.out 7
                      go_wp2
                      refine bodyPost_ret (results_ctt rfl _ _ gb148 32 #[.int .i64 0, .int .i64 0, .int .i64 0, .int .i64 0, .int .i64 0, .int .i64 0, .int .i64 0, .int .i64 0] (0, 0) _ rfl (by (with_reducible repeat (first | refine blk_drewN ?_ _ | refine blk_drew ?_ | refine blk_alloc ?_ _)); refine blk_put (cs := #[.int .i64 0, .int .i64 0, .int .i64 0, .int .i64 0, .int .i64 0, .int .i64 0, .int .i64 0, .int .i64 0]) ?_ 7 _ rfl; (with_reducible repeat (first | refine blk_drewN ?_ _ | refine blk_drew ?_ | refine blk_alloc ?_ _)); refine blk_put (cs := #[.int .i64 0, .int .i64 0, .int .i64 0, .int .i64 0, .int .i64 0, .int .i64 0, .int .i64 0, .int .i64 0]) ?_ 6 _ rfl; (with_reducible repeat (first | refine blk_drewN ?_ _ | refine blk_drew ?_ | refine blk_alloc ?_ _)); refine blk_put (cs := #[.int .i64 0, .int .i64 0, .int .i64 0, .int .i64 0, .int .i64 0, .int .i64 0, .int .i64 0, .int .i64 0]) ?_ 5 _ rfl; (with_reducible repeat (first | refine blk_drewN ?_ _ | refine blk_drew ?_ | refine blk_alloc ?_ _)); refine blk_put (cs := #[.int .i64 0, .int .i64 0, .int .i64 0, .int .i64 0, .int .i64 0, .int .i64 0, .int .i64 0, .int .i64 0]) ?_ 4 _ rfl; (with_reducible repeat (first | refine blk_drewN ?_ _ | refine blk_drew ?_ | refine blk_alloc ?_ _)); refine blk_put (cs := #[.int .i64 0, .int .i64 0, .int .i64 0, .int .i64 0, .int .i64 0, .int .i64 0, .int .i64 0, .int .i64 0]) ?_ 3 _ rfl; (with_reducible repeat (first | refine blk_drewN ?_ _ | refine blk_drew ?_ | refine blk_alloc ?_ _)); refine blk_put (cs := #[.int .i64 0, .int .i64 0, .int .i64 0, .int .i64 0, .int .i64 0, .int .i64 0, .int .i64 0, .int .i64 0]) ?_ 2 _ rfl; (with_reducible repeat (first | refine blk_drewN ?_ _ | refine blk_drew ?_ | refine blk_alloc ?_ _)); refine blk_put (cs := #[.int .i64 0, .int .i64 0, .int .i64 0, .int .i64 0, .int .i64 0, .int .i64 0, .int .i64 0, .int .i64 0]) ?_ 1 _ rfl; (with_reducible repeat (first | refine blk_drewN ?_ _ | refine blk_drew ?_ | refine blk_alloc ?_ _)); refine blk_put (cs := #[.int .i64 0, .int .i64 0, .int .i64 0, .int .i64 0, .int .i64 0, .int .i64 0, .int .i64 0, .int .i64 0]) ?_ 0 _ rfl; (with_reducible repeat (first | refine blk_drewN ?_ _ | refine blk_drew ?_ | refine blk_alloc ?_ _)); exact BK148.out) Try.underlying32 rfl (by kernel_rfl)) rfl ?_
                      exact ⟨by first | rfl | (simp [errW_none, errW_some] <;> rfl) | (simp [*, errW_none, errW_some] <;> rfl), by repeat (first | (with_reducible first | exact HB.out | apply below_alloc | apply pw_below_drewN | apply below_drew1 | refine below_set ?_ GE148.out | refine below_set ?_ GE161.out) | exact HB.out)⟩
                    · rw [if_neg c29] at H
                      have c29b0 : decide ((l0.length : Int) ≤ (wrap64 (a1 + 1))) = false := decide_eq_false c29
                      clear c29
                      (first | rw [c29b0] | (simp only [i64_w, i32_w]; rw [c29b0]) | skip)
                      obtain ⟨ji32, hji32⟩ : ∃ j_ : Int, (wrap64 (a1 + 1)) = j_ := ⟨_, rfl⟩
                      replace H : (if 0 ≤ (ji32) then (if (ji32) < (l0.length : Int) then (spec_Decode.j2 kj14 l0 a1 (wrap64 ((ji32) + 1)) t153 t154 t155 (rd l0 (ji32)) t157 t158 t159 t160) else (none)) else (none)) = some (r1, r2, r3, r4, r5, r6, r7, r8, r9, r10) := by first | (rw [hji32] at H; exact H) | (simp only [hji32] at H ⊢; exact H)
                      (try rw [hji32] at c29b0)
                      have hji32w : (IntKind.i64.wrap (a1 + 1)) = ji32 := (i64_w _).trans hji32
                      by_cases c33 : 0 ≤ (ji32)
                      · rw [if_pos c33] at H
                        have c33b0 : decide (0 ≤ (ji32)) = true := decide_eq_true c33
                        clear c33
                        by_cases c34 : (ji32) < (l0.length : Int)
                        · rw [if_pos c34] at H
                          have c34b0 : decide ((ji32) < (l0.length : Int)) = true := decide_eq_true c34
                          clear c34
                          have H' := Aside0.mk H
                          clear H
                          have p163 : 0 ≤ ((ji32) : Int) := of_decide_eq_true (by first | (with_reducible assumption) | assumption)
                          have q163 : (ji32) < (l0.length : Int) := of_decide_eq_true (by first | (with_reducible assumption) | assumption)
                          obtain ⟨ad163, e163, hx163_0⟩ := Kd.at_int HR0.out (ji32) p163 q163
                          obtain rfl : ad152 = ad163 := (by injection e163)
                          replace hx163_0 := (HB.out.cell (World.block_lt_of_cell? w _ hx163_0)).trans hx163_0
                          replace p163 := eq_true p163
                          replace q163 := eq_true q163
                          have hnb35 := NB161_148.out
                          have hnc35 := NB148_161.out
                          have hcz36_0 : wc.cell? ⟨gb161, 0, none⟩ = some (.int .i64 t153) := (blk_cell BK161.out 0).trans rfl
                          have hcz36_1 : wc.cell? ⟨gb161, 1, none⟩ = some (.int .i64 t154) := (blk_cell BK161.out 1).trans rfl
                          have hcz36_2 : wc.cell? ⟨gb161, 2, none⟩ = some (.int .i64 t155) := (blk_cell BK161.out 2).trans rfl
                          have hcz36_3 : wc.cell? ⟨gb161, 3, none⟩ = some (.int .i64 t156) := (blk_cell BK161.out 3).trans rfl
                          have hcz36_4 : wc.cell? ⟨gb161, 4, none⟩ = some (.int .i64 t157) := (blk_cell BK161.out 4).trans rfl
                          have hcz36_5 : wc.cell? ⟨gb161, 5, none⟩ = some (.int .i64 t158) := (blk_cell BK161.out 5).trans rfl
                          have hcz36_6 : wc.cell? ⟨gb161, 6, none⟩ = some (.int .i64 t159) := (blk_cell BK161.out 6).trans rfl
                          have hcz36_7 : wc.cell? ⟨gb161, 7, none⟩ = some (.int .i64 t160) := (blk_cell BK161.out 7).trans rfl
                          have hfz36_0 := blk_frozen BK161.out 0
                          have hfz36_1 := blk_frozen BK161.out 1
                          have hfz36_2 := blk_frozen BK161.out 2
                          have hfz36_3 := blk_frozen BK161.out 3
                          have hfz36_4 := blk_frozen BK161.out 4
                          have hfz36_5 := blk_frozen BK161.out 5
                          have hfz36_6 := blk_frozen BK161.out 6
                          have hfz36_7 := blk_frozen BK161.out 7
                          go_wp2
                          go_meet
                          case rel => exact ⟨_, (wrap64 ((ji32) + 1)), (0), (0), (0), (0), (0), (0), (0), (0), (rd l0 (ji32)), (by first | rfl | (simp; done) | (simp only [← hji32] <;> (first | rfl | simp)) | (simp [*]; done)), H', ⟨by have := HJ2.out; have := HJ14.out; first | omega | exact Nat.le_refl _⟩, ⟨by (with_reducible repeat (first | refine blk_drewN ?_ _ | refine blk_drew ?_ | refine blk_alloc ?_ _)); refine blk_far ?_ NB148_161.out _; (with_reducible repeat (first | refine blk_drewN ?_ _ | refine blk_drew ?_ | refine blk_alloc ?_ _)); exact BK148.out⟩, ⟨by (with_reducible repeat (first | refine blk_drewN ?_ _ | refine blk_drew ?_ | refine blk_alloc ?_ _)); refine blk_put (cs := #[.int .i64 t153, .int .i64 t154, .int .i64 t155, .int .i64 t156, .int .i64 t157, .int .i64 t158, .int .i64 t159, .int .i64 t160]) ?_ 3 _ rfl; (with_reducible repeat (first | refine blk_drewN ?_ _ | refine blk_drew ?_ | refine blk_alloc ?_ _)); exact BK161.out⟩, ⟨by repeat (first | (with_reducible first | exact HB.out | apply below_alloc | apply pw_below_drewN | apply below_drew1 | refine below_set ?_ GE148.out | refine below_set ?_ GE161.out) | exact HB.out)⟩⟩
                        · rw [if_neg c34] at H
                          exact absurd H (by simp)
                      · rw [if_neg c33] at H
                        exact absurd H (by simp)
                  · replace c28 := Bool.eq_false_iff.mpr c28
                    subst c28
                    have H1 : (spec_Decode.j2 kj14 l0 a1 (wrap64 (a1 + 1)) t153 t154 t155 t156 t157 t158 t159 t160) = some (r1, r2, r3, r4, r5, r6, r7, r8, r9, r10) := by rw [if_neg (show ¬ (false = true) by decide)] at H; exact H
                    clear H
                    have H := H1
                    clear H1
                    have H' := Aside0.mk H
                    clear H
                    go_wp2
                    go_meet
                    case rel => exact ⟨_, ((wrap64 (a1 + 1))), (0), (0), (0), (0), (0), (0), (0), (0), (t156), (by first | rfl | (simp; done) | (simp [*]; done) | (simp [wrap64]; done)), H', ⟨by have := HJ2.out; have := HJ14.out; first | omega | exact Nat.le_refl _⟩, ⟨by (with_reducible repeat (first | refine blk_drewN ?_ _ | refine blk_drew ?_ | refine blk_alloc ?_ _)); exact BK148.out⟩, ⟨by (with_reducible repeat (first | refine blk_drewN ?_ _ | refine blk_drew ?_ | refine blk_alloc ?_ _)); exact BK161.out⟩, ⟨by repeat (first | (with_reducible first | exact HB.out | apply below_alloc | apply pw_below_drewN | apply below_drew1 | refine below_set ?_ GE148.out | refine below_set ?_ GE161.out) | exact HB.out)⟩⟩
                case rest =>
                  clear HC27
                  try clear c1
                  try clear p1
                  try clear q1
                  try clear hx1
                  try clear c2
                  try clear p2
                  try clear c3
                  try clear c4
                  try clear c6
                  try clear p6
                  try clear c7
                  try clear c7b0
                  try clear c8
                  try clear c8b0
                  try clear c10
                  try clear c12
                  try clear c12b0
                  try clear c13
                  try clear c13b0
                  try clear p15
                  try clear q15
                  try clear hx15
                  try clear p16
                  try clear q16
                  try clear hx16
                  try clear c18
                  try clear c20
                  try clear c20b0
                  try clear c22
                  try clear c25
                  try clear c26
                  try clear c28
                  try clear c29
                  try clear c29b0
                  try clear c30
                  try clear c33
                  try clear c33b0
                  try clear c34
                  try clear c34b0
                  try clear c35
                  try clear hcz11_0
                  try clear hcz11_1
                  try clear hcz11_2
                  try clear hcz11_3
                  try clear hcz11_4
                  try clear hcz11_5
                  try clear hcz11_6
                  try clear hcz11_7
                  try clear hcz19_0
                  try clear hcz19_1
                  try clear hcz19_2
                  try clear hcz19_3
                  try clear hcz19_4
                  try clear hcz19_5
                  try clear hcz19_6
                  try clear hcz19_7
                  try clear hcz23_0
                  try clear hcz23_1
                  try clear hcz23_2
                  try clear hcz23_3
                  try clear hcz23_4
                  try clear hcz23_5
                  try clear hcz23_6
                  try clear hcz23_7
                  try clear hcz26_0
                  try clear hcz26_1
                  try clear hcz26_2
                  try clear hcz26_3
                  try clear hcz26_4
                  try clear hcz26_5
                  try clear hcz26_6
                  try clear hcz26_7
                  try clear hcz31_0
                  try clear hcz31_1
                  try clear hcz31_2
                  try clear hcz31_3
                  try clear hcz31_4
                  try clear hcz31_5
                  try clear hcz31_6
                  try clear hcz31_7
                  try clear hcz36_0
                  try clear hcz36_1
                  try clear hcz36_2
                  try clear hcz36_3
                  try clear hcz36_4
                  try clear hcz36_5
                  try clear hcz36_6
                  try clear hcz36_7
                  try clear hfz11_0
                  try clear hfz11_1
                  try clear hfz11_2
                  try clear hfz11_3
                  try clear hfz11_4
                  try clear hfz11_5
                  try clear hfz11_6
                  try clear hfz11_7
                  try clear hfz19_0
                  try clear hfz19_1
                  try clear hfz19_2
                  try clear hfz19_3
                  try clear hfz19_4
                  try clear hfz19_5
                  try clear hfz19_6
                  try clear hfz19_7
                  try clear hfz23_0
                  try clear hfz23_1
                  try clear hfz23_2
                  try clear hfz23_3
                  try clear hfz23_4
                  try clear hfz23_5
                  try clear hfz23_6
                  try clear hfz23_7
                  try clear hfz26_0
                  try clear hfz26_1
                  try clear hfz26_2
                  try clear hfz26_3
                  try clear hfz26_4
                  try clear hfz26_5
                  try clear hfz26_6
                  try clear hfz26_7
                  try clear hfz31_0
                  try clear hfz31_1
                  try clear hfz31_2
                  try clear hfz31_3
                  try clear hfz31_4
                  try clear hfz31_5
                  try clear hfz31_6
                  try clear hfz31_7
                  try clear hfz36_0
                  try clear hfz36_1
                  try clear hfz36_2
                  try clear hfz36_3
                  try clear hfz36_4
                  try clear hfz36_5
                  try clear hfz36_6
                  try clear hfz36_7
                  try clear hx150_0
                  try clear hx152_0
                  try clear hx163_0
                  try clear p1
                  try clear p15
                  try clear p150
                  try clear p152
                  try clear p163
                  try clear p2
                  try clear p6
                  try clear q1
                  try clear q15
                  try clear q150
                  try clear q152
                  try clear q163
                  obtain ⟨kq, x8_26, x149000_26, x149001_26, x149002_26, x149003_26, x149004_26, x149005_26, x149006_26, x149007_26, x162003_26, rfl, HA, HJ26, BK148, BK161, HB⟩ := hcut
                  cases kq with
                  | zero => exact absurd HA.out (by simp [spec_Decode.j2])
                  | succ kj26 =>
                    have H := HA.out
                    clear HA
                    simp only [spec_Decode.j2] at H
                    have HC37 := Aside0.mk H
                    clear H
                    go_upto_region 10 with (fail)
                    go_cut [59] (fun v59 wc => ∃ (kq : Nat) (x59_36 : Bool), v59 = .bool x59_36 ∧ Aside0 (spec_Decode.j3 kq l0 a1 x8_26 x59_36 t153 t154 t155 x162003_26 t157 t158 t159 t160 = some (r1, r2, r3, r4, r5, r6, r7, r8, r9, r10)) ∧ Aside0 (kq ≤ kj26) ∧ Aside0 (wc.heap[gb148]? = some (.cells #[.int .i64 x149000_26, .int .i64 x149001_26, .int .i64 x149002_26, .int .i64 x149003_26, .int .i64 x149004_26, .int .i64 x149005_26, .int .i64 x149006_26, .int .i64 x149007_26] 32 (0, 0))) ∧ Aside0 (wc.heap[gb161]? = some (.cells #[.int .i64 t153, .int .i64 t154, .int .i64 t155, .int .i64 x162003_26, .int .i64 t157, .int .i64 t158, .int .i64 t159, .int .i64 t160] 32 (0, 0))) ∧ Aside0 (Below w.heap.size w wc))
                    case first =>
                      have H := HC37.out
                      clear HC37
                      by_cases c38 : t153 ≤ 15
                      · rw [if_pos c38] at H
                        have c38b0 : decide (t153 ≤ 15) = true := decide_eq_true c38
                        clear c38
                        (first | rw [c38b0] | (simp only [i64_w, i32_w]; rw [c38b0]) | skip)
                        replace H := Option.bind_eq_some_iff.mp H
                        obtain ⟨t164, A390, H⟩ := H
                        try dsimp only at H
                        have A39 := Aside0.mk A390
                        clear A390
                        have H' := Aside0.mk H
                        clear H
                        have hnb40 := NB161_148.out
                        have hnc40 := NB148_161.out
                        have hcz41_0 : wc.cell? ⟨gb161, 0, none⟩ = some (.int .i64 t153) := (blk_cell BK161.out 0).trans rfl
                        have hcz41_1 : wc.cell? ⟨gb161, 1, none⟩ = some (.int .i64 t154) := (blk_cell BK161.out 1).trans rfl
                        have hcz41_2 : wc.cell? ⟨gb161, 2, none⟩ = some (.int .i64 t155) := (blk_cell BK161.out 2).trans rfl
                        have hcz41_3 : wc.cell? ⟨gb161, 3, none⟩ = some (.int .i64 x162003_26) := (blk_cell BK161.out 3).trans rfl
                        have hcz41_4 : wc.cell? ⟨gb161, 4, none⟩ = some (.int .i64 t157) := (blk_cell BK161.out 4).trans rfl
                        have hcz41_5 : wc.cell? ⟨gb161, 5, none⟩ = some (.int .i64 t158) := (blk_cell BK161.out 5).trans rfl
                        have hcz41_6 : wc.cell? ⟨gb161, 6, none⟩ = some (.int .i64 t159) := (blk_cell BK161.out 6).trans rfl
                        have hcz41_7 : wc.cell? ⟨gb161, 7, none⟩ = some (.int .i64 t160) := (blk_cell BK161.out 7).trans rfl
                        have hfz41_0 := blk_frozen BK161.out 0
                        have hfz41_1 := blk_frozen BK161.out 1
                        have hfz41_2 := blk_frozen BK161.out 2
                        have hfz41_3 := blk_frozen BK161.out 3
                        have hfz41_4 := blk_frozen BK161.out 4
                        have hfz41_5 := blk_frozen BK161.out 5
                        have hfz41_6 := blk_frozen BK161.out 6
                        have hfz41_7 := blk_frozen BK161.out 7
                        go_wp2_with (first | (go_at_call 11; (with_reducible refine (spec_HasX.calls t157 t158 t159 t164 _ A39.out).mono ?_); rintro e w42 ⟨rfl, hb⟩; have n0_ := Aside0.mk (blk_below (g := gb148) (o := .cells #[.int .i64 x149000_26, .int .i64 x149001_26, .int .i64 x149002_26, .int .i64 x149003_26, .int .i64 x149004_26, .int .i64 x149005_26, .int .i64 x149006_26, .int .i64 x149007_26] 32 (0, 0)) (by (with_reducible repeat (first | refine blk_drewN ?_ _ | refine blk_drew ?_ | refine blk_alloc ?_ _)); exact BK148.out) hb); have n1_ := Aside0.mk (blk_below (g := gb161) (o := .cells #[.int .i64 t153, .int .i64 t154, .int .i64 t155, .int .i64 x162003_26, .int .i64 t157, .int .i64 t158, .int .i64 t159, .int .i64 t160] 32 (0, 0)) (by (with_reducible repeat (first | refine blk_drewN ?_ _ | refine blk_drew ?_ | refine blk_alloc ?_ _)); exact BK161.out) hb); have n2_ := Aside0.mk (below_step (by repeat (first | (with_reducible first | exact HB.out | apply below_alloc | apply pw_below_drewN | apply below_drew1 | refine below_set ?_ GE148.out | refine below_set ?_ GE161.out) | exact HB.out)) hb); clear BK148; clear BK161; clear HB; have BK148 := n0_; have BK161 := n1_; have HB := n2_; clear n0_ n1_ n2_; (try clear hb); (try clear hb2); (try clear hk); (try clear hi)))
                        go_meet
                        case rel => exact ⟨_, (t164), (by first | rfl | (simp; done) | (simp [*]; done) | (simp [wrap64]; done)), H', ⟨by have := HJ2.out; have := HJ14.out; have := HJ26.out; first | omega | exact Nat.le_refl _⟩, ⟨by (with_reducible repeat (first | refine blk_drewN ?_ _ | refine blk_drew ?_ | refine blk_alloc ?_ _)); exact BK148.out⟩, ⟨by (with_reducible repeat (first | refine blk_drewN ?_ _ | refine blk_drew ?_ | refine blk_alloc ?_ _)); exact BK161.out⟩, ⟨by repeat (first | (with_reducible first | exact HB.out | apply below_alloc | apply pw_below_drewN | apply below_drew1 | refine below_set ?_ GE148.out | refine below_set ?_ GE161.out) | exact HB.out)⟩⟩
                      · rw [if_neg c38] at H
                        have c38b0 : decide (t153 ≤ 15) = false := decide_eq_false c38
                        clear c38
                        (first | rw [c38b0] | (simp only [i64_w, i32_w]; rw [c38b0]) | skip)
                        have H' := Aside0.mk H
                        clear H
                        have hnb43 := NB161_148.out
                        have hnc43 := NB148_161.out
                        have hcz44_0 : wc.cell? ⟨gb161, 0, none⟩ = some (.int .i64 t153) := (blk_cell BK161.out 0).trans rfl
                        have hcz44_1 : wc.cell? ⟨gb161, 1, none⟩ = some (.int .i64 t154) := (blk_cell BK161.out 1).trans rfl
                        have hcz44_2 : wc.cell? ⟨gb161, 2, none⟩ = some (.int .i64 t155) := (blk_cell BK161.out 2).trans rfl
                        have hcz44_3 : wc.cell? ⟨gb161, 3, none⟩ = some (.int .i64 x162003_26) := (blk_cell BK161.out 3).trans rfl
                        have hcz44_4 : wc.cell? ⟨gb161, 4, none⟩ = some (.int .i64 t157) := (blk_cell BK161.out 4).trans rfl
                        have hcz44_5 : wc.cell? ⟨gb161, 5, none⟩ = some (.int .i64 t158) := (blk_cell BK161.out 5).trans rfl
                        have hcz44_6 : wc.cell? ⟨gb161, 6, none⟩ = some (.int .i64 t159) := (blk_cell BK161.out 6).trans rfl
                        have hcz44_7 : wc.cell? ⟨gb161, 7, none⟩ = some (.int .i64 t160) := (blk_cell BK161.out 7).trans rfl
                        have hfz44_0 := blk_frozen BK161.out 0
                        have hfz44_1 := blk_frozen BK161.out 1
                        have hfz44_2 := blk_frozen BK161.out 2
                        have hfz44_3 := blk_frozen BK161.out 3
                        have hfz44_4 := blk_frozen BK161.out 4
                        have hfz44_5 := blk_frozen BK161.out 5
                        have hfz44_6 := blk_frozen BK161.out 6
                        have hfz44_7 := blk_frozen BK161.out 7
                        go_wp2
                        go_meet
                        case rel => exact ⟨_, (false), (by first | rfl | (simp; done) | (simp [*]; done) | (simp [wrap64]; done)), H', ⟨by have := HJ2.out; have := HJ14.out; have := HJ26.out; first | omega | exact Nat.le_refl _⟩, ⟨by (with_reducible repeat (first | refine blk_drewN ?_ _ | refine blk_drew ?_ | refine blk_alloc ?_ _)); exact BK148.out⟩, ⟨by (with_reducible repeat (first | refine blk_drewN ?_ _ | refine blk_drew ?_ | refine blk_alloc ?_ _)); exact BK161.out⟩, ⟨by repeat (first | (with_reducible first | exact HB.out | apply below_alloc | apply pw_below_drewN | apply below_drew1 | refine below_set ?_ GE148.out | refine below_set ?_ GE161.out) | exact HB.out)⟩⟩
                    case rest =>
                      clear HC37
                      try clear c1
                      try clear p1
                      try clear q1
                      try clear hx1
                      try clear c2
                      try clear p2
                      try clear c3
                      try clear c4
                      try clear c6
                      try clear p6
                      try clear c7
                      try clear c7b0
                      try clear c8
                      try clear c8b0
                      try clear c10
                      try clear c12
                      try clear c12b0
                      try clear c13
                      try clear c13b0
                      try clear p15
                      try clear q15
                      try clear hx15
                      try clear p16
                      try clear q16
                      try clear hx16
                      try clear c18
                      try clear c20
                      try clear c20b0
                      try clear c22
                      try clear c25
                      try clear c26
                      try clear c28
                      try clear c29
                      try clear c29b0
                      try clear c30
                      try clear c33
                      try clear c33b0
                      try clear c34
                      try clear c34b0
                      try clear c35
                      try clear c38
                      try clear c38b0
                      try clear c40
                      try clear c43
                      try clear hcz11_0
                      try clear hcz11_1
                      try clear hcz11_2
                      try clear hcz11_3
                      try clear hcz11_4
                      try clear hcz11_5
                      try clear hcz11_6
                      try clear hcz11_7
                      try clear hcz19_0
                      try clear hcz19_1
                      try clear hcz19_2
                      try clear hcz19_3
                      try clear hcz19_4
                      try clear hcz19_5
                      try clear hcz19_6
                      try clear hcz19_7
                      try clear hcz23_0
                      try clear hcz23_1
                      try clear hcz23_2
                      try clear hcz23_3
                      try clear hcz23_4
                      try clear hcz23_5
                      try clear hcz23_6
                      try clear hcz23_7
                      try clear hcz26_0
                      try clear hcz26_1
                      try clear hcz26_2
                      try clear hcz26_3
                      try clear hcz26_4
                      try clear hcz26_5
                      try clear hcz26_6
                      try clear hcz26_7
                      try clear hcz31_0
                      try clear hcz31_1
                      try clear hcz31_2
                      try clear hcz31_3
                      try clear hcz31_4
                      try clear hcz31_5
                      try clear hcz31_6
                      try clear hcz31_7
                      try clear hcz36_0
                      try clear hcz36_1
                      try clear hcz36_2
                      try clear hcz36_3
                      try clear hcz36_4
                      try clear hcz36_5
                      try clear hcz36_6
                      try clear hcz36_7
                      try clear hcz41_0
                      try clear hcz41_1
                      try clear hcz41_2
                      try clear hcz41_3
                      try clear hcz41_4
                      try clear hcz41_5
                      try clear hcz41_6
                      try clear hcz41_7
                      try clear hcz44_0
                      try clear hcz44_1
                      try clear hcz44_2
                      try clear hcz44_3
                      try clear hcz44_4
                      try clear hcz44_5
                      try clear hcz44_6
                      try clear hcz44_7
                      try clear hfz11_0
                      try clear hfz11_1
                      try clear hfz11_2
                      try clear hfz11_3
                      try clear hfz11_4
                      try clear hfz11_5
                      try clear hfz11_6
                      try clear hfz11_7
                      try clear hfz19_0
                      try clear hfz19_1
                      try clear hfz19_2
                      try clear hfz19_3
                      try clear hfz19_4
                      try clear hfz19_5
                      try clear hfz19_6
                      try clear hfz19_7
                      try clear hfz23_0
                      try clear hfz23_1
                      try clear hfz23_2
                      try clear hfz23_3
                      try clear hfz23_4
                      try clear hfz23_5
                      try clear hfz23_6
                      try clear hfz23_7
                      try clear hfz26_0
                      try clear hfz26_1
                      try clear hfz26_2
                      try clear hfz26_3
                      try clear hfz26_4
                      try clear hfz26_5
                      try clear hfz26_6
                      try clear hfz26_7
                      try clear hfz31_0
                      try clear hfz31_1
                      try clear hfz31_2
                      try clear hfz31_3
                      try clear hfz31_4
                      try clear hfz31_5
                      try clear hfz31_6
                      try clear hfz31_7
                      try clear hfz36_0
                      try clear hfz36_1
                      try clear hfz36_2
                      try clear hfz36_3
                      try clear hfz36_4
                      try clear hfz36_5
                      try clear hfz36_6
                      try clear hfz36_7
                      try clear hfz41_0
                      try clear hfz41_1
                      try clear hfz41_2
                      try clear hfz41_3
                      try clear hfz41_4
                      try clear hfz41_5
                      try clear hfz41_6
                      try clear hfz41_7
                      try clear hfz44_0
                      try clear hfz44_1
                      try clear hfz44_2
                      try clear hfz44_3
                      try clear hfz44_4
                      try clear hfz44_5
                      try clear hfz44_6
                      try clear hfz44_7
                      try clear hx150_0
                      try clear hx152_0
                      try clear hx163_0
                      try clear p1
                      try clear p15
                      try clear p150
                      try clear p152
                      try clear p16
                      try clear p163
                      try clear p2
                      try clear p6
                      try clear q1
                      try clear q15
                      try clear q150
                      try clear q152
                      try clear q16
                      try clear q163
                      obtain ⟨kq, x59_36, rfl, HA, HJ36, BK148, BK161, HB⟩ := hcut
                      cases kq with
                      | zero => exact absurd HA.out (by simp [spec_Decode.j3])
                      | succ kj36 =>
                        have H := HA.out
                        clear HA
                        simp only [spec_Decode.j3] at H
                        by_cases c45 : x59_36 = true
                        · subst c45
                          have H1 : (if x8_26 ≥ (l0.length : Int) then (some (0, 0, 0, 0, 0, 0, 0, 0, 0, false)) else (if 0 ≤ x8_26 then (if x8_26 < (l0.length : Int) then ((spec_InsOk.f kj36 t153 t154 t155 x162003_26 t157 t158 (rd l0 x8_26) t160).bind fun t166 => (if t166 = true then (some (t153, t154, t155, x162003_26, t157, t158, rd l0 x8_26, t160, wrap64 ((wrap64 (x8_26 + 1)) - a1), true)) else (some (0, 0, 0, 0, 0, 0, 0, 0, 0, false)))) else (none)) else (none))) = some (r1, r2, r3, r4, r5, r6, r7, r8, r9, r10) := by rw [if_pos rfl] at H; exact H
                          clear H
                          have H := H1
                          clear H1
                          by_cases c46 : x8_26 ≥ (l0.length : Int)
                          · rw [if_pos c46] at H
                            have c46b0 : decide ((l0.length : Int) ≤ x8_26) = true := decide_eq_true c46
                            clear c46
                            simp only [Option.some.injEq, Prod.mk.injEq] at H
                            obtain ⟨rfl, rfl, rfl, rfl, rfl, rfl, rfl, rfl, rfl, rfl⟩ := H
                            have hnb47 := NB148_161.out
                            have hnc47 := NB161_148.out
                            have hcz48_0 : wc.cell? ⟨gb148, 0, none⟩ = some (.int .i64 x149000_26) := (blk_cell BK148.out 0).trans rfl
                            have hcz48_1 : wc.cell? ⟨gb148, 1, none⟩ = some (.int .i64 x149001_26) := (blk_cell BK148.out 1).trans rfl
                            have hcz48_2 : wc.cell? ⟨gb148, 2, none⟩ = some (.int .i64 x149002_26) := (blk_cell BK148.out 2).trans rfl
                            have hcz48_3 : wc.cell? ⟨gb148, 3, none⟩ = some (.int .i64 x149003_26) := (blk_cell BK148.out 3).trans rfl
                            have hcz48_4 : wc.cell? ⟨gb148, 4, none⟩ = some (.int .i64 x149004_26) := (blk_cell BK148.out 4).trans rfl
                            have hcz48_5 : wc.cell? ⟨gb148, 5, none⟩ = some (.int .i64 x149005_26) := (blk_cell BK148.out 5).trans rfl
                            have hcz48_6 : wc.cell? ⟨gb148, 6, none⟩ = some (.int .i64 x149006_26) := (blk_cell BK148.out 6).trans rfl
                            have hcz48_7 : wc.cell? ⟨gb148, 7, none⟩ = some (.int .i64 x149007_26) := (blk_cell BK148.out 7).trans rfl
                            have hfz48_0 := blk_frozen BK148.out 0
                            have hfz48_1 := blk_frozen BK148.out 1
                            have hfz48_2 := blk_frozen BK148.out 2
                            have hfz48_3 := blk_frozen BK148.out 3
                            have hfz48_4 := blk_frozen BK148.out 4
                            have hfz48_5 := blk_frozen BK148.out 5
                            have hfz48_6 := blk_frozen BK148.out 6
                            have hfz48_7 := blk_frozen BK148.out 7
                            go_wp2
                            refine bodyPost_ret (results_ctt rfl _ _ gb148 32 #[.int .i64 0, .int .i64 0, .int .i64 0, .int .i64 0, .int .i64 0, .int .i64 0, .int .i64 0, .int .i64 0] (0, 0) _ rfl (by (with_reducible repeat (first | refine blk_drewN ?_ _ | refine blk_drew ?_ | refine blk_alloc ?_ _)); refine blk_put (cs := #[.int .i64 0, .int .i64 0, .int .i64 0, .int .i64 0, .int .i64 0, .int .i64 0, .int .i64 0, .int .i64 x149007_26]) ?_ 7 _ rfl; (with_reducible repeat (first | refine blk_drewN ?_ _ | refine blk_drew ?_ | refine blk_alloc ?_ _)); refine blk_put (cs := #[.int .i64 0, .int .i64 0, .int .i64 0, .int .i64 0, .int .i64 0, .int .i64 0, .int .i64 x149006_26, .int .i64 x149007_26]) ?_ 6 _ rfl; (with_reducible repeat (first | refine blk_drewN ?_ _ | refine blk_drew ?_ | refine blk_alloc ?_ _)); refine blk_put (cs := #[.int .i64 0, .int .i64 0, .int .i64 0, .int .i64 0, .int .i64 0, .int .i64 x149005_26, .int .i64 x149006_26, .int .i64 x149007_26]) ?_ 5 _ rfl; (with_reducible repeat (first | refine blk_drewN ?_ _ | refine blk_drew ?_ | refine blk_alloc ?_ _)); refine blk_put (cs := #[.int .i64 0, .int .i64 0, .int .i64 0, .int .i64 0, .int .i64 x149004_26, .int .i64 x149005_26, .int .i64 x149006_26, .int .i64 x149007_26]) ?_ 4 _ rfl; (with_reducible repeat (first | refine blk_drewN ?_ _ | refine blk_drew ?_ | refine blk_alloc ?_ _)); refine blk_put (cs := #[.int .i64 0, .int .i64 0, .int .i64 0, .int .i64 x149003_26, .int .i64 x149004_26, .int .i64 x149005_26, .int .i64 x149006_26, .int .i64 x149007_26]) ?_ 3 _ rfl; (with_reducible repeat (first | refine blk_drewN ?_ _ | refine blk_drew ?_ | refine blk_alloc ?_ _)); refine blk_put (cs := #[.int .i64 0, .int .i64 0, .int .i64 x149002_26, .int .i64 x149003_26, .int .i64 x149004_26, .int .i64 x149005_26, .int .i64 x149006_26, .int .i64 x149007_26]) ?_ 2 _ rfl; (with_reducible repeat (first | refine blk_drewN ?_ _ | refine blk_drew ?_ | refine blk_alloc ?_ _)); refine blk_put (cs := #[.int .i64 0, .int .i64 x149001_26, .int .i64 x149002_26, .int .i64 x149003_26, .int .i64 x149004_26, .int .i64 x149005_26, .int .i64 x149006_26, .int .i64 x149007_26]) ?_ 1 _ rfl; (with_reducible repeat (first | refine blk_drewN ?_ _ | refine blk_drew ?_ | refine blk_alloc ?_ _)); refine blk_put (cs := #[.int .i64 x149000_26, .int .i64 x149001_26, .int .i64 x149002_26, .int .i64 x149003_26, .int .i64 x149004_26, .int .i64 x149005_26, .int .i64 x149006_26, .int .i64 x149007_26]) ?_ 0 _ rfl; (with_reducible repeat (first | refine blk_drewN ?_ _ | refine blk_drew ?_ | refine blk_alloc ?_ _)); exact BK148.out) Try.underlying32 rfl (by kernel_rfl)) rfl ?_
                            exact ⟨by first | rfl | (simp [errW_none, errW_some] <;> rfl) | (simp [*, errW_none, errW_some] <;> rfl), by repeat (first | (with_reducible first | exact HB.out | apply below_alloc | apply pw_below_drewN | apply below_drew1 | refine below_set ?_ GE148.out | refine below_set ?_ GE161.out) | exact HB.out)⟩
                          · rw [if_neg c46] at H
                            have c46b0 : decide ((l0.length : Int) ≤ x8_26) = false := decide_eq_false c46
                            clear c46
                            by_cases c49 : 0 ≤ x8_26
                            · rw [if_pos c49] at H
                              have c49b0 : decide (0 ≤ x8_26) = true := decide_eq_true c49
                              clear c49
                              by_cases c50 : x8_26 < (l0.length : Int)
                              · rw [if_pos c50] at H
                                have c50b0 : decide (x8_26 < (l0.length : Int)) = true := decide_eq_true c50
                                clear c50
                                replace H := Option.bind_eq_some_iff.mp H
                                obtain ⟨t166, A510, H⟩ := H
                                try dsimp only at H
                                have A51 := Aside0.mk A510
                                clear A510
                                by_cases c52 : t166 = true
                                · subst c52
                                  have H1 : (some (t153, t154, t155, x162003_26, t157, t158, rd l0 x8_26, t160, wrap64 ((wrap64 (x8_26 + 1)) - a1), true)) = some (r1, r2, r3, r4, r5, r6, r7, r8, r9, r10) := by rw [if_pos rfl] at H; exact H
                                  clear H
                                  have H := H1
                                  clear H1
                                  simp only [Option.some.injEq, Prod.mk.injEq] at H
                                  obtain ⟨rfl, rfl, rfl, rfl, rfl, rfl, rfl, rfl, rfl, rfl⟩ := H
                                  have p165 : 0 ≤ (x8_26 : Int) := of_decide_eq_true (by first | (with_reducible assumption) | assumption)
                                  have q165 : x8_26 < (l0.length : Int) := of_decide_eq_true (by first | (with_reducible assumption) | assumption)
                                  obtain ⟨ad165, e165, hx165_0⟩ := Kd.at_int HR0.out x8_26 p165 q165
                                  obtain rfl : ad152 = ad165 := (by injection e165)
                                  replace hx165_0 := (HB.out.cell (World.block_lt_of_cell? w _ hx165_0)).trans hx165_0
                                  replace p165 := eq_true p165
                                  replace q165 := eq_true q165
                                  have hnb53 := NB161_148.out
                                  have hnc53 := NB148_161.out
                                  have hcz54_0 : wc.cell? ⟨gb161, 0, none⟩ = some (.int .i64 t153) := (blk_cell BK161.out 0).trans rfl
                                  have hcz54_1 : wc.cell? ⟨gb161, 1, none⟩ = some (.int .i64 t154) := (blk_cell BK161.out 1).trans rfl
                                  have hcz54_2 : wc.cell? ⟨gb161, 2, none⟩ = some (.int .i64 t155) := (blk_cell BK161.out 2).trans rfl
                                  have hcz54_3 : wc.cell? ⟨gb161, 3, none⟩ = some (.int .i64 x162003_26) := (blk_cell BK161.out 3).trans rfl
                                  have hcz54_4 : wc.cell? ⟨gb161, 4, none⟩ = some (.int .i64 t157) := (blk_cell BK161.out 4).trans rfl
                                  have hcz54_5 : wc.cell? ⟨gb161, 5, none⟩ = some (.int .i64 t158) := (blk_cell BK161.out 5).trans rfl
                                  have hcz54_6 : wc.cell? ⟨gb161, 6, none⟩ = some (.int .i64 t159) := (blk_cell BK161.out 6).trans rfl
                                  have hcz54_7 : wc.cell? ⟨gb161, 7, none⟩ = some (.int .i64 t160) := (blk_cell BK161.out 7).trans rfl
                                  have hfz54_0 := blk_frozen BK161.out 0
                                  have hfz54_1 := blk_frozen BK161.out 1
                                  have hfz54_2 := blk_frozen BK161.out 2
                                  have hfz54_3 := blk_frozen BK161.out 3
                                  have hfz54_4 := blk_frozen BK161.out 4
                                  have hfz54_5 := blk_frozen BK161.out 5
                                  have hfz54_6 := blk_frozen BK161.out 6
                                  have hfz54_7 := blk_frozen BK161.out 7
                                  go_wp2_with (first | ((with_reducible refine gate_callee (f := 19) rfl ?_); refine goesL_ (some 74) rfl rfl Try.func19 (by kernel_rfl) rfl #[.agg #[.int .i64 t153, .int .i64 t154, .int .i64 t155, .int .i64 x162003_26, .int .i64 t157, .int .i64 t158, .int .i64 (rd l0 x8_26), .int .i64 t160]] rfl (by (try simp only [List.map_toArray, List.map_cons, List.map_nil]); first | done | rfl | (simp only [List.length_drop, List.length_take]; rfl)) ?_; (with_reducible refine (spec_InsOk.calls kj36 t153 t154 t155 x162003_26 t157 t158 (rd l0 x8_26) t160 true _ A51.out).mono ?_); rintro e w55 ⟨rfl, hb⟩; refine ⟨_, rfl, ?_⟩; have n0_ := Aside0.mk (blk_below (g := gb148) (o := .cells #[.int .i64 x149000_26, .int .i64 x149001_26, .int .i64 x149002_26, .int .i64 x149003_26, .int .i64 x149004_26, .int .i64 x149005_26, .int .i64 x149006_26, .int .i64 x149007_26] 32 (0, 0)) (by (with_reducible repeat (first | refine blk_drewN ?_ _ | refine blk_drew ?_ | refine blk_alloc ?_ _)); refine blk_far ?_ NB148_161.out _; (with_reducible repeat (first | refine blk_drewN ?_ _ | refine blk_drew ?_ | refine blk_alloc ?_ _)); exact BK148.out) hb); have n1_ := Aside0.mk (blk_below (g := gb161) (o := .cells #[.int .i64 t153, .int .i64 t154, .int .i64 t155, .int .i64 x162003_26, .int .i64 t157, .int .i64 t158, .int .i64 (rd l0 x8_26), .int .i64 t160] 32 (0, 0)) (by (with_reducible repeat (first | refine blk_drewN ?_ _ | refine blk_drew ?_ | refine blk_alloc ?_ _)); refine blk_put (cs := #[.int .i64 t153, .int .i64 t154, .int .i64 t155, .int .i64 x162003_26, .int .i64 t157, .int .i64 t158, .int .i64 t159, .int .i64 t160]) ?_ 6 _ rfl; (with_reducible repeat (first | refine blk_drewN ?_ _ | refine blk_drew ?_ | refine blk_alloc ?_ _)); exact BK161.out) hb); have n2_ := Aside0.mk (below_step (by repeat (first | (with_reducible first | exact HB.out | apply below_alloc | apply pw_below_drewN | apply below_drew1 | refine below_set ?_ GE148.out | refine below_set ?_ GE161.out) | exact HB.out)) hb); clear BK148; clear BK161; clear HB; have BK148 := n0_; have BK161 := n1_; have HB := n2_; clear n0_ n1_ n2_; (try clear hb); (try clear hb2); (try clear hk); (try clear hi); have hcz56_0 : w55.cell? ⟨gb161, 0, none⟩ = some (.int .i64 t153) := (blk_cell BK161.out 0).trans rfl; have hcz56_1 : w55.cell? ⟨gb161, 1, none⟩ = some (.int .i64 t154) := (blk_cell BK161.out 1).trans rfl; have hcz56_2 : w55.cell? ⟨gb161, 2, none⟩ = some (.int .i64 t155) := (blk_cell BK161.out 2).trans rfl; have hcz56_3 : w55.cell? ⟨gb161, 3, none⟩ = some (.int .i64 x162003_26) := (blk_cell BK161.out 3).trans rfl; have hcz56_4 : w55.cell? ⟨gb161, 4, none⟩ = some (.int .i64 t157) := (blk_cell BK161.out 4).trans rfl; have hcz56_5 : w55.cell? ⟨gb161, 5, none⟩ = some (.int .i64 t158) := (blk_cell BK161.out 5).trans rfl; have hcz56_6 : w55.cell? ⟨gb161, 6, none⟩ = some (.int .i64 (rd l0 x8_26)) := (blk_cell BK161.out 6).trans rfl; have hcz56_7 : w55.cell? ⟨gb161, 7, none⟩ = some (.int .i64 t160) := (blk_cell BK161.out 7).trans rfl; have hfz56_0 := blk_frozen BK161.out 0; have hfz56_1 := blk_frozen BK161.out 1; have hfz56_2 := blk_frozen BK161.out 2; have hfz56_3 := blk_frozen BK161.out 3; have hfz56_4 := blk_frozen BK161.out 4; have hfz56_5 := blk_frozen BK161.out 5; have hfz56_6 := blk_frozen BK161.out 6; have hfz56_7 := blk_frozen BK161.out 7; have hcz57_0 : w55.cell? ⟨gb148, 0, none⟩ = some (.int .i64 x149000_26) := (blk_cell BK148.out 0).trans rfl; have hcz57_1 : w55.cell? ⟨gb148, 1, none⟩ = some (.int .i64 x149001_26) := (blk_cell BK148.out 1).trans rfl; have hcz57_2 : w55.cell? ⟨gb148, 2, none⟩ = some (.int .i64 x149002_26) := (blk_cell BK148.out 2).trans rfl; have hcz57_3 : w55.cell? ⟨gb148, 3, none⟩ = some (.int .i64 x149003_26) := (blk_cell BK148.out 3).trans rfl; have hcz57_4 : w55.cell? ⟨gb148, 4, none⟩ = some (.int .i64 x149004_26) := (blk_cell BK148.out 4).trans rfl; have hcz57_5 : w55.cell? ⟨gb148, 5, none⟩ = some (.int .i64 x149005_26) := (blk_cell BK148.out 5).trans rfl; have hcz57_6 : w55.cell? ⟨gb148, 6, none⟩ = some (.int .i64 x149006_26) := (blk_cell BK148.out 6).trans rfl; have hcz57_7 : w55.cell? ⟨gb148, 7, none⟩ = some (.int .i64 x149007_26) := (blk_cell BK148.out 7).trans rfl; have hfz57_0 := blk_frozen BK148.out 0; have hfz57_1 := blk_frozen BK148.out 1; have hfz57_2 := blk_frozen BK148.out 2; have hfz57_3 := blk_frozen BK148.out 3; have hfz57_4 := blk_frozen BK148.out 4; have hfz57_5 := blk_frozen BK148.out 5; have hfz57_6 := blk_frozen BK148.out 6; have hfz57_7 := blk_frozen BK148.out 7))
                                  refine bodyPost_ret (results_ctt rfl _ _ gb148 32 #[.int .i64 t153, .int .i64 t154, .int .i64 t155, .int .i64 x162003_26, .int .i64 t157, .int .i64 t158, .int .i64 (rd l0 x8_26), .int .i64 t160] (0, 0) _ rfl (by (with_reducible repeat (first | refine blk_drewN ?_ _ | refine blk_drew ?_ | refine blk_alloc ?_ _)); refine blk_put (cs := #[.int .i64 t153, .int .i64 t154, .int .i64 t155, .int .i64 x162003_26, .int .i64 t157, .int .i64 t158, .int .i64 (rd l0 x8_26), .int .i64 x149007_26]) ?_ 7 _ rfl; (with_reducible repeat (first | refine blk_drewN ?_ _ | refine blk_drew ?_ | refine blk_alloc ?_ _)); refine blk_put (cs := #[.int .i64 t153, .int .i64 t154, .int .i64 t155, .int .i64 x162003_26, .int .i64 t157, .int .i64 t158, .int .i64 x149006_26, .int .i64 x149007_26]) ?_ 6 _ rfl; (with_reducible repeat (first | refine blk_drewN ?_ _ | refine blk_drew ?_ | refine blk_alloc ?_ _)); refine blk_put (cs := #[.int .i64 t153, .int .i64 t154, .int .i64 t155, .int .i64 x162003_26, .int .i64 t157, .int .i64 x149005_26, .int .i64 x149006_26, .int .i64 x149007_26]) ?_ 5 _ rfl; (with_reducible repeat (first | refine blk_drewN ?_ _ | refine blk_drew ?_ | refine blk_alloc ?_ _)); refine blk_put (cs := #[.int .i64 t153, .int .i64 t154, .int .i64 t155, .int .i64 x162003_26, .int .i64 x149004_26, .int .i64 x149005_26, .int .i64 x149006_26, .int .i64 x149007_26]) ?_ 4 _ rfl; (with_reducible repeat (first | refine blk_drewN ?_ _ | refine blk_drew ?_ | refine blk_alloc ?_ _)); refine blk_put (cs := #[.int .i64 t153, .int .i64 t154, .int .i64 t155, .int .i64 x149003_26, .int .i64 x149004_26, .int .i64 x149005_26, .int .i64 x149006_26, .int .i64 x149007_26]) ?_ 3 _ rfl; (with_reducible repeat (first | refine blk_drewN ?_ _ | refine blk_drew ?_ | refine blk_alloc ?_ _)); refine blk_put (cs := #[.int .i64 t153, .int .i64 t154, .int .i64 x149002_26, .int .i64 x149003_26, .int .i64 x149004_26, .int .i64 x149005_26, .int .i64 x149006_26, .int .i64 x149007_26]) ?_ 2 _ rfl; (with_reducible repeat (first | refine blk_drewN ?_ _ | refine blk_drew ?_ | refine blk_alloc ?_ _)); refine blk_put (cs := #[.int .i64 t153, .int .i64 x149001_26, .int .i64 x149002_26, .int .i64 x149003_26, .int .i64 x149004_26, .int .i64 x149005_26, .int .i64 x149006_26, .int .i64 x149007_26]) ?_ 1 _ rfl; (with_reducible repeat (first | refine blk_drewN ?_ _ | refine blk_drew ?_ | refine blk_alloc ?_ _)); refine blk_put (cs := #[.int .i64 x149000_26, .int .i64 x149001_26, .int .i64 x149002_26, .int .i64 x149003_26, .int .i64 x149004_26, .int .i64 x149005_26, .int .i64 x149006_26, .int .i64 x149007_26]) ?_ 0 _ rfl; (with_reducible repeat (first | refine blk_drewN ?_ _ | refine blk_drew ?_ | refine blk_alloc ?_ _)); exact BK148.out) Try.underlying32 rfl (by kernel_rfl)) rfl ?_
                                  exact ⟨by first | rfl | (simp [errW_none, errW_some] <;> rfl) | (simp [*, errW_none, errW_some] <;> rfl), by repeat (first | (with_reducible first | exact HB.out | apply below_alloc | apply pw_below_drewN | apply below_drew1 | refine below_set ?_ GE148.out | refine below_set ?_ GE161.out) | exact HB.out)⟩
                                · replace c52 := Bool.eq_false_iff.mpr c52
                                  subst c52
                                  have H1 : (some (0, 0, 0, 0, 0, 0, 0, 0, 0, false)) = some (r1, r2, r3, r4, r5, r6, r7, r8, r9, r10) := by rw [if_neg (show ¬ (false = true) by decide)] at H; exact H
                                  clear H
                                  have H := H1
                                  clear H1
                                  simp only [Option.some.injEq, Prod.mk.injEq] at H
                                  obtain ⟨rfl, rfl, rfl, rfl, rfl, rfl, rfl, rfl, rfl, rfl⟩ := H
                                  have p165 : 0 ≤ (x8_26 : Int) := of_decide_eq_true (by first | (with_reducible assumption) | assumption)
                                  have q165 : x8_26 < (l0.length : Int) := of_decide_eq_true (by first | (with_reducible assumption) | assumption)
                                  obtain ⟨ad165, e165, hx165_0⟩ := Kd.at_int HR0.out x8_26 p165 q165
                                  obtain rfl : ad152 = ad165 := (by injection e165)
                                  replace hx165_0 := (HB.out.cell (World.block_lt_of_cell? w _ hx165_0)).trans hx165_0
                                  replace p165 := eq_true p165
                                  replace q165 := eq_true q165
                                  have hnb58 := NB161_148.out
                                  have hnc58 := NB148_161.out
                                  have hcz59_0 : wc.cell? ⟨gb161, 0, none⟩ = some (.int .i64 t153) := (blk_cell BK161.out 0).trans rfl
                                  have hcz59_1 : wc.cell? ⟨gb161, 1, none⟩ = some (.int .i64 t154) := (blk_cell BK161.out 1).trans rfl
                                  have hcz59_2 : wc.cell? ⟨gb161, 2, none⟩ = some (.int .i64 t155) := (blk_cell BK161.out 2).trans rfl
                                  have hcz59_3 : wc.cell? ⟨gb161, 3, none⟩ = some (.int .i64 x162003_26) := (blk_cell BK161.out 3).trans rfl
                                  have hcz59_4 : wc.cell? ⟨gb161, 4, none⟩ = some (.int .i64 t157) := (blk_cell BK161.out 4).trans rfl
                                  have hcz59_5 : wc.cell? ⟨gb161, 5, none⟩ = some (.int .i64 t158) := (blk_cell BK161.out 5).trans rfl
                                  have hcz59_6 : wc.cell? ⟨gb161, 6, none⟩ = some (.int .i64 t159) := (blk_cell BK161.out 6).trans rfl
                                  have hcz59_7 : wc.cell? ⟨gb161, 7, none⟩ = some (.int .i64 t160) := (blk_cell BK161.out 7).trans rfl
                                  have hfz59_0 := blk_frozen BK161.out 0
                                  have hfz59_1 := blk_frozen BK161.out 1
                                  have hfz59_2 := blk_frozen BK161.out 2
                                  have hfz59_3 := blk_frozen BK161.out 3
                                  have hfz59_4 := blk_frozen BK161.out 4
                                  have hfz59_5 := blk_frozen BK161.out 5
                                  have hfz59_6 := blk_frozen BK161.out 6
                                  have hfz59_7 := blk_frozen BK161.out 7
                                  go_wp2_with (first | ((with_reducible refine gate_callee (f := 19) rfl ?_); refine goesL_ (some 74) rfl rfl Try.func19 (by kernel_rfl) rfl #[.agg #[.int .i64 t153, .int .i64 t154, .int .i64 t155, .int .i64 x162003_26, .int .i64 t157, .int .i64 t158, .int .i64 (rd l0 x8_26), .int .i64 t160]] rfl (by (try simp only [List.map_toArray, List.map_cons, List.map_nil]); first | done | rfl | (simp only [List.length_drop, List.length_take]; rfl)) ?_; (with_reducible refine (spec_InsOk.calls kj36 t153 t154 t155 x162003_26 t157 t158 (rd l0 x8_26) t160 false _ A51.out).mono ?_); rintro e w60 ⟨rfl, hb⟩; refine ⟨_, rfl, ?_⟩; have n0_ := Aside0.mk (blk_below (g := gb148) (o := .cells #[.int .i64 x149000_26, .int .i64 x149001_26, .int .i64 x149002_26, .int .i64 x149003_26, .int .i64 x149004_26, .int .i64 x149005_26, .int .i64 x149006_26, .int .i64 x149007_26] 32 (0, 0)) (by (with_reducible repeat (first | refine blk_drewN ?_ _ | refine blk_drew ?_ | refine blk_alloc ?_ _)); refine blk_far ?_ NB148_161.out _; (with_reducible repeat (first | refine blk_drewN ?_ _ | refine blk_drew ?_ | refine blk_alloc ?_ _)); exact BK148.out) hb); have n1_ := Aside0.mk (blk_below (g := gb161) (o := .cells #[.int .i64 t153, .int .i64 t154, .int .i64 t155, .int .i64 x162003_26, .int .i64 t157, .int .i64 t158, .int .i64 (rd l0 x8_26), .int .i64 t160] 32 (0, 0)) (by (with_reducible repeat (first | refine blk_drewN ?_ _ | refine blk_drew ?_ | refine blk_alloc ?_ _)); refine blk_put (cs := #[.int .i64 t153, .int .i64 t154, .int .i64 t155, .int .i64 x162003_26, .int .i64 t157, .int .i64 t158, .int .i64 t159, .int .i64 t160]) ?_ 6 _ rfl; (with_reducible repeat (first | refine blk_drewN ?_ _ | refine blk_drew ?_ | refine blk_alloc ?_ _)); exact BK161.out) hb); have n2_ := Aside0.mk (below_step (by repeat (first | (with_reducible first | exact HB.out | apply below_alloc | apply pw_below_drewN | apply below_drew1 | refine below_set ?_ GE148.out | refine below_set ?_ GE161.out) | exact HB.out)) hb); clear BK148; clear BK161; clear HB; have BK148 := n0_; have BK161 := n1_; have HB := n2_; clear n0_ n1_ n2_; (try clear hb); (try clear hb2); (try clear hk); (try clear hi); have hcz61_0 : w60.cell? ⟨gb148, 0, none⟩ = some (.int .i64 x149000_26) := (blk_cell BK148.out 0).trans rfl; have hcz61_1 : w60.cell? ⟨gb148, 1, none⟩ = some (.int .i64 x149001_26) := (blk_cell BK148.out 1).trans rfl; have hcz61_2 : w60.cell? ⟨gb148, 2, none⟩ = some (.int .i64 x149002_26) := (blk_cell BK148.out 2).trans rfl; have hcz61_3 : w60.cell? ⟨gb148, 3, none⟩ = some (.int .i64 x149003_26) := (blk_cell BK148.out 3).trans rfl; have hcz61_4 : w60.cell? ⟨gb148, 4, none⟩ = some (.int .i64 x149004_26) := (blk_cell BK148.out 4).trans rfl; have hcz61_5 : w60.cell? ⟨gb148, 5, none⟩ = some (.int .i64 x149005_26) := (blk_cell BK148.out 5).trans rfl; have hcz61_6 : w60.cell? ⟨gb148, 6, none⟩ = some (.int .i64 x149006_26) := (blk_cell BK148.out 6).trans rfl; have hcz61_7 : w60.cell? ⟨gb148, 7, none⟩ = some (.int .i64 x149007_26) := (blk_cell BK148.out 7).trans rfl; have hfz61_0 := blk_frozen BK148.out 0; have hfz61_1 := blk_frozen BK148.out 1; have hfz61_2 := blk_frozen BK148.out 2; have hfz61_3 := blk_frozen BK148.out 3; have hfz61_4 := blk_frozen BK148.out 4; have hfz61_5 := blk_frozen BK148.out 5; have hfz61_6 := blk_frozen BK148.out 6; have hfz61_7 := blk_frozen BK148.out 7))
                                  refine bodyPost_ret (results_ctt rfl _ _ gb148 32 #[.int .i64 0, .int .i64 0, .int .i64 0, .int .i64 0, .int .i64 0, .int .i64 0, .int .i64 0, .int .i64 0] (0, 0) _ rfl (by (with_reducible repeat (first | refine blk_drewN ?_ _ | refine blk_drew ?_ | refine blk_alloc ?_ _)); refine blk_put (cs := #[.int .i64 0, .int .i64 0, .int .i64 0, .int .i64 0, .int .i64 0, .int .i64 0, .int .i64 0, .int .i64 x149007_26]) ?_ 7 _ rfl; (with_reducible repeat (first | refine blk_drewN ?_ _ | refine blk_drew ?_ | refine blk_alloc ?_ _)); refine blk_put (cs := #[.int .i64 0, .int .i64 0, .int .i64 0, .int .i64 0, .int .i64 0, .int .i64 0, .int .i64 x149006_26, .int .i64 x149007_26]) ?_ 6 _ rfl; (with_reducible repeat (first | refine blk_drewN ?_ _ | refine blk_drew ?_ | refine blk_alloc ?_ _)); refine blk_put (cs := #[.int .i64 0, .int .i64 0, .int .i64 0, .int .i64 0, .int .i64 0, .int .i64 x149005_26, .int .i64 x149006_26, .int .i64 x149007_26]) ?_ 5 _ rfl; (with_reducible repeat (first | refine blk_drewN ?_ _ | refine blk_drew ?_ | refine blk_alloc ?_ _)); refine blk_put (cs := #[.int .i64 0, .int .i64 0, .int .i64 0, .int .i64 0, .int .i64 x149004_26, .int .i64 x149005_26, .int .i64 x149006_26, .int .i64 x149007_26]) ?_ 4 _ rfl; (with_reducible repeat (first | refine blk_drewN ?_ _ | refine blk_drew ?_ | refine blk_alloc ?_ _)); refine blk_put (cs := #[.int .i64 0, .int .i64 0, .int .i64 0, .int .i64 x149003_26, .int .i64 x149004_26, .int .i64 x149005_26, .int .i64 x149006_26, .int .i64 x149007_26]) ?_ 3 _ rfl; (with_reducible repeat (first | refine blk_drewN ?_ _ | refine blk_drew ?_ | refine blk_alloc ?_ _)); refine blk_put (cs := #[.int .i64 0, .int .i64 0, .int .i64 x149002_26, .int .i64 x149003_26, .int .i64 x149004_26, .int .i64 x149005_26, .int .i64 x149006_26, .int .i64 x149007_26]) ?_ 2 _ rfl; (with_reducible repeat (first | refine blk_drewN ?_ _ | refine blk_drew ?_ | refine blk_alloc ?_ _)); refine blk_put (cs := #[.int .i64 0, .int .i64 x149001_26, .int .i64 x149002_26, .int .i64 x149003_26, .int .i64 x149004_26, .int .i64 x149005_26, .int .i64 x149006_26, .int .i64 x149007_26]) ?_ 1 _ rfl; (with_reducible repeat (first | refine blk_drewN ?_ _ | refine blk_drew ?_ | refine blk_alloc ?_ _)); refine blk_put (cs := #[.int .i64 x149000_26, .int .i64 x149001_26, .int .i64 x149002_26, .int .i64 x149003_26, .int .i64 x149004_26, .int .i64 x149005_26, .int .i64 x149006_26, .int .i64 x149007_26]) ?_ 0 _ rfl; (with_reducible repeat (first | refine blk_drewN ?_ _ | refine blk_drew ?_ | refine blk_alloc ?_ _)); exact BK148.out) Try.underlying32 rfl (by kernel_rfl)) rfl ?_
                                  exact ⟨by first | rfl | (simp [errW_none, errW_some] <;> rfl) | (simp [*, errW_none, errW_some] <;> rfl), by repeat (first | (with_reducible first | exact HB.out | apply below_alloc | apply pw_below_drewN | apply below_drew1 | refine below_set ?_ GE148.out | refine below_set ?_ GE161.out) | exact HB.out)⟩
                              · rw [if_neg c50] at H
                                exact absurd H (by simp)
                            · rw [if_neg c49] at H
                              exact absurd H (by simp)
                        · replace c45 := Bool.eq_false_iff.mpr c45
                          subst c45
                          have H1 : ((spec_InsOk.f kj36 t153 t154 t155 x162003_26 t157 t158 t159 t160).bind fun t167 => (if t167 = true then (some (t153, t154, t155, x162003_26, t157, t158, t159, t160, wrap64 (x8_26 - a1), true)) else (some (0, 0, 0, 0, 0, 0, 0, 0, 0, false)))) = some (r1, r2, r3, r4, r5, r6, r7, r8, r9, r10) := by rw [if_neg (show ¬ (false = true) by decide)] at H; exact H
                          clear H
                          have H := H1
                          clear H1
                          replace H := Option.bind_eq_some_iff.mp H
                          obtain ⟨t167, A620, H⟩ := H
                          try dsimp only at H
                          have A62 := Aside0.mk A620
                          clear A620
                          by_cases c63 : t167 = true
                          · subst c63
                            have H1 : (some (t153, t154, t155, x162003_26, t157, t158, t159, t160, wrap64 (x8_26 - a1), true)) = some (r1, r2, r3, r4, r5, r6, r7, r8, r9, r10) := by rw [if_pos rfl] at H; exact H
                            clear H
                            have H := H1
                            clear H1
                            simp only [Option.some.injEq, Prod.mk.injEq] at H
                            obtain ⟨rfl, rfl, rfl, rfl, rfl, rfl, rfl, rfl, rfl, rfl⟩ := H
                            have hnb64 := NB161_148.out
                            have hnc64 := NB148_161.out
                            have hcz65_0 : wc.cell? ⟨gb161, 0, none⟩ = some (.int .i64 t153) := (blk_cell BK161.out 0).trans rfl
                            have hcz65_1 : wc.cell? ⟨gb161, 1, none⟩ = some (.int .i64 t154) := (blk_cell BK161.out 1).trans rfl
                            have hcz65_2 : wc.cell? ⟨gb161, 2, none⟩ = some (.int .i64 t155) := (blk_cell BK161.out 2).trans rfl
                            have hcz65_3 : wc.cell? ⟨gb161, 3, none⟩ = some (.int .i64 x162003_26) := (blk_cell BK161.out 3).trans rfl
                            have hcz65_4 : wc.cell? ⟨gb161, 4, none⟩ = some (.int .i64 t157) := (blk_cell BK161.out 4).trans rfl
                            have hcz65_5 : wc.cell? ⟨gb161, 5, none⟩ = some (.int .i64 t158) := (blk_cell BK161.out 5).trans rfl
                            have hcz65_6 : wc.cell? ⟨gb161, 6, none⟩ = some (.int .i64 t159) := (blk_cell BK161.out 6).trans rfl
                            have hcz65_7 : wc.cell? ⟨gb161, 7, none⟩ = some (.int .i64 t160) := (blk_cell BK161.out 7).trans rfl
                            have hfz65_0 := blk_frozen BK161.out 0
                            have hfz65_1 := blk_frozen BK161.out 1
                            have hfz65_2 := blk_frozen BK161.out 2
                            have hfz65_3 := blk_frozen BK161.out 3
                            have hfz65_4 := blk_frozen BK161.out 4
                            have hfz65_5 := blk_frozen BK161.out 5
                            have hfz65_6 := blk_frozen BK161.out 6
                            have hfz65_7 := blk_frozen BK161.out 7
                            go_wp2_with (first | ((with_reducible refine gate_callee (f := 19) rfl ?_); refine goesL_ (some 74) rfl rfl Try.func19 (by kernel_rfl) rfl #[.agg #[.int .i64 t153, .int .i64 t154, .int .i64 t155, .int .i64 x162003_26, .int .i64 t157, .int .i64 t158, .int .i64 t159, .int .i64 t160]] rfl (by (try simp only [List.map_toArray, List.map_cons, List.map_nil]); first | done | rfl | (simp only [List.length_drop, List.length_take]; rfl)) ?_; (with_reducible refine (spec_InsOk.calls kj36 t153 t154 t155 x162003_26 t157 t158 t159 t160 true _ A62.out).mono ?_); rintro e w66 ⟨rfl, hb⟩; refine ⟨_, rfl, ?_⟩; have n0_ := Aside0.mk (blk_below (g := gb148) (o := .cells #[.int .i64 x149000_26, .int .i64 x149001_26, .int .i64 x149002_26, .int .i64 x149003_26, .int .i64 x149004_26, .int .i64 x149005_26, .int .i64 x149006_26, .int .i64 x149007_26] 32 (0, 0)) (by (with_reducible repeat (first | refine blk_drewN ?_ _ | refine blk_drew ?_ | refine blk_alloc ?_ _)); exact BK148.out) hb); have n1_ := Aside0.mk (blk_below (g := gb161) (o := .cells #[.int .i64 t153, .int .i64 t154, .int .i64 t155, .int .i64 x162003_26, .int .i64 t157, .int .i64 t158, .int .i64 t159, .int .i64 t160] 32 (0, 0)) (by (with_reducible repeat (first | refine blk_drewN ?_ _ | refine blk_drew ?_ | refine blk_alloc ?_ _)); exact BK161.out) hb); have n2_ := Aside0.mk (below_step (by repeat (first | (with_reducible first | exact HB.out | apply below_alloc | apply pw_below_drewN | apply below_drew1 | refine below_set ?_ GE148.out | refine below_set ?_ GE161.out) | exact HB.out)) hb); clear BK148; clear BK161; clear HB; have BK148 := n0_; have BK161 := n1_; have HB := n2_; clear n0_ n1_ n2_; (try clear hb); (try clear hb2); (try clear hk); (try clear hi); have hcz67_0 : w66.cell? ⟨gb161, 0, none⟩ = some (.int .i64 t153) := (blk_cell BK161.out 0).trans rfl; have hcz67_1 : w66.cell? ⟨gb161, 1, none⟩ = some (.int .i64 t154) := (blk_cell BK161.out 1).trans rfl; have hcz67_2 : w66.cell? ⟨gb161, 2, none⟩ = some (.int .i64 t155) := (blk_cell BK161.out 2).trans rfl; have hcz67_3 : w66.cell? ⟨gb161, 3, none⟩ = some (.int .i64 x162003_26) := (blk_cell BK161.out 3).trans rfl; have hcz67_4 : w66.cell? ⟨gb161, 4, none⟩ = some (.int .i64 t157) := (blk_cell BK161.out 4).trans rfl; have hcz67_5 : w66.cell? ⟨gb161, 5, none⟩ = some (.int .i64 t158) := (blk_cell BK161.out 5).trans rfl; have hcz67_6 : w66.cell? ⟨gb161, 6, none⟩ = some (.int .i64 t159) := (blk_cell BK161.out 6).trans rfl; have hcz67_7 : w66.cell? ⟨gb161, 7, none⟩ = some (.int .i64 t160) := (blk_cell BK161.out 7).trans rfl; have hfz67_0 := blk_frozen BK161.out 0; have hfz67_1 := blk_frozen BK161.out 1; have hfz67_2 := blk_frozen BK161.out 2; have hfz67_3 := blk_frozen BK161.out 3; have hfz67_4 := blk_frozen BK161.out 4; have hfz67_5 := blk_frozen BK161.out 5; have hfz67_6 := blk_frozen BK161.out 6; have hfz67_7 := blk_frozen BK161.out 7; have hcz68_0 : w66.cell? ⟨gb148, 0, none⟩ = some (.int .i64 x149000_26) := (blk_cell BK148.out 0).trans rfl; have hcz68_1 : w66.cell? ⟨gb148, 1, none⟩ = some (.int .i64 x149001_26) := (blk_cell BK148.out 1).trans rfl; have hcz68_2 : w66.cell? ⟨gb148, 2, none⟩ = some (.int .i64 x149002_26) := (blk_cell BK148.out 2).trans rfl; have hcz68_3 : w66.cell? ⟨gb148, 3, none⟩ = some (.int .i64 x149003_26) := (blk_cell BK148.out 3).trans rfl; have hcz68_4 : w66.cell? ⟨gb148, 4, none⟩ = some (.int .i64 x149004_26) := (blk_cell BK148.out 4).trans rfl; have hcz68_5 : w66.cell? ⟨gb148, 5, none⟩ = some (.int .i64 x149005_26) := (blk_cell BK148.out 5).trans rfl; have hcz68_6 : w66.cell? ⟨gb148, 6, none⟩ = some (.int .i64 x149006_26) := (blk_cell BK148.out 6).trans rfl; have hcz68_7 : w66.cell? ⟨gb148, 7, none⟩ = some (.int .i64 x149007_26) := (blk_cell BK148.out 7).trans rfl; have hfz68_0 := blk_frozen BK148.out 0; have hfz68_1 := blk_frozen BK148.out 1; have hfz68_2 := blk_frozen BK148.out 2; have hfz68_3 := blk_frozen BK148.out 3; have hfz68_4 := blk_frozen BK148.out 4; have hfz68_5 := blk_frozen BK148.out 5; have hfz68_6 := blk_frozen BK148.out 6; have hfz68_7 := blk_frozen BK148.out 7))
                            refine bodyPost_ret (results_ctt rfl _ _ gb148 32 #[.int .i64 t153, .int .i64 t154, .int .i64 t155, .int .i64 x162003_26, .int .i64 t157, .int .i64 t158, .int .i64 t159, .int .i64 t160] (0, 0) _ rfl (by (with_reducible repeat (first | refine blk_drewN ?_ _ | refine blk_drew ?_ | refine blk_alloc ?_ _)); refine blk_put (cs := #[.int .i64 t153, .int .i64 t154, .int .i64 t155, .int .i64 x162003_26, .int .i64 t157, .int .i64 t158, .int .i64 t159, .int .i64 x149007_26]) ?_ 7 _ rfl; (with_reducible repeat (first | refine blk_drewN ?_ _ | refine blk_drew ?_ | refine blk_alloc ?_ _)); refine blk_put (cs := #[.int .i64 t153, .int .i64 t154, .int .i64 t155, .int .i64 x162003_26, .int .i64 t157, .int .i64 t158, .int .i64 x149006_26, .int .i64 x149007_26]) ?_ 6 _ rfl; (with_reducible repeat (first | refine blk_drewN ?_ _ | refine blk_drew ?_ | refine blk_alloc ?_ _)); refine blk_put (cs := #[.int .i64 t153, .int .i64 t154, .int .i64 t155, .int .i64 x162003_26, .int .i64 t157, .int .i64 x149005_26, .int .i64 x149006_26, .int .i64 x149007_26]) ?_ 5 _ rfl; (with_reducible repeat (first | refine blk_drewN ?_ _ | refine blk_drew ?_ | refine blk_alloc ?_ _)); refine blk_put (cs := #[.int .i64 t153, .int .i64 t154, .int .i64 t155, .int .i64 x162003_26, .int .i64 x149004_26, .int .i64 x149005_26, .int .i64 x149006_26, .int .i64 x149007_26]) ?_ 4 _ rfl; (with_reducible repeat (first | refine blk_drewN ?_ _ | refine blk_drew ?_ | refine blk_alloc ?_ _)); refine blk_put (cs := #[.int .i64 t153, .int .i64 t154, .int .i64 t155, .int .i64 x149003_26, .int .i64 x149004_26, .int .i64 x149005_26, .int .i64 x149006_26, .int .i64 x149007_26]) ?_ 3 _ rfl; (with_reducible repeat (first | refine blk_drewN ?_ _ | refine blk_drew ?_ | refine blk_alloc ?_ _)); refine blk_put (cs := #[.int .i64 t153, .int .i64 t154, .int .i64 x149002_26, .int .i64 x149003_26, .int .i64 x149004_26, .int .i64 x149005_26, .int .i64 x149006_26, .int .i64 x149007_26]) ?_ 2 _ rfl; (with_reducible repeat (first | refine blk_drewN ?_ _ | refine blk_drew ?_ | refine blk_alloc ?_ _)); refine blk_put (cs := #[.int .i64 t153, .int .i64 x149001_26, .int .i64 x149002_26, .int .i64 x149003_26, .int .i64 x149004_26, .int .i64 x149005_26, .int .i64 x149006_26, .int .i64 x149007_26]) ?_ 1 _ rfl; (with_reducible repeat (first | refine blk_drewN ?_ _ | refine blk_drew ?_ | refine blk_alloc ?_ _)); refine blk_put (cs := #[.int .i64 x149000_26, .int .i64 x149001_26, .int .i64 x149002_26, .int .i64 x149003_26, .int .i64 x149004_26, .int .i64 x149005_26, .int .i64 x149006_26, .int .i64 x149007_26]) ?_ 0 _ rfl; (with_reducible repeat (first | refine blk_drewN ?_ _ | refine blk_drew ?_ | refine blk_alloc ?_ _)); exact BK148.out) Try.underlying32 rfl (by kernel_rfl)) rfl ?_
                            exact ⟨by first | rfl | (simp [errW_none, errW_some] <;> rfl) | (simp [*, errW_none, errW_some] <;> rfl), by repeat (first | (with_reducible first | exact HB.out | apply below_alloc | apply pw_below_drewN | apply below_drew1 | refine below_set ?_ GE148.out | refine below_set ?_ GE161.out) | exact HB.out)⟩
                          · replace c63 := Bool.eq_false_iff.mpr c63
                            subst c63
                            have H1 : (some (0, 0, 0, 0, 0, 0, 0, 0, 0, false)) = some (r1, r2, r3, r4, r5, r6, r7, r8, r9, r10) := by rw [if_neg (show ¬ (false = true) by decide)] at H; exact H
                            clear H
                            have H := H1
                            clear H1
                            simp only [Option.some.injEq, Prod.mk.injEq] at H
                            obtain ⟨rfl, rfl, rfl, rfl, rfl, rfl, rfl, rfl, rfl, rfl⟩ := H
                            have hnb69 := NB161_148.out
                            have hnc69 := NB148_161.out
                            have hcz70_0 : wc.cell? ⟨gb161, 0, none⟩ = some (.int .i64 t153) := (blk_cell BK161.out 0).trans rfl
                            have hcz70_1 : wc.cell? ⟨gb161, 1, none⟩ = some (.int .i64 t154) := (blk_cell BK161.out 1).trans rfl
                            have hcz70_2 : wc.cell? ⟨gb161, 2, none⟩ = some (.int .i64 t155) := (blk_cell BK161.out 2).trans rfl
                            have hcz70_3 : wc.cell? ⟨gb161, 3, none⟩ = some (.int .i64 x162003_26) := (blk_cell BK161.out 3).trans rfl
                            have hcz70_4 : wc.cell? ⟨gb161, 4, none⟩ = some (.int .i64 t157) := (blk_cell BK161.out 4).trans rfl
                            have hcz70_5 : wc.cell? ⟨gb161, 5, none⟩ = some (.int .i64 t158) := (blk_cell BK161.out 5).trans rfl
                            have hcz70_6 : wc.cell? ⟨gb161, 6, none⟩ = some (.int .i64 t159) := (blk_cell BK161.out 6).trans rfl
                            have hcz70_7 : wc.cell? ⟨gb161, 7, none⟩ = some (.int .i64 t160) := (blk_cell BK161.out 7).trans rfl
                            have hfz70_0 := blk_frozen BK161.out 0
                            have hfz70_1 := blk_frozen BK161.out 1
                            have hfz70_2 := blk_frozen BK161.out 2
                            have hfz70_3 := blk_frozen BK161.out 3
                            have hfz70_4 := blk_frozen BK161.out 4
                            have hfz70_5 := blk_frozen BK161.out 5
                            have hfz70_6 := blk_frozen BK161.out 6
                            have hfz70_7 := blk_frozen BK161.out 7
                            go_wp2_with (first | ((with_reducible refine gate_callee (f := 19) rfl ?_); refine goesL_ (some 74) rfl rfl Try.func19 (by kernel_rfl) rfl #[.agg #[.int .i64 t153, .int .i64 t154, .int .i64 t155, .int .i64 x162003_26, .int .i64 t157, .int .i64 t158, .int .i64 t159, .int .i64 t160]] rfl (by (try simp only [List.map_toArray, List.map_cons, List.map_nil]); first | done | rfl | (simp only [List.length_drop, List.length_take]; rfl)) ?_; (with_reducible refine (spec_InsOk.calls kj36 t153 t154 t155 x162003_26 t157 t158 t159 t160 false _ A62.out).mono ?_); rintro e w71 ⟨rfl, hb⟩; refine ⟨_, rfl, ?_⟩; have n0_ := Aside0.mk (blk_below (g := gb148) (o := .cells #[.int .i64 x149000_26, .int .i64 x149001_26, .int .i64 x149002_26, .int .i64 x149003_26, .int .i64 x149004_26, .int .i64 x149005_26, .int .i64 x149006_26, .int .i64 x149007_26] 32 (0, 0)) (by (with_reducible repeat (first | refine blk_drewN ?_ _ | refine blk_drew ?_ | refine blk_alloc ?_ _)); exact BK148.out) hb); have n1_ := Aside0.mk (blk_below (g := gb161) (o := .cells #[.int .i64 t153, .int .i64 t154, .int .i64 t155, .int .i64 x162003_26, .int .i64 t157, .int .i64 t158, .int .i64 t159, .int .i64 t160] 32 (0, 0)) (by (with_reducible repeat (first | refine blk_drewN ?_ _ | refine blk_drew ?_ | refine blk_alloc ?_ _)); exact BK161.out) hb); have n2_ := Aside0.mk (below_step (by repeat (first | (with_reducible first | exact HB.out | apply below_alloc | apply pw_below_drewN | apply below_drew1 | refine below_set ?_ GE148.out | refine below_set ?_ GE161.out) | exact HB.out)) hb); clear BK148; clear BK161; clear HB; have BK148 := n0_; have BK161 := n1_; have HB := n2_; clear n0_ n1_ n2_; (try clear hb); (try clear hb2); (try clear hk); (try clear hi); have hcz72_0 : w71.cell? ⟨gb148, 0, none⟩ = some (.int .i64 x149000_26) := (blk_cell BK148.out 0).trans rfl; have hcz72_1 : w71.cell? ⟨gb148, 1, none⟩ = some (.int .i64 x149001_26) := (blk_cell BK148.out 1).trans rfl; have hcz72_2 : w71.cell? ⟨gb148, 2, none⟩ = some (.int .i64 x149002_26) := (blk_cell BK148.out 2).trans rfl; have hcz72_3 : w71.cell? ⟨gb148, 3, none⟩ = some (.int .i64 x149003_26) := (blk_cell BK148.out 3).trans rfl; have hcz72_4 : w71.cell? ⟨gb148, 4, none⟩ = some (.int .i64 x149004_26) := (blk_cell BK148.out 4).trans rfl; have hcz72_5 : w71.cell? ⟨gb148, 5, none⟩ = some (.int .i64 x149005_26) := (blk_cell BK148.out 5).trans rfl; have hcz72_6 : w71.cell? ⟨gb148, 6, none⟩ = some (.int .i64 x149006_26) := (blk_cell BK148.out 6).trans rfl; have hcz72_7 : w71.cell? ⟨gb148, 7, none⟩ = some (.int .i64 x149007_26) := (blk_cell BK148.out 7).trans rfl; have hfz72_0 := blk_frozen BK148.out 0; have hfz72_1 := blk_frozen BK148.out 1; have hfz72_2 := blk_frozen BK148.out 2; have hfz72_3 := blk_frozen BK148.out 3; have hfz72_4 := blk_frozen BK148.out 4; have hfz72_5 := blk_frozen BK148.out 5; have hfz72_6 := blk_frozen BK148.out 6; have hfz72_7 := blk_frozen BK148.out 7))
                            refine bodyPost_ret (results_ctt rfl _ _ gb148 32 #[.int .i64 0, .int .i64 0, .int .i64 0, .int .i64 0, .int .i64 0, .int .i64 0, .int .i64 0, .int .i64 0] (0, 0) _ rfl (by (with_reducible repeat (first | refine blk_drewN ?_ _ | refine blk_drew ?_ | refine blk_alloc ?_ _)); refine blk_put (cs := #[.int .i64 0, .int .i64 0, .int .i64 0, .int .i64 0, .int .i64 0, .int .i64 0, .int .i64 0, .int .i64 x149007_26]) ?_ 7 _ rfl; (with_reducible repeat (first | refine blk_drewN ?_ _ | refine blk_drew ?_ | refine blk_alloc ?_ _)); refine blk_put (cs := #[.int .i64 0, .int .i64 0, .int .i64 0, .int .i64 0, .int .i64 0, .int .i64 0, .int .i64 x149006_26, .int .i64 x149007_26]) ?_ 6 _ rfl; (with_reducible repeat (first | refine blk_drewN ?_ _ | refine blk_drew ?_ | refine blk_alloc ?_ _)); refine blk_put (cs := #[.int .i64 0, .int .i64 0, .int .i64 0, .int .i64 0, .int .i64 0, .int .i64 x149005_26, .int .i64 x149006_26, .int .i64 x149007_26]) ?_ 5 _ rfl; (with_reducible repeat (first | refine blk_drewN ?_ _ | refine blk_drew ?_ | refine blk_alloc ?_ _)); refine blk_put (cs := #[.int .i64 0, .int .i64 0, .int .i64 0, .int .i64 0, .int .i64 x149004_26, .int .i64 x149005_26, .int .i64 x149006_26, .int .i64 x149007_26]) ?_ 4 _ rfl; (with_reducible repeat (first | refine blk_drewN ?_ _ | refine blk_drew ?_ | refine blk_alloc ?_ _)); refine blk_put (cs := #[.int .i64 0, .int .i64 0, .int .i64 0, .int .i64 x149003_26, .int .i64 x149004_26, .int .i64 x149005_26, .int .i64 x149006_26, .int .i64 x149007_26]) ?_ 3 _ rfl; (with_reducible repeat (first | refine blk_drewN ?_ _ | refine blk_drew ?_ | refine blk_alloc ?_ _)); refine blk_put (cs := #[.int .i64 0, .int .i64 0, .int .i64 x149002_26, .int .i64 x149003_26, .int .i64 x149004_26, .int .i64 x149005_26, .int .i64 x149006_26, .int .i64 x149007_26]) ?_ 2 _ rfl; (with_reducible repeat (first | refine blk_drewN ?_ _ | refine blk_drew ?_ | refine blk_alloc ?_ _)); refine blk_put (cs := #[.int .i64 0, .int .i64 x149001_26, .int .i64 x149002_26, .int .i64 x149003_26, .int .i64 x149004_26, .int .i64 x149005_26, .int .i64 x149006_26, .int .i64 x149007_26]) ?_ 1 _ rfl; (with_reducible repeat (first | refine blk_drewN ?_ _ | refine blk_drew ?_ | refine blk_alloc ?_ _)); refine blk_put (cs := #[.int .i64 x149000_26, .int .i64 x149001_26, .int .i64 x149002_26, .int .i64 x149003_26, .int .i64 x149004_26, .int .i64 x149005_26, .int .i64 x149006_26, .int .i64 x149007_26]) ?_ 0 _ rfl; (with_reducible repeat (first | refine blk_drewN ?_ _ | refine blk_drew ?_ | refine blk_alloc ?_ _)); exact BK148.out) Try.underlying32 rfl (by kernel_rfl)) rfl ?_
                            exact ⟨by first | rfl | (simp [errW_none, errW_some] <;> rfl) | (simp [*, errW_none, errW_some] <;> rfl), by repeat (first | (with_reducible first | exact HB.out | apply below_alloc | apply pw_below_drewN | apply below_drew1 | refine below_set ?_ GE148.out | refine below_set ?_ GE161.out) | exact HB.out)⟩
          · rw [if_neg c13] at H
            exact absurd H (by simp)
        · rw [if_neg c12] at H
          exact absurd H (by simp)

end Go.Proofs.Ytajkjkdfcegdpaa.PFnExactDecode
