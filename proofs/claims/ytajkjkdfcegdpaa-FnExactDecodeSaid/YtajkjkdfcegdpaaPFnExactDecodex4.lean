-- Laid by a program of this session (a changed copy of the kit's printer); Lean checks every line.
import Derived.Test.YtajkjkdfcegdpaaPFnExactDecodex0
import Derived.Test.YtajkjkdfcegdpaaPFnExactDecodex3
namespace Go.Proofs.Ytajkjkdfcegdpaa.PFnExactDecode
open Go.RowKit Go.Proofs.YtajkjkdfcegdpaaW.PrintWords Go.Proofs.YtajkjkdfcegdpaaW.PrintLast Go.Proofs.YtajkjkdfcegdpaaW.PrintMore
attribute [local go_sem] max2_int min2_int max_two min_two max_three min_three max_four min_four   -- for this text's walks alone
set_option linter.unusedVariables false
set_option linter.unusedSimpArgs false

/-! ### spec_l4Opd: function 58 -/
def spec_l4Opd.f (a0 : Int) : Option (Int × Int × Int) := some (Go.bits .and .i64 (a0 / 8) 7, Go.bits .and .i64 a0 7, 0)
set_option maxHeartbeats 8000000 in
set_option maxRecDepth 100000 in
theorem spec_l4Opd.calls (a0 : Int) (r1 : Int) (r2 : Int) (r3 : Int) (w : World) (h : spec_l4Opd.f a0 = some (r1, r2, r3)) :
    Calls Try.prog 58 #[.int .i64 a0] w fun e w' => e = .returned (.agg #[.int .i64 r1, .int .i64 r2, .int .i64 r3]) ∧ Below w.heap.size w w' := by
  have hu25 := Try.underlying25
  have HB := Aside0.mk (Below.refl w.heap.size w)
  have H : (some (Go.bits .and .i64 (a0 / 8) 7, Go.bits .and .i64 a0 7, 0)) = some (r1, r2, r3) := h
  clear h
  simp only [Option.some.injEq, Prod.mk.injEq] at H
  obtain ⟨rfl, rfl, rfl⟩ := H
  go_enter Try.func58, Try.ntmps58
  go_wp2_with (first | ((with_reducible refine gate_dst (N := 2) rfl ?_); refine box_event ?hg (N := 2) ?hd (cs := #[.int .i64 0, .int .i64 0, .int .i64 0]) (t := 25) ?hr ?_; (case hd => rfl); (case hg => rfl); (case hr => first | (go_simp; done) | (go_simp; rfl)); intro gb130 hg w2 hbox hb; have n0_ := Aside0.mk (below_step (by repeat (first | (with_reducible first | exact HB.out | apply below_alloc | apply pw_below_drewN | apply below_drew1) | exact HB.out)) hb); have n1_ := Aside0.mk (hbox); have n2_ := Aside0.mk ((by rw [hg]; exact (below_size (by repeat (first | (with_reducible first | exact HB.out | apply below_alloc | apply pw_below_drewN | apply below_drew1) | exact HB.out))) : w.heap.size ≤ gb130)); have n3_ := Aside0.mk ((by rw [hg]; exact (below_size (by repeat (first | (with_reducible first | exact HB.out | apply below_alloc | apply pw_below_drewN | apply below_drew1) | exact HB.out))) : w.heap.size ≤ gb130)); clear HB; have HB := n0_; have BK130 := n1_; have GW130 := n2_; have GE130 := n3_; clear n0_ n1_ n2_ n3_; clear hb hbox hg; have hcz3_0 : w2.cell? ⟨gb130, 0, none⟩ = some (.int .i64 0) := (blk_cell BK130.out 0).trans rfl; have hcz3_1 : w2.cell? ⟨gb130, 1, none⟩ = some (.int .i64 0) := (blk_cell BK130.out 1).trans rfl; have hcz3_2 : w2.cell? ⟨gb130, 2, none⟩ = some (.int .i64 0) := (blk_cell BK130.out 2).trans rfl; have hfz3_0 := blk_frozen BK130.out 0; have hfz3_1 := blk_frozen BK130.out 1; have hfz3_2 := blk_frozen BK130.out 2))
  refine bodyPost_ret (results_cell_row rfl _ _ gb130 25 #[.int .i64 (Go.bits .and .i64 (a0 / 8) 7), .int .i64 (Go.bits .and .i64 a0 7), .int .i64 0] (0, 0) _ rfl (by (with_reducible repeat (first | refine blk_drewN ?_ _ | refine blk_drew ?_ | refine blk_alloc ?_ _)); refine blk_put (cs := #[.int .i64 (Go.bits .and .i64 (a0 / 8) 7), .int .i64 (Go.bits .and .i64 a0 7), .int .i64 0]) ?_ 2 _ rfl; (with_reducible repeat (first | refine blk_drewN ?_ _ | refine blk_drew ?_ | refine blk_alloc ?_ _)); refine blk_put (cs := #[.int .i64 (Go.bits .and .i64 (a0 / 8) 7), .int .i64 0, .int .i64 0]) ?_ 1 _ rfl; (with_reducible repeat (first | refine blk_drewN ?_ _ | refine blk_drew ?_ | refine blk_alloc ?_ _)); refine blk_put (cs := #[.int .i64 0, .int .i64 0, .int .i64 0]) ?_ 0 _ rfl; (with_reducible repeat (first | refine blk_drewN ?_ _ | refine blk_drew ?_ | refine blk_alloc ?_ _)); exact BK130.out) Try.underlying25 rfl (by kernel_rfl)) rfl ?_
  exact ⟨by first | rfl | (simp [errW_none, errW_some] <;> rfl) | (simp [*, errW_none, errW_some] <;> rfl), by repeat (first | (with_reducible first | exact HB.out | apply below_alloc | apply pw_below_drewN | apply below_drew1 | refine below_set ?_ GE130.out) | exact HB.out)⟩

theorem gen_world {P : Program} {c : Code} {Q : Exit → Act → World → Prop} {a : Act} {W : World} (R : World → Prop) (hR : R W) (h : ∀ W', R W' → Code.wp P c Q a W') : Code.wp P c Q a W := h W hR
/-! ### spec_l4Op: function 46 -/
mutual
def spec_l4Op.l0 : Nat → Int → Int → Option (Int × Int × Int × Int × Int × Int × Int × Int)
  | 0, _, _ => none
  | k + 1, x0, x3 => if x3 ≤ 6 then ((spec_l4Base.f x3).bind fun t132 => (if (Go.bits .and .i64 x0 61440) = t132 then ((spec_l4Opd.f (x0 / 64)).bind fun bt133 => ((spec_l4Opd.f x0).bind fun bt136 => (some (x3, bt133.1, bt133.2.1, bt133.2.2, bt136.1, bt136.2.1, bt136.2.2, 0)))) else (spec_l4Op.l0 k x0 (wrap64 (x3 + 1))))) else (spec_l4Op.l1 k x0 7)
def spec_l4Op.l1 : Nat → Int → Int → Option (Int × Int × Int × Int × Int × Int × Int × Int)
  | 0, _, _ => none
  | k + 1, x0, x4 => if x4 ≤ 14 then ((spec_l4Base.f x4).bind fun t139 => (if (Go.bits .and .i64 x0 65472) = t139 then ((spec_l4Opd.f x0).bind fun bt140 => (some (x4, 0, 0, 0, bt140.1, bt140.2.1, bt140.2.2, 0))) else (spec_l4Op.l1 k x0 (wrap64 (x4 + 1))))) else (if (Go.bits .and .i64 x0 65024) = 2048 then ((spec_l4Opd.f x0).bind fun bt143 => (some (15, 0, 0, 0, bt143.1, bt143.2.1, bt143.2.2, Go.bits .and .i64 (x0 / 64) 7))) else (if (Go.bits .and .i64 x0 65528) = 128 then (some (16, 0, 0, 0, 0, 0, 0, Go.bits .and .i64 x0 7)) else (if (Go.bits .and .i64 x0 65280) = 34816 then (some (23, 0, 0, 0, 0, 0, 0, Go.bits .and .i64 x0 255)) else (spec_l4Op.l2 k x0 17))))
def spec_l4Op.l2 : Nat → Int → Int → Option (Int × Int × Int × Int × Int × Int × Int × Int)
  | 0, _, _ => none
  | k + 1, x0, x5 => if x5 ≤ 21 then ((spec_l4Base.f x5).bind fun t146 => (if (Go.bits .and .i64 x0 65280) = t146 then (if (Go.bits .and .i64 x0 255) > 127 then (some (x5, 0, 0, 0, 0, 0, 0, wrap64 ((Go.bits .and .i64 x0 255) - 256))) else (some (x5, 0, 0, 0, 0, 0, 0, Go.bits .and .i64 x0 255))) else (spec_l4Op.l2 k x0 (wrap64 (x5 + 1))))) else (some (0, 0, 0, 0, 0, 0, 0, 0))
end
def spec_l4Op.f (k : Nat) (a0 : Int) : Option (Int × Int × Int × Int × Int × Int × Int × Int) := if a0 = 0 then (some (22, 0, 0, 0, 0, 0, 0, 0)) else (spec_l4Op.l0 k a0 1)
theorem spec_l4Op.mono_l : ∀ k, (∀ y0 y1, LeO (spec_l4Op.l0 k y0 y1) (spec_l4Op.l0 (k + 1) y0 y1)) ∧ (∀ y0 y1, LeO (spec_l4Op.l1 k y0 y1) (spec_l4Op.l1 (k + 1) y0 y1)) ∧ (∀ y0 y1, LeO (spec_l4Op.l2 k y0 y1) (spec_l4Op.l2 (k + 1) y0 y1))
  | 0 => ⟨fun _ _ r h => by simp [spec_l4Op.l0] at h, fun _ _ r h => by simp [spec_l4Op.l1] at h, fun _ _ r h => by simp [spec_l4Op.l2] at h⟩
  | k + 1 => by
    obtain ⟨ih0, ih1, ih2⟩ := spec_l4Op.mono_l k
    refine ⟨?_, ?_, ?_⟩
    · intro y0 y1
      unfold spec_l4Op.l0
      repeat' first
      | (with_reducible exact ih0 _ _)
      | (with_reducible exact ih1 _ _)
      | (with_reducible exact ih2 _ _)
      | (with_reducible exact LeO.refl _)
      | (with_reducible exact LeO.none _)
      | (with_reducible refine LeO.ite ?_ ?_)
      | (with_reducible refine LeO.bind ?_ (fun _ => ?_))
      | exact ih0 _ _
      | exact ih1 _ _
      | exact ih2 _ _
      | exact LeO.none _
      | refine LeO.ite ?_ ?_
      | refine LeO.bind ?_ (fun _ => ?_)
    · intro y0 y1
      unfold spec_l4Op.l1
      repeat' first
      | (with_reducible exact ih0 _ _)
      | (with_reducible exact ih1 _ _)
      | (with_reducible exact ih2 _ _)
      | (with_reducible exact LeO.refl _)
      | (with_reducible exact LeO.none _)
      | (with_reducible refine LeO.ite ?_ ?_)
      | (with_reducible refine LeO.bind ?_ (fun _ => ?_))
      | exact ih0 _ _
      | exact ih1 _ _
      | exact ih2 _ _
      | exact LeO.none _
      | refine LeO.ite ?_ ?_
      | refine LeO.bind ?_ (fun _ => ?_)
    · intro y0 y1
      unfold spec_l4Op.l2
      repeat' first
      | (with_reducible exact ih0 _ _)
      | (with_reducible exact ih1 _ _)
      | (with_reducible exact ih2 _ _)
      | (with_reducible exact LeO.refl _)
      | (with_reducible exact LeO.none _)
      | (with_reducible refine LeO.ite ?_ ?_)
      | (with_reducible refine LeO.bind ?_ (fun _ => ?_))
      | exact ih0 _ _
      | exact ih1 _ _
      | exact ih2 _ _
      | exact LeO.none _
      | refine LeO.ite ?_ ?_
      | refine LeO.bind ?_ (fun _ => ?_)
theorem spec_l4Op.mono : ∀ a0 k, LeO (spec_l4Op.f k a0) (spec_l4Op.f (k + 1) a0) := by
  intro a0 k
  obtain ⟨ih0, ih1, ih2⟩ := spec_l4Op.mono_l k
  unfold spec_l4Op.f
  repeat' first
      | (with_reducible exact ih0 _ _)
      | (with_reducible exact ih1 _ _)
      | (with_reducible exact ih2 _ _)
      | (with_reducible exact LeO.refl _)
      | (with_reducible exact LeO.none _)
      | (with_reducible refine LeO.ite ?_ ?_)
      | (with_reducible refine LeO.bind ?_ (fun _ => ?_))
      | exact ih0 _ _
      | exact ih1 _ _
      | exact ih2 _ _
      | exact LeO.none _
      | refine LeO.ite ?_ ?_
      | refine LeO.bind ?_ (fun _ => ?_)
set_option maxHeartbeats 8000000 in
set_option maxRecDepth 100000 in
theorem spec_l4Op.calls (k : Nat) (a0 : Int) (r1 : Int) (r2 : Int) (r3 : Int) (r4 : Int) (r5 : Int) (r6 : Int) (r7 : Int) (r8 : Int) (w : World) (h : spec_l4Op.f k a0 = some (r1, r2, r3, r4, r5, r6, r7, r8)) :
    Calls Try.prog 46 #[.int .i64 a0] w fun e w' => e = .returned (.agg #[.int .i64 r1, .int .i64 r2, .int .i64 r3, .int .i64 r4, .int .i64 r5, .int .i64 r6, .int .i64 r7, .int .i64 r8]) ∧ Below w.heap.size w w' := by
  have hu32 := Try.underlying32
  have HB := Aside0.mk (Below.refl w.heap.size w)
  have H : (if a0 = 0 then (some (22, 0, 0, 0, 0, 0, 0, 0)) else (spec_l4Op.l0 k a0 1)) = some (r1, r2, r3, r4, r5, r6, r7, r8) := h
  clear h
  by_cases c2 : a0 = 0
  · rw [if_pos c2] at H
    have c2b0 : (a0 == 0) = true := beq_iff_eq.mpr c2
    have c2b1 : (a0 != 0) = false := bne_eq_false_iff_eq.mpr c2
    clear c2
    simp only [Option.some.injEq, Prod.mk.injEq] at H
    obtain ⟨rfl, rfl, rfl, rfl, rfl, rfl, rfl, rfl⟩ := H
    go_enter Try.func46, Try.ntmps46
    go_wp2_with (first | ((with_reducible refine gate_dst (N := 2) rfl ?_); refine box_event ?hg (N := 2) ?hd (cs := #[.int .i64 0, .int .i64 0, .int .i64 0, .int .i64 0, .int .i64 0, .int .i64 0, .int .i64 0, .int .i64 0]) (t := 32) ?hr ?_; (case hd => rfl); (case hg => rfl); (case hr => first | (go_simp; done) | (go_simp; rfl)); intro gb131 hg w3 hbox hb; have n0_ := Aside0.mk (below_step (by repeat (first | (with_reducible first | exact HB.out | apply below_alloc | apply pw_below_drewN | apply below_drew1) | exact HB.out)) hb); have n1_ := Aside0.mk (hbox); have n2_ := Aside0.mk ((by rw [hg]; exact (below_size (by repeat (first | (with_reducible first | exact HB.out | apply below_alloc | apply pw_below_drewN | apply below_drew1) | exact HB.out))) : w.heap.size ≤ gb131)); have n3_ := Aside0.mk ((by rw [hg]; exact (below_size (by repeat (first | (with_reducible first | exact HB.out | apply below_alloc | apply pw_below_drewN | apply below_drew1) | exact HB.out))) : w.heap.size ≤ gb131)); clear HB; have HB := n0_; have BK131 := n1_; have GW131 := n2_; have GE131 := n3_; clear n0_ n1_ n2_ n3_; clear hb hbox hg; have hcz4_0 : w3.cell? ⟨gb131, 0, none⟩ = some (.int .i64 0) := (blk_cell BK131.out 0).trans rfl; have hcz4_1 : w3.cell? ⟨gb131, 1, none⟩ = some (.int .i64 0) := (blk_cell BK131.out 1).trans rfl; have hcz4_2 : w3.cell? ⟨gb131, 2, none⟩ = some (.int .i64 0) := (blk_cell BK131.out 2).trans rfl; have hcz4_3 : w3.cell? ⟨gb131, 3, none⟩ = some (.int .i64 0) := (blk_cell BK131.out 3).trans rfl; have hcz4_4 : w3.cell? ⟨gb131, 4, none⟩ = some (.int .i64 0) := (blk_cell BK131.out 4).trans rfl; have hcz4_5 : w3.cell? ⟨gb131, 5, none⟩ = some (.int .i64 0) := (blk_cell BK131.out 5).trans rfl; have hcz4_6 : w3.cell? ⟨gb131, 6, none⟩ = some (.int .i64 0) := (blk_cell BK131.out 6).trans rfl; have hcz4_7 : w3.cell? ⟨gb131, 7, none⟩ = some (.int .i64 0) := (blk_cell BK131.out 7).trans rfl; have hfz4_0 := blk_frozen BK131.out 0; have hfz4_1 := blk_frozen BK131.out 1; have hfz4_2 := blk_frozen BK131.out 2; have hfz4_3 := blk_frozen BK131.out 3; have hfz4_4 := blk_frozen BK131.out 4; have hfz4_5 := blk_frozen BK131.out 5; have hfz4_6 := blk_frozen BK131.out 6; have hfz4_7 := blk_frozen BK131.out 7))
    refine bodyPost_ret (results_cell_row rfl _ _ gb131 32 #[.int .i64 22, .int .i64 0, .int .i64 0, .int .i64 0, .int .i64 0, .int .i64 0, .int .i64 0, .int .i64 0] (0, 0) _ rfl (by (with_reducible repeat (first | refine blk_drewN ?_ _ | refine blk_drew ?_ | refine blk_alloc ?_ _)); refine blk_put (cs := #[.int .i64 22, .int .i64 0, .int .i64 0, .int .i64 0, .int .i64 0, .int .i64 0, .int .i64 0, .int .i64 0]) ?_ 7 _ rfl; (with_reducible repeat (first | refine blk_drewN ?_ _ | refine blk_drew ?_ | refine blk_alloc ?_ _)); refine blk_put (cs := #[.int .i64 22, .int .i64 0, .int .i64 0, .int .i64 0, .int .i64 0, .int .i64 0, .int .i64 0, .int .i64 0]) ?_ 6 _ rfl; (with_reducible repeat (first | refine blk_drewN ?_ _ | refine blk_drew ?_ | refine blk_alloc ?_ _)); refine blk_put (cs := #[.int .i64 22, .int .i64 0, .int .i64 0, .int .i64 0, .int .i64 0, .int .i64 0, .int .i64 0, .int .i64 0]) ?_ 5 _ rfl; (with_reducible repeat (first | refine blk_drewN ?_ _ | refine blk_drew ?_ | refine blk_alloc ?_ _)); refine blk_put (cs := #[.int .i64 22, .int .i64 0, .int .i64 0, .int .i64 0, .int .i64 0, .int .i64 0, .int .i64 0, .int .i64 0]) ?_ 4 _ rfl; (with_reducible repeat (first | refine blk_drewN ?_ _ | refine blk_drew ?_ | refine blk_alloc ?_ _)); refine blk_put (cs := #[.int .i64 22, .int .i64 0, .int .i64 0, .int .i64 0, .int .i64 0, .int .i64 0, .int .i64 0, .int .i64 0]) ?_ 3 _ rfl; (with_reducible repeat (first | refine blk_drewN ?_ _ | refine blk_drew ?_ | refine blk_alloc ?_ _)); refine blk_put (cs := #[.int .i64 22, .int .i64 0, .int .i64 0, .int .i64 0, .int .i64 0, .int .i64 0, .int .i64 0, .int .i64 0]) ?_ 2 _ rfl; (with_reducible repeat (first | refine blk_drewN ?_ _ | refine blk_drew ?_ | refine blk_alloc ?_ _)); refine blk_put (cs := #[.int .i64 22, .int .i64 0, .int .i64 0, .int .i64 0, .int .i64 0, .int .i64 0, .int .i64 0, .int .i64 0]) ?_ 1 _ rfl; (with_reducible repeat (first | refine blk_drewN ?_ _ | refine blk_drew ?_ | refine blk_alloc ?_ _)); refine blk_put (cs := #[.int .i64 0, .int .i64 0, .int .i64 0, .int .i64 0, .int .i64 0, .int .i64 0, .int .i64 0, .int .i64 0]) ?_ 0 _ rfl; (with_reducible repeat (first | refine blk_drewN ?_ _ | refine blk_drew ?_ | refine blk_alloc ?_ _)); exact BK131.out) Try.underlying32 rfl (by kernel_rfl)) rfl ?_
    exact ⟨by first | rfl | (simp [errW_none, errW_some] <;> rfl) | (simp [*, errW_none, errW_some] <;> rfl), by repeat (first | (with_reducible first | exact HB.out | apply below_alloc | apply pw_below_drewN | apply below_drew1 | refine below_set ?_ GE131.out) | exact HB.out)⟩
  · rw [if_neg c2] at H
    have c2b0 : (a0 == 0) = false := beq_eq_false_iff_ne.mpr c2
    have c2b1 : (a0 != 0) = true := bne_iff_ne.mpr c2
    have H' := Aside0.mk H
    clear H
    go_enter Try.func46, Try.ntmps46
    go_wp2_with (first | ((with_reducible refine gate_dst (N := 2) rfl ?_); refine box_event ?hg (N := 2) ?hd (cs := #[.int .i64 0, .int .i64 0, .int .i64 0, .int .i64 0, .int .i64 0, .int .i64 0, .int .i64 0, .int .i64 0]) (t := 32) ?hr ?_; (case hd => rfl); (case hg => rfl); (case hr => first | (go_simp; done) | (go_simp; rfl)); intro gb131 hg w5 hbox hb; have n0_ := Aside0.mk (below_step (by repeat (first | (with_reducible first | exact HB.out | apply below_alloc | apply pw_below_drewN | apply below_drew1) | exact HB.out)) hb); have n1_ := Aside0.mk (hbox); have n2_ := Aside0.mk ((by rw [hg]; exact (below_size (by repeat (first | (with_reducible first | exact HB.out | apply below_alloc | apply pw_below_drewN | apply below_drew1) | exact HB.out))) : w.heap.size ≤ gb131)); have n3_ := Aside0.mk ((by rw [hg]; exact (below_size (by repeat (first | (with_reducible first | exact HB.out | apply below_alloc | apply pw_below_drewN | apply below_drew1) | exact HB.out))) : w.heap.size ≤ gb131)); clear HB; have HB := n0_; have BK131 := n1_; have GW131 := n2_; have GE131 := n3_; clear n0_ n1_ n2_ n3_; clear hb hbox hg))
    go_loopg [3] k (fun kq v3 w' => ∃ (x3_1 : Int) (x132000_1 : Int) (x132001_1 : Int) (x132002_1 : Int) (x132003_1 : Int) (x132004_1 : Int) (x132005_1 : Int) (x132006_1 : Int) (x132007_1 : Int), v3 = .int .i64 x3_1 ∧ Aside0 (spec_l4Op.l0 kq a0 x3_1 = some (r1, r2, r3, r4, r5, r6, r7, r8)) ∧ Aside0 (kq ≤ k) ∧ Aside0 (w'.heap[gb131]? = some (.cells #[.int .i64 x132000_1, .int .i64 x132001_1, .int .i64 x132002_1, .int .i64 x132003_1, .int .i64 x132004_1, .int .i64 x132005_1, .int .i64 x132006_1, .int .i64 x132007_1] 32 (0, 0))) ∧ Aside0 (Below w.heap.size w w'))
    case atStart => exact ⟨(1), (0), (0), (0), (0), (0), (0), (0), (0), (by first | rfl | (simp; done) | (simp [*]; done) | (simp [wrap64]; done)), H', ⟨Nat.le_refl _⟩, ⟨by (with_reducible repeat (first | refine blk_drewN ?_ _ | refine blk_drew ?_ | refine blk_alloc ?_ _)); exact BK131.out⟩, ⟨by repeat (first | (with_reducible first | exact HB.out | apply below_alloc | apply pw_below_drewN | apply below_drew1 | refine below_set ?_ GE131.out) | exact HB.out)⟩⟩
    case round =>
      clear H'
      try clear c2
      try clear c2b0
      try clear c2b1
      try clear p2
      try clear c4
      try clear hcz4_0
      try clear hcz4_1
      try clear hcz4_2
      try clear hcz4_3
      try clear hcz4_4
      try clear hcz4_5
      try clear hcz4_6
      try clear hcz4_7
      try clear hfz4_0
      try clear hfz4_1
      try clear hfz4_2
      try clear hfz4_3
      try clear hfz4_4
      try clear hfz4_5
      try clear hfz4_6
      try clear hfz4_7
      obtain ⟨x3_1, x132000_1, x132001_1, x132002_1, x132003_1, x132004_1, x132005_1, x132006_1, x132007_1, rfl, HA, HK1, BK131, HB⟩ := hrel
      cases gk with
      | zero => exact absurd HA.out (by simp [spec_l4Op.l0])
      | succ k1 =>
        have H := HA.out
        clear HA
        simp only [spec_l4Op.l0] at H
        by_cases c6 : x3_1 ≤ 6
        · rw [if_pos c6] at H
          have c6b0 : decide (x3_1 ≤ 6) = true := decide_eq_true c6
          clear c6
          replace H := Option.bind_eq_some_iff.mp H
          obtain ⟨t132, A70, H⟩ := H
          try dsimp only at H
          have A7 := Aside0.mk A70
          clear A70
          by_cases c8 : (Go.bits .and .i64 a0 61440) = t132
          · rw [if_pos c8] at H
            have c8b0 : ((Go.bits .and .i64 a0 61440) == t132) = true := beq_iff_eq.mpr c8
            have c8b1 : ((Go.bits .and .i64 a0 61440) != t132) = false := bne_eq_false_iff_eq.mpr c8
            clear c8
            replace H := Option.bind_eq_some_iff.mp H
            obtain ⟨⟨t133, t134, t135⟩, A90, H⟩ := H
            try dsimp only at H
            have A9 := Aside0.mk A90
            clear A90
            replace H := Option.bind_eq_some_iff.mp H
            obtain ⟨⟨t136, t137, t138⟩, A100, H⟩ := H
            try dsimp only at H
            have A10 := Aside0.mk A100
            clear A100
            simp only [Option.some.injEq, Prod.mk.injEq] at H
            obtain ⟨rfl, rfl, rfl, rfl, rfl, rfl, rfl, rfl⟩ := H
            go_wp2_with (first | ((with_reducible refine gate_callee (f := 43) rfl ?_); refine goesL_ (some 17) rfl rfl Try.func43 (by kernel_rfl) rfl #[.int .i64 x3_1] rfl (by (try simp only [List.map_toArray, List.map_cons, List.map_nil]); first | done | rfl | (simp only [List.length_drop, List.length_take]; rfl)) ?_; (with_reducible refine (spec_l4Base.calls x3_1 t132 _ A7.out).mono ?_); rintro e w11 ⟨rfl, hb⟩; refine ⟨_, rfl, ?_⟩; have n0_ := Aside0.mk (blk_below (g := gb131) (o := .cells #[.int .i64 x132000_1, .int .i64 x132001_1, .int .i64 x132002_1, .int .i64 x132003_1, .int .i64 x132004_1, .int .i64 x132005_1, .int .i64 x132006_1, .int .i64 x132007_1] 32 (0, 0)) (by (with_reducible repeat (first | refine blk_drewN ?_ _ | refine blk_drew ?_ | refine blk_alloc ?_ _)); exact BK131.out) hb); have n1_ := Aside0.mk (below_step (by repeat (first | (with_reducible first | exact HB.out | apply below_alloc | apply pw_below_drewN | apply below_drew1 | refine below_set ?_ GE131.out) | exact HB.out)) hb); clear BK131; clear HB; have BK131 := n0_; have HB := n1_; clear n0_ n1_; (try clear hb); (try clear hb2); (try clear hk); (try clear hi)) | ((with_reducible refine gate_callee (f := 58) rfl ?_); refine goesL_ (some 22) rfl rfl Try.func58 (by kernel_rfl) rfl #[.int .i64 (a0 / 64)] rfl (by (try simp only [List.map_toArray, List.map_cons, List.map_nil]); first | done | rfl | (simp only [List.length_drop, List.length_take]; rfl)) ?_; (with_reducible refine (spec_l4Opd.calls (a0 / 64) t133 t134 t135 _ A9.out).mono ?_); rintro e w12 ⟨rfl, hb⟩; refine ⟨_, rfl, ?_⟩; have n0_ := Aside0.mk (blk_below (g := gb131) (o := .cells #[.int .i64 x132000_1, .int .i64 x132001_1, .int .i64 x132002_1, .int .i64 x132003_1, .int .i64 x132004_1, .int .i64 x132005_1, .int .i64 x132006_1, .int .i64 x132007_1] 32 (0, 0)) (by (with_reducible repeat (first | refine blk_drewN ?_ _ | refine blk_drew ?_ | refine blk_alloc ?_ _)); exact BK131.out) hb); have n1_ := Aside0.mk (below_step (by repeat (first | (with_reducible first | exact HB.out | apply below_alloc | apply pw_below_drewN | apply below_drew1 | refine below_set ?_ GE131.out) | exact HB.out)) hb); clear BK131; clear HB; have BK131 := n0_; have HB := n1_; clear n0_ n1_; (try clear hb); (try clear hb2); (try clear hk); (try clear hi)) | ((with_reducible refine gate_callee (f := 58) rfl ?_); refine goesL_ (some 24) rfl rfl Try.func58 (by kernel_rfl) rfl #[.int .i64 a0] rfl (by (try simp only [List.map_toArray, List.map_cons, List.map_nil]); first | done | rfl | (simp only [List.length_drop, List.length_take]; rfl)) ?_; (with_reducible refine (spec_l4Opd.calls a0 t136 t137 t138 _ A10.out).mono ?_); rintro e w13 ⟨rfl, hb⟩; refine ⟨_, rfl, ?_⟩; have n0_ := Aside0.mk (blk_below (g := gb131) (o := .cells #[.int .i64 x132000_1, .int .i64 x132001_1, .int .i64 x132002_1, .int .i64 x132003_1, .int .i64 x132004_1, .int .i64 x132005_1, .int .i64 x132006_1, .int .i64 x132007_1] 32 (0, 0)) (by (with_reducible repeat (first | refine blk_drewN ?_ _ | refine blk_drew ?_ | refine blk_alloc ?_ _)); exact BK131.out) hb); have n1_ := Aside0.mk (below_step (by repeat (first | (with_reducible first | exact HB.out | apply below_alloc | apply pw_below_drewN | apply below_drew1 | refine below_set ?_ GE131.out) | exact HB.out)) hb); clear BK131; clear HB; have BK131 := n0_; have HB := n1_; clear n0_ n1_; (try clear hb); (try clear hb2); (try clear hk); (try clear hi); have hcz14_0 : w13.cell? ⟨gb131, 0, none⟩ = some (.int .i64 x132000_1) := (blk_cell BK131.out 0).trans rfl; have hcz14_1 : w13.cell? ⟨gb131, 1, none⟩ = some (.int .i64 x132001_1) := (blk_cell BK131.out 1).trans rfl; have hcz14_2 : w13.cell? ⟨gb131, 2, none⟩ = some (.int .i64 x132002_1) := (blk_cell BK131.out 2).trans rfl; have hcz14_3 : w13.cell? ⟨gb131, 3, none⟩ = some (.int .i64 x132003_1) := (blk_cell BK131.out 3).trans rfl; have hcz14_4 : w13.cell? ⟨gb131, 4, none⟩ = some (.int .i64 x132004_1) := (blk_cell BK131.out 4).trans rfl; have hcz14_5 : w13.cell? ⟨gb131, 5, none⟩ = some (.int .i64 x132005_1) := (blk_cell BK131.out 5).trans rfl; have hcz14_6 : w13.cell? ⟨gb131, 6, none⟩ = some (.int .i64 x132006_1) := (blk_cell BK131.out 6).trans rfl; have hcz14_7 : w13.cell? ⟨gb131, 7, none⟩ = some (.int .i64 x132007_1) := (blk_cell BK131.out 7).trans rfl; have hfz14_0 := blk_frozen BK131.out 0; have hfz14_1 := blk_frozen BK131.out 1; have hfz14_2 := blk_frozen BK131.out 2; have hfz14_3 := blk_frozen BK131.out 3; have hfz14_4 := blk_frozen BK131.out 4; have hfz14_5 := blk_frozen BK131.out 5; have hfz14_6 := blk_frozen BK131.out 6; have hfz14_7 := blk_frozen BK131.out 7))
            refine bodyPost_ret (results_cell_row rfl _ _ gb131 32 #[.int .i64 x3_1, .int .i64 t133, .int .i64 t134, .int .i64 t135, .int .i64 t136, .int .i64 t137, .int .i64 t138, .int .i64 0] (0, 0) _ rfl (by (with_reducible repeat (first | refine blk_drewN ?_ _ | refine blk_drew ?_ | refine blk_alloc ?_ _)); refine blk_put (cs := #[.int .i64 x3_1, .int .i64 t133, .int .i64 t134, .int .i64 t135, .int .i64 t136, .int .i64 t137, .int .i64 t138, .int .i64 x132007_1]) ?_ 7 _ rfl; (with_reducible repeat (first | refine blk_drewN ?_ _ | refine blk_drew ?_ | refine blk_alloc ?_ _)); refine blk_put (cs := #[.int .i64 x3_1, .int .i64 t133, .int .i64 t134, .int .i64 t135, .int .i64 t136, .int .i64 t137, .int .i64 x132006_1, .int .i64 x132007_1]) ?_ 6 _ rfl; (with_reducible repeat (first | refine blk_drewN ?_ _ | refine blk_drew ?_ | refine blk_alloc ?_ _)); refine blk_put (cs := #[.int .i64 x3_1, .int .i64 t133, .int .i64 t134, .int .i64 t135, .int .i64 t136, .int .i64 x132005_1, .int .i64 x132006_1, .int .i64 x132007_1]) ?_ 5 _ rfl; (with_reducible repeat (first | refine blk_drewN ?_ _ | refine blk_drew ?_ | refine blk_alloc ?_ _)); refine blk_put (cs := #[.int .i64 x3_1, .int .i64 t133, .int .i64 t134, .int .i64 t135, .int .i64 x132004_1, .int .i64 x132005_1, .int .i64 x132006_1, .int .i64 x132007_1]) ?_ 4 _ rfl; (with_reducible repeat (first | refine blk_drewN ?_ _ | refine blk_drew ?_ | refine blk_alloc ?_ _)); refine blk_put (cs := #[.int .i64 x3_1, .int .i64 t133, .int .i64 t134, .int .i64 x132003_1, .int .i64 x132004_1, .int .i64 x132005_1, .int .i64 x132006_1, .int .i64 x132007_1]) ?_ 3 _ rfl; (with_reducible repeat (first | refine blk_drewN ?_ _ | refine blk_drew ?_ | refine blk_alloc ?_ _)); refine blk_put (cs := #[.int .i64 x3_1, .int .i64 t133, .int .i64 x132002_1, .int .i64 x132003_1, .int .i64 x132004_1, .int .i64 x132005_1, .int .i64 x132006_1, .int .i64 x132007_1]) ?_ 2 _ rfl; (with_reducible repeat (first | refine blk_drewN ?_ _ | refine blk_drew ?_ | refine blk_alloc ?_ _)); refine blk_put (cs := #[.int .i64 x3_1, .int .i64 x132001_1, .int .i64 x132002_1, .int .i64 x132003_1, .int .i64 x132004_1, .int .i64 x132005_1, .int .i64 x132006_1, .int .i64 x132007_1]) ?_ 1 _ rfl; (with_reducible repeat (first | refine blk_drewN ?_ _ | refine blk_drew ?_ | refine blk_alloc ?_ _)); refine blk_put (cs := #[.int .i64 x132000_1, .int .i64 x132001_1, .int .i64 x132002_1, .int .i64 x132003_1, .int .i64 x132004_1, .int .i64 x132005_1, .int .i64 x132006_1, .int .i64 x132007_1]) ?_ 0 _ rfl; (with_reducible repeat (first | refine blk_drewN ?_ _ | refine blk_drew ?_ | refine blk_alloc ?_ _)); exact BK131.out) Try.underlying32 rfl (by kernel_rfl)) rfl ?_
            exact ⟨by first | rfl | (simp [errW_none, errW_some] <;> rfl) | (simp [*, errW_none, errW_some] <;> rfl), by repeat (first | (with_reducible first | exact HB.out | apply below_alloc | apply pw_below_drewN | apply below_drew1 | refine below_set ?_ GE131.out) | exact HB.out)⟩
          · rw [if_neg c8] at H
            have c8b0 : ((Go.bits .and .i64 a0 61440) == t132) = false := beq_eq_false_iff_ne.mpr c8
            have c8b1 : ((Go.bits .and .i64 a0 61440) != t132) = true := bne_iff_ne.mpr c8
            have H' := Aside0.mk H
            clear H
            go_wp2_with (first | ((with_reducible refine gate_callee (f := 43) rfl ?_); refine goesL_ (some 17) rfl rfl Try.func43 (by kernel_rfl) rfl #[.int .i64 x3_1] rfl (by (try simp only [List.map_toArray, List.map_cons, List.map_nil]); first | done | rfl | (simp only [List.length_drop, List.length_take]; rfl)) ?_; (with_reducible refine (spec_l4Base.calls x3_1 t132 _ A7.out).mono ?_); rintro e w15 ⟨rfl, hb⟩; refine ⟨_, rfl, ?_⟩; have n0_ := Aside0.mk (blk_below (g := gb131) (o := .cells #[.int .i64 x132000_1, .int .i64 x132001_1, .int .i64 x132002_1, .int .i64 x132003_1, .int .i64 x132004_1, .int .i64 x132005_1, .int .i64 x132006_1, .int .i64 x132007_1] 32 (0, 0)) (by (with_reducible repeat (first | refine blk_drewN ?_ _ | refine blk_drew ?_ | refine blk_alloc ?_ _)); exact BK131.out) hb); have n1_ := Aside0.mk (below_step (by repeat (first | (with_reducible first | exact HB.out | apply below_alloc | apply pw_below_drewN | apply below_drew1 | refine below_set ?_ GE131.out) | exact HB.out)) hb); clear BK131; clear HB; have BK131 := n0_; have HB := n1_; clear n0_ n1_; (try clear hb); (try clear hb2); (try clear hk); (try clear hi)))
            go_roundg k1
            case measure => have := HK1.out; omega
            case rel => exact ⟨(wrap64 (x3_1 + 1)), (x132000_1), (x132001_1), (x132002_1), (x132003_1), (x132004_1), (x132005_1), (x132006_1), (x132007_1), (by first | rfl | (simp; done) | (simp [*]; done) | (simp [wrap64]; done)), H', ⟨by have := HK1.out; omega⟩, ⟨by (with_reducible repeat (first | refine blk_drewN ?_ _ | refine blk_drew ?_ | refine blk_alloc ?_ _)); exact BK131.out⟩, ⟨by repeat (first | (with_reducible first | exact HB.out | apply below_alloc | apply pw_below_drewN | apply below_drew1 | refine below_set ?_ GE131.out) | exact HB.out)⟩⟩
        · rw [if_neg c6] at H
          have c6b0 : decide (x3_1 ≤ 6) = false := decide_eq_false c6
          clear c6
          have H' := Aside0.mk H
          clear H
          go_wp2
          go_loopg [4] k1 (fun kq v4 w' => ∃ (x4_2 : Int) (x132000_2 : Int) (x132001_2 : Int) (x132002_2 : Int) (x132003_2 : Int) (x132004_2 : Int) (x132005_2 : Int) (x132006_2 : Int) (x132007_2 : Int), v4 = .int .i64 x4_2 ∧ Aside0 (spec_l4Op.l1 kq a0 x4_2 = some (r1, r2, r3, r4, r5, r6, r7, r8)) ∧ Aside0 (kq ≤ k1) ∧ Aside0 (w'.heap[gb131]? = some (.cells #[.int .i64 x132000_2, .int .i64 x132001_2, .int .i64 x132002_2, .int .i64 x132003_2, .int .i64 x132004_2, .int .i64 x132005_2, .int .i64 x132006_2, .int .i64 x132007_2] 32 (0, 0))) ∧ Aside0 (Below w.heap.size w w'))
          case atStart => exact ⟨(7), (x132000_1), (x132001_1), (x132002_1), (x132003_1), (x132004_1), (x132005_1), (x132006_1), (x132007_1), (by first | rfl | (simp; done) | (simp [*]; done) | (simp [wrap64]; done)), H', ⟨Nat.le_refl _⟩, ⟨by (with_reducible repeat (first | refine blk_drewN ?_ _ | refine blk_drew ?_ | refine blk_alloc ?_ _)); exact BK131.out⟩, ⟨by repeat (first | (with_reducible first | exact HB.out | apply below_alloc | apply pw_below_drewN | apply below_drew1 | refine below_set ?_ GE131.out) | exact HB.out)⟩⟩
          case round =>
            clear H'
            try clear c2
            try clear c2b0
            try clear c2b1
            try clear p2
            try clear c4
            try clear c5
            try clear c6
            try clear c6b0
            try clear p6
            try clear c8
            try clear c8b0
            try clear c8b1
            try clear hcz14_0
            try clear hcz14_1
            try clear hcz14_2
            try clear hcz14_3
            try clear hcz14_4
            try clear hcz14_5
            try clear hcz14_6
            try clear hcz14_7
            try clear hcz4_0
            try clear hcz4_1
            try clear hcz4_2
            try clear hcz4_3
            try clear hcz4_4
            try clear hcz4_5
            try clear hcz4_6
            try clear hcz4_7
            try clear hfz14_0
            try clear hfz14_1
            try clear hfz14_2
            try clear hfz14_3
            try clear hfz14_4
            try clear hfz14_5
            try clear hfz14_6
            try clear hfz14_7
            try clear hfz4_0
            try clear hfz4_1
            try clear hfz4_2
            try clear hfz4_3
            try clear hfz4_4
            try clear hfz4_5
            try clear hfz4_6
            try clear hfz4_7
            try clear p2
            obtain ⟨x4_2, x132000_2, x132001_2, x132002_2, x132003_2, x132004_2, x132005_2, x132006_2, x132007_2, rfl, HA, HK2, BK131, HB⟩ := hrel
            cases gk with
            | zero => exact absurd HA.out (by simp [spec_l4Op.l1])
            | succ k2 =>
              have H := HA.out
              clear HA
              simp only [spec_l4Op.l1] at H
              by_cases c16 : x4_2 ≤ 14
              · rw [if_pos c16] at H
                have c16b0 : decide (x4_2 ≤ 14) = true := decide_eq_true c16
                clear c16
                replace H := Option.bind_eq_some_iff.mp H
                obtain ⟨t139, A170, H⟩ := H
                try dsimp only at H
                have A17 := Aside0.mk A170
                clear A170
                by_cases c18 : (Go.bits .and .i64 a0 65472) = t139
                · rw [if_pos c18] at H
                  have c18b0 : ((Go.bits .and .i64 a0 65472) == t139) = true := beq_iff_eq.mpr c18
                  have c18b1 : ((Go.bits .and .i64 a0 65472) != t139) = false := bne_eq_false_iff_eq.mpr c18
                  clear c18
                  replace H := Option.bind_eq_some_iff.mp H
                  obtain ⟨⟨t140, t141, t142⟩, A190, H⟩ := H
                  try dsimp only at H
                  have A19 := Aside0.mk A190
                  clear A190
                  simp only [Option.some.injEq, Prod.mk.injEq] at H
                  obtain ⟨rfl, rfl, rfl, rfl, rfl, rfl, rfl, rfl⟩ := H
                  go_wp2_with (first | ((with_reducible refine gate_callee (f := 43) rfl ?_); refine goesL_ (some 33) rfl rfl Try.func43 (by kernel_rfl) rfl #[.int .i64 x4_2] rfl (by (try simp only [List.map_toArray, List.map_cons, List.map_nil]); first | done | rfl | (simp only [List.length_drop, List.length_take]; rfl)) ?_; (with_reducible refine (spec_l4Base.calls x4_2 t139 _ A17.out).mono ?_); rintro e w20 ⟨rfl, hb⟩; refine ⟨_, rfl, ?_⟩; have n0_ := Aside0.mk (blk_below (g := gb131) (o := .cells #[.int .i64 x132000_2, .int .i64 x132001_2, .int .i64 x132002_2, .int .i64 x132003_2, .int .i64 x132004_2, .int .i64 x132005_2, .int .i64 x132006_2, .int .i64 x132007_2] 32 (0, 0)) (by (with_reducible repeat (first | refine blk_drewN ?_ _ | refine blk_drew ?_ | refine blk_alloc ?_ _)); exact BK131.out) hb); have n1_ := Aside0.mk (below_step (by repeat (first | (with_reducible first | exact HB.out | apply below_alloc | apply pw_below_drewN | apply below_drew1 | refine below_set ?_ GE131.out) | exact HB.out)) hb); clear BK131; clear HB; have BK131 := n0_; have HB := n1_; clear n0_ n1_; (try clear hb); (try clear hb2); (try clear hk); (try clear hi)) | ((with_reducible refine gate_callee (f := 58) rfl ?_); refine goesL_ (some 37) rfl rfl Try.func58 (by kernel_rfl) rfl #[.int .i64 a0] rfl (by (try simp only [List.map_toArray, List.map_cons, List.map_nil]); first | done | rfl | (simp only [List.length_drop, List.length_take]; rfl)) ?_; (with_reducible refine (spec_l4Opd.calls a0 t140 t141 t142 _ A19.out).mono ?_); rintro e w21 ⟨rfl, hb⟩; refine ⟨_, rfl, ?_⟩; have n0_ := Aside0.mk (blk_below (g := gb131) (o := .cells #[.int .i64 x132000_2, .int .i64 x132001_2, .int .i64 x132002_2, .int .i64 x132003_2, .int .i64 x132004_2, .int .i64 x132005_2, .int .i64 x132006_2, .int .i64 x132007_2] 32 (0, 0)) (by (with_reducible repeat (first | refine blk_drewN ?_ _ | refine blk_drew ?_ | refine blk_alloc ?_ _)); exact BK131.out) hb); have n1_ := Aside0.mk (below_step (by repeat (first | (with_reducible first | exact HB.out | apply below_alloc | apply pw_below_drewN | apply below_drew1 | refine below_set ?_ GE131.out) | exact HB.out)) hb); clear BK131; clear HB; have BK131 := n0_; have HB := n1_; clear n0_ n1_; (try clear hb); (try clear hb2); (try clear hk); (try clear hi); have hcz22_0 : w21.cell? ⟨gb131, 0, none⟩ = some (.int .i64 x132000_2) := (blk_cell BK131.out 0).trans rfl; have hcz22_1 : w21.cell? ⟨gb131, 1, none⟩ = some (.int .i64 x132001_2) := (blk_cell BK131.out 1).trans rfl; have hcz22_2 : w21.cell? ⟨gb131, 2, none⟩ = some (.int .i64 x132002_2) := (blk_cell BK131.out 2).trans rfl; have hcz22_3 : w21.cell? ⟨gb131, 3, none⟩ = some (.int .i64 x132003_2) := (blk_cell BK131.out 3).trans rfl; have hcz22_4 : w21.cell? ⟨gb131, 4, none⟩ = some (.int .i64 x132004_2) := (blk_cell BK131.out 4).trans rfl; have hcz22_5 : w21.cell? ⟨gb131, 5, none⟩ = some (.int .i64 x132005_2) := (blk_cell BK131.out 5).trans rfl; have hcz22_6 : w21.cell? ⟨gb131, 6, none⟩ = some (.int .i64 x132006_2) := (blk_cell BK131.out 6).trans rfl; have hcz22_7 : w21.cell? ⟨gb131, 7, none⟩ = some (.int .i64 x132007_2) := (blk_cell BK131.out 7).trans rfl; have hfz22_0 := blk_frozen BK131.out 0; have hfz22_1 := blk_frozen BK131.out 1; have hfz22_2 := blk_frozen BK131.out 2; have hfz22_3 := blk_frozen BK131.out 3; have hfz22_4 := blk_frozen BK131.out 4; have hfz22_5 := blk_frozen BK131.out 5; have hfz22_6 := blk_frozen BK131.out 6; have hfz22_7 := blk_frozen BK131.out 7))
                  refine bodyPost_ret (results_cell_row rfl _ _ gb131 32 #[.int .i64 x4_2, .int .i64 0, .int .i64 0, .int .i64 0, .int .i64 t140, .int .i64 t141, .int .i64 t142, .int .i64 0] (0, 0) _ rfl (by (with_reducible repeat (first | refine blk_drewN ?_ _ | refine blk_drew ?_ | refine blk_alloc ?_ _)); refine blk_put (cs := #[.int .i64 x4_2, .int .i64 0, .int .i64 0, .int .i64 0, .int .i64 t140, .int .i64 t141, .int .i64 t142, .int .i64 x132007_2]) ?_ 7 _ rfl; (with_reducible repeat (first | refine blk_drewN ?_ _ | refine blk_drew ?_ | refine blk_alloc ?_ _)); refine blk_put (cs := #[.int .i64 x4_2, .int .i64 0, .int .i64 0, .int .i64 0, .int .i64 t140, .int .i64 t141, .int .i64 x132006_2, .int .i64 x132007_2]) ?_ 6 _ rfl; (with_reducible repeat (first | refine blk_drewN ?_ _ | refine blk_drew ?_ | refine blk_alloc ?_ _)); refine blk_put (cs := #[.int .i64 x4_2, .int .i64 0, .int .i64 0, .int .i64 0, .int .i64 t140, .int .i64 x132005_2, .int .i64 x132006_2, .int .i64 x132007_2]) ?_ 5 _ rfl; (with_reducible repeat (first | refine blk_drewN ?_ _ | refine blk_drew ?_ | refine blk_alloc ?_ _)); refine blk_put (cs := #[.int .i64 x4_2, .int .i64 0, .int .i64 0, .int .i64 0, .int .i64 x132004_2, .int .i64 x132005_2, .int .i64 x132006_2, .int .i64 x132007_2]) ?_ 4 _ rfl; (with_reducible repeat (first | refine blk_drewN ?_ _ | refine blk_drew ?_ | refine blk_alloc ?_ _)); refine blk_put (cs := #[.int .i64 x4_2, .int .i64 0, .int .i64 0, .int .i64 x132003_2, .int .i64 x132004_2, .int .i64 x132005_2, .int .i64 x132006_2, .int .i64 x132007_2]) ?_ 3 _ rfl; (with_reducible repeat (first | refine blk_drewN ?_ _ | refine blk_drew ?_ | refine blk_alloc ?_ _)); refine blk_put (cs := #[.int .i64 x4_2, .int .i64 0, .int .i64 x132002_2, .int .i64 x132003_2, .int .i64 x132004_2, .int .i64 x132005_2, .int .i64 x132006_2, .int .i64 x132007_2]) ?_ 2 _ rfl; (with_reducible repeat (first | refine blk_drewN ?_ _ | refine blk_drew ?_ | refine blk_alloc ?_ _)); refine blk_put (cs := #[.int .i64 x4_2, .int .i64 x132001_2, .int .i64 x132002_2, .int .i64 x132003_2, .int .i64 x132004_2, .int .i64 x132005_2, .int .i64 x132006_2, .int .i64 x132007_2]) ?_ 1 _ rfl; (with_reducible repeat (first | refine blk_drewN ?_ _ | refine blk_drew ?_ | refine blk_alloc ?_ _)); refine blk_put (cs := #[.int .i64 x132000_2, .int .i64 x132001_2, .int .i64 x132002_2, .int .i64 x132003_2, .int .i64 x132004_2, .int .i64 x132005_2, .int .i64 x132006_2, .int .i64 x132007_2]) ?_ 0 _ rfl; (with_reducible repeat (first | refine blk_drewN ?_ _ | refine blk_drew ?_ | refine blk_alloc ?_ _)); exact BK131.out) Try.underlying32 rfl (by kernel_rfl)) rfl ?_
                  exact ⟨by first | rfl | (simp [errW_none, errW_some] <;> rfl) | (simp [*, errW_none, errW_some] <;> rfl), by repeat (first | (with_reducible first | exact HB.out | apply below_alloc | apply pw_below_drewN | apply below_drew1 | refine below_set ?_ GE131.out) | exact HB.out)⟩
                · rw [if_neg c18] at H
                  have c18b0 : ((Go.bits .and .i64 a0 65472) == t139) = false := beq_eq_false_iff_ne.mpr c18
                  have c18b1 : ((Go.bits .and .i64 a0 65472) != t139) = true := bne_iff_ne.mpr c18
                  have H' := Aside0.mk H
                  clear H
                  go_wp2_with (first | ((with_reducible refine gate_callee (f := 43) rfl ?_); refine goesL_ (some 33) rfl rfl Try.func43 (by kernel_rfl) rfl #[.int .i64 x4_2] rfl (by (try simp only [List.map_toArray, List.map_cons, List.map_nil]); first | done | rfl | (simp only [List.length_drop, List.length_take]; rfl)) ?_; (with_reducible refine (spec_l4Base.calls x4_2 t139 _ A17.out).mono ?_); rintro e w23 ⟨rfl, hb⟩; refine ⟨_, rfl, ?_⟩; have n0_ := Aside0.mk (blk_below (g := gb131) (o := .cells #[.int .i64 x132000_2, .int .i64 x132001_2, .int .i64 x132002_2, .int .i64 x132003_2, .int .i64 x132004_2, .int .i64 x132005_2, .int .i64 x132006_2, .int .i64 x132007_2] 32 (0, 0)) (by (with_reducible repeat (first | refine blk_drewN ?_ _ | refine blk_drew ?_ | refine blk_alloc ?_ _)); exact BK131.out) hb); have n1_ := Aside0.mk (below_step (by repeat (first | (with_reducible first | exact HB.out | apply below_alloc | apply pw_below_drewN | apply below_drew1 | refine below_set ?_ GE131.out) | exact HB.out)) hb); clear BK131; clear HB; have BK131 := n0_; have HB := n1_; clear n0_ n1_; (try clear hb); (try clear hb2); (try clear hk); (try clear hi)))
                  go_roundg k2
                  case measure => have := HK1.out; have := HK2.out; omega
                  case rel => exact ⟨(wrap64 (x4_2 + 1)), (x132000_2), (x132001_2), (x132002_2), (x132003_2), (x132004_2), (x132005_2), (x132006_2), (x132007_2), (by first | rfl | (simp; done) | (simp [*]; done) | (simp [wrap64]; done)), H', ⟨by have := HK1.out; have := HK2.out; omega⟩, ⟨by (with_reducible repeat (first | refine blk_drewN ?_ _ | refine blk_drew ?_ | refine blk_alloc ?_ _)); exact BK131.out⟩, ⟨by repeat (first | (with_reducible first | exact HB.out | apply below_alloc | apply pw_below_drewN | apply below_drew1 | refine below_set ?_ GE131.out) | exact HB.out)⟩⟩
              · rw [if_neg c16] at H
                have c16b0 : decide (x4_2 ≤ 14) = false := decide_eq_false c16
                clear c16
                by_cases c24 : (Go.bits .and .i64 a0 65024) = 2048
                · rw [if_pos c24] at H
                  have c24b0 : ((Go.bits .and .i64 a0 65024) == 2048) = true := beq_iff_eq.mpr c24
                  have c24b1 : ((Go.bits .and .i64 a0 65024) != 2048) = false := bne_eq_false_iff_eq.mpr c24
                  clear c24
                  replace H := Option.bind_eq_some_iff.mp H
                  obtain ⟨⟨t143, t144, t145⟩, A250, H⟩ := H
                  try dsimp only at H
                  have A25 := Aside0.mk A250
                  clear A250
                  simp only [Option.some.injEq, Prod.mk.injEq] at H
                  obtain ⟨rfl, rfl, rfl, rfl, rfl, rfl, rfl, rfl⟩ := H
                  go_wp2_with (first | ((with_reducible refine gate_callee (f := 58) rfl ?_); refine goesL_ (some 47) rfl rfl Try.func58 (by kernel_rfl) rfl #[.int .i64 a0] rfl (by (try simp only [List.map_toArray, List.map_cons, List.map_nil]); first | done | rfl | (simp only [List.length_drop, List.length_take]; rfl)) ?_; (with_reducible refine (spec_l4Opd.calls a0 t143 t144 t145 _ A25.out).mono ?_); rintro e w26 ⟨rfl, hb⟩; refine ⟨_, rfl, ?_⟩; have n0_ := Aside0.mk (blk_below (g := gb131) (o := .cells #[.int .i64 x132000_2, .int .i64 x132001_2, .int .i64 x132002_2, .int .i64 x132003_2, .int .i64 x132004_2, .int .i64 x132005_2, .int .i64 x132006_2, .int .i64 x132007_2] 32 (0, 0)) (by (with_reducible repeat (first | refine blk_drewN ?_ _ | refine blk_drew ?_ | refine blk_alloc ?_ _)); exact BK131.out) hb); have n1_ := Aside0.mk (below_step (by repeat (first | (with_reducible first | exact HB.out | apply below_alloc | apply pw_below_drewN | apply below_drew1 | refine below_set ?_ GE131.out) | exact HB.out)) hb); clear BK131; clear HB; have BK131 := n0_; have HB := n1_; clear n0_ n1_; (try clear hb); (try clear hb2); (try clear hk); (try clear hi); have hcz27_0 : w26.cell? ⟨gb131, 0, none⟩ = some (.int .i64 x132000_2) := (blk_cell BK131.out 0).trans rfl; have hcz27_1 : w26.cell? ⟨gb131, 1, none⟩ = some (.int .i64 x132001_2) := (blk_cell BK131.out 1).trans rfl; have hcz27_2 : w26.cell? ⟨gb131, 2, none⟩ = some (.int .i64 x132002_2) := (blk_cell BK131.out 2).trans rfl; have hcz27_3 : w26.cell? ⟨gb131, 3, none⟩ = some (.int .i64 x132003_2) := (blk_cell BK131.out 3).trans rfl; have hcz27_4 : w26.cell? ⟨gb131, 4, none⟩ = some (.int .i64 x132004_2) := (blk_cell BK131.out 4).trans rfl; have hcz27_5 : w26.cell? ⟨gb131, 5, none⟩ = some (.int .i64 x132005_2) := (blk_cell BK131.out 5).trans rfl; have hcz27_6 : w26.cell? ⟨gb131, 6, none⟩ = some (.int .i64 x132006_2) := (blk_cell BK131.out 6).trans rfl; have hcz27_7 : w26.cell? ⟨gb131, 7, none⟩ = some (.int .i64 x132007_2) := (blk_cell BK131.out 7).trans rfl; have hfz27_0 := blk_frozen BK131.out 0; have hfz27_1 := blk_frozen BK131.out 1; have hfz27_2 := blk_frozen BK131.out 2; have hfz27_3 := blk_frozen BK131.out 3; have hfz27_4 := blk_frozen BK131.out 4; have hfz27_5 := blk_frozen BK131.out 5; have hfz27_6 := blk_frozen BK131.out 6; have hfz27_7 := blk_frozen BK131.out 7))
                  refine bodyPost_ret (results_cell_row rfl _ _ gb131 32 #[.int .i64 15, .int .i64 0, .int .i64 0, .int .i64 0, .int .i64 t143, .int .i64 t144, .int .i64 t145, .int .i64 (Go.bits .and .i64 (a0 / 64) 7)] (0, 0) _ rfl (by (with_reducible repeat (first | refine blk_drewN ?_ _ | refine blk_drew ?_ | refine blk_alloc ?_ _)); refine blk_put (cs := #[.int .i64 15, .int .i64 0, .int .i64 0, .int .i64 0, .int .i64 t143, .int .i64 t144, .int .i64 t145, .int .i64 x132007_2]) ?_ 7 _ rfl; (with_reducible repeat (first | refine blk_drewN ?_ _ | refine blk_drew ?_ | refine blk_alloc ?_ _)); refine blk_put (cs := #[.int .i64 15, .int .i64 0, .int .i64 0, .int .i64 0, .int .i64 t143, .int .i64 t144, .int .i64 x132006_2, .int .i64 x132007_2]) ?_ 6 _ rfl; (with_reducible repeat (first | refine blk_drewN ?_ _ | refine blk_drew ?_ | refine blk_alloc ?_ _)); refine blk_put (cs := #[.int .i64 15, .int .i64 0, .int .i64 0, .int .i64 0, .int .i64 t143, .int .i64 x132005_2, .int .i64 x132006_2, .int .i64 x132007_2]) ?_ 5 _ rfl; (with_reducible repeat (first | refine blk_drewN ?_ _ | refine blk_drew ?_ | refine blk_alloc ?_ _)); refine blk_put (cs := #[.int .i64 15, .int .i64 0, .int .i64 0, .int .i64 0, .int .i64 x132004_2, .int .i64 x132005_2, .int .i64 x132006_2, .int .i64 x132007_2]) ?_ 4 _ rfl; (with_reducible repeat (first | refine blk_drewN ?_ _ | refine blk_drew ?_ | refine blk_alloc ?_ _)); refine blk_put (cs := #[.int .i64 15, .int .i64 0, .int .i64 0, .int .i64 x132003_2, .int .i64 x132004_2, .int .i64 x132005_2, .int .i64 x132006_2, .int .i64 x132007_2]) ?_ 3 _ rfl; (with_reducible repeat (first | refine blk_drewN ?_ _ | refine blk_drew ?_ | refine blk_alloc ?_ _)); refine blk_put (cs := #[.int .i64 15, .int .i64 0, .int .i64 x132002_2, .int .i64 x132003_2, .int .i64 x132004_2, .int .i64 x132005_2, .int .i64 x132006_2, .int .i64 x132007_2]) ?_ 2 _ rfl; (with_reducible repeat (first | refine blk_drewN ?_ _ | refine blk_drew ?_ | refine blk_alloc ?_ _)); refine blk_put (cs := #[.int .i64 15, .int .i64 x132001_2, .int .i64 x132002_2, .int .i64 x132003_2, .int .i64 x132004_2, .int .i64 x132005_2, .int .i64 x132006_2, .int .i64 x132007_2]) ?_ 1 _ rfl; (with_reducible repeat (first | refine blk_drewN ?_ _ | refine blk_drew ?_ | refine blk_alloc ?_ _)); refine blk_put (cs := #[.int .i64 x132000_2, .int .i64 x132001_2, .int .i64 x132002_2, .int .i64 x132003_2, .int .i64 x132004_2, .int .i64 x132005_2, .int .i64 x132006_2, .int .i64 x132007_2]) ?_ 0 _ rfl; (with_reducible repeat (first | refine blk_drewN ?_ _ | refine blk_drew ?_ | refine blk_alloc ?_ _)); exact BK131.out) Try.underlying32 rfl (by kernel_rfl)) rfl ?_
                  exact ⟨by first | rfl | (simp [errW_none, errW_some] <;> rfl) | (simp [*, errW_none, errW_some] <;> rfl), by repeat (first | (with_reducible first | exact HB.out | apply below_alloc | apply pw_below_drewN | apply below_drew1 | refine below_set ?_ GE131.out) | exact HB.out)⟩
                · rw [if_neg c24] at H
                  have c24b0 : ((Go.bits .and .i64 a0 65024) == 2048) = false := beq_eq_false_iff_ne.mpr c24
                  have c24b1 : ((Go.bits .and .i64 a0 65024) != 2048) = true := bne_iff_ne.mpr c24
                  by_cases c28 : (Go.bits .and .i64 a0 65528) = 128
                  · rw [if_pos c28] at H
                    have c28b0 : ((Go.bits .and .i64 a0 65528) == 128) = true := beq_iff_eq.mpr c28
                    have c28b1 : ((Go.bits .and .i64 a0 65528) != 128) = false := bne_eq_false_iff_eq.mpr c28
                    clear c28
                    simp only [Option.some.injEq, Prod.mk.injEq] at H
                    obtain ⟨rfl, rfl, rfl, rfl, rfl, rfl, rfl, rfl⟩ := H
                    have hcz29_0 : wr.cell? ⟨gb131, 0, none⟩ = some (.int .i64 x132000_2) := (blk_cell BK131.out 0).trans rfl
                    have hcz29_1 : wr.cell? ⟨gb131, 1, none⟩ = some (.int .i64 x132001_2) := (blk_cell BK131.out 1).trans rfl
                    have hcz29_2 : wr.cell? ⟨gb131, 2, none⟩ = some (.int .i64 x132002_2) := (blk_cell BK131.out 2).trans rfl
                    have hcz29_3 : wr.cell? ⟨gb131, 3, none⟩ = some (.int .i64 x132003_2) := (blk_cell BK131.out 3).trans rfl
                    have hcz29_4 : wr.cell? ⟨gb131, 4, none⟩ = some (.int .i64 x132004_2) := (blk_cell BK131.out 4).trans rfl
                    have hcz29_5 : wr.cell? ⟨gb131, 5, none⟩ = some (.int .i64 x132005_2) := (blk_cell BK131.out 5).trans rfl
                    have hcz29_6 : wr.cell? ⟨gb131, 6, none⟩ = some (.int .i64 x132006_2) := (blk_cell BK131.out 6).trans rfl
                    have hcz29_7 : wr.cell? ⟨gb131, 7, none⟩ = some (.int .i64 x132007_2) := (blk_cell BK131.out 7).trans rfl
                    have hfz29_0 := blk_frozen BK131.out 0
                    have hfz29_1 := blk_frozen BK131.out 1
                    have hfz29_2 := blk_frozen BK131.out 2
                    have hfz29_3 := blk_frozen BK131.out 3
                    have hfz29_4 := blk_frozen BK131.out 4
                    have hfz29_5 := blk_frozen BK131.out 5
                    have hfz29_6 := blk_frozen BK131.out 6
                    have hfz29_7 := blk_frozen BK131.out 7
                    go_wp2
                    refine bodyPost_ret (results_cell_row rfl _ _ gb131 32 #[.int .i64 16, .int .i64 0, .int .i64 0, .int .i64 0, .int .i64 0, .int .i64 0, .int .i64 0, .int .i64 (Go.bits .and .i64 a0 7)] (0, 0) _ rfl (by (with_reducible repeat (first | refine blk_drewN ?_ _ | refine blk_drew ?_ | refine blk_alloc ?_ _)); refine blk_put (cs := #[.int .i64 16, .int .i64 0, .int .i64 0, .int .i64 0, .int .i64 0, .int .i64 0, .int .i64 0, .int .i64 x132007_2]) ?_ 7 _ rfl; (with_reducible repeat (first | refine blk_drewN ?_ _ | refine blk_drew ?_ | refine blk_alloc ?_ _)); refine blk_put (cs := #[.int .i64 16, .int .i64 0, .int .i64 0, .int .i64 0, .int .i64 0, .int .i64 0, .int .i64 x132006_2, .int .i64 x132007_2]) ?_ 6 _ rfl; (with_reducible repeat (first | refine blk_drewN ?_ _ | refine blk_drew ?_ | refine blk_alloc ?_ _)); refine blk_put (cs := #[.int .i64 16, .int .i64 0, .int .i64 0, .int .i64 0, .int .i64 0, .int .i64 x132005_2, .int .i64 x132006_2, .int .i64 x132007_2]) ?_ 5 _ rfl; (with_reducible repeat (first | refine blk_drewN ?_ _ | refine blk_drew ?_ | refine blk_alloc ?_ _)); refine blk_put (cs := #[.int .i64 16, .int .i64 0, .int .i64 0, .int .i64 0, .int .i64 x132004_2, .int .i64 x132005_2, .int .i64 x132006_2, .int .i64 x132007_2]) ?_ 4 _ rfl; (with_reducible repeat (first | refine blk_drewN ?_ _ | refine blk_drew ?_ | refine blk_alloc ?_ _)); refine blk_put (cs := #[.int .i64 16, .int .i64 0, .int .i64 0, .int .i64 x132003_2, .int .i64 x132004_2, .int .i64 x132005_2, .int .i64 x132006_2, .int .i64 x132007_2]) ?_ 3 _ rfl; (with_reducible repeat (first | refine blk_drewN ?_ _ | refine blk_drew ?_ | refine blk_alloc ?_ _)); refine blk_put (cs := #[.int .i64 16, .int .i64 0, .int .i64 x132002_2, .int .i64 x132003_2, .int .i64 x132004_2, .int .i64 x132005_2, .int .i64 x132006_2, .int .i64 x132007_2]) ?_ 2 _ rfl; (with_reducible repeat (first | refine blk_drewN ?_ _ | refine blk_drew ?_ | refine blk_alloc ?_ _)); refine blk_put (cs := #[.int .i64 16, .int .i64 x132001_2, .int .i64 x132002_2, .int .i64 x132003_2, .int .i64 x132004_2, .int .i64 x132005_2, .int .i64 x132006_2, .int .i64 x132007_2]) ?_ 1 _ rfl; (with_reducible repeat (first | refine blk_drewN ?_ _ | refine blk_drew ?_ | refine blk_alloc ?_ _)); refine blk_put (cs := #[.int .i64 x132000_2, .int .i64 x132001_2, .int .i64 x132002_2, .int .i64 x132003_2, .int .i64 x132004_2, .int .i64 x132005_2, .int .i64 x132006_2, .int .i64 x132007_2]) ?_ 0 _ rfl; (with_reducible repeat (first | refine blk_drewN ?_ _ | refine blk_drew ?_ | refine blk_alloc ?_ _)); exact BK131.out) Try.underlying32 rfl (by kernel_rfl)) rfl ?_
                    exact ⟨by first | rfl | (simp [errW_none, errW_some] <;> rfl) | (simp [*, errW_none, errW_some] <;> rfl), by repeat (first | (with_reducible first | exact HB.out | apply below_alloc | apply pw_below_drewN | apply below_drew1 | refine below_set ?_ GE131.out) | exact HB.out)⟩
                  · rw [if_neg c28] at H
                    have c28b0 : ((Go.bits .and .i64 a0 65528) == 128) = false := beq_eq_false_iff_ne.mpr c28
                    have c28b1 : ((Go.bits .and .i64 a0 65528) != 128) = true := bne_iff_ne.mpr c28
                    by_cases c30 : (Go.bits .and .i64 a0 65280) = 34816
                    · rw [if_pos c30] at H
                      have c30b0 : ((Go.bits .and .i64 a0 65280) == 34816) = true := beq_iff_eq.mpr c30
                      have c30b1 : ((Go.bits .and .i64 a0 65280) != 34816) = false := bne_eq_false_iff_eq.mpr c30
                      clear c30
                      simp only [Option.some.injEq, Prod.mk.injEq] at H
                      obtain ⟨rfl, rfl, rfl, rfl, rfl, rfl, rfl, rfl⟩ := H
                      have hcz31_0 : wr.cell? ⟨gb131, 0, none⟩ = some (.int .i64 x132000_2) := (blk_cell BK131.out 0).trans rfl
                      have hcz31_1 : wr.cell? ⟨gb131, 1, none⟩ = some (.int .i64 x132001_2) := (blk_cell BK131.out 1).trans rfl
                      have hcz31_2 : wr.cell? ⟨gb131, 2, none⟩ = some (.int .i64 x132002_2) := (blk_cell BK131.out 2).trans rfl
                      have hcz31_3 : wr.cell? ⟨gb131, 3, none⟩ = some (.int .i64 x132003_2) := (blk_cell BK131.out 3).trans rfl
                      have hcz31_4 : wr.cell? ⟨gb131, 4, none⟩ = some (.int .i64 x132004_2) := (blk_cell BK131.out 4).trans rfl
                      have hcz31_5 : wr.cell? ⟨gb131, 5, none⟩ = some (.int .i64 x132005_2) := (blk_cell BK131.out 5).trans rfl
                      have hcz31_6 : wr.cell? ⟨gb131, 6, none⟩ = some (.int .i64 x132006_2) := (blk_cell BK131.out 6).trans rfl
                      have hcz31_7 : wr.cell? ⟨gb131, 7, none⟩ = some (.int .i64 x132007_2) := (blk_cell BK131.out 7).trans rfl
                      have hfz31_0 := blk_frozen BK131.out 0
                      have hfz31_1 := blk_frozen BK131.out 1
                      have hfz31_2 := blk_frozen BK131.out 2
                      have hfz31_3 := blk_frozen BK131.out 3
                      have hfz31_4 := blk_frozen BK131.out 4
                      have hfz31_5 := blk_frozen BK131.out 5
                      have hfz31_6 := blk_frozen BK131.out 6
                      have hfz31_7 := blk_frozen BK131.out 7
                      go_wp2
                      refine bodyPost_ret (results_cell_row rfl _ _ gb131 32 #[.int .i64 23, .int .i64 0, .int .i64 0, .int .i64 0, .int .i64 0, .int .i64 0, .int .i64 0, .int .i64 (Go.bits .and .i64 a0 255)] (0, 0) _ rfl (by (with_reducible repeat (first | refine blk_drewN ?_ _ | refine blk_drew ?_ | refine blk_alloc ?_ _)); refine blk_put (cs := #[.int .i64 23, .int .i64 0, .int .i64 0, .int .i64 0, .int .i64 0, .int .i64 0, .int .i64 0, .int .i64 x132007_2]) ?_ 7 _ rfl; (with_reducible repeat (first | refine blk_drewN ?_ _ | refine blk_drew ?_ | refine blk_alloc ?_ _)); refine blk_put (cs := #[.int .i64 23, .int .i64 0, .int .i64 0, .int .i64 0, .int .i64 0, .int .i64 0, .int .i64 x132006_2, .int .i64 x132007_2]) ?_ 6 _ rfl; (with_reducible repeat (first | refine blk_drewN ?_ _ | refine blk_drew ?_ | refine blk_alloc ?_ _)); refine blk_put (cs := #[.int .i64 23, .int .i64 0, .int .i64 0, .int .i64 0, .int .i64 0, .int .i64 x132005_2, .int .i64 x132006_2, .int .i64 x132007_2]) ?_ 5 _ rfl; (with_reducible repeat (first | refine blk_drewN ?_ _ | refine blk_drew ?_ | refine blk_alloc ?_ _)); refine blk_put (cs := #[.int .i64 23, .int .i64 0, .int .i64 0, .int .i64 0, .int .i64 x132004_2, .int .i64 x132005_2, .int .i64 x132006_2, .int .i64 x132007_2]) ?_ 4 _ rfl; (with_reducible repeat (first | refine blk_drewN ?_ _ | refine blk_drew ?_ | refine blk_alloc ?_ _)); refine blk_put (cs := #[.int .i64 23, .int .i64 0, .int .i64 0, .int .i64 x132003_2, .int .i64 x132004_2, .int .i64 x132005_2, .int .i64 x132006_2, .int .i64 x132007_2]) ?_ 3 _ rfl; (with_reducible repeat (first | refine blk_drewN ?_ _ | refine blk_drew ?_ | refine blk_alloc ?_ _)); refine blk_put (cs := #[.int .i64 23, .int .i64 0, .int .i64 x132002_2, .int .i64 x132003_2, .int .i64 x132004_2, .int .i64 x132005_2, .int .i64 x132006_2, .int .i64 x132007_2]) ?_ 2 _ rfl; (with_reducible repeat (first | refine blk_drewN ?_ _ | refine blk_drew ?_ | refine blk_alloc ?_ _)); refine blk_put (cs := #[.int .i64 23, .int .i64 x132001_2, .int .i64 x132002_2, .int .i64 x132003_2, .int .i64 x132004_2, .int .i64 x132005_2, .int .i64 x132006_2, .int .i64 x132007_2]) ?_ 1 _ rfl; (with_reducible repeat (first | refine blk_drewN ?_ _ | refine blk_drew ?_ | refine blk_alloc ?_ _)); refine blk_put (cs := #[.int .i64 x132000_2, .int .i64 x132001_2, .int .i64 x132002_2, .int .i64 x132003_2, .int .i64 x132004_2, .int .i64 x132005_2, .int .i64 x132006_2, .int .i64 x132007_2]) ?_ 0 _ rfl; (with_reducible repeat (first | refine blk_drewN ?_ _ | refine blk_drew ?_ | refine blk_alloc ?_ _)); exact BK131.out) Try.underlying32 rfl (by kernel_rfl)) rfl ?_
                      exact ⟨by first | rfl | (simp [errW_none, errW_some] <;> rfl) | (simp [*, errW_none, errW_some] <;> rfl), by repeat (first | (with_reducible first | exact HB.out | apply below_alloc | apply pw_below_drewN | apply below_drew1 | refine below_set ?_ GE131.out) | exact HB.out)⟩
                    · rw [if_neg c30] at H
                      have c30b0 : ((Go.bits .and .i64 a0 65280) == 34816) = false := beq_eq_false_iff_ne.mpr c30
                      have c30b1 : ((Go.bits .and .i64 a0 65280) != 34816) = true := bne_iff_ne.mpr c30
                      have H' := Aside0.mk H
                      clear H
                      go_wp2
                      go_loopg [5] k2 (fun kq v5 w' => ∃ (x5_3 : Int) (x132000_3 : Int) (x132001_3 : Int) (x132002_3 : Int) (x132003_3 : Int) (x132004_3 : Int) (x132005_3 : Int) (x132006_3 : Int) (x132007_3 : Int), v5 = .int .i64 x5_3 ∧ Aside0 (spec_l4Op.l2 kq a0 x5_3 = some (r1, r2, r3, r4, r5, r6, r7, r8)) ∧ Aside0 (kq ≤ k2) ∧ Aside0 (w'.heap[gb131]? = some (.cells #[.int .i64 x132000_3, .int .i64 x132001_3, .int .i64 x132002_3, .int .i64 x132003_3, .int .i64 x132004_3, .int .i64 x132005_3, .int .i64 x132006_3, .int .i64 x132007_3] 32 (0, 0))) ∧ Aside0 (Below w.heap.size w w'))
                      case atStart => exact ⟨(17), (x132000_2), (x132001_2), (x132002_2), (x132003_2), (x132004_2), (x132005_2), (x132006_2), (x132007_2), (by first | rfl | (simp; done) | (simp [*]; done) | (simp [wrap64]; done)), H', ⟨Nat.le_refl _⟩, ⟨by (with_reducible repeat (first | refine blk_drewN ?_ _ | refine blk_drew ?_ | refine blk_alloc ?_ _)); exact BK131.out⟩, ⟨by repeat (first | (with_reducible first | exact HB.out | apply below_alloc | apply pw_below_drewN | apply below_drew1 | refine below_set ?_ GE131.out) | exact HB.out)⟩⟩
                      case round =>
                        clear H'
                        try clear c1
                        try clear c2
                        try clear c2b0
                        try clear c2b1
                        try clear p2
                        try clear c3
                        try clear c4
                        try clear c5
                        try clear c6
                        try clear c6b0
                        try clear p6
                        try clear c8
                        try clear c8b0
                        try clear c8b1
                        try clear c16
                        try clear c16b0
                        try clear c18
                        try clear c18b0
                        try clear c18b1
                        try clear c24
                        try clear c24b0
                        try clear c24b1
                        try clear c28
                        try clear c28b0
                        try clear c28b1
                        try clear c30
                        try clear c30b0
                        try clear c30b1
                        try clear hcz14_0
                        try clear hcz14_1
                        try clear hcz14_2
                        try clear hcz14_3
                        try clear hcz14_4
                        try clear hcz14_5
                        try clear hcz14_6
                        try clear hcz14_7
                        try clear hcz22_0
                        try clear hcz22_1
                        try clear hcz22_2
                        try clear hcz22_3
                        try clear hcz22_4
                        try clear hcz22_5
                        try clear hcz22_6
                        try clear hcz22_7
                        try clear hcz27_0
                        try clear hcz27_1
                        try clear hcz27_2
                        try clear hcz27_3
                        try clear hcz27_4
                        try clear hcz27_5
                        try clear hcz27_6
                        try clear hcz27_7
                        try clear hcz29_0
                        try clear hcz29_1
                        try clear hcz29_2
                        try clear hcz29_3
                        try clear hcz29_4
                        try clear hcz29_5
                        try clear hcz29_6
                        try clear hcz29_7
                        try clear hcz31_0
                        try clear hcz31_1
                        try clear hcz31_2
                        try clear hcz31_3
                        try clear hcz31_4
                        try clear hcz31_5
                        try clear hcz31_6
                        try clear hcz31_7
                        try clear hcz4_0
                        try clear hcz4_1
                        try clear hcz4_2
                        try clear hcz4_3
                        try clear hcz4_4
                        try clear hcz4_5
                        try clear hcz4_6
                        try clear hcz4_7
                        try clear hfz14_0
                        try clear hfz14_1
                        try clear hfz14_2
                        try clear hfz14_3
                        try clear hfz14_4
                        try clear hfz14_5
                        try clear hfz14_6
                        try clear hfz14_7
                        try clear hfz22_0
                        try clear hfz22_1
                        try clear hfz22_2
                        try clear hfz22_3
                        try clear hfz22_4
                        try clear hfz22_5
                        try clear hfz22_6
                        try clear hfz22_7
                        try clear hfz27_0
                        try clear hfz27_1
                        try clear hfz27_2
                        try clear hfz27_3
                        try clear hfz27_4
                        try clear hfz27_5
                        try clear hfz27_6
                        try clear hfz27_7
                        try clear hfz29_0
                        try clear hfz29_1
                        try clear hfz29_2
                        try clear hfz29_3
                        try clear hfz29_4
                        try clear hfz29_5
                        try clear hfz29_6
                        try clear hfz29_7
                        try clear hfz31_0
                        try clear hfz31_1
                        try clear hfz31_2
                        try clear hfz31_3
                        try clear hfz31_4
                        try clear hfz31_5
                        try clear hfz31_6
                        try clear hfz31_7
                        try clear hfz4_0
                        try clear hfz4_1
                        try clear hfz4_2
                        try clear hfz4_3
                        try clear hfz4_4
                        try clear hfz4_5
                        try clear hfz4_6
                        try clear hfz4_7
                        try clear p2
                        try clear p6
                        obtain ⟨x5_3, x132000_3, x132001_3, x132002_3, x132003_3, x132004_3, x132005_3, x132006_3, x132007_3, rfl, HA, HK3, BK131, HB⟩ := hrel
                        cases gk with
                        | zero => exact absurd HA.out (by simp [spec_l4Op.l2])
                        | succ k3 =>
                          have H := HA.out
                          clear HA
                          simp only [spec_l4Op.l2] at H
                          by_cases c32 : x5_3 ≤ 21
                          · rw [if_pos c32] at H
                            have c32b0 : decide (x5_3 ≤ 21) = true := decide_eq_true c32
                            clear c32
                            replace H := Option.bind_eq_some_iff.mp H
                            obtain ⟨t146, A330, H⟩ := H
                            try dsimp only at H
                            have A33 := Aside0.mk A330
                            clear A330
                            by_cases c34 : (Go.bits .and .i64 a0 65280) = t146
                            · rw [if_pos c34] at H
                              have c34b0 : ((Go.bits .and .i64 a0 65280) == t146) = true := beq_iff_eq.mpr c34
                              have c34b1 : ((Go.bits .and .i64 a0 65280) != t146) = false := bne_eq_false_iff_eq.mpr c34
                              clear c34
                              by_cases c35 : (Go.bits .and .i64 a0 255) > 127
                              · rw [if_pos c35] at H
                                have c35b0 : decide (127 < (Go.bits .and .i64 a0 255)) = true := decide_eq_true c35
                                clear c35
                                simp only [Option.some.injEq, Prod.mk.injEq] at H
                                obtain ⟨rfl, rfl, rfl, rfl, rfl, rfl, rfl, rfl⟩ := H
                                go_upto_region 26 with (first | ((with_reducible refine gate_callee (f := 43) rfl ?_); refine goesL_ (some 70) rfl rfl Try.func43 (by kernel_rfl) rfl #[.int .i64 x5_3] rfl (by (try simp only [List.map_toArray, List.map_cons, List.map_nil]); first | done | rfl | (simp only [List.length_drop, List.length_take]; rfl)) ?_; (with_reducible refine (spec_l4Base.calls x5_3 t146 _ A33.out).mono ?_); rintro e w36 ⟨rfl, hb⟩; refine ⟨_, rfl, ?_⟩; have n0_ := Aside0.mk (blk_below (g := gb131) (o := .cells #[.int .i64 x132000_3, .int .i64 x132001_3, .int .i64 x132002_3, .int .i64 x132003_3, .int .i64 x132004_3, .int .i64 x132005_3, .int .i64 x132006_3, .int .i64 x132007_3] 32 (0, 0)) (by (with_reducible repeat (first | refine blk_drewN ?_ _ | refine blk_drew ?_ | refine blk_alloc ?_ _)); exact BK131.out) hb); have n1_ := Aside0.mk (below_step (by repeat (first | (with_reducible first | exact HB.out | apply below_alloc | apply pw_below_drewN | apply below_drew1 | refine below_set ?_ GE131.out) | exact HB.out)) hb); clear BK131; clear HB; have BK131 := n0_; have HB := n1_; clear n0_ n1_; (try clear hb); (try clear hb2); (try clear hk); (try clear hi)) | ((with_reducible refine gate_dst (N := 6) rfl ?_); refine box_event ?hg (N := 6) ?hd (cs := #[.int .i64 0, .int .i64 0, .int .i64 0, .int .i64 0, .int .i64 0, .int .i64 0, .int .i64 0, .int .i64 0]) (t := 32) ?hr ?_; (case hd => rfl); (case hg => rfl); (case hr => first | (go_simp; done) | (go_simp; rfl)); intro gb147 hg w37 hbox hb; have n0_ := Aside0.mk (blk_below (g := gb131) (o := .cells #[.int .i64 x132000_3, .int .i64 x132001_3, .int .i64 x132002_3, .int .i64 x132003_3, .int .i64 x132004_3, .int .i64 x132005_3, .int .i64 x132006_3, .int .i64 x132007_3] 32 (0, 0)) (by (with_reducible repeat (first | refine blk_drewN ?_ _ | refine blk_drew ?_ | refine blk_alloc ?_ _)); exact BK131.out) hb); have n1_ := Aside0.mk (below_step (by repeat (first | (with_reducible first | exact HB.out | apply below_alloc | apply pw_below_drewN | apply below_drew1 | refine below_set ?_ GE131.out) | exact HB.out)) hb); have n2_ := Aside0.mk (hbox); have n3_ := Aside0.mk ((by rw [hg]; exact (below_size (by repeat (first | (with_reducible first | exact HB.out | apply below_alloc | apply pw_below_drewN | apply below_drew1 | refine below_set ?_ GE131.out) | exact HB.out))) : w.heap.size ≤ gb147)); have n4_ := Aside0.mk ((by rw [hg]; exact (below_size (by repeat (first | (with_reducible first | exact HB.out | apply below_alloc | apply pw_below_drewN | apply below_drew1 | refine below_set ?_ GE131.out) | exact HB.out))) : w.heap.size ≤ gb147)); have n5_ := Aside0.mk ((by rw [hg]; exact Nat.ne_of_lt (blk_lt (g := gb131) (o := .cells #[.int .i64 x132000_3, .int .i64 x132001_3, .int .i64 x132002_3, .int .i64 x132003_3, .int .i64 x132004_3, .int .i64 x132005_3, .int .i64 x132006_3, .int .i64 x132007_3] 32 (0, 0)) (by (with_reducible repeat (first | refine blk_drewN ?_ _ | refine blk_drew ?_ | refine blk_alloc ?_ _)); exact BK131.out)) : gb131 ≠ gb147)); have n6_ := Aside0.mk ((by rw [hg]; exact Nat.ne_of_gt (blk_lt (g := gb131) (o := .cells #[.int .i64 x132000_3, .int .i64 x132001_3, .int .i64 x132002_3, .int .i64 x132003_3, .int .i64 x132004_3, .int .i64 x132005_3, .int .i64 x132006_3, .int .i64 x132007_3] 32 (0, 0)) (by (with_reducible repeat (first | refine blk_drewN ?_ _ | refine blk_drew ?_ | refine blk_alloc ?_ _)); exact BK131.out)) : gb147 ≠ gb131)); clear BK131; clear HB; have BK131 := n0_; have HB := n1_; have BK147 := n2_; have GW147 := n3_; have GE147 := n4_; have NB131_147 := n5_; have NB147_131 := n6_; clear n0_ n1_ n2_ n3_ n4_ n5_ n6_; clear hb hbox hg; have hnb38 := NB147_131.out; have hnc38 := NB131_147.out; have hcz39_0 : w37.cell? ⟨gb147, 0, none⟩ = some (.int .i64 0) := (blk_cell BK147.out 0).trans rfl; have hcz39_1 : w37.cell? ⟨gb147, 1, none⟩ = some (.int .i64 0) := (blk_cell BK147.out 1).trans rfl; have hcz39_2 : w37.cell? ⟨gb147, 2, none⟩ = some (.int .i64 0) := (blk_cell BK147.out 2).trans rfl; have hcz39_3 : w37.cell? ⟨gb147, 3, none⟩ = some (.int .i64 0) := (blk_cell BK147.out 3).trans rfl; have hcz39_4 : w37.cell? ⟨gb147, 4, none⟩ = some (.int .i64 0) := (blk_cell BK147.out 4).trans rfl; have hcz39_5 : w37.cell? ⟨gb147, 5, none⟩ = some (.int .i64 0) := (blk_cell BK147.out 5).trans rfl; have hcz39_6 : w37.cell? ⟨gb147, 6, none⟩ = some (.int .i64 0) := (blk_cell BK147.out 6).trans rfl; have hcz39_7 : w37.cell? ⟨gb147, 7, none⟩ = some (.int .i64 0) := (blk_cell BK147.out 7).trans rfl; have hfz39_0 := blk_frozen BK147.out 0; have hfz39_1 := blk_frozen BK147.out 1; have hfz39_2 := blk_frozen BK147.out 2; have hfz39_3 := blk_frozen BK147.out 3; have hfz39_4 := blk_frozen BK147.out 4; have hfz39_5 := blk_frozen BK147.out 5; have hfz39_6 := blk_frozen BK147.out 6; have hfz39_7 := blk_frozen BK147.out 7; have hcz40_0 : w37.cell? ⟨gb131, 0, none⟩ = some (.int .i64 x132000_3) := (blk_cell BK131.out 0).trans rfl; have hcz40_1 : w37.cell? ⟨gb131, 1, none⟩ = some (.int .i64 x132001_3) := (blk_cell BK131.out 1).trans rfl; have hcz40_2 : w37.cell? ⟨gb131, 2, none⟩ = some (.int .i64 x132002_3) := (blk_cell BK131.out 2).trans rfl; have hcz40_3 : w37.cell? ⟨gb131, 3, none⟩ = some (.int .i64 x132003_3) := (blk_cell BK131.out 3).trans rfl; have hcz40_4 : w37.cell? ⟨gb131, 4, none⟩ = some (.int .i64 x132004_3) := (blk_cell BK131.out 4).trans rfl; have hcz40_5 : w37.cell? ⟨gb131, 5, none⟩ = some (.int .i64 x132005_3) := (blk_cell BK131.out 5).trans rfl; have hcz40_6 : w37.cell? ⟨gb131, 6, none⟩ = some (.int .i64 x132006_3) := (blk_cell BK131.out 6).trans rfl; have hcz40_7 : w37.cell? ⟨gb131, 7, none⟩ = some (.int .i64 x132007_3) := (blk_cell BK131.out 7).trans rfl; have hfz40_0 := blk_frozen BK131.out 0; have hfz40_1 := blk_frozen BK131.out 1; have hfz40_2 := blk_frozen BK131.out 2; have hfz40_3 := blk_frozen BK131.out 3; have hfz40_4 := blk_frozen BK131.out 4; have hfz40_5 := blk_frozen BK131.out 5; have hfz40_6 := blk_frozen BK131.out 6; have hfz40_7 := blk_frozen BK131.out 7))
                                refine gen_world (fun W' => W'.heap[gb147]? = some (.cells #[.int .i64 x5_3, .int .i64 0, .int .i64 0, .int .i64 0, .int .i64 0, .int .i64 0, .int .i64 0, .int .i64 (wrap64 ((Go.bits .and .i64 a0 255) - 256))] 32 (0, 0)) ∧ W'.heap[gb131]? = some (.cells #[.int .i64 x132000_3, .int .i64 x132001_3, .int .i64 x132002_3, .int .i64 x132003_3, .int .i64 x132004_3, .int .i64 x132005_3, .int .i64 x132006_3, .int .i64 x132007_3] 32 (0, 0)) ∧ Below w.heap.size w W') ⟨by (refine blk_put (cs := #[.int .i64 x5_3, .int .i64 0, .int .i64 0, .int .i64 0, .int .i64 0, .int .i64 0, .int .i64 0, .int .i64 (Go.bits .and .i64 a0 255)]) ?_ 7 _ rfl; refine blk_put (cs := #[.int .i64 x5_3, .int .i64 0, .int .i64 0, .int .i64 0, .int .i64 0, .int .i64 0, .int .i64 0, .int .i64 0]) ?_ 7 _ rfl; refine blk_put (cs := #[.int .i64 x5_3, .int .i64 0, .int .i64 0, .int .i64 0, .int .i64 0, .int .i64 0, .int .i64 0, .int .i64 0]) ?_ 6 _ rfl; refine blk_put (cs := #[.int .i64 x5_3, .int .i64 0, .int .i64 0, .int .i64 0, .int .i64 0, .int .i64 0, .int .i64 0, .int .i64 0]) ?_ 5 _ rfl; refine blk_put (cs := #[.int .i64 x5_3, .int .i64 0, .int .i64 0, .int .i64 0, .int .i64 0, .int .i64 0, .int .i64 0, .int .i64 0]) ?_ 4 _ rfl; refine blk_put (cs := #[.int .i64 x5_3, .int .i64 0, .int .i64 0, .int .i64 0, .int .i64 0, .int .i64 0, .int .i64 0, .int .i64 0]) ?_ 3 _ rfl; refine blk_put (cs := #[.int .i64 x5_3, .int .i64 0, .int .i64 0, .int .i64 0, .int .i64 0, .int .i64 0, .int .i64 0, .int .i64 0]) ?_ 2 _ rfl; refine blk_put (cs := #[.int .i64 x5_3, .int .i64 0, .int .i64 0, .int .i64 0, .int .i64 0, .int .i64 0, .int .i64 0, .int .i64 0]) ?_ 1 _ rfl; refine blk_put (cs := #[.int .i64 0, .int .i64 0, .int .i64 0, .int .i64 0, .int .i64 0, .int .i64 0, .int .i64 0, .int .i64 0]) ?_ 0 _ rfl; exact BK147.out), by (refine blk_far ?_ NB131_147.out _; refine blk_far ?_ NB131_147.out _; refine blk_far ?_ NB131_147.out _; refine blk_far ?_ NB131_147.out _; refine blk_far ?_ NB131_147.out _; refine blk_far ?_ NB131_147.out _; refine blk_far ?_ NB131_147.out _; refine blk_far ?_ NB131_147.out _; refine blk_far ?_ NB131_147.out _; exact BK131.out), by (with_reducible repeat (first | exact HB.out | refine below_set ?_ GE147.out))⟩ ?_
                                clear BK147 BK131 HB
                                rintro w50 ⟨b50, b51, b52⟩
                                have BK147 := Aside0.mk b50
                                have BK131 := Aside0.mk b51
                                have HB := Aside0.mk b52
                                clear b50 b51 b52
                                have hcx50_0 : w50.cell? ⟨gb147, 0, none⟩ = some (.int .i64 x5_3) := (blk_cell BK147.out 0).trans rfl
                                have hcx50_1 : w50.cell? ⟨gb147, 1, none⟩ = some (.int .i64 0) := (blk_cell BK147.out 1).trans rfl
                                have hcx50_2 : w50.cell? ⟨gb147, 2, none⟩ = some (.int .i64 0) := (blk_cell BK147.out 2).trans rfl
                                have hcx50_3 : w50.cell? ⟨gb147, 3, none⟩ = some (.int .i64 0) := (blk_cell BK147.out 3).trans rfl
                                have hcx50_4 : w50.cell? ⟨gb147, 4, none⟩ = some (.int .i64 0) := (blk_cell BK147.out 4).trans rfl
                                have hcx50_5 : w50.cell? ⟨gb147, 5, none⟩ = some (.int .i64 0) := (blk_cell BK147.out 5).trans rfl
                                have hcx50_6 : w50.cell? ⟨gb147, 6, none⟩ = some (.int .i64 0) := (blk_cell BK147.out 6).trans rfl
                                have hcx50_7 : w50.cell? ⟨gb147, 7, none⟩ = some (.int .i64 (wrap64 ((Go.bits .and .i64 a0 255) - 256))) := (blk_cell BK147.out 7).trans rfl
                                have hcx51_0 : w50.cell? ⟨gb131, 0, none⟩ = some (.int .i64 x132000_3) := (blk_cell BK131.out 0).trans rfl
                                have hcx51_1 : w50.cell? ⟨gb131, 1, none⟩ = some (.int .i64 x132001_3) := (blk_cell BK131.out 1).trans rfl
                                have hcx51_2 : w50.cell? ⟨gb131, 2, none⟩ = some (.int .i64 x132002_3) := (blk_cell BK131.out 2).trans rfl
                                have hcx51_3 : w50.cell? ⟨gb131, 3, none⟩ = some (.int .i64 x132003_3) := (blk_cell BK131.out 3).trans rfl
                                have hcx51_4 : w50.cell? ⟨gb131, 4, none⟩ = some (.int .i64 x132004_3) := (blk_cell BK131.out 4).trans rfl
                                have hcx51_5 : w50.cell? ⟨gb131, 5, none⟩ = some (.int .i64 x132005_3) := (blk_cell BK131.out 5).trans rfl
                                have hcx51_6 : w50.cell? ⟨gb131, 6, none⟩ = some (.int .i64 x132006_3) := (blk_cell BK131.out 6).trans rfl
                                have hcx51_7 : w50.cell? ⟨gb131, 7, none⟩ = some (.int .i64 x132007_3) := (blk_cell BK131.out 7).trans rfl
                                have hfx50_0 := blk_frozen BK147.out 0
                                have hfx51_0 := blk_frozen BK131.out 0
                                have hfx50_1 := blk_frozen BK147.out 1
                                have hfx51_1 := blk_frozen BK131.out 1
                                have hfx50_2 := blk_frozen BK147.out 2
                                have hfx51_2 := blk_frozen BK131.out 2
                                have hfx50_3 := blk_frozen BK147.out 3
                                have hfx51_3 := blk_frozen BK131.out 3
                                have hfx50_4 := blk_frozen BK147.out 4
                                have hfx51_4 := blk_frozen BK131.out 4
                                have hfx50_5 := blk_frozen BK147.out 5
                                have hfx51_5 := blk_frozen BK131.out 5
                                have hfx50_6 := blk_frozen BK147.out 6
                                have hfx51_6 := blk_frozen BK131.out 6
                                have hfx50_7 := blk_frozen BK147.out 7
                                have hfx51_7 := blk_frozen BK131.out 7
                                go_wp2
                                refine bodyPost_ret (results_cell_row rfl _ _ gb131 32 #[.int .i64 x5_3, .int .i64 0, .int .i64 0, .int .i64 0, .int .i64 0, .int .i64 0, .int .i64 0, .int .i64 (wrap64 ((Go.bits .and .i64 a0 255) - 256))] (0, 0) _ rfl (by (with_reducible repeat (first | refine blk_drewN ?_ _ | refine blk_drew ?_ | refine blk_alloc ?_ _)); refine blk_put (cs := #[.int .i64 x5_3, .int .i64 0, .int .i64 0, .int .i64 0, .int .i64 0, .int .i64 0, .int .i64 0, .int .i64 x132007_3]) ?_ 7 _ rfl; (with_reducible repeat (first | refine blk_drewN ?_ _ | refine blk_drew ?_ | refine blk_alloc ?_ _)); refine blk_put (cs := #[.int .i64 x5_3, .int .i64 0, .int .i64 0, .int .i64 0, .int .i64 0, .int .i64 0, .int .i64 x132006_3, .int .i64 x132007_3]) ?_ 6 _ rfl; (with_reducible repeat (first | refine blk_drewN ?_ _ | refine blk_drew ?_ | refine blk_alloc ?_ _)); refine blk_put (cs := #[.int .i64 x5_3, .int .i64 0, .int .i64 0, .int .i64 0, .int .i64 0, .int .i64 x132005_3, .int .i64 x132006_3, .int .i64 x132007_3]) ?_ 5 _ rfl; (with_reducible repeat (first | refine blk_drewN ?_ _ | refine blk_drew ?_ | refine blk_alloc ?_ _)); refine blk_put (cs := #[.int .i64 x5_3, .int .i64 0, .int .i64 0, .int .i64 0, .int .i64 x132004_3, .int .i64 x132005_3, .int .i64 x132006_3, .int .i64 x132007_3]) ?_ 4 _ rfl; (with_reducible repeat (first | refine blk_drewN ?_ _ | refine blk_drew ?_ | refine blk_alloc ?_ _)); refine blk_put (cs := #[.int .i64 x5_3, .int .i64 0, .int .i64 0, .int .i64 x132003_3, .int .i64 x132004_3, .int .i64 x132005_3, .int .i64 x132006_3, .int .i64 x132007_3]) ?_ 3 _ rfl; (with_reducible repeat (first | refine blk_drewN ?_ _ | refine blk_drew ?_ | refine blk_alloc ?_ _)); refine blk_put (cs := #[.int .i64 x5_3, .int .i64 0, .int .i64 x132002_3, .int .i64 x132003_3, .int .i64 x132004_3, .int .i64 x132005_3, .int .i64 x132006_3, .int .i64 x132007_3]) ?_ 2 _ rfl; (with_reducible repeat (first | refine blk_drewN ?_ _ | refine blk_drew ?_ | refine blk_alloc ?_ _)); refine blk_put (cs := #[.int .i64 x5_3, .int .i64 x132001_3, .int .i64 x132002_3, .int .i64 x132003_3, .int .i64 x132004_3, .int .i64 x132005_3, .int .i64 x132006_3, .int .i64 x132007_3]) ?_ 1 _ rfl; (with_reducible repeat (first | refine blk_drewN ?_ _ | refine blk_drew ?_ | refine blk_alloc ?_ _)); refine blk_put (cs := #[.int .i64 x132000_3, .int .i64 x132001_3, .int .i64 x132002_3, .int .i64 x132003_3, .int .i64 x132004_3, .int .i64 x132005_3, .int .i64 x132006_3, .int .i64 x132007_3]) ?_ 0 _ rfl; (with_reducible repeat (first | refine blk_drewN ?_ _ | refine blk_drew ?_ | refine blk_alloc ?_ _)); exact BK131.out) Try.underlying32 rfl (by kernel_rfl)) rfl ?_
                                exact ⟨by first | rfl | (simp [errW_none, errW_some] <;> rfl) | (simp [*, errW_none, errW_some] <;> rfl), by repeat (first | (with_reducible first | exact HB.out | apply below_alloc | apply pw_below_drewN | apply below_drew1 | refine below_set ?_ GE131.out | refine below_set ?_ GE147.out) | exact HB.out)⟩
                              · rw [if_neg c35] at H
                                have c35b0 : decide (127 < (Go.bits .and .i64 a0 255)) = false := decide_eq_false c35
                                clear c35
                                simp only [Option.some.injEq, Prod.mk.injEq] at H
                                obtain ⟨rfl, rfl, rfl, rfl, rfl, rfl, rfl, rfl⟩ := H
                                go_upto_region 26 with (first | ((with_reducible refine gate_callee (f := 43) rfl ?_); refine goesL_ (some 70) rfl rfl Try.func43 (by kernel_rfl) rfl #[.int .i64 x5_3] rfl (by (try simp only [List.map_toArray, List.map_cons, List.map_nil]); first | done | rfl | (simp only [List.length_drop, List.length_take]; rfl)) ?_; (with_reducible refine (spec_l4Base.calls x5_3 t146 _ A33.out).mono ?_); rintro e w41 ⟨rfl, hb⟩; refine ⟨_, rfl, ?_⟩; have n0_ := Aside0.mk (blk_below (g := gb131) (o := .cells #[.int .i64 x132000_3, .int .i64 x132001_3, .int .i64 x132002_3, .int .i64 x132003_3, .int .i64 x132004_3, .int .i64 x132005_3, .int .i64 x132006_3, .int .i64 x132007_3] 32 (0, 0)) (by (with_reducible repeat (first | refine blk_drewN ?_ _ | refine blk_drew ?_ | refine blk_alloc ?_ _)); exact BK131.out) hb); have n1_ := Aside0.mk (below_step (by repeat (first | (with_reducible first | exact HB.out | apply below_alloc | apply pw_below_drewN | apply below_drew1 | refine below_set ?_ GE131.out) | exact HB.out)) hb); clear BK131; clear HB; have BK131 := n0_; have HB := n1_; clear n0_ n1_; (try clear hb); (try clear hb2); (try clear hk); (try clear hi)) | ((with_reducible refine gate_dst (N := 6) rfl ?_); refine box_event ?hg (N := 6) ?hd (cs := #[.int .i64 0, .int .i64 0, .int .i64 0, .int .i64 0, .int .i64 0, .int .i64 0, .int .i64 0, .int .i64 0]) (t := 32) ?hr ?_; (case hd => rfl); (case hg => rfl); (case hr => first | (go_simp; done) | (go_simp; rfl)); intro gb147 hg w42 hbox hb; have n0_ := Aside0.mk (blk_below (g := gb131) (o := .cells #[.int .i64 x132000_3, .int .i64 x132001_3, .int .i64 x132002_3, .int .i64 x132003_3, .int .i64 x132004_3, .int .i64 x132005_3, .int .i64 x132006_3, .int .i64 x132007_3] 32 (0, 0)) (by (with_reducible repeat (first | refine blk_drewN ?_ _ | refine blk_drew ?_ | refine blk_alloc ?_ _)); exact BK131.out) hb); have n1_ := Aside0.mk (below_step (by repeat (first | (with_reducible first | exact HB.out | apply below_alloc | apply pw_below_drewN | apply below_drew1 | refine below_set ?_ GE131.out) | exact HB.out)) hb); have n2_ := Aside0.mk (hbox); have n3_ := Aside0.mk ((by rw [hg]; exact (below_size (by repeat (first | (with_reducible first | exact HB.out | apply below_alloc | apply pw_below_drewN | apply below_drew1 | refine below_set ?_ GE131.out) | exact HB.out))) : w.heap.size ≤ gb147)); have n4_ := Aside0.mk ((by rw [hg]; exact (below_size (by repeat (first | (with_reducible first | exact HB.out | apply below_alloc | apply pw_below_drewN | apply below_drew1 | refine below_set ?_ GE131.out) | exact HB.out))) : w.heap.size ≤ gb147)); have n5_ := Aside0.mk ((by rw [hg]; exact Nat.ne_of_lt (blk_lt (g := gb131) (o := .cells #[.int .i64 x132000_3, .int .i64 x132001_3, .int .i64 x132002_3, .int .i64 x132003_3, .int .i64 x132004_3, .int .i64 x132005_3, .int .i64 x132006_3, .int .i64 x132007_3] 32 (0, 0)) (by (with_reducible repeat (first | refine blk_drewN ?_ _ | refine blk_drew ?_ | refine blk_alloc ?_ _)); exact BK131.out)) : gb131 ≠ gb147)); have n6_ := Aside0.mk ((by rw [hg]; exact Nat.ne_of_gt (blk_lt (g := gb131) (o := .cells #[.int .i64 x132000_3, .int .i64 x132001_3, .int .i64 x132002_3, .int .i64 x132003_3, .int .i64 x132004_3, .int .i64 x132005_3, .int .i64 x132006_3, .int .i64 x132007_3] 32 (0, 0)) (by (with_reducible repeat (first | refine blk_drewN ?_ _ | refine blk_drew ?_ | refine blk_alloc ?_ _)); exact BK131.out)) : gb147 ≠ gb131)); clear BK131; clear HB; have BK131 := n0_; have HB := n1_; have BK147 := n2_; have GW147 := n3_; have GE147 := n4_; have NB131_147 := n5_; have NB147_131 := n6_; clear n0_ n1_ n2_ n3_ n4_ n5_ n6_; clear hb hbox hg; have hnb43 := NB147_131.out; have hnc43 := NB131_147.out; have hcz44_0 : w42.cell? ⟨gb147, 0, none⟩ = some (.int .i64 0) := (blk_cell BK147.out 0).trans rfl; have hcz44_1 : w42.cell? ⟨gb147, 1, none⟩ = some (.int .i64 0) := (blk_cell BK147.out 1).trans rfl; have hcz44_2 : w42.cell? ⟨gb147, 2, none⟩ = some (.int .i64 0) := (blk_cell BK147.out 2).trans rfl; have hcz44_3 : w42.cell? ⟨gb147, 3, none⟩ = some (.int .i64 0) := (blk_cell BK147.out 3).trans rfl; have hcz44_4 : w42.cell? ⟨gb147, 4, none⟩ = some (.int .i64 0) := (blk_cell BK147.out 4).trans rfl; have hcz44_5 : w42.cell? ⟨gb147, 5, none⟩ = some (.int .i64 0) := (blk_cell BK147.out 5).trans rfl; have hcz44_6 : w42.cell? ⟨gb147, 6, none⟩ = some (.int .i64 0) := (blk_cell BK147.out 6).trans rfl; have hcz44_7 : w42.cell? ⟨gb147, 7, none⟩ = some (.int .i64 0) := (blk_cell BK147.out 7).trans rfl; have hfz44_0 := blk_frozen BK147.out 0; have hfz44_1 := blk_frozen BK147.out 1; have hfz44_2 := blk_frozen BK147.out 2; have hfz44_3 := blk_frozen BK147.out 3; have hfz44_4 := blk_frozen BK147.out 4; have hfz44_5 := blk_frozen BK147.out 5; have hfz44_6 := blk_frozen BK147.out 6; have hfz44_7 := blk_frozen BK147.out 7; have hcz45_0 : w42.cell? ⟨gb131, 0, none⟩ = some (.int .i64 x132000_3) := (blk_cell BK131.out 0).trans rfl; have hcz45_1 : w42.cell? ⟨gb131, 1, none⟩ = some (.int .i64 x132001_3) := (blk_cell BK131.out 1).trans rfl; have hcz45_2 : w42.cell? ⟨gb131, 2, none⟩ = some (.int .i64 x132002_3) := (blk_cell BK131.out 2).trans rfl; have hcz45_3 : w42.cell? ⟨gb131, 3, none⟩ = some (.int .i64 x132003_3) := (blk_cell BK131.out 3).trans rfl; have hcz45_4 : w42.cell? ⟨gb131, 4, none⟩ = some (.int .i64 x132004_3) := (blk_cell BK131.out 4).trans rfl; have hcz45_5 : w42.cell? ⟨gb131, 5, none⟩ = some (.int .i64 x132005_3) := (blk_cell BK131.out 5).trans rfl; have hcz45_6 : w42.cell? ⟨gb131, 6, none⟩ = some (.int .i64 x132006_3) := (blk_cell BK131.out 6).trans rfl; have hcz45_7 : w42.cell? ⟨gb131, 7, none⟩ = some (.int .i64 x132007_3) := (blk_cell BK131.out 7).trans rfl; have hfz45_0 := blk_frozen BK131.out 0; have hfz45_1 := blk_frozen BK131.out 1; have hfz45_2 := blk_frozen BK131.out 2; have hfz45_3 := blk_frozen BK131.out 3; have hfz45_4 := blk_frozen BK131.out 4; have hfz45_5 := blk_frozen BK131.out 5; have hfz45_6 := blk_frozen BK131.out 6; have hfz45_7 := blk_frozen BK131.out 7))
                                refine gen_world (fun W' => W'.heap[gb147]? = some (.cells #[.int .i64 x5_3, .int .i64 0, .int .i64 0, .int .i64 0, .int .i64 0, .int .i64 0, .int .i64 0, .int .i64 (Go.bits .and .i64 a0 255)] 32 (0, 0)) ∧ W'.heap[gb131]? = some (.cells #[.int .i64 x132000_3, .int .i64 x132001_3, .int .i64 x132002_3, .int .i64 x132003_3, .int .i64 x132004_3, .int .i64 x132005_3, .int .i64 x132006_3, .int .i64 x132007_3] 32 (0, 0)) ∧ Below w.heap.size w W') ⟨by (refine blk_put (cs := #[.int .i64 x5_3, .int .i64 0, .int .i64 0, .int .i64 0, .int .i64 0, .int .i64 0, .int .i64 0, .int .i64 0]) ?_ 7 _ rfl; refine blk_put (cs := #[.int .i64 x5_3, .int .i64 0, .int .i64 0, .int .i64 0, .int .i64 0, .int .i64 0, .int .i64 0, .int .i64 0]) ?_ 6 _ rfl; refine blk_put (cs := #[.int .i64 x5_3, .int .i64 0, .int .i64 0, .int .i64 0, .int .i64 0, .int .i64 0, .int .i64 0, .int .i64 0]) ?_ 5 _ rfl; refine blk_put (cs := #[.int .i64 x5_3, .int .i64 0, .int .i64 0, .int .i64 0, .int .i64 0, .int .i64 0, .int .i64 0, .int .i64 0]) ?_ 4 _ rfl; refine blk_put (cs := #[.int .i64 x5_3, .int .i64 0, .int .i64 0, .int .i64 0, .int .i64 0, .int .i64 0, .int .i64 0, .int .i64 0]) ?_ 3 _ rfl; refine blk_put (cs := #[.int .i64 x5_3, .int .i64 0, .int .i64 0, .int .i64 0, .int .i64 0, .int .i64 0, .int .i64 0, .int .i64 0]) ?_ 2 _ rfl; refine blk_put (cs := #[.int .i64 x5_3, .int .i64 0, .int .i64 0, .int .i64 0, .int .i64 0, .int .i64 0, .int .i64 0, .int .i64 0]) ?_ 1 _ rfl; refine blk_put (cs := #[.int .i64 0, .int .i64 0, .int .i64 0, .int .i64 0, .int .i64 0, .int .i64 0, .int .i64 0, .int .i64 0]) ?_ 0 _ rfl; exact BK147.out), by (refine blk_far ?_ NB131_147.out _; refine blk_far ?_ NB131_147.out _; refine blk_far ?_ NB131_147.out _; refine blk_far ?_ NB131_147.out _; refine blk_far ?_ NB131_147.out _; refine blk_far ?_ NB131_147.out _; refine blk_far ?_ NB131_147.out _; refine blk_far ?_ NB131_147.out _; exact BK131.out), by (with_reducible repeat (first | exact HB.out | refine below_set ?_ GE147.out))⟩ ?_
                                clear BK147 BK131 HB
                                rintro w50 ⟨b50, b51, b52⟩
                                have BK147 := Aside0.mk b50
                                have BK131 := Aside0.mk b51
                                have HB := Aside0.mk b52
                                clear b50 b51 b52
                                have hcx50_0 : w50.cell? ⟨gb147, 0, none⟩ = some (.int .i64 x5_3) := (blk_cell BK147.out 0).trans rfl
                                have hcx50_1 : w50.cell? ⟨gb147, 1, none⟩ = some (.int .i64 0) := (blk_cell BK147.out 1).trans rfl
                                have hcx50_2 : w50.cell? ⟨gb147, 2, none⟩ = some (.int .i64 0) := (blk_cell BK147.out 2).trans rfl
                                have hcx50_3 : w50.cell? ⟨gb147, 3, none⟩ = some (.int .i64 0) := (blk_cell BK147.out 3).trans rfl
                                have hcx50_4 : w50.cell? ⟨gb147, 4, none⟩ = some (.int .i64 0) := (blk_cell BK147.out 4).trans rfl
                                have hcx50_5 : w50.cell? ⟨gb147, 5, none⟩ = some (.int .i64 0) := (blk_cell BK147.out 5).trans rfl
                                have hcx50_6 : w50.cell? ⟨gb147, 6, none⟩ = some (.int .i64 0) := (blk_cell BK147.out 6).trans rfl
                                have hcx50_7 : w50.cell? ⟨gb147, 7, none⟩ = some (.int .i64 (Go.bits .and .i64 a0 255)) := (blk_cell BK147.out 7).trans rfl
                                have hcx51_0 : w50.cell? ⟨gb131, 0, none⟩ = some (.int .i64 x132000_3) := (blk_cell BK131.out 0).trans rfl
                                have hcx51_1 : w50.cell? ⟨gb131, 1, none⟩ = some (.int .i64 x132001_3) := (blk_cell BK131.out 1).trans rfl
                                have hcx51_2 : w50.cell? ⟨gb131, 2, none⟩ = some (.int .i64 x132002_3) := (blk_cell BK131.out 2).trans rfl
                                have hcx51_3 : w50.cell? ⟨gb131, 3, none⟩ = some (.int .i64 x132003_3) := (blk_cell BK131.out 3).trans rfl
                                have hcx51_4 : w50.cell? ⟨gb131, 4, none⟩ = some (.int .i64 x132004_3) := (blk_cell BK131.out 4).trans rfl
                                have hcx51_5 : w50.cell? ⟨gb131, 5, none⟩ = some (.int .i64 x132005_3) := (blk_cell BK131.out 5).trans rfl
                                have hcx51_6 : w50.cell? ⟨gb131, 6, none⟩ = some (.int .i64 x132006_3) := (blk_cell BK131.out 6).trans rfl
                                have hcx51_7 : w50.cell? ⟨gb131, 7, none⟩ = some (.int .i64 x132007_3) := (blk_cell BK131.out 7).trans rfl
                                have hfx50_0 := blk_frozen BK147.out 0
                                have hfx51_0 := blk_frozen BK131.out 0
                                have hfx50_1 := blk_frozen BK147.out 1
                                have hfx51_1 := blk_frozen BK131.out 1
                                have hfx50_2 := blk_frozen BK147.out 2
                                have hfx51_2 := blk_frozen BK131.out 2
                                have hfx50_3 := blk_frozen BK147.out 3
                                have hfx51_3 := blk_frozen BK131.out 3
                                have hfx50_4 := blk_frozen BK147.out 4
                                have hfx51_4 := blk_frozen BK131.out 4
                                have hfx50_5 := blk_frozen BK147.out 5
                                have hfx51_5 := blk_frozen BK131.out 5
                                have hfx50_6 := blk_frozen BK147.out 6
                                have hfx51_6 := blk_frozen BK131.out 6
                                have hfx50_7 := blk_frozen BK147.out 7
                                have hfx51_7 := blk_frozen BK131.out 7
                                go_wp2
                                refine bodyPost_ret (results_cell_row rfl _ _ gb131 32 #[.int .i64 x5_3, .int .i64 0, .int .i64 0, .int .i64 0, .int .i64 0, .int .i64 0, .int .i64 0, .int .i64 (Go.bits .and .i64 a0 255)] (0, 0) _ rfl (by (with_reducible repeat (first | refine blk_drewN ?_ _ | refine blk_drew ?_ | refine blk_alloc ?_ _)); refine blk_put (cs := #[.int .i64 x5_3, .int .i64 0, .int .i64 0, .int .i64 0, .int .i64 0, .int .i64 0, .int .i64 0, .int .i64 x132007_3]) ?_ 7 _ rfl; (with_reducible repeat (first | refine blk_drewN ?_ _ | refine blk_drew ?_ | refine blk_alloc ?_ _)); refine blk_put (cs := #[.int .i64 x5_3, .int .i64 0, .int .i64 0, .int .i64 0, .int .i64 0, .int .i64 0, .int .i64 x132006_3, .int .i64 x132007_3]) ?_ 6 _ rfl; (with_reducible repeat (first | refine blk_drewN ?_ _ | refine blk_drew ?_ | refine blk_alloc ?_ _)); refine blk_put (cs := #[.int .i64 x5_3, .int .i64 0, .int .i64 0, .int .i64 0, .int .i64 0, .int .i64 x132005_3, .int .i64 x132006_3, .int .i64 x132007_3]) ?_ 5 _ rfl; (with_reducible repeat (first | refine blk_drewN ?_ _ | refine blk_drew ?_ | refine blk_alloc ?_ _)); refine blk_put (cs := #[.int .i64 x5_3, .int .i64 0, .int .i64 0, .int .i64 0, .int .i64 x132004_3, .int .i64 x132005_3, .int .i64 x132006_3, .int .i64 x132007_3]) ?_ 4 _ rfl; (with_reducible repeat (first | refine blk_drewN ?_ _ | refine blk_drew ?_ | refine blk_alloc ?_ _)); refine blk_put (cs := #[.int .i64 x5_3, .int .i64 0, .int .i64 0, .int .i64 x132003_3, .int .i64 x132004_3, .int .i64 x132005_3, .int .i64 x132006_3, .int .i64 x132007_3]) ?_ 3 _ rfl; (with_reducible repeat (first | refine blk_drewN ?_ _ | refine blk_drew ?_ | refine blk_alloc ?_ _)); refine blk_put (cs := #[.int .i64 x5_3, .int .i64 0, .int .i64 x132002_3, .int .i64 x132003_3, .int .i64 x132004_3, .int .i64 x132005_3, .int .i64 x132006_3, .int .i64 x132007_3]) ?_ 2 _ rfl; (with_reducible repeat (first | refine blk_drewN ?_ _ | refine blk_drew ?_ | refine blk_alloc ?_ _)); refine blk_put (cs := #[.int .i64 x5_3, .int .i64 x132001_3, .int .i64 x132002_3, .int .i64 x132003_3, .int .i64 x132004_3, .int .i64 x132005_3, .int .i64 x132006_3, .int .i64 x132007_3]) ?_ 1 _ rfl; (with_reducible repeat (first | refine blk_drewN ?_ _ | refine blk_drew ?_ | refine blk_alloc ?_ _)); refine blk_put (cs := #[.int .i64 x132000_3, .int .i64 x132001_3, .int .i64 x132002_3, .int .i64 x132003_3, .int .i64 x132004_3, .int .i64 x132005_3, .int .i64 x132006_3, .int .i64 x132007_3]) ?_ 0 _ rfl; (with_reducible repeat (first | refine blk_drewN ?_ _ | refine blk_drew ?_ | refine blk_alloc ?_ _)); exact BK131.out) Try.underlying32 rfl (by kernel_rfl)) rfl ?_
                                exact ⟨by first | rfl | (simp [errW_none, errW_some] <;> rfl) | (simp [*, errW_none, errW_some] <;> rfl), by repeat (first | (with_reducible first | exact HB.out | apply below_alloc | apply pw_below_drewN | apply below_drew1 | refine below_set ?_ GE131.out | refine below_set ?_ GE147.out) | exact HB.out)⟩
                            · rw [if_neg c34] at H
                              have c34b0 : ((Go.bits .and .i64 a0 65280) == t146) = false := beq_eq_false_iff_ne.mpr c34
                              have c34b1 : ((Go.bits .and .i64 a0 65280) != t146) = true := bne_iff_ne.mpr c34
                              have H' := Aside0.mk H
                              clear H
                              go_wp2_with (first | ((with_reducible refine gate_callee (f := 43) rfl ?_); refine goesL_ (some 70) rfl rfl Try.func43 (by kernel_rfl) rfl #[.int .i64 x5_3] rfl (by (try simp only [List.map_toArray, List.map_cons, List.map_nil]); first | done | rfl | (simp only [List.length_drop, List.length_take]; rfl)) ?_; (with_reducible refine (spec_l4Base.calls x5_3 t146 _ A33.out).mono ?_); rintro e w46 ⟨rfl, hb⟩; refine ⟨_, rfl, ?_⟩; have n0_ := Aside0.mk (blk_below (g := gb131) (o := .cells #[.int .i64 x132000_3, .int .i64 x132001_3, .int .i64 x132002_3, .int .i64 x132003_3, .int .i64 x132004_3, .int .i64 x132005_3, .int .i64 x132006_3, .int .i64 x132007_3] 32 (0, 0)) (by (with_reducible repeat (first | refine blk_drewN ?_ _ | refine blk_drew ?_ | refine blk_alloc ?_ _)); exact BK131.out) hb); have n1_ := Aside0.mk (below_step (by repeat (first | (with_reducible first | exact HB.out | apply below_alloc | apply pw_below_drewN | apply below_drew1 | refine below_set ?_ GE131.out) | exact HB.out)) hb); clear BK131; clear HB; have BK131 := n0_; have HB := n1_; clear n0_ n1_; (try clear hb); (try clear hb2); (try clear hk); (try clear hi)))
                              go_roundg k3
                              case measure => have := HK1.out; have := HK2.out; have := HK3.out; omega
                              case rel => exact ⟨(wrap64 (x5_3 + 1)), (x132000_3), (x132001_3), (x132002_3), (x132003_3), (x132004_3), (x132005_3), (x132006_3), (x132007_3), (by first | rfl | (simp; done) | (simp [*]; done) | (simp [wrap64]; done)), H', ⟨by have := HK1.out; have := HK2.out; have := HK3.out; omega⟩, ⟨by (with_reducible repeat (first | refine blk_drewN ?_ _ | refine blk_drew ?_ | refine blk_alloc ?_ _)); exact BK131.out⟩, ⟨by repeat (first | (with_reducible first | exact HB.out | apply below_alloc | apply pw_below_drewN | apply below_drew1 | refine below_set ?_ GE131.out) | exact HB.out)⟩⟩
                          · rw [if_neg c32] at H
                            have c32b0 : decide (x5_3 ≤ 21) = false := decide_eq_false c32
                            clear c32
                            simp only [Option.some.injEq, Prod.mk.injEq] at H
                            obtain ⟨rfl, rfl, rfl, rfl, rfl, rfl, rfl, rfl⟩ := H
                            have hcz47_0 : wr.cell? ⟨gb131, 0, none⟩ = some (.int .i64 x132000_3) := (blk_cell BK131.out 0).trans rfl
                            have hcz47_1 : wr.cell? ⟨gb131, 1, none⟩ = some (.int .i64 x132001_3) := (blk_cell BK131.out 1).trans rfl
                            have hcz47_2 : wr.cell? ⟨gb131, 2, none⟩ = some (.int .i64 x132002_3) := (blk_cell BK131.out 2).trans rfl
                            have hcz47_3 : wr.cell? ⟨gb131, 3, none⟩ = some (.int .i64 x132003_3) := (blk_cell BK131.out 3).trans rfl
                            have hcz47_4 : wr.cell? ⟨gb131, 4, none⟩ = some (.int .i64 x132004_3) := (blk_cell BK131.out 4).trans rfl
                            have hcz47_5 : wr.cell? ⟨gb131, 5, none⟩ = some (.int .i64 x132005_3) := (blk_cell BK131.out 5).trans rfl
                            have hcz47_6 : wr.cell? ⟨gb131, 6, none⟩ = some (.int .i64 x132006_3) := (blk_cell BK131.out 6).trans rfl
                            have hcz47_7 : wr.cell? ⟨gb131, 7, none⟩ = some (.int .i64 x132007_3) := (blk_cell BK131.out 7).trans rfl
                            have hfz47_0 := blk_frozen BK131.out 0
                            have hfz47_1 := blk_frozen BK131.out 1
                            have hfz47_2 := blk_frozen BK131.out 2
                            have hfz47_3 := blk_frozen BK131.out 3
                            have hfz47_4 := blk_frozen BK131.out 4
                            have hfz47_5 := blk_frozen BK131.out 5
                            have hfz47_6 := blk_frozen BK131.out 6
                            have hfz47_7 := blk_frozen BK131.out 7
                            go_wp2
                            refine bodyPost_ret (results_cell_row rfl _ _ gb131 32 #[.int .i64 0, .int .i64 0, .int .i64 0, .int .i64 0, .int .i64 0, .int .i64 0, .int .i64 0, .int .i64 0] (0, 0) _ rfl (by (with_reducible repeat (first | refine blk_drewN ?_ _ | refine blk_drew ?_ | refine blk_alloc ?_ _)); refine blk_put (cs := #[.int .i64 0, .int .i64 0, .int .i64 0, .int .i64 0, .int .i64 0, .int .i64 0, .int .i64 0, .int .i64 x132007_3]) ?_ 7 _ rfl; (with_reducible repeat (first | refine blk_drewN ?_ _ | refine blk_drew ?_ | refine blk_alloc ?_ _)); refine blk_put (cs := #[.int .i64 0, .int .i64 0, .int .i64 0, .int .i64 0, .int .i64 0, .int .i64 0, .int .i64 x132006_3, .int .i64 x132007_3]) ?_ 6 _ rfl; (with_reducible repeat (first | refine blk_drewN ?_ _ | refine blk_drew ?_ | refine blk_alloc ?_ _)); refine blk_put (cs := #[.int .i64 0, .int .i64 0, .int .i64 0, .int .i64 0, .int .i64 0, .int .i64 x132005_3, .int .i64 x132006_3, .int .i64 x132007_3]) ?_ 5 _ rfl; (with_reducible repeat (first | refine blk_drewN ?_ _ | refine blk_drew ?_ | refine blk_alloc ?_ _)); refine blk_put (cs := #[.int .i64 0, .int .i64 0, .int .i64 0, .int .i64 0, .int .i64 x132004_3, .int .i64 x132005_3, .int .i64 x132006_3, .int .i64 x132007_3]) ?_ 4 _ rfl; (with_reducible repeat (first | refine blk_drewN ?_ _ | refine blk_drew ?_ | refine blk_alloc ?_ _)); refine blk_put (cs := #[.int .i64 0, .int .i64 0, .int .i64 0, .int .i64 x132003_3, .int .i64 x132004_3, .int .i64 x132005_3, .int .i64 x132006_3, .int .i64 x132007_3]) ?_ 3 _ rfl; (with_reducible repeat (first | refine blk_drewN ?_ _ | refine blk_drew ?_ | refine blk_alloc ?_ _)); refine blk_put (cs := #[.int .i64 0, .int .i64 0, .int .i64 x132002_3, .int .i64 x132003_3, .int .i64 x132004_3, .int .i64 x132005_3, .int .i64 x132006_3, .int .i64 x132007_3]) ?_ 2 _ rfl; (with_reducible repeat (first | refine blk_drewN ?_ _ | refine blk_drew ?_ | refine blk_alloc ?_ _)); refine blk_put (cs := #[.int .i64 0, .int .i64 x132001_3, .int .i64 x132002_3, .int .i64 x132003_3, .int .i64 x132004_3, .int .i64 x132005_3, .int .i64 x132006_3, .int .i64 x132007_3]) ?_ 1 _ rfl; (with_reducible repeat (first | refine blk_drewN ?_ _ | refine blk_drew ?_ | refine blk_alloc ?_ _)); refine blk_put (cs := #[.int .i64 x132000_3, .int .i64 x132001_3, .int .i64 x132002_3, .int .i64 x132003_3, .int .i64 x132004_3, .int .i64 x132005_3, .int .i64 x132006_3, .int .i64 x132007_3]) ?_ 0 _ rfl; (with_reducible repeat (first | refine blk_drewN ?_ _ | refine blk_drew ?_ | refine blk_alloc ?_ _)); exact BK131.out) Try.underlying32 rfl (by kernel_rfl)) rfl ?_
                            exact ⟨by first | rfl | (simp [errW_none, errW_some] <;> rfl) | (simp [*, errW_none, errW_some] <;> rfl), by repeat (first | (with_reducible first | exact HB.out | apply below_alloc | apply pw_below_drewN | apply below_drew1 | refine below_set ?_ GE131.out) | exact HB.out)⟩

end Go.Proofs.Ytajkjkdfcegdpaa.PFnExactDecode
