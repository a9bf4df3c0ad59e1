-- Laid by a program of this session (a changed copy of the kit's printer); Lean checks every line.
import Derived.Test.YtcpnhlhigpgonaaPFnExactKnownx0
import Derived.Test.YtcpnhlhigpgonaaPFnExactKnownx3
namespace Go.Proofs.Ytcpnhlhigpgonaa.PFnExactKnown
open Go.RowKit Go.Proofs.YtcpnhlhigpgonaaW.PrintWords Go.Proofs.YtcpnhlhigpgonaaW.PrintLast Go.Proofs.YtcpnhlhigpgonaaW.PrintMore
attribute [local go_sem] max2_int min2_int max_two min_two max_three min_three max_four min_four   -- for this text's walks alone
set_option linter.unusedVariables false
set_option linter.unusedSimpArgs false

/-! ### spec_l10Ok: function 46 -/
mutual
def spec_l10Ok.j0 : Nat → Int → Bool → Bool → Int → Int → ByteArray → List (S29) → Option (Bool)
 | 0, _, _, _, _, _, _, _ => none
 | k + 1, x1, x2, x27, x147000, x147001, x147002, x147003 => if x27 = true then (some false) else (spec_l10Ok.l0 k x1 x2 0 x147000 x147001 x147002 x147003)
def spec_l10Ok.l0 : Nat → Int → Bool → Int → Int → Int → ByteArray → List (S29) → Option (Bool)
 | 0, _, _, _, _, _, _, _ => none
 | k + 1, x1, x2, x7, x147000, x147001, x147002, x147003 => if x7 < (x147003.length : Int) then (if 0 ≤ x7 then ((spec_l10Ok.f k ((rd_T29 x147003 x7).f0) ((rd_T29 x147003 x7).f1) ((rd_T29 x147003 x7).f2) ((rd_T29 x147003 x7).f3) (wrap64 (x1 + 1)) x2).bind fun t149 => (if t149 = true then (spec_l10Ok.l0 k x1 x2 (wrap64 (x7 + 1)) x147000 x147001 x147002 x147003) else (some false))) else (none)) else (some true)
def spec_l10Ok.f : Nat → Int → Int → ByteArray → List (S29) → Int → Bool → Option (Bool)
 | 0, _, _, _, _, _, _ => none
 | k + 1, a0_0, a0_1, a0_2, l0_3, a1, a2 => if a1 > 6 then (spec_l10Ok.j0 k a1 a2 true a0_0 a0_1 a0_2 l0_3) else ((spec_l10Here.f k a0_0 a0_1 a0_2 l0_3).bind fun t147 => (if t147 = true then (if a2 = true then (if a0_0 = 11 then (spec_l10Ok.j0 k a1 a2 true a0_0 a0_1 a0_2 l0_3) else (spec_l10Ok.j0 k a1 a2 (a0_0 == 12) a0_0 a0_1 a0_2 l0_3)) else (spec_l10Ok.j0 k a1 a2 false a0_0 a0_1 a0_2 l0_3)) else (spec_l10Ok.j0 k a1 a2 true a0_0 a0_1 a0_2 l0_3)))
end
theorem spec_l10Ok.mono_l : ∀ k, (∀ y0 y1 y2 y3 y4 y5, LeO (spec_l10Ok.f k y0 y1 y2 y3 y4 y5) (spec_l10Ok.f (k + 1) y0 y1 y2 y3 y4 y5)) ∧ (∀ y0 y1 y2 y3 y4 y5 y6, LeO (spec_l10Ok.j0 k y0 y1 y2 y3 y4 y5 y6) (spec_l10Ok.j0 (k + 1) y0 y1 y2 y3 y4 y5 y6)) ∧ (∀ y0 y1 y2 y3 y4 y5 y6, LeO (spec_l10Ok.l0 k y0 y1 y2 y3 y4 y5 y6) (spec_l10Ok.l0 (k + 1) y0 y1 y2 y3 y4 y5 y6))
 | 0 => ⟨fun _ _ _ _ _ _ r h => by simp [spec_l10Ok.f] at h, fun _ _ _ _ _ _ _ r h => by simp [spec_l10Ok.j0] at h, fun _ _ _ _ _ _ _ r h => by simp [spec_l10Ok.l0] at h⟩
 | k + 1 => by
  obtain ⟨ih0, ih1, ih2⟩ := spec_l10Ok.mono_l k
  refine ⟨?_, ?_, ?_⟩
  ·intro y0 y1 y2 y3 y4 y5
   unfold spec_l10Ok.f
   repeat' first
   | (with_reducible exact ih0 _ _ _ _ _ _)
   | (with_reducible exact ih1 _ _ _ _ _ _ _)
   | (with_reducible exact ih2 _ _ _ _ _ _ _)
   | (with_reducible exact spec_l10Here.mono _ _ _ _ _)
   | (with_reducible exact LeO.refl _)
   | (with_reducible exact LeO.none _)
   | (with_reducible refine LeO.ite ?_ ?_)
   | (with_reducible refine LeO.bind ?_ (fun _ => ?_))
   | exact ih0 _ _ _ _ _ _
   | exact ih1 _ _ _ _ _ _ _
   | exact ih2 _ _ _ _ _ _ _
   | exact spec_l10Here.mono _ _ _ _ _
   | exact LeO.none _
   | refine LeO.ite ?_ ?_
   | refine LeO.bind ?_ (fun _ => ?_)
  ·intro y0 y1 y2 y3 y4 y5 y6
   unfold spec_l10Ok.j0
   repeat' first
   | (with_reducible exact ih0 _ _ _ _ _ _)
   | (with_reducible exact ih1 _ _ _ _ _ _ _)
   | (with_reducible exact ih2 _ _ _ _ _ _ _)
   | (with_reducible exact spec_l10Here.mono _ _ _ _ _)
   | (with_reducible exact LeO.refl _)
   | (with_reducible exact LeO.none _)
   | (with_reducible refine LeO.ite ?_ ?_)
   | (with_reducible refine LeO.bind ?_ (fun _ => ?_))
   | exact ih0 _ _ _ _ _ _
   | exact ih1 _ _ _ _ _ _ _
   | exact ih2 _ _ _ _ _ _ _
   | exact spec_l10Here.mono _ _ _ _ _
   | exact LeO.none _
   | refine LeO.ite ?_ ?_
   | refine LeO.bind ?_ (fun _ => ?_)
  ·intro y0 y1 y2 y3 y4 y5 y6
   unfold spec_l10Ok.l0
   repeat' first
   | (with_reducible exact ih0 _ _ _ _ _ _)
   | (with_reducible exact ih1 _ _ _ _ _ _ _)
   | (with_reducible exact ih2 _ _ _ _ _ _ _)
   | (with_reducible exact spec_l10Here.mono _ _ _ _ _)
   | (with_reducible exact LeO.refl _)
   | (with_reducible exact LeO.none _)
   | (with_reducible refine LeO.ite ?_ ?_)
   | (with_reducible refine LeO.bind ?_ (fun _ => ?_))
   | exact ih0 _ _ _ _ _ _
   | exact ih1 _ _ _ _ _ _ _
   | exact ih2 _ _ _ _ _ _ _
   | exact spec_l10Here.mono _ _ _ _ _
   | exact LeO.none _
   | refine LeO.ite ?_ ?_
   | refine LeO.bind ?_ (fun _ => ?_)
theorem spec_l10Ok.mono : ∀ a0 a1 a2 a3 a4 a5 k, LeO (spec_l10Ok.f k a0 a1 a2 a3 a4 a5) (spec_l10Ok.f (k + 1) a0 a1 a2 a3 a4 a5) := by
 intro a0 a1 a2 a3 a4 a5 k
 obtain ⟨ih0, ih1, ih2⟩ := spec_l10Ok.mono_l k
 exact ih0 a0 a1 a2 a3 a4 a5
set_option maxHeartbeats 8000000 in
set_option maxRecDepth 100000 in
theorem spec_l10Ok.calls (k : Nat) : ∀ (a0_0 : Int) (a0_1 : Int) (a0_2 : ByteArray) (A0_3 : Option Addr) (c0_3 : Nat) (l0_3 : List (S29)) (a1 : Int) (a2 : Bool) (r : Bool) (w : World) (hr0_3 : Kd.C k29 w A0_3 l0_3.length l0_3) (hc0_3 : l0_3.length ≤ c0_3) (h : spec_l10Ok.f k a0_0 a0_1 a0_2 l0_3 a1 a2 = some r),
  Calls Try.prog 46 #[.agg #[.int .i64 a0_0, .int .i64 a0_1, .string a0_2, .slice A0_3 l0_3.length c0_3], .int .i64 a1, .bool a2] w fun e w' => e = .returned (.bool r) ∧ Below w.heap.size w w' := by
 induction k using Nat.strongRecOn with
 | _ k ih =>
 intro a0_0 a0_1 a0_2 A0_3 c0_3 l0_3 a1 a2 r w hr0_3 hc0_3 h
 cases k with
 | zero => exact absurd h (by simp [spec_l10Ok.f])
 | succ k =>
 simp only [spec_l10Ok.f] at h
 have hu29 := Try.underlying29
 have HR0_3 := A_ hr0_3
 have HC0_3 := A_ hc0_3
 clear hr0_3 hc0_3
 have HB := A_ (Below.refl w.heap.size w)
 have H : (if a1 > 6 then (spec_l10Ok.j0 k a1 a2 true a0_0 a0_1 a0_2 l0_3) else ((spec_l10Here.f k a0_0 a0_1 a0_2 l0_3).bind fun t147 => (if t147 = true then (if a2 = true then (if a0_0 = 11 then (spec_l10Ok.j0 k a1 a2 true a0_0 a0_1 a0_2 l0_3) else (spec_l10Ok.j0 k a1 a2 (a0_0 == 12) a0_0 a0_1 a0_2 l0_3)) else (spec_l10Ok.j0 k a1 a2 false a0_0 a0_1 a0_2 l0_3)) else (spec_l10Ok.j0 k a1 a2 true a0_0 a0_1 a0_2 l0_3)))) = some r := h
 clear h
 have HC4 := A_ H
 clear H
 go_enter Try.func46, Try.ntmps46
 go_upto_region 1 with (first | ((with_reducible refine gate_dst (N := 3) rfl ?_); refine box_event ?hg (N := 3) ?hd (cs := #[.int .i64 a0_0, .int .i64 a0_1, .string a0_2, .slice A0_3 l0_3.length c0_3]) (t := 29) ?hr ?_; (case hd => rfl); (case hg => rfl); (case hr => first | (go_simp; done) | (go_simp; rfl)); intro gb146 hg w5 hbox hb; have n0_ := A_ (below_step (bw_ HB.out) hb); have n1_ := A_ (hbox); have n2_ := A_ ((by rw [hg]; exact (below_size (bw_ HB.out)) : w.heap.size ≤ gb146)); have n3_ := n2_; clear HB; have HB := n0_; have BK146 := n1_; have GW146 := n2_; have GE146 := n3_; have GI146 := GeI.mk GE146.out; clear n0_ n1_ n2_ n3_; clear hb hbox hg))
 (try simp only [Act.put, List.setIfInBounds_toArray, List.set_cons_zero, List.set_cons_succ])
 go_cut [27] (fun v27 wc => ∃ (kq : Nat) (x27_3 : Bool), v27 = .bool x27_3 ∧ Aside0 (spec_l10Ok.j0 kq a1 a2 x27_3 a0_0 a0_1 a0_2 l0_3 = some r) ∧ Aside0 (kq ≤ k) ∧ Aside0 (wc.heap[gb146]? = some (.cells #[.int .i64 a0_0, .int .i64 a0_1, .string a0_2, (.slice A0_3 l0_3.length c0_3)] 29 (0, 0))) ∧ Aside0 (Below w.heap.size w wc))
 case first =>
  have H := HC4.out
  clear HC4
  by_cases c6 : a1 > 6
  ·rw [if_pos c6] at H
   have c6b0 := decide_eq_true c6
   clear c6
   (first | rw [c6b0] | (simp only [i64_w, i32_w]; rw [c6b0]) | skip)
   have H' := A_ H
   clear H
   go_wp2
   go_meet
   case rel => exact ⟨_, (true), (by first | rfl | (simp; done) | (simp [*]; done) | (simp [wrap64]; done)), H', ⟨by first | omega | exact Nat.le_refl _⟩, ⟨by refine bk_ ?_; exact BK146.out⟩, ⟨bw_ HB.out⟩⟩
  ·rw [if_neg c6] at H
   have c6b0 := decide_eq_false c6
   clear c6
   (first | rw [c6b0] | (simp only [i64_w, i32_w]; rw [c6b0]) | skip)
   replace H := Option.bind_eq_some_iff.mp H
   obtain ⟨t147, A70, H⟩ := H
   try dsimp only at H
   have A7 := A_ A70
   clear A70
   by_cases c8 : t147 = true
   ·subst c8
    rw [if_pos rfl] at H
    by_cases c9 : a2 = true
    ·subst c9
     rw [if_pos rfl] at H
     by_cases c10 : a0_0 = 11
     ·rw [if_pos c10] at H
      have c10b0 := beq_iff_eq.mpr c10
      have c10b1 := bne_eq_false_iff_eq.mpr c10
      clear c10
      have H' := A_ H
      clear H
      obtain ⟨y11_0, y11_1, y11_2, y11_3, z11_0, z11_1, z11_2, z11_3⟩ := cz4_ BK146.out
      go_wp2_with (first | (go_at_call 67; (with_reducible refine (spec_l10Here.calls k a0_0 a0_1 a0_2 _ _ l0_3 true _ ?side1 ?side2 A7.out).mono ?_); (case side1 => repeat (first | exact (Kd.C_below HR0_3.out HB.out) | (with_reducible refine Kd.C_alloc ?_ _) | (with_reducible refine Kd.C_drewN ?_ _) | (with_reducible refine Kd.C_drew ?_))); (case side2 => exact HC0_3.out); rintro e w12 ⟨rfl, hb⟩; have n0_ := A_ (blk_below (bk_ BK146.out) hb); have n1_ := A_ (below_step (bw_ HB.out) hb); clear BK146; clear HB; have BK146 := n0_; have HB := n1_; clear n0_ n1_; (try clear hb); (try clear hb2); (try clear hk); (try clear hi); have y13_0 : w12.cell? ⟨gb146, 0, none⟩ = some (.int .i64 a0_0) := (blk_cell BK146.out 0).trans rfl; have y13_1 : w12.cell? ⟨gb146, 1, none⟩ = some (.int .i64 a0_1) := (blk_cell BK146.out 1).trans rfl; have y13_2 : w12.cell? ⟨gb146, 2, none⟩ = some (.string a0_2) := (blk_cell BK146.out 2).trans rfl; have y13_3 : w12.cell? ⟨gb146, 3, none⟩ = some (.slice A0_3 l0_3.length c0_3) := (blk_cell BK146.out 3).trans rfl; have z13_0 := blk_frozen BK146.out 0; have z13_1 := blk_frozen BK146.out 1; have z13_2 := blk_frozen BK146.out 2; have z13_3 := blk_frozen BK146.out 3))
      go_meet
      case rel => exact ⟨_, (true), (by first | rfl | (simp; done) | (simp [*]; done) | (simp [wrap64]; done)), H', ⟨by first | omega | exact Nat.le_refl _⟩, ⟨by refine bk_ ?_; exact BK146.out⟩, ⟨bw_ HB.out⟩⟩
     ·rw [if_neg c10] at H
      have c10b0 := beq_eq_false_iff_ne.mpr c10
      have c10b1 := bne_iff_ne.mpr c10
      have H' := A_ H
      clear H
      obtain ⟨y14_0, y14_1, y14_2, y14_3, z14_0, z14_1, z14_2, z14_3⟩ := cz4_ BK146.out
      go_wp2_with (first | (go_at_call 67; (with_reducible refine (spec_l10Here.calls k a0_0 a0_1 a0_2 _ _ l0_3 true _ ?side1 ?side2 A7.out).mono ?_); (case side1 => repeat (first | exact (Kd.C_below HR0_3.out HB.out) | (with_reducible refine Kd.C_alloc ?_ _) | (with_reducible refine Kd.C_drewN ?_ _) | (with_reducible refine Kd.C_drew ?_))); (case side2 => exact HC0_3.out); rintro e w15 ⟨rfl, hb⟩; have n0_ := A_ (blk_below (bk_ BK146.out) hb); have n1_ := A_ (below_step (bw_ HB.out) hb); clear BK146; clear HB; have BK146 := n0_; have HB := n1_; clear n0_ n1_; (try clear hb); (try clear hb2); (try clear hk); (try clear hi); have y16_0 : w15.cell? ⟨gb146, 0, none⟩ = some (.int .i64 a0_0) := (blk_cell BK146.out 0).trans rfl; have y16_1 : w15.cell? ⟨gb146, 1, none⟩ = some (.int .i64 a0_1) := (blk_cell BK146.out 1).trans rfl; have y16_2 : w15.cell? ⟨gb146, 2, none⟩ = some (.string a0_2) := (blk_cell BK146.out 2).trans rfl; have y16_3 : w15.cell? ⟨gb146, 3, none⟩ = some (.slice A0_3 l0_3.length c0_3) := (blk_cell BK146.out 3).trans rfl; have z16_0 := blk_frozen BK146.out 0; have z16_1 := blk_frozen BK146.out 1; have z16_2 := blk_frozen BK146.out 2; have z16_3 := blk_frozen BK146.out 3))
      go_meet
      case rel => exact ⟨_, ((a0_0 == 12)), (by first | rfl | (simp; done) | (simp [*]; done) | (simp [wrap64]; done)), H', ⟨by first | omega | exact Nat.le_refl _⟩, ⟨by refine bk_ ?_; exact BK146.out⟩, ⟨bw_ HB.out⟩⟩
    ·replace c9 := Bool.eq_false_iff.mpr c9
     subst c9
     rw [if_neg (show ¬ (false = true) by decide)] at H
     have H' := A_ H
     clear H
     obtain ⟨y17_0, y17_1, y17_2, y17_3, z17_0, z17_1, z17_2, z17_3⟩ := cz4_ BK146.out
     go_wp2_with (first | (go_at_call 67; (with_reducible refine (spec_l10Here.calls k a0_0 a0_1 a0_2 _ _ l0_3 true _ ?side1 ?side2 A7.out).mono ?_); (case side1 => repeat (first | exact (Kd.C_below HR0_3.out HB.out) | (with_reducible refine Kd.C_alloc ?_ _) | (with_reducible refine Kd.C_drewN ?_ _) | (with_reducible refine Kd.C_drew ?_))); (case side2 => exact HC0_3.out); rintro e w18 ⟨rfl, hb⟩; have n0_ := A_ (blk_below (bk_ BK146.out) hb); have n1_ := A_ (below_step (bw_ HB.out) hb); clear BK146; clear HB; have BK146 := n0_; have HB := n1_; clear n0_ n1_; (try clear hb); (try clear hb2); (try clear hk); (try clear hi)))
     go_meet
     case rel => exact ⟨_, (false), (by first | rfl | (simp; done) | (simp [*]; done) | (simp [wrap64]; done)), H', ⟨by first | omega | exact Nat.le_refl _⟩, ⟨by refine bk_ ?_; exact BK146.out⟩, ⟨bw_ HB.out⟩⟩
   ·replace c8 := Bool.eq_false_iff.mpr c8
    subst c8
    rw [if_neg (show ¬ (false = true) by decide)] at H
    have H' := A_ H
    clear H
    obtain ⟨y19_0, y19_1, y19_2, y19_3, z19_0, z19_1, z19_2, z19_3⟩ := cz4_ BK146.out
    go_wp2_with (first | (go_at_call 67; (with_reducible refine (spec_l10Here.calls k a0_0 a0_1 a0_2 _ _ l0_3 false _ ?side1 ?side2 A7.out).mono ?_); (case side1 => repeat (first | exact (Kd.C_below HR0_3.out HB.out) | (with_reducible refine Kd.C_alloc ?_ _) | (with_reducible refine Kd.C_drewN ?_ _) | (with_reducible refine Kd.C_drew ?_))); (case side2 => exact HC0_3.out); rintro e w20 ⟨rfl, hb⟩; have n0_ := A_ (blk_below (bk_ BK146.out) hb); have n1_ := A_ (below_step (bw_ HB.out) hb); clear BK146; clear HB; have BK146 := n0_; have HB := n1_; clear n0_ n1_; (try clear hb); (try clear hb2); (try clear hk); (try clear hi)))
    go_meet
    case rel => exact ⟨_, (true), (by first | rfl | (simp; done) | (simp [*]; done) | (simp [wrap64]; done)), H', ⟨by first | omega | exact Nat.le_refl _⟩, ⟨by refine bk_ ?_; exact BK146.out⟩, ⟨bw_ HB.out⟩⟩
 case rest =>
  clear HC4
  try clear c1
  try clear p2
  try clear c4
  try clear c6
  try clear c6b0
  try clear c8
  try clear c9
  try clear c10
  try clear c10b0
  try clear c10b1
  try clear y11_0 y11_1 y11_2 y11_3 z11_0 z11_1 z11_2 z11_3
  try clear y13_0 y13_1 y13_2 y13_3 z13_0 z13_1 z13_2 z13_3
  try clear y14_0 y14_1 y14_2 y14_3 z14_0 z14_1 z14_2 z14_3
  try clear y16_0 y16_1 y16_2 y16_3 z16_0 z16_1 z16_2 z16_3
  try clear y17_0 y17_1 y17_2 y17_3 z17_0 z17_1 z17_2 z17_3
  try clear y19_0 y19_1 y19_2 y19_3 z19_0 z19_1 z19_2 z19_3
  obtain ⟨kq, x27_3, rfl, HA, HJ3, BK146, HB⟩ := hcut
  cases kq with
  | zero => exact absurd HA.out (by simp [spec_l10Ok.j0])
  | succ kj3 =>
   have H := HA.out
   clear HA
   simp only [spec_l10Ok.j0] at H
   by_cases c21 : x27_3 = true
   ·subst c21
    rw [if_pos rfl] at H
    obtain rfl := Option.some.inj H
    go_wp2
    go_ret
    exact rt_ (bw_ HB.out)
   ·replace c21 := Bool.eq_false_iff.mpr c21
    subst c21
    rw [if_neg (show ¬ (false = true) by decide)] at H
    have H' := A_ H
    clear H
    go_wp2
    go_loopg [7] kj3 (fun kq v7 w' => ∃ (x7_2 : Int), v7 = .int .i64 x7_2 ∧ Aside0 (spec_l10Ok.l0 kq a1 a2 x7_2 a0_0 a0_1 a0_2 l0_3 = some r) ∧ Aside0 (kq ≤ kj3) ∧ Aside0 (w'.heap[gb146]? = some (.cells #[.int .i64 a0_0, .int .i64 a0_1, .string a0_2, (.slice A0_3 l0_3.length c0_3)] 29 (0, 0))) ∧ Aside0 (Below w.heap.size w w'))
    case atStart => exact ⟨(0), (by first | rfl | (simp; done) | (simp [*]; done) | (simp [wrap64]; done)), H', ⟨Nat.le_refl _⟩, ⟨by refine bk_ ?_; exact BK146.out⟩, ⟨bw_ HB.out⟩⟩
    case round =>
     clear H'
     try clear c1
     try clear c2
     try clear p2
     try clear c4
     try clear c6
     try clear c6b0
     try clear c8
     try clear c9
     try clear c10
     try clear c10b0
     try clear c10b1
     try clear c21
     try clear y11_0 y11_1 y11_2 y11_3 z11_0 z11_1 z11_2 z11_3
     try clear y13_0 y13_1 y13_2 y13_3 z13_0 z13_1 z13_2 z13_3
     try clear y14_0 y14_1 y14_2 y14_3 z14_0 z14_1 z14_2 z14_3
     try clear y16_0 y16_1 y16_2 y16_3 z16_0 z16_1 z16_2 z16_3
     try clear y17_0 y17_1 y17_2 y17_3 z17_0 z17_1 z17_2 z17_3
     try clear y19_0 y19_1 y19_2 y19_3 z19_0 z19_1 z19_2 z19_3
     try clear p2
     obtain ⟨x7_2, rfl, HA, HK2, BK146, HB⟩ := hrel
     cases gk with
     | zero => exact absurd HA.out (by simp [spec_l10Ok.l0])
     | succ k2 =>
      have H := HA.out
      clear HA
      simp only [spec_l10Ok.l0] at H
      by_cases c22 : x7_2 < (l0_3.length : Int)
      ·rw [if_pos c22] at H
       have c22b0 := decide_eq_true c22
       clear c22
       by_cases c23 : 0 ≤ x7_2
       ·rw [if_pos c23] at H
        have c23b0 := decide_eq_true c23
        clear c23
        replace H := Option.bind_eq_some_iff.mp H
        obtain ⟨t149, A240, H⟩ := H
        try dsimp only at H
        have A24 := A_ A240
        clear A240
        by_cases c25 : t149 = true
        ·subst c25
         rw [if_pos rfl] at H
         have H' := A_ H
         clear H
         obtain ⟨y26_0, y26_1, y26_2, y26_3, z26_0, z26_1, z26_2, z26_3⟩ := cz4_ BK146.out
         have p148 : 0 ≤ (x7_2 : Int) := of_decide_eq_true (by first | (with_reducible assumption) | assumption)
         have q148 : x7_2 < (l0_3.length : Int) := of_decide_eq_true (by first | (with_reducible assumption) | assumption)
         obtain ⟨ad148, A148_3, c148_3, e148, hx148_0, hx148_1, hx148_2, hx148_3, hl148_3, hi148_3⟩ := at_T29 HR0_3.out x7_2 p148 q148
         cases e148
         replace hx148_0 := (HB.out.cell (World.block_lt_of_cell? w _ hx148_0)).trans hx148_0
         replace hx148_1 := (HB.out.cell (World.block_lt_of_cell? w _ hx148_1)).trans hx148_1
         replace hx148_2 := (HB.out.cell (World.block_lt_of_cell? w _ hx148_2)).trans hx148_2
         replace hx148_3 := (HB.out.cell (World.block_lt_of_cell? w _ hx148_3)).trans hx148_3
         have HR148_3 := A_ hi148_3
         have HC148_3 := A_ hl148_3
         clear hi148_3 hl148_3
         replace p148 := eq_true p148
         replace q148 := eq_true q148
         go_wp2_with (first | ((with_reducible refine gate_callee (f := 46) rfl ?_); refine gL_ (some 43) Try.func46 #[.agg #[.int .i64 ((rd_T29 l0_3 x7_2).f0), .int .i64 ((rd_T29 l0_3 x7_2).f1), .string ((rd_T29 l0_3 x7_2).f2), .slice A148_3 ((rd_T29 l0_3 x7_2).f3).length c148_3], .int .i64 (wrap64 (a1 + 1)), .bool a2] ?_; (with_reducible refine (ih k2 (by have := HJ3.out; have := HK2.out; omega) ((rd_T29 l0_3 x7_2).f0) ((rd_T29 l0_3 x7_2).f1) ((rd_T29 l0_3 x7_2).f2) _ _ ((rd_T29 l0_3 x7_2).f3) (wrap64 (a1 + 1)) a2 true _ ?side1 ?side2 A24.out).mono ?_); (case side1 => repeat (first | exact (Kd.C_below HR148_3.out HB.out) | (with_reducible refine Kd.C_alloc ?_ _) | (with_reducible refine Kd.C_drewN ?_ _) | (with_reducible refine Kd.C_drew ?_))); (case side2 => exact HC148_3.out); rintro e w27 ⟨rfl, hb⟩; refine ⟨_, rfl, ?_⟩; have n0_ := A_ (blk_below (bk_ BK146.out) hb); have n1_ := A_ (below_step (bw_ HB.out) hb); clear BK146; clear HB; have BK146 := n0_; have HB := n1_; clear n0_ n1_; (try clear hb); (try clear hb2); (try clear hk); (try clear hi)))
         go_roundg k2
         case measure => have := HJ3.out; have := HK2.out; omega
         case rel => exact ⟨(wrap64 (x7_2 + 1)), (by first | rfl | (simp; done) | (simp [*]; done) | (simp [wrap64]; done)), H', ⟨by have := HJ3.out; have := HK2.out; omega⟩, ⟨by refine bk_ ?_; exact BK146.out⟩, ⟨bw_ HB.out⟩⟩
        ·replace c25 := Bool.eq_false_iff.mpr c25
         subst c25
         rw [if_neg (show ¬ (false = true) by decide)] at H
         obtain rfl := Option.some.inj H
         obtain ⟨y28_0, y28_1, y28_2, y28_3, z28_0, z28_1, z28_2, z28_3⟩ := cz4_ BK146.out
         have p148 : 0 ≤ (x7_2 : Int) := of_decide_eq_true (by first | (with_reducible assumption) | assumption)
         have q148 : x7_2 < (l0_3.length : Int) := of_decide_eq_true (by first | (with_reducible assumption) | assumption)
         obtain ⟨ad148, A148_3, c148_3, e148, hx148_0, hx148_1, hx148_2, hx148_3, hl148_3, hi148_3⟩ := at_T29 HR0_3.out x7_2 p148 q148
         cases e148
         replace hx148_0 := (HB.out.cell (World.block_lt_of_cell? w _ hx148_0)).trans hx148_0
         replace hx148_1 := (HB.out.cell (World.block_lt_of_cell? w _ hx148_1)).trans hx148_1
         replace hx148_2 := (HB.out.cell (World.block_lt_of_cell? w _ hx148_2)).trans hx148_2
         replace hx148_3 := (HB.out.cell (World.block_lt_of_cell? w _ hx148_3)).trans hx148_3
         have HR148_3 := A_ hi148_3
         have HC148_3 := A_ hl148_3
         clear hi148_3 hl148_3
         replace p148 := eq_true p148
         replace q148 := eq_true q148
         go_wp2_with (first | ((with_reducible refine gate_callee (f := 46) rfl ?_); refine gL_ (some 43) Try.func46 #[.agg #[.int .i64 ((rd_T29 l0_3 x7_2).f0), .int .i64 ((rd_T29 l0_3 x7_2).f1), .string ((rd_T29 l0_3 x7_2).f2), .slice A148_3 ((rd_T29 l0_3 x7_2).f3).length c148_3], .int .i64 (wrap64 (a1 + 1)), .bool a2] ?_; (with_reducible refine (ih k2 (by have := HJ3.out; have := HK2.out; omega) ((rd_T29 l0_3 x7_2).f0) ((rd_T29 l0_3 x7_2).f1) ((rd_T29 l0_3 x7_2).f2) _ _ ((rd_T29 l0_3 x7_2).f3) (wrap64 (a1 + 1)) a2 false _ ?side1 ?side2 A24.out).mono ?_); (case side1 => repeat (first | exact (Kd.C_below HR148_3.out HB.out) | (with_reducible refine Kd.C_alloc ?_ _) | (with_reducible refine Kd.C_drewN ?_ _) | (with_reducible refine Kd.C_drew ?_))); (case side2 => exact HC148_3.out); rintro e w29 ⟨rfl, hb⟩; refine ⟨_, rfl, ?_⟩; have n0_ := A_ (blk_below (bk_ BK146.out) hb); have n1_ := A_ (below_step (bw_ HB.out) hb); clear BK146; clear HB; have BK146 := n0_; have HB := n1_; clear n0_ n1_; (try clear hb); (try clear hb2); (try clear hk); (try clear hi)))
         go_ret
         exact rt_ (bw_ HB.out)
       ·rw [if_neg c23] at H
        exact absurd H (by simp)
      ·rw [if_neg c22] at H
       have c22b0 := decide_eq_false c22
       clear c22
       obtain rfl := Option.some.inj H
       obtain ⟨y30_0, y30_1, y30_2, y30_3, z30_0, z30_1, z30_2, z30_3⟩ := cz4_ BK146.out
       go_wp2
       go_ret
       exact rt_ (bw_ HB.out)

/-! ### spec_ExprOk: function 17 -/
def spec_ExprOk.f (k : Nat) (a0_0 : Int) (a0_1 : Int) (a0_2 : ByteArray) (l0_3 : List (S29)) : Option (Bool) := (spec_l10Ok.f k a0_0 a0_1 a0_2 l0_3 1 false).bind fun t151 => (some t151)
theorem spec_ExprOk.mono : ∀ a0 a1 a2 a3 k, LeO (spec_ExprOk.f k a0 a1 a2 a3) (spec_ExprOk.f (k + 1) a0 a1 a2 a3) := by
 intro a0 a1 a2 a3 k
 unfold spec_ExprOk.f
 repeat' first
   | (with_reducible exact spec_l10Ok.mono _ _ _ _ _ _ _)
   | (with_reducible exact LeO.refl _)
   | (with_reducible exact LeO.none _)
   | (with_reducible refine LeO.ite ?_ ?_)
   | (with_reducible refine LeO.bind ?_ (fun _ => ?_))
   | exact spec_l10Ok.mono _ _ _ _ _ _ _
   | exact LeO.none _
   | refine LeO.ite ?_ ?_
   | refine LeO.bind ?_ (fun _ => ?_)
set_option maxHeartbeats 8000000 in
set_option maxRecDepth 100000 in
theorem spec_ExprOk.calls (k : Nat) (a0_0 : Int) (a0_1 : Int) (a0_2 : ByteArray) (A0_3 : Option Addr) (c0_3 : Nat) (l0_3 : List (S29)) (r : Bool) (w : World) (hr0_3 : Kd.C k29 w A0_3 l0_3.length l0_3) (hc0_3 : l0_3.length ≤ c0_3) (h : spec_ExprOk.f k a0_0 a0_1 a0_2 l0_3 = some r) :
  Calls Try.prog 17 #[.agg #[.int .i64 a0_0, .int .i64 a0_1, .string a0_2, .slice A0_3 l0_3.length c0_3]] w fun e w' => e = .returned (.bool r) ∧ Below w.heap.size w w' := by
 have hu29 := Try.underlying29
 have HR0_3 := A_ hr0_3
 have HC0_3 := A_ hc0_3
 clear hr0_3 hc0_3
 have HB := A_ (Below.refl w.heap.size w)
 have H : ((spec_l10Ok.f k a0_0 a0_1 a0_2 l0_3 1 false).bind fun t151 => (some t151)) = some r := h
 clear h
 replace H := Option.bind_eq_some_iff.mp H
 obtain ⟨t151, A20, H⟩ := H
 try dsimp only at H
 have A2 := A_ A20
 clear A20
 obtain rfl := Option.some.inj H
 go_enter Try.func17, Try.ntmps17
 go_wp2_with (first | ((with_reducible refine gate_dst (N := 1) rfl ?_); refine box_event ?hg (N := 1) ?hd (cs := #[.int .i64 a0_0, .int .i64 a0_1, .string a0_2, .slice A0_3 l0_3.length c0_3]) (t := 29) ?hr ?_; (case hd => rfl); (case hg => rfl); (case hr => first | (go_simp; done) | (go_simp; rfl)); intro gb150 hg w3 hbox hb; have n0_ := A_ (below_step (bw_ HB.out) hb); have n1_ := A_ (hbox); have n2_ := A_ ((by rw [hg]; exact (below_size (bw_ HB.out)) : w.heap.size ≤ gb150)); have n3_ := n2_; clear HB; have HB := n0_; have BK150 := n1_; have GW150 := n2_; have GE150 := n3_; have GI150 := GeI.mk GE150.out; clear n0_ n1_ n2_ n3_; clear hb hbox hg; have y4_0 : w3.cell? ⟨gb150, 0, none⟩ = some (.int .i64 a0_0) := (blk_cell BK150.out 0).trans rfl; have y4_1 : w3.cell? ⟨gb150, 1, none⟩ = some (.int .i64 a0_1) := (blk_cell BK150.out 1).trans rfl; have y4_2 : w3.cell? ⟨gb150, 2, none⟩ = some (.string a0_2) := (blk_cell BK150.out 2).trans rfl; have y4_3 : w3.cell? ⟨gb150, 3, none⟩ = some (.slice A0_3 l0_3.length c0_3) := (blk_cell BK150.out 3).trans rfl; have z4_0 := blk_frozen BK150.out 0; have z4_1 := blk_frozen BK150.out 1; have z4_2 := blk_frozen BK150.out 2; have z4_3 := blk_frozen BK150.out 3) | ((with_reducible refine gate_callee (f := 46) rfl ?_); refine gL_ (some 4) Try.func46 #[.agg #[.int .i64 a0_0, .int .i64 a0_1, .string a0_2, .slice A0_3 l0_3.length c0_3], .int .i64 1, .bool false] ?_; (with_reducible refine (spec_l10Ok.calls k a0_0 a0_1 a0_2 _ _ l0_3 1 false t151 _ ?side1 ?side2 A2.out).mono ?_); (case side1 => repeat (first | exact (Kd.C_below HR0_3.out HB.out) | (with_reducible refine Kd.C_alloc ?_ _) | (with_reducible refine Kd.C_drewN ?_ _) | (with_reducible refine Kd.C_drew ?_))); (case side2 => exact HC0_3.out); rintro e w5 ⟨rfl, hb⟩; refine ⟨_, rfl, ?_⟩; have n0_ := A_ (blk_below (bk_ BK150.out) hb); have n1_ := A_ (below_step (bw_ HB.out) hb); clear BK150; clear HB; have BK150 := n0_; have HB := n1_; clear n0_ n1_; (try clear hb); (try clear hb2); (try clear hk); (try clear hi)))
 go_ret
 exact rt_ (bw_ HB.out)

/-! ### spec_l11Copy: function 57 -/
mutual
def spec_l11Copy.l0 : Nat → Int → Int → Int → ByteArray → List (S29) → Int → Int → ByteArray → List (S29) → Option (Int × Int × ByteArray × (List (S29)))
 | 0, _, _, _, _, _, _, _, _, _ => none
 | k + 1, x4, x153000, x153001, x153002, x153003, x155000, x155001, x155002, x155003 => if x4 < (x153003.length : Int) then (if 0 ≤ x4 then ((spec_l11Copy.f k ((rd_T29 x153003 x4).f0) ((rd_T29 x153003 x4).f1) ((rd_T29 x153003 x4).f2) ((rd_T29 x153003 x4).f3)).bind fun bt156 => (if x155003.length < 2513169434916 then (spec_l11Copy.l0 k (wrap64 (x4 + 1)) x153000 x153001 x153002 x153003 x155000 x155001 x155002 (x155003 ++ [(⟨bt156.1, bt156.2.1, bt156.2.2.1, bt156.2.2.2⟩ : S29)])) else (none))) else (none)) else (some (x155000, x155001, x155002, x155003))
def spec_l11Copy.f : Nat → Int → Int → ByteArray → List (S29) → Option (Int × Int × ByteArray × (List (S29)))
 | 0, _, _, _, _ => none
 | k + 1, a0_0, a0_1, a0_2, l0_3 => spec_l11Copy.l0 k 0 a0_0 a0_1 a0_2 l0_3 a0_0 a0_1 a0_2 ([] : List (S29))
end
theorem spec_l11Copy.mono_l : ∀ k, (∀ y0 y1 y2 y3, LeO (spec_l11Copy.f k y0 y1 y2 y3) (spec_l11Copy.f (k + 1) y0 y1 y2 y3)) ∧ (∀ y0 y1 y2 y3 y4 y5 y6 y7 y8, LeO (spec_l11Copy.l0 k y0 y1 y2 y3 y4 y5 y6 y7 y8) (spec_l11Copy.l0 (k + 1) y0 y1 y2 y3 y4 y5 y6 y7 y8))
 | 0 => ⟨fun _ _ _ _ r h => by simp [spec_l11Copy.f] at h, fun _ _ _ _ _ _ _ _ _ r h => by simp [spec_l11Copy.l0] at h⟩
 | k + 1 => by
  obtain ⟨ih0, ih1⟩ := spec_l11Copy.mono_l k
  refine ⟨?_, ?_⟩
  ·intro y0 y1 y2 y3
   unfold spec_l11Copy.f
   repeat' first
   | (with_reducible exact ih0 _ _ _ _)
   | (with_reducible exact ih1 _ _ _ _ _ _ _ _ _)
   | (with_reducible exact LeO.refl _)
   | (with_reducible exact LeO.none _)
   | (with_reducible refine LeO.ite ?_ ?_)
   | (with_reducible refine LeO.bind ?_ (fun _ => ?_))
   | exact ih0 _ _ _ _
   | exact ih1 _ _ _ _ _ _ _ _ _
   | exact LeO.none _
   | refine LeO.ite ?_ ?_
   | refine LeO.bind ?_ (fun _ => ?_)
  ·intro y0 y1 y2 y3 y4 y5 y6 y7 y8
   unfold spec_l11Copy.l0
   repeat' first
   | (with_reducible exact ih0 _ _ _ _)
   | (with_reducible exact ih1 _ _ _ _ _ _ _ _ _)
   | (with_reducible exact LeO.refl _)
   | (with_reducible exact LeO.none _)
   | (with_reducible refine LeO.ite ?_ ?_)
   | (with_reducible refine LeO.bind ?_ (fun _ => ?_))
   | exact ih0 _ _ _ _
   | exact ih1 _ _ _ _ _ _ _ _ _
   | exact LeO.none _
   | refine LeO.ite ?_ ?_
   | refine LeO.bind ?_ (fun _ => ?_)
theorem spec_l11Copy.mono : ∀ a0 a1 a2 a3 k, LeO (spec_l11Copy.f k a0 a1 a2 a3) (spec_l11Copy.f (k + 1) a0 a1 a2 a3) := by
 intro a0 a1 a2 a3 k
 obtain ⟨ih0, ih1⟩ := spec_l11Copy.mono_l k
 exact ih0 a0 a1 a2 a3
set_option maxHeartbeats 8000000 in
set_option maxRecDepth 100000 in
theorem spec_l11Copy.calls (k : Nat) : ∀ (a0_0 : Int) (a0_1 : Int) (a0_2 : ByteArray) (A0_3 : Option Addr) (c0_3 : Nat) (l0_3 : List (S29)) (r1 : Int) (r2 : Int) (r3 : ByteArray) (r4 : List (S29)) (w : World) (hr0_3 : Kd.C k29 w A0_3 l0_3.length l0_3) (hc0_3 : l0_3.length ≤ c0_3) (h : spec_l11Copy.f k a0_0 a0_1 a0_2 l0_3 = some (r1, r2, r3, r4)),
  Calls Try.prog 57 #[.agg #[.int .i64 a0_0, .int .i64 a0_1, .string a0_2, .slice A0_3 l0_3.length c0_3]] w fun e w' => ∃ v3_ : Value, e = .returned (.agg #[.int .i64 r1, .int .i64 r2, .string r3, v3_]) ∧ Kd.R k29 29 w' w.heap.size (fun _ => True) v3_ r4 ∧ Below w.heap.size w w' := by
 induction k using Nat.strongRecOn with
 | _ k ih =>
 intro a0_0 a0_1 a0_2 A0_3 c0_3 l0_3 r1 r2 r3 r4 w hr0_3 hc0_3 h
 cases k with
 | zero => exact absurd h (by simp [spec_l11Copy.f])
 | succ k =>
 simp only [spec_l11Copy.f] at h
 have hu29 := Try.underlying29
 have HR0_3 := A_ hr0_3
 have HC0_3 := A_ hc0_3
 clear hr0_3 hc0_3
 have HB := A_ (Below.refl w.heap.size w)
 have H : (spec_l11Copy.l0 k 0 a0_0 a0_1 a0_2 l0_3 a0_0 a0_1 a0_2 ([] : List (S29))) = some (r1, r2, r3, r4) := h
 clear h
 have H' := A_ H
 clear H
 go_enter Try.func57, Try.ntmps57
 go_wp2_with (first | ((with_reducible refine gate_dst (N := 1) rfl ?_); refine box_event ?hg (N := 1) ?hd (cs := #[.int .i64 a0_0, .int .i64 a0_1, .string a0_2, .slice A0_3 l0_3.length c0_3]) (t := 29) ?hr ?_; (case hd => rfl); (case hg => rfl); (case hr => first | (go_simp; done) | (go_simp; rfl)); intro gb152 hg w2 hbox hb; have n0_ := A_ (below_step (bw_ HB.out) hb); have n1_ := A_ (hbox); have n2_ := A_ ((by rw [hg]; exact (below_size (bw_ HB.out)) : w.heap.size ≤ gb152)); have n3_ := n2_; clear HB; have HB := n0_; have BK152 := n1_; have GW152 := n2_; have GE152 := n3_; have GI152 := GeI.mk GE152.out; clear n0_ n1_ n2_ n3_; clear hb hbox hg) | ((with_reducible refine gate_dst (N := 2) rfl ?_); refine box_event ?hg (N := 2) ?hd (cs := #[.int .i64 0, .int .i64 0, .string (⟨#[]⟩ : ByteArray), .slice none 0 0]) (t := 29) ?hr ?_; (case hd => rfl); (case hg => rfl); (case hr => first | (go_simp; done) | (go_simp; rfl)); intro gb153 hg w3 hbox hb; have n0_ := A_ (blk_below (bk_ BK152.out) hb); have n1_ := A_ (below_step (bw_ HB.out) hb); have n2_ := A_ (hbox); have n3_ := A_ ((by rw [hg]; exact (below_size (bw_ HB.out)) : w.heap.size ≤ gb153)); have n4_ := n3_; have n5_ := A_ ((by rw [hg]; exact Nat.ne_of_lt (blk_lt (bk_ BK152.out)) : gb152 ≠ gb153)); have n6_ := A_ n5_.out.symm; clear BK152; clear HB; have BK152 := n0_; have HB := n1_; have BK153 := n2_; have GW153 := n3_; have GE153 := n4_; have GI153 := GeI.mk GE153.out; have NB152_153 := n5_; have NB153_152 := n6_; clear n0_ n1_ n2_ n3_ n4_ n5_ n6_; clear hb hbox hg; have hnb4 := NB152_153.out; have hnc4 := NB153_152.out; have y5_0 : w3.cell? ⟨gb152, 0, none⟩ = some (.int .i64 a0_0) := (blk_cell BK152.out 0).trans rfl; have y5_1 : w3.cell? ⟨gb152, 1, none⟩ = some (.int .i64 a0_1) := (blk_cell BK152.out 1).trans rfl; have y5_2 : w3.cell? ⟨gb152, 2, none⟩ = some (.string a0_2) := (blk_cell BK152.out 2).trans rfl; have y5_3 : w3.cell? ⟨gb152, 3, none⟩ = some (.slice A0_3 l0_3.length c0_3) := (blk_cell BK152.out 3).trans rfl; have z5_0 := blk_frozen BK152.out 0; have z5_1 := blk_frozen BK152.out 1; have z5_2 := blk_frozen BK152.out 2; have z5_3 := blk_frozen BK152.out 3) | ((with_reducible refine gate_dst (N := 3) rfl ?_); refine box_event ?hg (N := 3) ?hd (cs := #[.int .i64 0, .int .i64 0, .string (⟨#[]⟩ : ByteArray), .slice none 0 0]) (t := 29) ?hr ?_; (case hd => rfl); (case hg => rfl); (case hr => first | (go_simp; done) | (go_simp; rfl)); intro gb154 hg w6 hbox hb; have n0_ := A_ (blk_below (bk_ BK152.out) hb); have n1_ := A_ (blk_below (bk_ BK153.out) hb); have n2_ := A_ (below_step (bw_ HB.out) hb); have n3_ := A_ (hbox); have n4_ := A_ ((by rw [hg]; exact (below_size (bw_ HB.out)) : w.heap.size ≤ gb154)); have n5_ := n4_; have n6_ := A_ ((by rw [hg]; exact Nat.ne_of_lt (blk_lt (bk_ BK152.out)) : gb152 ≠ gb154)); have n7_ := A_ n6_.out.symm; have n8_ := A_ ((by rw [hg]; exact Nat.ne_of_lt (blk_lt (bk_ BK153.out)) : gb153 ≠ gb154)); have n9_ := A_ n8_.out.symm; clear BK152; clear BK153; clear HB; have BK152 := n0_; have BK153 := n1_; have HB := n2_; have BK154 := n3_; have GW154 := n4_; have GE154 := n5_; have GI154 := GeI.mk GE154.out; have NB152_154 := n6_; have NB154_152 := n7_; have NB153_154 := n8_; have NB154_153 := n9_; clear n0_ n1_ n2_ n3_ n4_ n5_ n6_ n7_ n8_ n9_; clear hb hbox hg; have hnb7 := NB154_152.out; have hnc7 := NB152_154.out; have hnb8 := NB154_153.out; have hnc8 := NB153_154.out; have y9_0 : w6.cell? ⟨gb154, 0, none⟩ = some (.int .i64 0) := (blk_cell BK154.out 0).trans rfl; have y9_1 : w6.cell? ⟨gb154, 1, none⟩ = some (.int .i64 0) := (blk_cell BK154.out 1).trans rfl; have y9_2 : w6.cell? ⟨gb154, 2, none⟩ = some (.string (⟨#[]⟩ : ByteArray)) := (blk_cell BK154.out 2).trans rfl; have y9_3 : w6.cell? ⟨gb154, 3, none⟩ = some (.slice none 0 0) := (blk_cell BK154.out 3).trans rfl; have z9_0 := blk_frozen BK154.out 0; have z9_1 := blk_frozen BK154.out 1; have z9_2 := blk_frozen BK154.out 2; have z9_3 := blk_frozen BK154.out 3))
 go_loopg [4] k (fun kq v4 w' => ∃ (x4_1 : Int) (x155003_1 : List (S29)) (u155003 : Value), v4 = .int .i64 x4_1 ∧ Aside0 (spec_l11Copy.l0 kq x4_1 a0_0 a0_1 a0_2 l0_3 a0_0 a0_1 a0_2 x155003_1 = some (r1, r2, r3, r4)) ∧ Aside0 (kq ≤ k) ∧ Aside0 (Kd.R k29 29 w' w.heap.size (fun k_ => k_ ≠ gb152 ∧ k_ ≠ gb153 ∧ k_ ≠ gb154) u155003 x155003_1) ∧ Aside0 (w'.heap[gb152]? = some (.cells #[.int .i64 a0_0, .int .i64 a0_1, .string a0_2, (.slice A0_3 l0_3.length c0_3)] 29 (0, 0))) ∧ Aside0 (w'.heap[gb153]? = some (.cells #[.int .i64 0, .int .i64 0, .string (⟨#[]⟩ : ByteArray), (.slice none 0 0)] 29 (0, 0))) ∧ Aside0 (w'.heap[gb154]? = some (.cells #[.int .i64 a0_0, .int .i64 a0_1, .string a0_2, u155003] 29 (0, 0))) ∧ Aside0 (Below w.heap.size w w'))
 case atStart => exact ⟨(0), (([] : List (S29))), (.slice none 0 0), (by first | rfl | (simp; done) | (simp [*]; done) | (simp [wrap64]; done)), H', ⟨Nat.le_refl _⟩, ⟨by first | exact Kd.R_nil _ _ _ _ _ | exact Kd.N_nil _ _ _ _ _ | exact Kd.V_nil _ _ _ _ _ | exact Kd.Q_nil _ _ _ _ _ | exact Kd.S_nil _ _ _ _ _⟩, ⟨by refine bk_ ?_; refine blk_far ?_ NB152_154.out _; refine bk_ ?_; refine blk_far ?_ NB152_154.out _; refine bk_ ?_; refine blk_far ?_ NB152_154.out _; refine bk_ ?_; refine blk_far ?_ NB152_154.out _; refine bk_ ?_; exact BK152.out⟩, ⟨by refine bk_ ?_; refine blk_far ?_ NB153_154.out _; refine bk_ ?_; refine blk_far ?_ NB153_154.out _; refine bk_ ?_; refine blk_far ?_ NB153_154.out _; refine bk_ ?_; refine blk_far ?_ NB153_154.out _; refine bk_ ?_; exact BK153.out⟩, ⟨by refine bk_ ?_; refine blk_put (cs := #[.int .i64 a0_0, .int .i64 a0_1, .string a0_2, .slice none 0 0]) ?_ 3 _ rfl; refine bk_ ?_; refine blk_put (cs := #[.int .i64 a0_0, .int .i64 a0_1, .string (⟨#[]⟩ : ByteArray), .slice none 0 0]) ?_ 2 _ rfl; refine bk_ ?_; refine blk_put (cs := #[.int .i64 a0_0, .int .i64 0, .string (⟨#[]⟩ : ByteArray), .slice none 0 0]) ?_ 1 _ rfl; refine bk_ ?_; refine blk_put (cs := #[.int .i64 0, .int .i64 0, .string (⟨#[]⟩ : ByteArray), .slice none 0 0]) ?_ 0 _ rfl; refine bk_ ?_; exact BK154.out⟩, ⟨bw_ HB.out⟩⟩
 case round =>
  clear H'
  try clear p2
  try clear c4
  try clear c5
  try clear c7
  try clear c8
  try clear y5_0 y5_1 y5_2 y5_3 z5_0 z5_1 z5_2 z5_3
  try clear y9_0 y9_1 y9_2 y9_3 z9_0 z9_1 z9_2 z9_3
  obtain ⟨x4_1, x155003_1, u155003, rfl, HA, HK1, HO_155003, BK152, BK153, BK154, HB⟩ := hrel
  cases gk with
  | zero => exact absurd HA.out (by simp [spec_l11Copy.l0])
  | succ k1 =>
   have H := HA.out
   clear HA
   simp only [spec_l11Copy.l0] at H
   by_cases c10 : x4_1 < (l0_3.length : Int)
   ·rw [if_pos c10] at H
    have c10b0 := decide_eq_true c10
    clear c10
    by_cases c11 : 0 ≤ x4_1
    ·rw [if_pos c11] at H
     have c11b0 := decide_eq_true c11
     clear c11
     replace H := Option.bind_eq_some_iff.mp H
     obtain ⟨⟨t156, t157, t158, t159⟩, A120, H⟩ := H
     try dsimp only at H
     have A12 := A_ A120
     clear A120
     by_cases c13 : x155003_1.length < 2513169434916
     ·rw [if_pos c13] at H
      have LMc13 := A_ c13
      clear c13
      obtain ⟨y163, hy163⟩ : ∃ y_ : List (S29), y_ = (x155003_1 ++ [(⟨t156, t157, t158, t159⟩ : S29)]) := ⟨_, rfl⟩
      replace H : (spec_l11Copy.l0 k1 (wrap64 (x4_1 + 1)) a0_0 a0_1 a0_2 l0_3 a0_0 a0_1 a0_2 y163) = some (r1, r2, r3, r4) := by first | (rw [hy163]; with_reducible exact H) | (have H2_ := (Option.bind_some _ _).symm.trans H; rw [hy163]; with_reducible exact H2_) | (have H2_ := (Option.bind_some _ _).symm.trans H; with_reducible exact H2_) | with_reducible exact H | (rw [hy163]; exact H) | exact H
      have Ny163 := A_ hy163
      clear hy163
      have H' := A_ H
      clear H
      have hnb14 := NB152_153.out
      have hnc14 := NB153_152.out
      have hnb15 := NB152_154.out
      have hnc15 := NB154_152.out
      obtain ⟨y16_0, y16_1, y16_2, y16_3, z16_0, z16_1, z16_2, z16_3⟩ := cz4_ BK152.out
      have p155 : 0 ≤ (x4_1 : Int) := of_decide_eq_true (by first | (with_reducible assumption) | assumption)
      have q155 : x4_1 < (l0_3.length : Int) := of_decide_eq_true (by first | (with_reducible assumption) | assumption)
      obtain ⟨ad155, A155_3, c155_3, e155, hx155_0, hx155_1, hx155_2, hx155_3, hl155_3, hi155_3⟩ := at_T29 HR0_3.out x4_1 p155 q155
      cases e155
      replace hx155_0 := (HB.out.cell (World.block_lt_of_cell? w _ hx155_0)).trans hx155_0
      replace hx155_1 := (HB.out.cell (World.block_lt_of_cell? w _ hx155_1)).trans hx155_1
      replace hx155_2 := (HB.out.cell (World.block_lt_of_cell? w _ hx155_2)).trans hx155_2
      replace hx155_3 := (HB.out.cell (World.block_lt_of_cell? w _ hx155_3)).trans hx155_3
      have HR155_3 := A_ hi155_3
      have HC155_3 := A_ hl155_3
      clear hi155_3 hl155_3
      replace p155 := eq_true p155
      replace q155 := eq_true q155
      go_wp2_with (first | ((with_reducible refine gate_callee (f := 57) rfl ?_); refine gL_ (some 25) Try.func57 #[.agg #[.int .i64 ((rd_T29 l0_3 x4_1).f0), .int .i64 ((rd_T29 l0_3 x4_1).f1), .string ((rd_T29 l0_3 x4_1).f2), .slice A155_3 ((rd_T29 l0_3 x4_1).f3).length c155_3]] ?_; (with_reducible refine (ih k1 (by have := HK1.out; omega) ((rd_T29 l0_3 x4_1).f0) ((rd_T29 l0_3 x4_1).f1) ((rd_T29 l0_3 x4_1).f2) _ _ ((rd_T29 l0_3 x4_1).f3) t156 t157 t158 t159 _ ?side1 ?side2 A12.out).mono ?_); (case side1 => repeat (first | exact (Kd.C_below HR155_3.out HB.out) | (with_reducible refine Kd.C_alloc ?_ _) | (with_reducible refine Kd.C_drewN ?_ _) | (with_reducible refine Kd.C_drew ?_))); (case side2 => exact HC155_3.out); rintro e w17 ⟨v160, rfl, ho0, hb⟩; refine ⟨_, rfl, ?_⟩; have n0_ := A_ (Kd.R_elder' (by (with_reducible repeat (first | apply Kd.R_alloc | apply Kd.R_drewN | apply Kd.R_drew)); exact HO_155003.out) (Kd.R_base ho0) hb); have n1_ := A_ (Kd.R_lower (Kd.R_newB (Kd.R_newB (Kd.R_newB (Kd.R_new' ho0 (Kd.R_lt (by (with_reducible repeat (first | apply Kd.R_alloc | apply Kd.R_drewN | apply Kd.R_drew)); exact HO_155003.out))) (bk_ BK152.out)) (bk_ BK153.out)) (bk_ BK154.out)) (below_size (bw_ HB.out))); have n2_ := A_ (blk_below (bk_ BK152.out) hb); have n3_ := A_ (blk_below (bk_ BK153.out) hb); have n4_ := A_ (blk_below (bk_ BK154.out) hb); have n5_ := A_ (below_step (bw_ HB.out) hb); clear HO_155003; clear BK152; clear BK153; clear BK154; clear HB; have HO_155003 := n0_; have HO161 := n1_; have BK152 := n2_; have BK153 := n3_; have BK154 := n4_; have HB := n5_; clear n0_ n1_ n2_ n3_ n4_ n5_; (try clear hb); (try clear hb2); (try clear hk); (try clear hi); (try clear ho0)) | ((with_reducible refine gate_dst (N := 5) rfl ?_); refine box_event ?hg (N := 5) ?hd (cs := #[.int .i64 0, .int .i64 0, .string (⟨#[]⟩ : ByteArray), .slice none 0 0]) (t := 29) ?hr ?_; (case hd => rfl); (case hg => rfl); (case hr => first | (go_simp; done) | (go_simp; rfl)); intro gb162 hg w18 hbox hb; have n0_ := A_ (Kd.R_below (Kd.R_elderB (by (with_reducible repeat (first | apply Kd.R_alloc | apply Kd.R_drewN | apply Kd.R_drew)); exact HO_155003.out) gb162 (Nat.le_of_eq hg.symm)) hb); have n1_ := A_ (Kd.R_below (Kd.R_elderB (by (with_reducible repeat (first | apply Kd.R_alloc | apply Kd.R_drewN | apply Kd.R_drew)); exact HO161.out) gb162 (Nat.le_of_eq hg.symm)) hb); have n2_ := A_ (blk_below (bk_ BK152.out) hb); have n3_ := A_ (blk_below (bk_ BK153.out) hb); have n4_ := A_ (blk_below (bk_ BK154.out) hb); have n5_ := A_ (below_step (bw_ HB.out) hb); have n6_ := A_ (hbox); have n7_ := A_ ((by rw [hg]; exact (below_size (bw_ HB.out)) : w.heap.size ≤ gb162)); have n8_ := n7_; have n9_ := A_ ((by rw [hg]; exact Nat.ne_of_lt (blk_lt (bk_ BK152.out)) : gb152 ≠ gb162)); have n10_ := A_ n9_.out.symm; have n11_ := A_ ((by rw [hg]; exact Nat.ne_of_lt (blk_lt (bk_ BK153.out)) : gb153 ≠ gb162)); have n12_ := A_ n11_.out.symm; have n13_ := A_ ((by rw [hg]; exact Nat.ne_of_lt (blk_lt (bk_ BK154.out)) : gb154 ≠ gb162)); have n14_ := A_ n13_.out.symm; clear HO_155003; clear HO161; clear BK152; clear BK153; clear BK154; clear HB; have HO_155003 := n0_; have HO161 := n1_; have BK152 := n2_; have BK153 := n3_; have BK154 := n4_; have HB := n5_; have BK162 := n6_; have GW162 := n7_; have GE162 := n8_; have GI162 := GeI.mk GE162.out; have NB152_162 := n9_; have NB162_152 := n10_; have NB153_162 := n11_; have NB162_153 := n12_; have NB154_162 := n13_; have NB162_154 := n14_; clear n0_ n1_ n2_ n3_ n4_ n5_ n6_ n7_ n8_ n9_ n10_ n11_ n12_ n13_ n14_; clear hb hbox hg; have hnb19 := NB162_152.out; have hnc19 := NB152_162.out; have hnb20 := NB162_153.out; have hnc20 := NB153_162.out; have hnb21 := NB162_154.out; have hnc21 := NB154_162.out; have y22_0 : w18.cell? ⟨gb162, 0, none⟩ = some (.int .i64 0) := (blk_cell BK162.out 0).trans rfl; have y22_1 : w18.cell? ⟨gb162, 1, none⟩ = some (.int .i64 0) := (blk_cell BK162.out 1).trans rfl; have y22_2 : w18.cell? ⟨gb162, 2, none⟩ = some (.string (⟨#[]⟩ : ByteArray)) := (blk_cell BK162.out 2).trans rfl; have y22_3 : w18.cell? ⟨gb162, 3, none⟩ = some (.slice none 0 0) := (blk_cell BK162.out 3).trans rfl; have z22_0 := blk_frozen BK162.out 0; have z22_1 := blk_frozen BK162.out 1; have z22_2 := blk_frozen BK162.out 2; have z22_3 := blk_frozen BK162.out 3; obtain ⟨Ao23, co23, eo23⟩ := Kd.R_slice HO161.out; subst eo23) | ((with_reducible refine gate_store (t := 29) (p := 5) rfl ?_); refine store_event (t := 29) (p := 5) (v := ?vo_w24) (w1 := ((((w18.setCell ⟨gb162, 0, none⟩ (.int .i64 t156)).setCell ⟨gb162, 1, none⟩ (.int .i64 t157)).setCell ⟨gb162, 2, none⟩ (.string t158)).setCell ⟨gb162, 3, none⟩ (.slice Ao23 t159.length co23))) ?hg ?ho ?hn ?hr ?_; (case ho => rfl); (case hg => rfl); (case hn => rfl); (case hr => first | (go_simp; done) | (go_simp; rfl)); intro w24 hw; have n0_ : Aside0 (Kd.R k29 29 w24 w.heap.size (fun k_ => some k_ ≠ (.slice Ao23 t159.length co23 : Value).ownBlock ∧ k_ ≠ gb152 ∧ k_ ≠ gb153 ∧ k_ ≠ gb154 ∧ k_ ≠ gb162) u155003 x155003_1) := ⟨(by rw [hw]; exact (by (with_reducible repeat (first | apply Kd.R_alloc | apply Kd.R_drewN | apply Kd.R_drew)); exact Kd.R_mono (Kd.R_far (p := ⟨gb162, 3, none⟩) (Kd.R_far (p := ⟨gb162, 2, none⟩) (Kd.R_far (p := ⟨gb162, 1, none⟩) (Kd.R_far (p := ⟨gb162, 0, none⟩) (Kd.R_mono HO_155003.out (fun k_ hk => (⟨hk, hk.2⟩ : _ ∧ k_ ≠ gb162))) (fun _ hk => hk.2) (.int .i64 t156)) (fun _ hk => hk.2) (.int .i64 t157)) (fun _ hk => hk.2) (.string t158)) (fun _ hk => hk.2) (.slice Ao23 t159.length co23)) (fun _ hk => ⟨hk.1.1.2, ⟨hk.1.1.1.1, ⟨hk.1.1.1.2.1, ⟨hk.1.1.1.2.2, hk.1.2⟩⟩⟩⟩)))⟩; have n1_ : Aside0 (Kd.R k29 29 w24 w.heap.size (fun k_ => some k_ ≠ (u155003 : Value).ownBlock ∧ k_ ≠ gb152 ∧ k_ ≠ gb153 ∧ k_ ≠ gb154 ∧ k_ ≠ gb162) (.slice Ao23 t159.length co23) t159) := ⟨(by rw [hw]; exact (by (with_reducible repeat (first | apply Kd.R_alloc | apply Kd.R_drewN | apply Kd.R_drew)); exact Kd.R_mono (Kd.R_far (p := ⟨gb162, 3, none⟩) (Kd.R_far (p := ⟨gb162, 2, none⟩) (Kd.R_far (p := ⟨gb162, 1, none⟩) (Kd.R_far (p := ⟨gb162, 0, none⟩) (Kd.R_mono HO161.out (fun k_ hk => (⟨hk, hk.2⟩ : _ ∧ k_ ≠ gb162))) (fun _ hk => hk.2) (.int .i64 t156)) (fun _ hk => hk.2) (.int .i64 t157)) (fun _ hk => hk.2) (.string t158)) (fun _ hk => hk.2) (.slice Ao23 t159.length co23)) (fun _ hk => ⟨hk.1.1.1.1.1.2, ⟨hk.1.1.1.1.2, ⟨hk.1.1.1.2, ⟨hk.1.1.2, hk.1.2⟩⟩⟩⟩)))⟩; have n2_ : Aside0 (w24.heap[gb152]? = some (.cells #[.int .i64 a0_0, .int .i64 a0_1, .string a0_2, .slice (some ad155) l0_3.length c0_3] 29 (0, 0))) := ⟨(by rw [hw]; exact (by refine bk_ ?_; refine blk_far ?_ NB152_162.out _; refine bk_ ?_; refine blk_far ?_ NB152_162.out _; refine bk_ ?_; refine blk_far ?_ NB152_162.out _; refine bk_ ?_; refine blk_far ?_ NB152_162.out _; refine bk_ ?_; exact BK152.out))⟩; have n3_ : Aside0 (w24.heap[gb153]? = some (.cells #[.int .i64 0, .int .i64 0, .string (⟨#[]⟩ : ByteArray), .slice none 0 0] 29 (0, 0))) := ⟨(by rw [hw]; exact (by refine bk_ ?_; refine blk_far ?_ NB153_162.out _; refine bk_ ?_; refine blk_far ?_ NB153_162.out _; refine bk_ ?_; refine blk_far ?_ NB153_162.out _; refine bk_ ?_; refine blk_far ?_ NB153_162.out _; refine bk_ ?_; exact BK153.out))⟩; have n4_ : Aside0 (w24.heap[gb154]? = some (.cells #[.int .i64 a0_0, .int .i64 a0_1, .string a0_2, u155003] 29 (0, 0))) := ⟨(by rw [hw]; exact (by refine bk_ ?_; refine blk_far ?_ NB154_162.out _; refine bk_ ?_; refine blk_far ?_ NB154_162.out _; refine bk_ ?_; refine blk_far ?_ NB154_162.out _; refine bk_ ?_; refine blk_far ?_ NB154_162.out _; refine bk_ ?_; exact BK154.out))⟩; have n5_ : Aside0 (w24.heap[gb162]? = some (.cells #[.int .i64 t156, .int .i64 t157, .string t158, .slice Ao23 t159.length co23] 29 (0, 0))) := ⟨(by rw [hw]; exact (by refine bk_ ?_; refine blk_put (cs := #[.int .i64 t156, .int .i64 t157, .string t158, .slice none 0 0]) ?_ 3 _ rfl; refine bk_ ?_; refine blk_put (cs := #[.int .i64 t156, .int .i64 t157, .string (⟨#[]⟩ : ByteArray), .slice none 0 0]) ?_ 2 _ rfl; refine bk_ ?_; refine blk_put (cs := #[.int .i64 t156, .int .i64 0, .string (⟨#[]⟩ : ByteArray), .slice none 0 0]) ?_ 1 _ rfl; refine bk_ ?_; refine blk_put (cs := #[.int .i64 0, .int .i64 0, .string (⟨#[]⟩ : ByteArray), .slice none 0 0]) ?_ 0 _ rfl; refine bk_ ?_; exact BK162.out))⟩; have n6_ : Aside0 (Below w.heap.size w w24) := ⟨(by rw [hw]; exact (bw_ HB.out))⟩; clear hw; clear HO_155003; clear HO161; clear BK152; clear BK153; clear BK154; clear BK162; clear HB; have HO_155003 := n0_; have HO161 := n1_; have BK152 := n2_; have BK153 := n3_; have BK154 := n4_; have BK162 := n5_; have HB := n6_; clear n0_ n1_ n2_ n3_ n4_ n5_ n6_; have hnb25 := NB154_153.out; have hnc25 := NB153_154.out; have y26_0 : w24.cell? ⟨gb154, 0, none⟩ = some (.int .i64 a0_0) := (blk_cell BK154.out 0).trans rfl; have y26_1 : w24.cell? ⟨gb154, 1, none⟩ = some (.int .i64 a0_1) := (blk_cell BK154.out 1).trans rfl; have y26_2 : w24.cell? ⟨gb154, 2, none⟩ = some (.string a0_2) := (blk_cell BK154.out 2).trans rfl; have y26_3 : w24.cell? ⟨gb154, 3, none⟩ = some (u155003) := (blk_cell BK154.out 3).trans rfl; have z26_0 := blk_frozen BK154.out 0; have z26_1 := blk_frozen BK154.out 1; have z26_2 := blk_frozen BK154.out 2; have z26_3 := blk_frozen BK154.out 3; have y27_0 : w24.cell? ⟨gb162, 0, none⟩ = some (.int .i64 t156) := (blk_cell BK162.out 0).trans rfl; have y27_1 : w24.cell? ⟨gb162, 1, none⟩ = some (.int .i64 t157) := (blk_cell BK162.out 1).trans rfl; have y27_2 : w24.cell? ⟨gb162, 2, none⟩ = some (.string t158) := (blk_cell BK162.out 2).trans rfl; have y27_3 : w24.cell? ⟨gb162, 3, none⟩ = some (.slice Ao23 t159.length co23) := (blk_cell BK162.out 3).trans rfl; have z27_0 := blk_frozen BK162.out 0; have z27_1 := blk_frozen BK162.out 1; have z27_2 := blk_frozen BK162.out 2; have z27_3 := blk_frozen BK162.out 3) | ((with_reducible refine gate_builtin (b := .append) (xs := #[.tmp 27, .tmp 29]) rfl ?_); at_builtin; refine Kd.R_append k29 (w0 := w) w.heap.size rfl (.tmp 27) (.tmp 29) 27 29 (.agg #[(.int .i64 0), (.int .i64 0), (.string ⟨#[]⟩), (.slice none 0 0)]) 56 rfl Try.underlying27 info29 rfl (by decide) (by omega) u155003 x155003_1 (⟨t156, t157, t158, t159⟩ : S29) [.int .i64 t156, .int .i64 t157, .string t158, .slice Ao23 t159.length co23] (fun k_ => k_ ≠ gb152 ∧ k_ ≠ gb153 ∧ k_ ≠ gb154 ∧ k_ ≠ gb162) (fun k_ => ((fun k_ => k_ ≠ gb152 ∧ k_ ≠ gb153 ∧ k_ ≠ gb154 ∧ k_ ≠ gb162)) k_ ∧ some k_ ≠ (u155003 : Value).ownBlock) rfl rfl ?aP (fun _ hk => hk) ?aF ?aO ?aB ?aS ?aL ?_; (case aP => exact k29_mkM _ _ _ (⟨t156, t157, t158, t159⟩ : S29) (Kd.R_mono (HO161.out) (fun k_ hk => ⟨⟨hk.2.1, ⟨hk.2.2.1, ⟨hk.2.2.2.1, hk.2.2.2.2⟩⟩⟩, hk.1⟩))); (case aB => exact (bw_ HB.out)); (case aF => exact (fun k_ hk => ⟨Kd.freshB (bk_ BK152.out) k_ hk, Kd.freshB (bk_ BK153.out) k_ hk, Kd.freshB (bk_ BK154.out) k_ hk, Kd.freshB (bk_ BK162.out) k_ hk⟩)); (case aO => exact (by (with_reducible repeat (first | apply Kd.R_alloc | apply Kd.R_drewN | apply Kd.R_drew)); exact Kd.R_mono HO_155003.out (fun _ hk => ⟨hk.2.1, ⟨hk.2.2.1, ⟨hk.2.2.2.1, hk.2.2.2.2⟩⟩⟩))); (case aS => exact (below_size (bw_ HB.out))); (case aL => have := LMc13.out; omega); intro v164 w28 ho hb hg hat; rw [← Ny163.out] at ho; have n0_ := A_ (blk_grown (bk_ BK152.out) hg (Kd.R_away HO_155003.out (fun _ hk => hk.2.1))); have n1_ := A_ (blk_grown (bk_ BK153.out) hg (Kd.R_away HO_155003.out (fun _ hk => hk.2.2.1))); have n2_ := A_ (blk_grown (bk_ BK154.out) hg (Kd.R_away HO_155003.out (fun _ hk => hk.2.2.2.1))); have n3_ := A_ (blk_grown (bk_ BK162.out) hg (Kd.R_away HO_155003.out (fun _ hk => hk.2.2.2.2))); have n4_ := A_ (hb); have n5_ := A_ (ho); clear BK152; clear BK153; clear BK154; clear BK162; clear HB; clear HO_155003; clear HO161; have BK152 := n0_; have BK153 := n1_; have BK154 := n2_; have BK162 := n3_; have HB := n4_; have HO165 := n5_; clear n0_ n1_ n2_ n3_ n4_ n5_; clear ho hb hg hat; obtain ⟨Ao29, co29, eo29⟩ := Kd.R_slice HO165.out; subst eo29; have y30_0 : w28.cell? ⟨gb154, 0, none⟩ = some (.int .i64 a0_0) := (blk_cell BK154.out 0).trans rfl; have y30_1 : w28.cell? ⟨gb154, 1, none⟩ = some (.int .i64 a0_1) := (blk_cell BK154.out 1).trans rfl; have y30_2 : w28.cell? ⟨gb154, 2, none⟩ = some (.string a0_2) := (blk_cell BK154.out 2).trans rfl; have y30_3 : w28.cell? ⟨gb154, 3, none⟩ = some (u155003) := (blk_cell BK154.out 3).trans rfl; have z30_0 := blk_frozen BK154.out 0; have z30_1 := blk_frozen BK154.out 1; have z30_2 := blk_frozen BK154.out 2; have z30_3 := blk_frozen BK154.out 3))
      go_roundg k1
      case measure => have := HK1.out; omega
      case rel => exact ⟨(wrap64 (x4_1 + 1)), (y163), (.slice Ao29 y163.length co29), (by first | rfl | (simp; done) | (simp [*]; done) | (simp [wrap64]; done)), H', ⟨by have := HK1.out; omega⟩, ⟨by (with_reducible repeat (first | apply Kd.R_alloc | apply Kd.R_drewN | apply Kd.R_drew)); exact Kd.R_mono (Kd.R_far (p := ⟨gb154, 3, none⟩) (Kd.R_mono HO165.out (fun k_ hk => (⟨hk, hk.2.2.1⟩ : _ ∧ k_ ≠ gb154))) (fun _ hk => hk.2) (.slice Ao29 y163.length co29)) (fun _ hk => ⟨hk.1.1, ⟨hk.1.2.1, hk.1.2.2.1⟩⟩)⟩, ⟨by refine bk_ ?_; refine blk_far ?_ NB152_154.out _; refine bk_ ?_; exact BK152.out⟩, ⟨by refine bk_ ?_; refine blk_far ?_ NB153_154.out _; refine bk_ ?_; exact BK153.out⟩, ⟨by refine bk_ ?_; refine blk_put (cs := #[.int .i64 a0_0, .int .i64 a0_1, .string a0_2, u155003]) ?_ 3 _ rfl; refine bk_ ?_; exact BK154.out⟩, ⟨bw_ HB.out⟩⟩
     ·rw [if_neg c13] at H
      exact absurd H (by simp)
    ·rw [if_neg c11] at H
     exact absurd H (by simp)
   ·rw [if_neg c10] at H
    have c10b0 := decide_eq_false c10
    clear c10
    simp only [Option.some.injEq, Prod.mk.injEq] at H
    obtain ⟨rfl, rfl, rfl, rfl⟩ := H
    have hnb31 := NB152_153.out
    have hnc31 := NB153_152.out
    have hnb32 := NB152_154.out
    have hnc32 := NB154_152.out
    obtain ⟨y33_0, y33_1, y33_2, y33_3, z33_0, z33_1, z33_2, z33_3⟩ := cz4_ BK152.out
    have hnb34 := NB154_153.out
    have hnc34 := NB153_154.out
    obtain ⟨y35_0, y35_1, y35_2, y35_3, z35_0, z35_1, z35_2, z35_3⟩ := cz4_ BK154.out
    obtain ⟨y36_0, y36_1, y36_2, y36_3, z36_0, z36_1, z36_2, z36_3⟩ := cz4_ BK153.out
    obtain ⟨Ao37, co37, eo37⟩ := Kd.R_slice HO_155003.out
    subst eo37
    go_wp2
    refine bodyPost_ret (results_cell_row rfl _ _ gb153 29 #[.int .i64 a0_0, .int .i64 a0_1, .string a0_2, .slice Ao37 x155003_1.length co37] (0, 0) _ rfl ?hb_ Try.underlying29 rfl (by kernel_rfl)) rfl ?_
    (case hb_ => refine bk_ ?_; refine blk_put (cs := #[.int .i64 a0_0, .int .i64 a0_1, .string a0_2, .slice none 0 0]) ?_ 3 _ rfl; refine bk_ ?_; refine blk_put (cs := #[.int .i64 a0_0, .int .i64 a0_1, .string (⟨#[]⟩ : ByteArray), .slice none 0 0]) ?_ 2 _ rfl; refine bk_ ?_; refine blk_put (cs := #[.int .i64 a0_0, .int .i64 0, .string (⟨#[]⟩ : ByteArray), .slice none 0 0]) ?_ 1 _ rfl; refine bk_ ?_; refine blk_put (cs := #[.int .i64 0, .int .i64 0, .string (⟨#[]⟩ : ByteArray), .slice none 0 0]) ?_ 0 _ rfl; refine bk_ ?_; exact BK153.out)
    exact ⟨_, by first | rfl | (simp [errW_none, errW_some] <;> rfl) | (simp [*, errW_none, errW_some] <;> rfl), by (with_reducible repeat (first | apply Kd.R_alloc | apply Kd.R_drewN | apply Kd.R_drew)); exact Kd.R_mono (Kd.R_far (p := ⟨gb153, 3, none⟩) (Kd.R_far (p := ⟨gb153, 2, none⟩) (Kd.R_far (p := ⟨gb153, 1, none⟩) (Kd.R_far (p := ⟨gb153, 0, none⟩) (Kd.R_mono HO_155003.out (fun k_ hk => (⟨hk, hk.2.1⟩ : _ ∧ k_ ≠ gb153))) (fun _ hk => hk.2) (.int .i64 a0_0)) (fun _ hk => hk.2) (.int .i64 a0_1)) (fun _ hk => hk.2) (.string a0_2)) (fun _ hk => hk.2) (.slice Ao37 x155003_1.length co37)) (fun _ hk => trivial), bw_ HB.out⟩

/-! ### spec_Wrap: function 73 -/
def spec_Wrap.f (a0 : Int) : Option (Int) := some (Go.bits .and .i64 a0 65535)
set_option maxHeartbeats 8000000 in
set_option maxRecDepth 100000 in
theorem spec_Wrap.calls (a0 : Int) (r : Int) (w : World) (h : spec_Wrap.f a0 = some r) :
  Calls Try.prog 73 #[.int .i64 a0] w fun e w' => e = .returned (.int .i64 r) ∧ Drawn0 w w' := by
 have H : (some (Go.bits .and .i64 a0 65535)) = some r := h
 clear h
 obtain rfl := Option.some.inj H
 go_enter Try.func73, Try.ntmps73
 go_wp2
 go_ret
 exact ⟨by first | rfl | (simp; done) | (simp [*]; done), by repeat (first | exact Drawn0.refl _ | apply Drawn0.step)⟩

/-! ### spec_l11Two: function 75 -/
def spec_l11Two.f (a0 : Int) (a1 : Int) (a2 : Int) : Option (Int × Bool) := if a0 = 5 then ((spec_Wrap.f (wrap64 (a1 + a2))).bind fun t166 => (some (t166, true))) else (if a0 = 6 then ((spec_Wrap.f (wrap64 (a1 - a2))).bind fun t167 => (some (t167, true))) else (if a0 = 7 then ((spec_Wrap.f (wrap64 (a1 * a2))).bind fun t168 => (some (t168, true))) else (if a0 = 9 then (some (Go.bits .and .i64 a1 a2, true)) else (if a0 = 10 then (some (Go.bits .or .i64 a1 a2, true)) else (if a2 = 0 then (some (0, false)) else (some (wrap64 (Int.tdiv a1 a2), true)))))))
set_option maxHeartbeats 8000000 in
set_option maxRecDepth 100000 in
theorem spec_l11Two.calls (a0 : Int) (a1 : Int) (a2 : Int) (r1 : Int) (r2 : Bool) (w : World) (h : spec_l11Two.f a0 a1 a2 = some (r1, r2)) :
  Calls Try.prog 75 #[.int .i64 a0, .int .i64 a1, .int .i64 a2] w fun e w' => e = .returned (.tuple #[.int .i64 r1, .bool r2]) ∧ Drawn0 w w' := by
 have H : (if a0 = 5 then ((spec_Wrap.f (wrap64 (a1 + a2))).bind fun t166 => (some (t166, true))) else (if a0 = 6 then ((spec_Wrap.f (wrap64 (a1 - a2))).bind fun t167 => (some (t167, true))) else (if a0 = 7 then ((spec_Wrap.f (wrap64 (a1 * a2))).bind fun t168 => (some (t168, true))) else (if a0 = 9 then (some (Go.bits .and .i64 a1 a2, true)) else (if a0 = 10 then (some (Go.bits .or .i64 a1 a2, true)) else (if a2 = 0 then (some (0, false)) else (some (wrap64 (Int.tdiv a1 a2), true)))))))) = some (r1, r2) := h
 clear h
 by_cases c4 : a0 = 5
 ·rw [if_pos c4] at H
  have c4b0 := beq_iff_eq.mpr c4
  have c4b1 := bne_eq_false_iff_eq.mpr c4
  clear c4
  replace H := Option.bind_eq_some_iff.mp H
  obtain ⟨t166, A50, H⟩ := H
  try dsimp only at H
  have A5 := A_ A50
  clear A50
  simp only [Option.some.injEq, Prod.mk.injEq] at H
  obtain ⟨rfl, rfl⟩ := H
  go_enter Try.func75, Try.ntmps75
  go_wp2_with (first | ((with_reducible refine gate_callee (f := 73) rfl ?_); refine gL_ (some 14) Try.func73 #[.int .i64 (wrap64 (a1 + a2))] ?_; (with_reducible refine (spec_Wrap.calls (wrap64 (a1 + a2)) t166 _ A5.out).mono ?_); rintro e w' ⟨rfl, ⟨nd, rfl⟩⟩; refine ⟨_, rfl, ?_⟩))
  go_ret2
  exact ⟨by first | rfl | (simp; done) | (simp [*]; done), by repeat (first | exact Drawn0.refl _ | apply Drawn0.step)⟩
 ·rw [if_neg c4] at H
  have c4b0 := beq_eq_false_iff_ne.mpr c4
  have c4b1 := bne_iff_ne.mpr c4
  by_cases c6 : a0 = 6
  ·rw [if_pos c6] at H
   have c6b0 := beq_iff_eq.mpr c6
   have c6b1 := bne_eq_false_iff_eq.mpr c6
   clear c6
   replace H := Option.bind_eq_some_iff.mp H
   obtain ⟨t167, A70, H⟩ := H
   try dsimp only at H
   have A7 := A_ A70
   clear A70
   simp only [Option.some.injEq, Prod.mk.injEq] at H
   obtain ⟨rfl, rfl⟩ := H
   go_enter Try.func75, Try.ntmps75
   go_wp2_with (first | ((with_reducible refine gate_callee (f := 73) rfl ?_); refine gL_ (some 20) Try.func73 #[.int .i64 (wrap64 (a1 - a2))] ?_; (with_reducible refine (spec_Wrap.calls (wrap64 (a1 - a2)) t167 _ A7.out).mono ?_); rintro e w' ⟨rfl, ⟨nd, rfl⟩⟩; refine ⟨_, rfl, ?_⟩))
   go_ret2
   exact ⟨by first | rfl | (simp; done) | (simp [*]; done), by repeat (first | exact Drawn0.refl _ | apply Drawn0.step)⟩
  ·rw [if_neg c6] at H
   have c6b0 := beq_eq_false_iff_ne.mpr c6
   have c6b1 := bne_iff_ne.mpr c6
   by_cases c8 : a0 = 7
   ·rw [if_pos c8] at H
    have c8b0 := beq_iff_eq.mpr c8
    have c8b1 := bne_eq_false_iff_eq.mpr c8
    clear c8
    replace H := Option.bind_eq_some_iff.mp H
    obtain ⟨t168, A90, H⟩ := H
    try dsimp only at H
    have A9 := A_ A90
    clear A90
    simp only [Option.some.injEq, Prod.mk.injEq] at H
    obtain ⟨rfl, rfl⟩ := H
    go_enter Try.func75, Try.ntmps75
    go_wp2_with (first | ((with_reducible refine gate_callee (f := 73) rfl ?_); refine gL_ (some 26) Try.func73 #[.int .i64 (wrap64 (a1 * a2))] ?_; (with_reducible refine (spec_Wrap.calls (wrap64 (a1 * a2)) t168 _ A9.out).mono ?_); rintro e w' ⟨rfl, ⟨nd, rfl⟩⟩; refine ⟨_, rfl, ?_⟩))
    go_ret2
    exact ⟨by first | rfl | (simp; done) | (simp [*]; done), by repeat (first | exact Drawn0.refl _ | apply Drawn0.step)⟩
   ·rw [if_neg c8] at H
    have c8b0 := beq_eq_false_iff_ne.mpr c8
    have c8b1 := bne_iff_ne.mpr c8
    by_cases c10 : a0 = 9
    ·rw [if_pos c10] at H
     have c10b0 := beq_iff_eq.mpr c10
     have c10b1 := bne_eq_false_iff_eq.mpr c10
     clear c10
     simp only [Option.some.injEq, Prod.mk.injEq] at H
     obtain ⟨rfl, rfl⟩ := H
     go_enter Try.func75, Try.ntmps75
     go_wp2
     go_ret2
     exact ⟨by first | rfl | (simp; done) | (simp [*]; done), by repeat (first | exact Drawn0.refl _ | apply Drawn0.step)⟩
    ·rw [if_neg c10] at H
     have c10b0 := beq_eq_false_iff_ne.mpr c10
     have c10b1 := bne_iff_ne.mpr c10
     by_cases c11 : a0 = 10
     ·rw [if_pos c11] at H
      have c11b0 := beq_iff_eq.mpr c11
      have c11b1 := bne_eq_false_iff_eq.mpr c11
      clear c11
      simp only [Option.some.injEq, Prod.mk.injEq] at H
      obtain ⟨rfl, rfl⟩ := H
      go_enter Try.func75, Try.ntmps75
      go_wp2
      go_ret2
      exact ⟨by first | rfl | (simp; done) | (simp [*]; done), by repeat (first | exact Drawn0.refl _ | apply Drawn0.step)⟩
     ·rw [if_neg c11] at H
      have c11b0 := beq_eq_false_iff_ne.mpr c11
      have c11b1 := bne_iff_ne.mpr c11
      by_cases c12 : a2 = 0
      ·rw [if_pos c12] at H
       have c12b0 := beq_iff_eq.mpr c12
       have c12b1 := bne_eq_false_iff_eq.mpr c12
       clear c12
       simp only [Option.some.injEq, Prod.mk.injEq] at H
       obtain ⟨rfl, rfl⟩ := H
       go_enter Try.func75, Try.ntmps75
       go_wp2
       go_ret2
       exact ⟨by first | rfl | (simp; done) | (simp [*]; done), by repeat (first | exact Drawn0.refl _ | apply Drawn0.step)⟩
      ·rw [if_neg c12] at H
       have c12b0 := beq_eq_false_iff_ne.mpr c12
       have c12b1 := bne_iff_ne.mpr c12
       simp only [Option.some.injEq, Prod.mk.injEq] at H
       obtain ⟨rfl, rfl⟩ := H
       go_enter Try.func75, Try.ntmps75
       go_wp2
       go_ret2
       exact ⟨by first | rfl | (simp; done) | (simp [*]; done), by repeat (first | exact Drawn0.refl _ | apply Drawn0.step)⟩

/-! ### spec_l10Num: function 79 -/
def spec_l10Num.f (a0 : Int) : Option (Int × Int × ByteArray × (List (S29))) := (spec_Wrap.f a0).bind fun t170 => (some (1, t170, (⟨#[]⟩ : ByteArray), ([] : List (S29))))
set_option maxHeartbeats 8000000 in
set_option maxRecDepth 100000 in
theorem spec_l10Num.calls (a0 : Int) (r1 : Int) (r2 : Int) (r3 : ByteArray) (r4 : List (S29)) (w : World) (h : spec_l10Num.f a0 = some (r1, r2, r3, r4)) :
  Calls Try.prog 79 #[.int .i64 a0] w fun e w' => ∃ v3_ : Value, e = .returned (.agg #[.int .i64 r1, .int .i64 r2, .string r3, v3_]) ∧ Kd.R k29 29 w' w.heap.size (fun _ => True) v3_ r4 ∧ Below w.heap.size w w' := by
 have hu29 := Try.underlying29
 have HB := A_ (Below.refl w.heap.size w)
 have H : ((spec_Wrap.f a0).bind fun t170 => (some (1, t170, (⟨#[]⟩ : ByteArray), ([] : List (S29))))) = some (r1, r2, r3, r4) := h
 clear h
 replace H := Option.bind_eq_some_iff.mp H
 obtain ⟨t170, A20, H⟩ := H
 try dsimp only at H
 have A2 := A_ A20
 clear A20
 simp only [Option.some.injEq, Prod.mk.injEq] at H
 obtain ⟨rfl, rfl, rfl, rfl⟩ := H
 go_enter Try.func79, Try.ntmps79
 go_wp2_with (first | ((with_reducible refine gate_dst (N := 2) rfl ?_); refine box_event ?hg (N := 2) ?hd (cs := #[.int .i64 0, .int .i64 0, .string (⟨#[]⟩ : ByteArray), .slice none 0 0]) (t := 29) ?hr ?_; (case hd => rfl); (case hg => rfl); (case hr => first | (go_simp; done) | (go_simp; rfl)); intro gb169 hg w3 hbox hb; have n0_ := A_ (below_step (bw_ HB.out) hb); have n1_ := A_ (hbox); have n2_ := A_ ((by rw [hg]; exact (below_size (bw_ HB.out)) : w.heap.size ≤ gb169)); have n3_ := n2_; clear HB; have HB := n0_; have BK169 := n1_; have GW169 := n2_; have GE169 := n3_; have GI169 := GeI.mk GE169.out; clear n0_ n1_ n2_ n3_; clear hb hbox hg) | ((with_reducible refine gate_callee (f := 73) rfl ?_); refine gL_ (some 4) Try.func73 #[.int .i64 a0] ?_; (with_reducible refine (spec_Wrap.calls a0 t170 _ A2.out).mono ?_); rintro e w' ⟨rfl, ⟨nd, rfl⟩⟩; refine ⟨_, rfl, ?_⟩; (try (rw [drewN_self w3]; generalize hq_ : World.drewN w3 _ = w3; have n0_ : Aside0 (w3.heap[gb169]? = some (.cells #[.int .i64 0, .int .i64 0, .string (⟨#[]⟩ : ByteArray), .slice none 0 0] 29 (0, 0))) := ⟨by rw [← hq_]; exact (bk_ BK169.out)⟩; have n1_ : Aside0 (Below w.heap.size w w3) := ⟨by rw [← hq_]; exact (bw_ HB.out)⟩; clear BK169 HB hq_; have BK169 := n0_; have HB := n1_; clear n0_ n1_)); have y4_0 : w3.cell? ⟨gb169, 0, none⟩ = some (.int .i64 0) := (blk_cell BK169.out 0).trans rfl; have y4_1 : w3.cell? ⟨gb169, 1, none⟩ = some (.int .i64 0) := (blk_cell BK169.out 1).trans rfl; have y4_2 : w3.cell? ⟨gb169, 2, none⟩ = some (.string (⟨#[]⟩ : ByteArray)) := (blk_cell BK169.out 2).trans rfl; have y4_3 : w3.cell? ⟨gb169, 3, none⟩ = some (.slice none 0 0) := (blk_cell BK169.out 3).trans rfl; have z4_0 := blk_frozen BK169.out 0; have z4_1 := blk_frozen BK169.out 1; have z4_2 := blk_frozen BK169.out 2; have z4_3 := blk_frozen BK169.out 3))
 refine bodyPost_ret (results_cell_row rfl _ _ gb169 29 #[.int .i64 1, .int .i64 t170, .string (⟨#[]⟩ : ByteArray), .slice none 0 0] (0, 0) _ rfl ?hb_ Try.underlying29 rfl (by kernel_rfl)) rfl ?_
 (case hb_ => refine bk_ ?_; refine blk_put (cs := #[.int .i64 1, .int .i64 t170, .string (⟨#[]⟩ : ByteArray), .slice none 0 0]) ?_ 3 _ rfl; refine bk_ ?_; refine blk_put (cs := #[.int .i64 1, .int .i64 t170, .string (⟨#[]⟩ : ByteArray), .slice none 0 0]) ?_ 2 _ rfl; refine bk_ ?_; refine blk_put (cs := #[.int .i64 1, .int .i64 0, .string (⟨#[]⟩ : ByteArray), .slice none 0 0]) ?_ 1 _ rfl; refine bk_ ?_; refine blk_put (cs := #[.int .i64 0, .int .i64 0, .string (⟨#[]⟩ : ByteArray), .slice none 0 0]) ?_ 0 _ rfl; refine bk_ ?_; exact BK169.out)
 exact ⟨_, by first | rfl | (simp [errW_none, errW_some] <;> rfl) | (simp [*, errW_none, errW_some] <;> rfl), by first | exact Kd.R_nil _ _ _ _ _ | exact Kd.N_nil _ _ _ _ _ | exact Kd.V_nil _ _ _ _ _ | exact Kd.Q_nil _ _ _ _ _ | exact Kd.S_nil _ _ _ _ _, bw_ HB.out⟩

/-! ### spec_l11Part: function 90 -/
def spec_l11Part.f (a0_0 : Int) (a0_1 : Int) (a0_2 : ByteArray) (l0_3 : List (S29)) : Option (Int × Int × ByteArray × (List (S29)) × Int) := if a0_0 = 5 then (if 1 < (l0_3.length : Int) then (if ((rd_T29 l0_3 1).f0) = 1 then (if 0 < (l0_3.length : Int) then (some ((rd_T29 l0_3 0).f0, (rd_T29 l0_3 0).f1, (rd_T29 l0_3 0).f2, (rd_T29 l0_3 0).f3, (rd_T29 l0_3 1).f1)) else (none)) else (some (a0_0, a0_1, a0_2, l0_3, 0))) else (none)) else (some (a0_0, a0_1, a0_2, l0_3, 0))
def spec_l11Part.T2 : Bool × List (List Nat × List Nat) := (true, [([], []), ([0], [0]), ([1], [1]), ([2], [2]), ([], []), ([4], [4]), ([5], [5]), ([6], [6]), ([7], [7]), ([3, 0, 1, 2, 3], [3]), ([8, 9, 0, 1, 2, 3, 4, 5, 6, 7, 8, 9], [8])])
def spec_l11Part.B2 : List Nat := [0, 1, 3, 7, 0, 16, 48, 112, 240, 15, 1023]
theorem spec_l11Part.tab2 : rtab .any (opsOf Try.f90 2) = spec_l11Part.T2 := by kernel_rfl
theorem spec_l11Part.bits2 : waitsOk spec_l11Part.T2.2 spec_l11Part.B2 = true := by kernel_rfl
set_option maxHeartbeats 8000000 in
set_option maxRecDepth 100000 in
theorem spec_l11Part.calls (a0_0 : Int) (a0_1 : Int) (a0_2 : ByteArray) (P0_3_ : Nat → Prop) (A0_3 : Option Addr) (c0_3 : Nat) (l0_3 : List (S29)) (r1 : Int) (r2 : Int) (r3 : ByteArray) (r4 : List (S29)) (r5 : Int) (w : World) (hs0_3 : Kd.V k29 29 w w.heap.size (fun k_ => P0_3_ k_) (.slice A0_3 l0_3.length c0_3) l0_3) (h : spec_l11Part.f a0_0 a0_1 a0_2 l0_3 = some (r1, r2, r3, r4, r5)) :
  Calls Try.prog 90 #[.agg #[.int .i64 a0_0, .int .i64 a0_1, .string a0_2, .slice A0_3 l0_3.length c0_3]] w fun e w' => ∃ v3_ : Value, e = .returned (.tuple #[.agg #[.int .i64 r1, .int .i64 r2, .string r3, v3_], .int .i64 r5]) ∧ Kd.V k29 29 w' w.heap.size (fun k_ => (P0_3_ k_ ∨ w.heap.size ≤ k_)) v3_ r4 ∧ Below w.heap.size w w' := by
 have hu29 := Try.underlying29
 have HO0_3 := A_ (show Kd.V k29 29 w w.heap.size (fun k_ => (P0_3_ k_ ∨ w.heap.size ≤ k_)) (.slice A0_3 l0_3.length c0_3) l0_3 from Kd.V_mono hs0_3 (fun k_ hk => .inl hk))
 have HB := A_ (Below.refl w.heap.size w)
 have H : (if a0_0 = 5 then (if 1 < (l0_3.length : Int) then (if ((rd_T29 l0_3 1).f0) = 1 then (if 0 < (l0_3.length : Int) then (some ((rd_T29 l0_3 0).f0, (rd_T29 l0_3 0).f1, (rd_T29 l0_3 0).f2, (rd_T29 l0_3 0).f3, (rd_T29 l0_3 1).f1)) else (none)) else (some (a0_0, a0_1, a0_2, l0_3, 0))) else (none)) else (some (a0_0, a0_1, a0_2, l0_3, 0))) = some (r1, r2, r3, r4, r5) := h
 clear h
 by_cases c2 : a0_0 = 5
 ·rw [if_pos c2] at H
  have c2b0 := beq_iff_eq.mpr c2
  have c2b1 := bne_eq_false_iff_eq.mpr c2
  clear c2
  by_cases c3 : 1 < (l0_3.length : Int)
  ·rw [if_pos c3] at H
   have c3b0 := decide_eq_true c3
   have c3b1 : decide (1 < l0_3.length) = true := decide_eq_true (by omega)
   clear c3
   by_cases c4 : ((rd_T29 l0_3 1).f0) = 1
   ·rw [if_pos c4] at H
    have c4b0 := beq_iff_eq.mpr c4
    have c4b1 := bne_eq_false_iff_eq.mpr c4
    clear c4
    by_cases c5 : 0 < (l0_3.length : Int)
    ·rw [if_pos c5] at H
     have c5b0 := decide_eq_true c5
     have c5b1 : decide (0 < l0_3.length) = true := decide_eq_true (by omega)
     clear c5
     simp only [Option.some.injEq, Prod.mk.injEq] at H
     obtain ⟨rfl, rfl, rfl, rfl, rfl⟩ := H
     go_enter Try.func90, Try.ntmps90
     try go_wp2_with (first | ((with_reducible refine gate_dst (N := 1) rfl ?_); refine box_event ?hg (N := 1) ?hd (cs := #[.int .i64 a0_0, .int .i64 a0_1, .string a0_2, .slice A0_3 l0_3.length c0_3]) (t := 29) ?hr ?_; (case hd => rfl); (case hg => rfl); (case hr => first | (go_simp; done) | (go_simp; rfl)); intro gb171 hg w6 hbox hb; have n0_ := A_ (Kd.V_below (Kd.V_elderB (kv_ HO0_3.out) gb171 (Nat.le_of_eq hg.symm)) hb); have n1_ := A_ (below_step (bw_ HB.out) hb); have n2_ := A_ (hbox); have n3_ := A_ ((by rw [hg]; exact (below_size (bw_ HB.out)) : w.heap.size ≤ gb171)); have n4_ := n3_; clear HO0_3; clear HB; have HO0_3 := n0_; have HB := n1_; have BK171 := n2_; have GW171 := n3_; have GE171 := n4_; have GI171 := GeI.mk GE171.out; clear n0_ n1_ n2_ n3_ n4_; clear hb hbox hg) | ((with_reducible refine gate_dst (N := 2) rfl ?_); refine box_event ?hg (N := 2) ?hd (cs := #[.int .i64 0, .int .i64 0, .string (⟨#[]⟩ : ByteArray), .slice none 0 0]) (t := 29) ?hr ?_; (case hd => rfl); (case hg => rfl); (case hr => first | (go_simp; done) | (go_simp; rfl)); intro gb172 hg w7 hbox hb; have n0_ := A_ (Kd.V_below (Kd.V_elderB (kv_ HO0_3.out) gb172 (Nat.le_of_eq hg.symm)) hb); have n1_ := A_ (blk_below (bk_ BK171.out) hb); have n2_ := A_ (below_step (bw_ HB.out) hb); have n3_ := A_ (hbox); have n4_ := A_ ((by rw [hg]; exact (below_size (bw_ HB.out)) : w.heap.size ≤ gb172)); have n5_ := n4_; have n6_ := A_ ((by rw [hg]; exact Nat.ne_of_lt (blk_lt (bk_ BK171.out)) : gb171 ≠ gb172)); have n7_ := A_ n6_.out.symm; clear HO0_3; clear BK171; clear HB; have HO0_3 := n0_; have BK171 := n1_; have HB := n2_; have BK172 := n3_; have GW172 := n4_; have GE172 := n5_; have GI172 := GeI.mk GE172.out; have NB171_172 := n6_; have NB172_171 := n7_; clear n0_ n1_ n2_ n3_ n4_ n5_ n6_ n7_; clear hb hbox hg; have hnb8 := NB171_172.out; have hnc8 := NB172_171.out; have y9_0 : w7.cell? ⟨gb171, 0, none⟩ = some (.int .i64 a0_0) := (blk_cell BK171.out 0).trans rfl; have y9_1 : w7.cell? ⟨gb171, 1, none⟩ = some (.int .i64 a0_1) := (blk_cell BK171.out 1).trans rfl; have y9_2 : w7.cell? ⟨gb171, 2, none⟩ = some (.string a0_2) := (blk_cell BK171.out 2).trans rfl; have y9_3 : w7.cell? ⟨gb171, 3, none⟩ = some (.slice A0_3 l0_3.length c0_3) := (blk_cell BK171.out 3).trans rfl; have z9_0 := blk_frozen BK171.out 0; have z9_1 := blk_frozen BK171.out 1; have z9_2 := blk_frozen BK171.out 2; have z9_3 := blk_frozen BK171.out 3; have p173 : 0 ≤ (1 : Int) := (by omega); have q173 : 1 < (l0_3.length : Int) := of_decide_eq_true (by first | (with_reducible assumption) | assumption); obtain ⟨ad173, A173_3, c173_3, e173, hx173_0, hx173_1, hx173_2, hx173_3, hl173_3, hi173_3⟩ := at_T29 (Kd.V_reads' HO0_3.out).2.2 1 p173 q173; cases e173; obtain ⟨ce173, hce173, hMe173, hcc173⟩ := Kd.V_get HO0_3.out z29 1 p173 (by first | exact q173 | exact of_decide_eq_true (by first | (with_reducible assumption) | assumption) | (have e_ := (Kd.V_reads' HO0_3.out).1; omega)); obtain ⟨ua173_3, uc173_3, rfl, ul173_3, ge173_3⟩ := k29_openF hMe173; have hv173_3 := hcc173 3 _ rfl; rw [add_field _ _ 3 (by omega)] at hv173_3; replace hv173_3 := Option.some.inj (hv173_3.symm.trans hx173_3); injection hv173_3 with hva_ hvn_ hvc_; rw [hva_] at ge173_3; rw [hvc_] at ul173_3; have HL173_3 := A_ (show Kd.V k29 29 _ w.heap.size _ _ ((rd_T29 l0_3 1).f3) from Kd.V_mk ul173_3 ge173_3); clear hva_ hvn_ hvc_ ge173_3 ul173_3; clear hcc173 hce173; (try simp only [show (1 : Int).toNat = 1 from rfl, Nat.reduceMul, Nat.reduceEqDiff, Go.Addr.add, ↓reduceIte] at hx173_0); (try simp only [show (1 : Int).toNat = 1 from rfl, Nat.reduceMul, Nat.reduceEqDiff, Go.Addr.add, ↓reduceIte] at hx173_1); (try simp only [show (1 : Int).toNat = 1 from rfl, Nat.reduceMul, Nat.reduceEqDiff, Go.Addr.add, ↓reduceIte] at hx173_2); (try simp only [show (1 : Int).toNat = 1 from rfl, Nat.reduceMul, Nat.reduceEqDiff, Go.Addr.add, ↓reduceIte] at hx173_3); have qi173 : (1 < l0_3.length) = True := eq_true (by omega); (try rw [show ((1 : Int)).toNat = 1 from rfl] at hx173_0); (try rw [show 1 * 4 = 4 from rfl] at hx173_0); (try rw [show ((1 : Int)).toNat = 1 from rfl] at hx173_1); (try rw [show 1 * 4 = 4 from rfl] at hx173_1); (try rw [show ((1 : Int)).toNat = 1 from rfl] at hx173_2); (try rw [show 1 * 4 = 4 from rfl] at hx173_2); (try rw [show ((1 : Int)).toNat = 1 from rfl] at hx173_3); (try rw [show 1 * 4 = 4 from rfl] at hx173_3); have HR173_3 := A_ hi173_3; have HC173_3 := A_ hl173_3; clear hi173_3 hl173_3; replace p173 := eq_true p173; replace q173 := eq_true q173))
     have n0_ := A_ (Kd.V_drew HO0_3.out)
     have n1_ := A_ (Kd.V_drew HL173_3.out)
     have n2_ := A_ (blk_drew BK171.out)
     have n3_ := A_ (blk_drew BK172.out)
     have n4_ := A_ (Kd.C_drew HR173_3.out)
     have n5_ := A_ (below_drew1 HB.out)
     clear HO0_3
     clear HL173_3
     clear BK171
     clear BK172
     clear HR173_3
     clear HB
     have HO0_3 := n0_
     have HL173_3 := n1_
     have BK171 := n2_
     have BK172 := n3_
     have HR173_3 := n4_
     have HB := n5_
     clear n0_ n1_ n2_ n3_ n4_ n5_
     have p174 : 0 ≤ (0 : Int) := (by omega)
     have q174 : 0 < (l0_3.length : Int) := of_decide_eq_true (by first | (with_reducible assumption) | assumption)
     obtain ⟨ad174, A174_3, c174_3, e174, hx174_0, hx174_1, hx174_2, hx174_3, hl174_3, hi174_3⟩ := at_T29 (Kd.V_reads' HO0_3.out).2.2 0 p174 q174
     obtain rfl : ad173 = ad174 := (by injection e174)
     obtain ⟨ce174, hce174, hMe174, hcc174⟩ := Kd.V_get HO0_3.out z29 0 p174 (by first | exact q174 | exact of_decide_eq_true (by first | (with_reducible assumption) | assumption) | (have e_ := (Kd.V_reads' HO0_3.out).1; omega))
     obtain ⟨ua174_3, uc174_3, rfl, ul174_3, ge174_3⟩ := k29_openF hMe174
     have hv174_3 := hcc174 3 _ rfl
     rw [add_field _ _ 3 (by omega)] at hv174_3
     replace hv174_3 := Option.some.inj (hv174_3.symm.trans hx174_3)
     injection hv174_3 with hva_ hvn_ hvc_
     rw [hva_] at ge174_3
     rw [hvc_] at ul174_3
     have HL174_3 := A_ (show Kd.V k29 29 _ w.heap.size _ _ ((rd_T29 l0_3 0).f3) from Kd.V_mk ul174_3 ge174_3)
     clear hva_ hvn_ hvc_ ge174_3 ul174_3
     clear hcc174 hce174
     have qi174 : (0 < l0_3.length) = True := eq_true (by omega)
     (try rw [show ((0 : Int)).toNat = 0 from rfl] at hx174_0)
     (try rw [show 0 * 4 = 0 from rfl] at hx174_0)
     (try rw [Addr.add_zero'] at hx174_0)
     (try rw [show ((0 : Int)).toNat = 0 from rfl] at hx174_1)
     (try rw [show 0 * 4 = 0 from rfl] at hx174_1)
     (try rw [Addr.add_zero'] at hx174_1)
     (try rw [show ((0 : Int)).toNat = 0 from rfl] at hx174_2)
     (try rw [show 0 * 4 = 0 from rfl] at hx174_2)
     (try rw [Addr.add_zero'] at hx174_2)
     (try rw [show ((0 : Int)).toNat = 0 from rfl] at hx174_3)
     (try rw [show 0 * 4 = 0 from rfl] at hx174_3)
     (try rw [Addr.add_zero'] at hx174_3)
     have HR174_3 := A_ hi174_3
     have HC174_3 := A_ hl174_3
     clear hi174_3 hl174_3
     replace p174 := eq_true p174
     replace q174 := eq_true q174
     have p175 : 0 ≤ (1 : Int) := (by omega)
     have q175 : 1 < (l0_3.length : Int) := of_decide_eq_true (by first | (with_reducible assumption) | assumption)
     obtain ⟨ad175, A175_3, c175_3, e175, hx175_0, hx175_1, hx175_2, hx175_3, hl175_3, hi175_3⟩ := at_T29 (Kd.V_reads' HO0_3.out).2.2 1 p175 q175
     obtain rfl : ad173 = ad175 := (by injection e175)
     obtain ⟨ce175, hce175, hMe175, hcc175⟩ := Kd.V_get HO0_3.out z29 1 p175 (by first | exact q175 | exact of_decide_eq_true (by first | (with_reducible assumption) | assumption) | (have e_ := (Kd.V_reads' HO0_3.out).1; omega))
     obtain ⟨ua175_3, uc175_3, rfl, ul175_3, ge175_3⟩ := k29_openF hMe175
     have hv175_3 := hcc175 3 _ rfl
     rw [add_field _ _ 3 (by omega)] at hv175_3
     replace hv175_3 := Option.some.inj (hv175_3.symm.trans hx175_3)
     injection hv175_3 with hva_ hvn_ hvc_
     rw [hva_] at ge175_3
     rw [hvc_] at ul175_3
     have HL175_3 := A_ (show Kd.V k29 29 _ w.heap.size _ _ ((rd_T29 l0_3 1).f3) from Kd.V_mk ul175_3 ge175_3)
     clear hva_ hvn_ hvc_ ge175_3 ul175_3
     clear hcc175 hce175
     (try simp only [show (1 : Int).toNat = 1 from rfl, Nat.reduceMul, Nat.reduceEqDiff, Go.Addr.add, ↓reduceIte] at hx175_0)
     (try simp only [show (1 : Int).toNat = 1 from rfl, Nat.reduceMul, Nat.reduceEqDiff, Go.Addr.add, ↓reduceIte] at hx175_1)
     (try simp only [show (1 : Int).toNat = 1 from rfl, Nat.reduceMul, Nat.reduceEqDiff, Go.Addr.add, ↓reduceIte] at hx175_2)
     (try simp only [show (1 : Int).toNat = 1 from rfl, Nat.reduceMul, Nat.reduceEqDiff, Go.Addr.add, ↓reduceIte] at hx175_3)
     have qi175 : (1 < l0_3.length) = True := eq_true (by omega)
     (try rw [show ((1 : Int)).toNat = 1 from rfl] at hx175_0)
     (try rw [show 1 * 4 = 4 from rfl] at hx175_0)
     (try rw [show ((1 : Int)).toNat = 1 from rfl] at hx175_1)
     (try rw [show 1 * 4 = 4 from rfl] at hx175_1)
     (try rw [show ((1 : Int)).toNat = 1 from rfl] at hx175_2)
     (try rw [show 1 * 4 = 4 from rfl] at hx175_2)
     (try rw [show ((1 : Int)).toNat = 1 from rfl] at hx175_3)
     (try rw [show 1 * 4 = 4 from rfl] at hx175_3)
     have HR175_3 := A_ hi175_3
     have HC175_3 := A_ hl175_3
     clear hi175_3 hl175_3
     replace p175 := eq_true p175
     replace q175 := eq_true q175
     refine start_ (n := 11) (S := fun w' => w'.cell? ⟨gb171, 0, none⟩ = some (.int .i64 a0_0) ∧ w'.cell? ⟨gb171, 1, none⟩ = some (.int .i64 a0_1) ∧ w'.cell? ⟨gb171, 2, none⟩ = some (.string a0_2) ∧ w'.cell? ⟨gb171, 3, none⟩ = some (.slice (some ad173) l0_3.length c0_3) ∧ w'.cell? ad173 = some (.int .i64 ((rd_T29 l0_3 0).f0)) ∧ w'.cell? ⟨ad173.block, ad173.off + 1, none⟩ = some (.int .i64 ((rd_T29 l0_3 0).f1)) ∧ w'.cell? ⟨ad173.block, ad173.off + 2, none⟩ = some (.string ((rd_T29 l0_3 0).f2)) ∧ w'.cell? ⟨ad173.block, ad173.off + 3, none⟩ = some (.slice A174_3 ((rd_T29 l0_3 0).f3).length c174_3) ∧ w'.cell? ⟨ad173.block, ad173.off + 4, none⟩ = some (.int .i64 ((rd_T29 l0_3 1).f0)) ∧ w'.cell? ⟨ad173.block, ad173.off + 4 + 1, none⟩ = some (.int .i64 ((rd_T29 l0_3 1).f1)) ∧ w'.cell? ⟨ad173.block, ad173.off + 4 + 2, none⟩ = some (.string ((rd_T29 l0_3 1).f2)) ∧ w'.cell? ⟨ad173.block, ad173.off + 4 + 3, none⟩ = some (.slice A175_3 ((rd_T29 l0_3 1).f3).length c175_3)) (ds := []) #[false, false, false, false, false, false, false, false, false, false, false] (by kernel_rfl) rfl rfl ⟨(blk_cell BK171.out 0).trans rfl, (blk_cell BK171.out 1).trans rfl, (blk_cell BK171.out 2).trans rfl, (blk_cell BK171.out 3).trans rfl, hx174_0, hx174_1, hx174_2, hx174_3, hx175_0, hx175_1, hx175_2, hx175_3⟩ (fun hHeld => ?_); refine with_tabW spec_l11Part.tab2 spec_l11Part.bits2 (fun HT_ HW_ => ?_)
     generalize w7.drew = w10 at HO0_3 HL173_3 BK171 BK172 HR173_3 HB HL174_3 HL175_3 HR174_3 HR175_3 hx174_0 hx174_1 hx174_2 hx174_3 hx175_0 hx175_1 hx175_2 hx175_3 hHeld ⊢
     refine pure_ (i := 0) (N := some 15) (v := ?_) (a' := ?_) #[true, false, false, false, false, false, false, false, false, false, false] rfl rfl (any_of HT_.out (by kernel_rfl)) (fun _ _ _ h => h) (Or.inl ⟨by rfl, ?_⟩) ?_ ?_
     rotate_left
     ·intro w'
      go_simp
      with_reducible rfl
     rotate_left
     ·simp only [Act.put, List.setIfInBounds_toArray, List.set_cons_zero, List.set_cons_succ, i64_w, i32_w]
      rfl
     refine pure_ (i := 4) (N := some 19) (v := ?_) (a' := ?_) #[true, false, false, false, true, false, false, false, false, false, false] rfl rfl (any_of HT_.out (by kernel_rfl)) (fun _ _ _ h => h) (Or.inl ⟨by rfl, ?_⟩) ?_ ?_
     rotate_left
     ·intro w'
      go_simp
      with_reducible rfl
     rotate_left
     ·simp only [Act.put, List.setIfInBounds_toArray, List.set_cons_zero, List.set_cons_succ, i64_w, i32_w]
      rfl
     refine take_ (i := 1) (N := some 16) (v := ?_) (a' := ?_) #[true, true, false, false, true, false, false, false, false, false, false] rfl rfl (take_ofW HT_.out HW_.out (by kernel_rfl)) (fun _ _ _ h => h) (Or.inl ⟨by rfl, ?_⟩) hHeld ?_ ?_
     rotate_left
     ·rintro w' ⟨s0, s1, s2, s3, s4, s5, s6, s7, s8, s9, s10, s11⟩
      go_simp
      with_reducible rfl
     rotate_left
     ·simp only [Act.put, List.setIfInBounds_toArray, List.set_cons_zero, List.set_cons_succ, i64_w, i32_w]
      rfl
     refine pure_ (i := 2) (N := some 17) (v := ?_) (a' := ?_) #[true, true, true, false, true, false, false, false, false, false, false] rfl rfl (any_of HT_.out (by kernel_rfl)) (fun _ _ _ h => h) (Or.inl ⟨by rfl, ?_⟩) ?_ ?_
     rotate_left
     ·intro w'
      go_simp
      with_reducible rfl
     rotate_left
     ·simp only [Act.put, List.setIfInBounds_toArray, List.set_cons_zero, List.set_cons_succ, i64_w, i32_w]
      rfl
     refine take_ (i := 3) (N := some 18) (v := ?_) (a' := ?_) #[true, true, true, true, true, false, false, false, false, false, false] rfl rfl (take_ofW HT_.out HW_.out (by kernel_rfl)) (fun _ _ _ h => h) (Or.inl ⟨by rfl, ?_⟩) hHeld ?_ ?_
     rotate_left
     ·rintro w' ⟨s0, s1, s2, s3, s4, s5, s6, s7, s8, s9, s10, s11⟩
      go_simp
      with_reducible rfl
     rotate_left
     ·simp only [Act.put, List.setIfInBounds_toArray, List.set_cons_zero, List.set_cons_succ, i64_w, i32_w]
      rfl
     refine take_ (i := 5) (N := some 20) (v := ?_) (a' := ?_) #[true, true, true, true, true, true, false, false, false, false, false] rfl rfl (take_ofW HT_.out HW_.out (by kernel_rfl)) (fun _ _ _ h => h) (Or.inl ⟨by rfl, ?_⟩) hHeld ?_ ?_
     rotate_left
     ·rintro w' ⟨s0, s1, s2, s3, s4, s5, s6, s7, s8, s9, s10, s11⟩
      go_simp
      with_reducible rfl
     rotate_left
     ·simp only [Act.put, List.setIfInBounds_toArray, List.set_cons_zero, List.set_cons_succ, i64_w, i32_w]
      rfl
     refine pure_ (i := 6) (N := some 21) (v := ?_) (a' := ?_) #[true, true, true, true, true, true, true, false, false, false, false] rfl rfl (any_of HT_.out (by kernel_rfl)) (fun _ _ _ h => h) (Or.inl ⟨by rfl, ?_⟩) ?_ ?_
     rotate_left
     ·intro w'
      go_simp
      with_reducible rfl
     rotate_left
     ·simp only [Act.put, List.setIfInBounds_toArray, List.set_cons_zero, List.set_cons_succ, i64_w, i32_w]
      rfl
     refine pure_ (i := 7) (N := some 22) (v := ?_) (a' := ?_) #[true, true, true, true, true, true, true, true, false, false, false] rfl rfl (any_of HT_.out (by kernel_rfl)) (fun _ _ _ h => h) (Or.inl ⟨by rfl, ?_⟩) ?_ ?_
     rotate_left
     ·intro w'
      go_simp
      with_reducible rfl
     rotate_left
     ·simp only [Act.put, List.setIfInBounds_toArray, List.set_cons_zero, List.set_cons_succ, i64_w, i32_w]
      rfl
     refine take_ (i := 8) (N := some 23) (v := ?_) (a' := ?_) #[true, true, true, true, true, true, true, true, true, false, false] rfl rfl (take_ofW HT_.out HW_.out (by kernel_rfl)) (fun _ _ _ h => h) (Or.inl ⟨by rfl, ?_⟩) hHeld ?_ ?_
     rotate_left
     ·rintro w' ⟨s0, s1, s2, s3, s4, s5, s6, s7, s8, s9, s10, s11⟩
      go_simp
      with_reducible rfl
     rotate_left
     ·simp only [Act.put, List.setIfInBounds_toArray, List.set_cons_zero, List.set_cons_succ, i64_w, i32_w]
      rfl
     refine one_ (i := 9) (N := none) #[true, true, true, true, true, true, true, true, true, true, false] rfl rfl (one_of HT_.out (by kernel_rfl)) (by decide) (fun K hK => ?_)
     have hs11 : w10.cell? ⟨gb172, 0, none⟩ = some (.int .i64 0) := (blk_cell BK172.out 0).trans rfl
     have hfs11 := blk_frozen BK172.out 0
     have hns11_0 := NB171_172.out
     have hms11_0 := NB172_171.out
     have hs12 : w10.cell? ⟨gb172, 1, none⟩ = some (.int .i64 0) := (blk_cell BK172.out 1).trans rfl
     have hfs12 := blk_frozen BK172.out 1
     have hns12_0 := NB171_172.out
     have hms12_0 := NB172_171.out
     have hs13 : w10.cell? ⟨gb172, 2, none⟩ = some (.string (⟨#[]⟩ : ByteArray)) := (blk_cell BK172.out 2).trans rfl
     have hfs13 := blk_frozen BK172.out 2
     have hns13_0 := NB171_172.out
     have hms13_0 := NB172_171.out
     have hs14 : w10.cell? ⟨gb172, 3, none⟩ = some (.slice none 0 0) := (blk_cell BK172.out 3).trans rfl
     have hfs14 := blk_frozen BK172.out 3
     have hns14_0 := NB171_172.out
     have hms14_0 := NB172_171.out
     refine skip_ (w1 := ?_) (by rfl) rfl ?_ ?_
     rotate_left
     ·go_simp
      rfl
     refine hK.out _ _ ⟨((cell_far (p := ⟨gb172, _, none⟩) NB171_172.out _).trans (((cell_far (p := ⟨gb172, _, none⟩) NB171_172.out _).trans (((cell_far (p := ⟨gb172, _, none⟩) NB171_172.out _).trans (((cell_far (p := ⟨gb172, _, none⟩) NB171_172.out _).trans (hHeld.1)))))))), ((cell_far (p := ⟨gb172, _, none⟩) NB171_172.out _).trans (((cell_far (p := ⟨gb172, _, none⟩) NB171_172.out _).trans (((cell_far (p := ⟨gb172, _, none⟩) NB171_172.out _).trans (((cell_far (p := ⟨gb172, _, none⟩) NB171_172.out _).trans (hHeld.2.1)))))))), ((cell_far (p := ⟨gb172, _, none⟩) NB171_172.out _).trans (((cell_far (p := ⟨gb172, _, none⟩) NB171_172.out _).trans (((cell_far (p := ⟨gb172, _, none⟩) NB171_172.out _).trans (((cell_far (p := ⟨gb172, _, none⟩) NB171_172.out _).trans (hHeld.2.2.1)))))))), ((cell_far (p := ⟨gb172, _, none⟩) NB171_172.out _).trans (((cell_far (p := ⟨gb172, _, none⟩) NB171_172.out _).trans (((cell_far (p := ⟨gb172, _, none⟩) NB171_172.out _).trans (((cell_far (p := ⟨gb172, _, none⟩) NB171_172.out _).trans (hHeld.2.2.2.1)))))))), ((cell_far (p := ⟨gb172, _, none⟩) (by have h_ := awy_ HO0_3.out (fun _ hk => hk.2); first | exact h_.1 | exact h_.2 _) _).trans (((cell_far (p := ⟨gb172, _, none⟩) (by have h_ := awy_ HO0_3.out (fun _ hk => hk.2); first | exact h_.1 | exact h_.2 _) _).trans (((cell_far (p := ⟨gb172, _, none⟩) (by have h_ := awy_ HO0_3.out (fun _ hk => hk.2); first | exact h_.1 | exact h_.2 _) _).trans (((cell_far (p := ⟨gb172, _, none⟩) (by have h_ := awy_ HO0_3.out (fun _ hk => hk.2); first | exact h_.1 | exact h_.2 _) _).trans (hHeld.2.2.2.2.1)))))))), ((cell_far (p := ⟨gb172, _, none⟩) (by have h_ := awy_ HO0_3.out (fun _ hk => hk.2); first | exact h_.1 | exact h_.2 _) _).trans (((cell_far (p := ⟨gb172, _, none⟩) (by have h_ := awy_ HO0_3.out (fun _ hk => hk.2); first | exact h_.1 | exact h_.2 _) _).trans (((cell_far (p := ⟨gb172, _, none⟩) (by have h_ := awy_ HO0_3.out (fun _ hk => hk.2); first | exact h_.1 | exact h_.2 _) _).trans (((cell_far (p := ⟨gb172, _, none⟩) (by have h_ := awy_ HO0_3.out (fun _ hk => hk.2); first | exact h_.1 | exact h_.2 _) _).trans (hHeld.2.2.2.2.2.1)))))))), ((cell_far (p := ⟨gb172, _, none⟩) (by have h_ := awy_ HO0_3.out (fun _ hk => hk.2); first | exact h_.1 | exact h_.2 _) _).trans (((cell_far (p := ⟨gb172, _, none⟩) (by have h_ := awy_ HO0_3.out (fun _ hk => hk.2); first | exact h_.1 | exact h_.2 _) _).trans (((cell_far (p := ⟨gb172, _, none⟩) (by have h_ := awy_ HO0_3.out (fun _ hk => hk.2); first | exact h_.1 | exact h_.2 _) _).trans (((cell_far (p := ⟨gb172, _, none⟩) (by have h_ := awy_ HO0_3.out (fun _ hk => hk.2); first | exact h_.1 | exact h_.2 _) _).trans (hHeld.2.2.2.2.2.2.1)))))))), ((cell_far (p := ⟨gb172, _, none⟩) (by have h_ := awy_ HO0_3.out (fun _ hk => hk.2); first | exact h_.1 | exact h_.2 _) _).trans (((cell_far (p := ⟨gb172, _, none⟩) (by have h_ := awy_ HO0_3.out (fun _ hk => hk.2); first | exact h_.1 | exact h_.2 _) _).trans (((cell_far (p := ⟨gb172, _, none⟩) (by have h_ := awy_ HO0_3.out (fun _ hk => hk.2); first | exact h_.1 | exact h_.2 _) _).trans (((cell_far (p := ⟨gb172, _, none⟩) (by have h_ := awy_ HO0_3.out (fun _ hk => hk.2); first | exact h_.1 | exact h_.2 _) _).trans (hHeld.2.2.2.2.2.2.2.1)))))))), ((cell_far (p := ⟨gb172, _, none⟩) (by have h_ := awy_ HO0_3.out (fun _ hk => hk.2); first | exact h_.1 | exact h_.2 _) _).trans (((cell_far (p := ⟨gb172, _, none⟩) (by have h_ := awy_ HO0_3.out (fun _ hk => hk.2); first | exact h_.1 | exact h_.2 _) _).trans (((cell_far (p := ⟨gb172, _, none⟩) (by have h_ := awy_ HO0_3.out (fun _ hk => hk.2); first | exact h_.1 | exact h_.2 _) _).trans (((cell_far (p := ⟨gb172, _, none⟩) (by have h_ := awy_ HO0_3.out (fun _ hk => hk.2); first | exact h_.1 | exact h_.2 _) _).trans (hHeld.2.2.2.2.2.2.2.2.1)))))))), ((cell_far (p := ⟨gb172, _, none⟩) (by have h_ := awy_ HO0_3.out (fun _ hk => hk.2); first | exact h_.1 | exact h_.2 _) _).trans (((cell_far (p := ⟨gb172, _, none⟩) (by have h_ := awy_ HO0_3.out (fun _ hk => hk.2); first | exact h_.1 | exact h_.2 _) _).trans (((cell_far (p := ⟨gb172, _, none⟩) (by have h_ := awy_ HO0_3.out (fun _ hk => hk.2); first | exact h_.1 | exact h_.2 _) _).trans (((cell_far (p := ⟨gb172, _, none⟩) (by have h_ := awy_ HO0_3.out (fun _ hk => hk.2); first | exact h_.1 | exact h_.2 _) _).trans (hHeld.2.2.2.2.2.2.2.2.2.1)))))))), ((cell_far (p := ⟨gb172, _, none⟩) (by have h_ := awy_ HO0_3.out (fun _ hk => hk.2); first | exact h_.1 | exact h_.2 _) _).trans (((cell_far (p := ⟨gb172, _, none⟩) (by have h_ := awy_ HO0_3.out (fun _ hk => hk.2); first | exact h_.1 | exact h_.2 _) _).trans (((cell_far (p := ⟨gb172, _, none⟩) (by have h_ := awy_ HO0_3.out (fun _ hk => hk.2); first | exact h_.1 | exact h_.2 _) _).trans (((cell_far (p := ⟨gb172, _, none⟩) (by have h_ := awy_ HO0_3.out (fun _ hk => hk.2); first | exact h_.1 | exact h_.2 _) _).trans (hHeld.2.2.2.2.2.2.2.2.2.2.1)))))))), ((cell_far (p := ⟨gb172, _, none⟩) (by have h_ := awy_ HO0_3.out (fun _ hk => hk.2); first | exact h_.1 | exact h_.2 _) _).trans (((cell_far (p := ⟨gb172, _, none⟩) (by have h_ := awy_ HO0_3.out (fun _ hk => hk.2); first | exact h_.1 | exact h_.2 _) _).trans (((cell_far (p := ⟨gb172, _, none⟩) (by have h_ := awy_ HO0_3.out (fun _ hk => hk.2); first | exact h_.1 | exact h_.2 _) _).trans (((cell_far (p := ⟨gb172, _, none⟩) (by have h_ := awy_ HO0_3.out (fun _ hk => hk.2); first | exact h_.1 | exact h_.2 _) _).trans (hHeld.2.2.2.2.2.2.2.2.2.2.2))))))))⟩ (fun hHeld => ?_)
     clear hK K
     refine pure_ (i := 10) (N := some 3) (v := ?_) (a' := ?_) #[true, true, true, true, true, true, true, true, true, true, true] rfl rfl (any_of HT_.out (by kernel_rfl)) (fun _ _ _ h => h) (Or.inl ⟨by rfl, ?_⟩) ?_ ?_
     rotate_left
     ·intro w'
      go_simp
      with_reducible rfl
     rotate_left
     ·simp only [Act.put, List.setIfInBounds_toArray, List.set_cons_zero, List.set_cons_succ, i64_w, i32_w]
      rfl
     refine done_ (done_of HT_.out (by kernel_rfl)) ?_
     try go_wp2
     refine bodyPost_ret (results_ct rfl _ _ gb172 29 #[.int .i64 ((rd_T29 l0_3 0).f0), .int .i64 ((rd_T29 l0_3 0).f1), .string ((rd_T29 l0_3 0).f2), .slice A174_3 ((rd_T29 l0_3 0).f3).length c174_3] (0, 0) _ rfl ?hb_ Try.underlying29 rfl (by kernel_rfl)) rfl ?_
     (case hb_ => refine bk_ ?_; refine blk_put (cs := #[.int .i64 ((rd_T29 l0_3 0).f0), .int .i64 ((rd_T29 l0_3 0).f1), .string ((rd_T29 l0_3 0).f2), .slice none 0 0]) ?_ 3 _ rfl; refine bk_ ?_; refine blk_put (cs := #[.int .i64 ((rd_T29 l0_3 0).f0), .int .i64 ((rd_T29 l0_3 0).f1), .string (⟨#[]⟩ : ByteArray), .slice none 0 0]) ?_ 2 _ rfl; refine bk_ ?_; refine blk_put (cs := #[.int .i64 ((rd_T29 l0_3 0).f0), .int .i64 0, .string (⟨#[]⟩ : ByteArray), .slice none 0 0]) ?_ 1 _ rfl; refine bk_ ?_; refine blk_put (cs := #[.int .i64 0, .int .i64 0, .string (⟨#[]⟩ : ByteArray), .slice none 0 0]) ?_ 0 _ rfl; refine bk_ ?_; exact BK172.out)
     exact ⟨_, by first | rfl | (simp [errW_none, errW_some] <;> rfl) | (simp [*, errW_none, errW_some] <;> rfl), by (with_reducible repeat (first | apply Kd.V_alloc | apply Kd.V_drewN | apply Kd.V_drew)); exact Kd.V_mono (Kd.V_far (p := ⟨gb172, 3, none⟩) (Kd.V_far (p := ⟨gb172, 2, none⟩) (Kd.V_far (p := ⟨gb172, 1, none⟩) (Kd.V_far (p := ⟨gb172, 0, none⟩) (Kd.V_mono HL174_3.out (fun k_ hk => (⟨hk, hk.2⟩ : _ ∧ k_ ≠ gb172))) (fun _ hk => hk.2) (.int .i64 ((rd_T29 l0_3 0).f0))) (fun _ hk => hk.2) (.int .i64 ((rd_T29 l0_3 0).f1))) (fun _ hk => hk.2) (.string ((rd_T29 l0_3 0).f2))) (fun _ hk => hk.2) (.slice A174_3 ((rd_T29 l0_3 0).f3).length c174_3)) (fun _ hk => hk.1.1.1), bw_ HB.out⟩
    ·rw [if_neg c5] at H
     exact absurd H (by simp)
   ·rw [if_neg c4] at H
    have c4b0 := beq_eq_false_iff_ne.mpr c4
    have c4b1 := bne_iff_ne.mpr c4
    simp only [Option.some.injEq, Prod.mk.injEq] at H
    obtain ⟨rfl, rfl, rfl, rfl, rfl⟩ := H
    go_enter Try.func90, Try.ntmps90
    go_wp2_with (first | ((with_reducible refine gate_dst (N := 1) rfl ?_); refine box_event ?hg (N := 1) ?hd (cs := #[.int .i64 a0_0, .int .i64 a0_1, .string a0_2, .slice A0_3 l0_3.length c0_3]) (t := 29) ?hr ?_; (case hd => rfl); (case hg => rfl); (case hr => first | (go_simp; done) | (go_simp; rfl)); intro gb171 hg w15 hbox hb; have n0_ := A_ (Kd.V_below (Kd.V_elderB (kv_ HO0_3.out) gb171 (Nat.le_of_eq hg.symm)) hb); have n1_ := A_ (below_step (bw_ HB.out) hb); have n2_ := A_ (hbox); have n3_ := A_ ((by rw [hg]; exact (below_size (bw_ HB.out)) : w.heap.size ≤ gb171)); have n4_ := n3_; clear HO0_3; clear HB; have HO0_3 := n0_; have HB := n1_; have BK171 := n2_; have GW171 := n3_; have GE171 := n4_; have GI171 := GeI.mk GE171.out; clear n0_ n1_ n2_ n3_ n4_; clear hb hbox hg) | ((with_reducible refine gate_dst (N := 2) rfl ?_); refine box_event ?hg (N := 2) ?hd (cs := #[.int .i64 0, .int .i64 0, .string (⟨#[]⟩ : ByteArray), .slice none 0 0]) (t := 29) ?hr ?_; (case hd => rfl); (case hg => rfl); (case hr => first | (go_simp; done) | (go_simp; rfl)); intro gb172 hg w16 hbox hb; have n0_ := A_ (Kd.V_below (Kd.V_elderB (kv_ HO0_3.out) gb172 (Nat.le_of_eq hg.symm)) hb); have n1_ := A_ (blk_below (bk_ BK171.out) hb); have n2_ := A_ (below_step (bw_ HB.out) hb); have n3_ := A_ (hbox); have n4_ := A_ ((by rw [hg]; exact (below_size (bw_ HB.out)) : w.heap.size ≤ gb172)); have n5_ := n4_; have n6_ := A_ ((by rw [hg]; exact Nat.ne_of_lt (blk_lt (bk_ BK171.out)) : gb171 ≠ gb172)); have n7_ := A_ n6_.out.symm; clear HO0_3; clear BK171; clear HB; have HO0_3 := n0_; have BK171 := n1_; have HB := n2_; have BK172 := n3_; have GW172 := n4_; have GE172 := n5_; have GI172 := GeI.mk GE172.out; have NB171_172 := n6_; have NB172_171 := n7_; clear n0_ n1_ n2_ n3_ n4_ n5_ n6_ n7_; clear hb hbox hg; have hnb17 := NB171_172.out; have hnc17 := NB172_171.out; have y18_0 : w16.cell? ⟨gb171, 0, none⟩ = some (.int .i64 a0_0) := (blk_cell BK171.out 0).trans rfl; have y18_1 : w16.cell? ⟨gb171, 1, none⟩ = some (.int .i64 a0_1) := (blk_cell BK171.out 1).trans rfl; have y18_2 : w16.cell? ⟨gb171, 2, none⟩ = some (.string a0_2) := (blk_cell BK171.out 2).trans rfl; have y18_3 : w16.cell? ⟨gb171, 3, none⟩ = some (.slice A0_3 l0_3.length c0_3) := (blk_cell BK171.out 3).trans rfl; have z18_0 := blk_frozen BK171.out 0; have z18_1 := blk_frozen BK171.out 1; have z18_2 := blk_frozen BK171.out 2; have z18_3 := blk_frozen BK171.out 3; have p173 : 0 ≤ (1 : Int) := (by omega); have q173 : 1 < (l0_3.length : Int) := of_decide_eq_true (by first | (with_reducible assumption) | assumption); obtain ⟨ad173, A173_3, c173_3, e173, hx173_0, hx173_1, hx173_2, hx173_3, hl173_3, hi173_3⟩ := at_T29 (Kd.V_reads' HO0_3.out).2.2 1 p173 q173; cases e173; obtain ⟨ce173, hce173, hMe173, hcc173⟩ := Kd.V_get HO0_3.out z29 1 p173 (by first | exact q173 | exact of_decide_eq_true (by first | (with_reducible assumption) | assumption) | (have e_ := (Kd.V_reads' HO0_3.out).1; omega)); obtain ⟨ua173_3, uc173_3, rfl, ul173_3, ge173_3⟩ := k29_openF hMe173; have hv173_3 := hcc173 3 _ rfl; rw [add_field _ _ 3 (by omega)] at hv173_3; replace hv173_3 := Option.some.inj (hv173_3.symm.trans hx173_3); injection hv173_3 with hva_ hvn_ hvc_; rw [hva_] at ge173_3; rw [hvc_] at ul173_3; have HL173_3 := A_ (show Kd.V k29 29 _ w.heap.size _ _ ((rd_T29 l0_3 1).f3) from Kd.V_mk ul173_3 ge173_3); clear hva_ hvn_ hvc_ ge173_3 ul173_3; clear hcc173 hce173; (try simp only [show (1 : Int).toNat = 1 from rfl, Nat.reduceMul, Nat.reduceEqDiff, Go.Addr.add, ↓reduceIte] at hx173_0); (try simp only [show (1 : Int).toNat = 1 from rfl, Nat.reduceMul, Nat.reduceEqDiff, Go.Addr.add, ↓reduceIte] at hx173_1); (try simp only [show (1 : Int).toNat = 1 from rfl, Nat.reduceMul, Nat.reduceEqDiff, Go.Addr.add, ↓reduceIte] at hx173_2); (try simp only [show (1 : Int).toNat = 1 from rfl, Nat.reduceMul, Nat.reduceEqDiff, Go.Addr.add, ↓reduceIte] at hx173_3); have qi173 : (1 < l0_3.length) = True := eq_true (by omega); (try rw [show ((1 : Int)).toNat = 1 from rfl] at hx173_0); (try rw [show 1 * 4 = 4 from rfl] at hx173_0); (try rw [show ((1 : Int)).toNat = 1 from rfl] at hx173_1); (try rw [show 1 * 4 = 4 from rfl] at hx173_1); (try rw [show ((1 : Int)).toNat = 1 from rfl] at hx173_2); (try rw [show 1 * 4 = 4 from rfl] at hx173_2); (try rw [show ((1 : Int)).toNat = 1 from rfl] at hx173_3); (try rw [show 1 * 4 = 4 from rfl] at hx173_3); have HR173_3 := A_ hi173_3; have HC173_3 := A_ hl173_3; clear hi173_3 hl173_3; replace p173 := eq_true p173; replace q173 := eq_true q173; have y19_0 : w16.cell? ⟨gb172, 0, none⟩ = some (.int .i64 0) := (blk_cell BK172.out 0).trans rfl; have y19_1 : w16.cell? ⟨gb172, 1, none⟩ = some (.int .i64 0) := (blk_cell BK172.out 1).trans rfl; have y19_2 : w16.cell? ⟨gb172, 2, none⟩ = some (.string (⟨#[]⟩ : ByteArray)) := (blk_cell BK172.out 2).trans rfl; have y19_3 : w16.cell? ⟨gb172, 3, none⟩ = some (.slice none 0 0) := (blk_cell BK172.out 3).trans rfl; have z19_0 := blk_frozen BK172.out 0; have z19_1 := blk_frozen BK172.out 1; have z19_2 := blk_frozen BK172.out 2; have z19_3 := blk_frozen BK172.out 3))
    refine bodyPost_ret (results_ct rfl _ _ gb172 29 #[.int .i64 a0_0, .int .i64 a0_1, .string a0_2, .slice (some ad173) l0_3.length c0_3] (0, 0) _ rfl ?hb_ Try.underlying29 rfl (by kernel_rfl)) rfl ?_
    (case hb_ => refine bk_ ?_; refine blk_put (cs := #[.int .i64 a0_0, .int .i64 a0_1, .string a0_2, .slice none 0 0]) ?_ 3 _ rfl; refine bk_ ?_; refine blk_put (cs := #[.int .i64 a0_0, .int .i64 a0_1, .string (⟨#[]⟩ : ByteArray), .slice none 0 0]) ?_ 2 _ rfl; refine bk_ ?_; refine blk_put (cs := #[.int .i64 a0_0, .int .i64 0, .string (⟨#[]⟩ : ByteArray), .slice none 0 0]) ?_ 1 _ rfl; refine bk_ ?_; refine blk_put (cs := #[.int .i64 0, .int .i64 0, .string (⟨#[]⟩ : ByteArray), .slice none 0 0]) ?_ 0 _ rfl; refine bk_ ?_; exact BK172.out)
    exact ⟨_, by first | rfl | (simp [errW_none, errW_some] <;> rfl) | (simp [*, errW_none, errW_some] <;> rfl), by (with_reducible repeat (first | apply Kd.V_alloc | apply Kd.V_drewN | apply Kd.V_drew)); exact Kd.V_mono (Kd.V_far (p := ⟨gb172, 3, none⟩) (Kd.V_far (p := ⟨gb172, 2, none⟩) (Kd.V_far (p := ⟨gb172, 1, none⟩) (Kd.V_far (p := ⟨gb172, 0, none⟩) (Kd.V_mono HO0_3.out (fun k_ hk => (⟨hk, hk.2⟩ : _ ∧ k_ ≠ gb172))) (fun _ hk => hk.2) (.int .i64 a0_0)) (fun _ hk => hk.2) (.int .i64 a0_1)) (fun _ hk => hk.2) (.string a0_2)) (fun _ hk => hk.2) (.slice (some ad173) l0_3.length c0_3)) (fun _ hk => hk.1.1.1), bw_ HB.out⟩
  ·rw [if_neg c3] at H
   exact absurd H (by simp)
 ·rw [if_neg c2] at H
  have c2b0 := beq_eq_false_iff_ne.mpr c2
  have c2b1 := bne_iff_ne.mpr c2
  simp only [Option.some.injEq, Prod.mk.injEq] at H
  obtain ⟨rfl, rfl, rfl, rfl, rfl⟩ := H
  go_enter Try.func90, Try.ntmps90
  go_wp2_with (first | ((with_reducible refine gate_dst (N := 1) rfl ?_); refine box_event ?hg (N := 1) ?hd (cs := #[.int .i64 a0_0, .int .i64 a0_1, .string a0_2, .slice A0_3 l0_3.length c0_3]) (t := 29) ?hr ?_; (case hd => rfl); (case hg => rfl); (case hr => first | (go_simp; done) | (go_simp; rfl)); intro gb171 hg w20 hbox hb; have n0_ := A_ (Kd.V_below (Kd.V_elderB (kv_ HO0_3.out) gb171 (Nat.le_of_eq hg.symm)) hb); have n1_ := A_ (below_step (bw_ HB.out) hb); have n2_ := A_ (hbox); have n3_ := A_ ((by rw [hg]; exact (below_size (bw_ HB.out)) : w.heap.size ≤ gb171)); have n4_ := n3_; clear HO0_3; clear HB; have HO0_3 := n0_; have HB := n1_; have BK171 := n2_; have GW171 := n3_; have GE171 := n4_; have GI171 := GeI.mk GE171.out; clear n0_ n1_ n2_ n3_ n4_; clear hb hbox hg) | ((with_reducible refine gate_dst (N := 2) rfl ?_); refine box_event ?hg (N := 2) ?hd (cs := #[.int .i64 0, .int .i64 0, .string (⟨#[]⟩ : ByteArray), .slice none 0 0]) (t := 29) ?hr ?_; (case hd => rfl); (case hg => rfl); (case hr => first | (go_simp; done) | (go_simp; rfl)); intro gb172 hg w21 hbox hb; have n0_ := A_ (Kd.V_below (Kd.V_elderB (kv_ HO0_3.out) gb172 (Nat.le_of_eq hg.symm)) hb); have n1_ := A_ (blk_below (bk_ BK171.out) hb); have n2_ := A_ (below_step (bw_ HB.out) hb); have n3_ := A_ (hbox); have n4_ := A_ ((by rw [hg]; exact (below_size (bw_ HB.out)) : w.heap.size ≤ gb172)); have n5_ := n4_; have n6_ := A_ ((by rw [hg]; exact Nat.ne_of_lt (blk_lt (bk_ BK171.out)) : gb171 ≠ gb172)); have n7_ := A_ n6_.out.symm; clear HO0_3; clear BK171; clear HB; have HO0_3 := n0_; have BK171 := n1_; have HB := n2_; have BK172 := n3_; have GW172 := n4_; have GE172 := n5_; have GI172 := GeI.mk GE172.out; have NB171_172 := n6_; have NB172_171 := n7_; clear n0_ n1_ n2_ n3_ n4_ n5_ n6_ n7_; clear hb hbox hg; have hnb22 := NB171_172.out; have hnc22 := NB172_171.out; have y23_0 : w21.cell? ⟨gb171, 0, none⟩ = some (.int .i64 a0_0) := (blk_cell BK171.out 0).trans rfl; have y23_1 : w21.cell? ⟨gb171, 1, none⟩ = some (.int .i64 a0_1) := (blk_cell BK171.out 1).trans rfl; have y23_2 : w21.cell? ⟨gb171, 2, none⟩ = some (.string a0_2) := (blk_cell BK171.out 2).trans rfl; have y23_3 : w21.cell? ⟨gb171, 3, none⟩ = some (.slice A0_3 l0_3.length c0_3) := (blk_cell BK171.out 3).trans rfl; have z23_0 := blk_frozen BK171.out 0; have z23_1 := blk_frozen BK171.out 1; have z23_2 := blk_frozen BK171.out 2; have z23_3 := blk_frozen BK171.out 3; have y24_0 : w21.cell? ⟨gb172, 0, none⟩ = some (.int .i64 0) := (blk_cell BK172.out 0).trans rfl; have y24_1 : w21.cell? ⟨gb172, 1, none⟩ = some (.int .i64 0) := (blk_cell BK172.out 1).trans rfl; have y24_2 : w21.cell? ⟨gb172, 2, none⟩ = some (.string (⟨#[]⟩ : ByteArray)) := (blk_cell BK172.out 2).trans rfl; have y24_3 : w21.cell? ⟨gb172, 3, none⟩ = some (.slice none 0 0) := (blk_cell BK172.out 3).trans rfl; have z24_0 := blk_frozen BK172.out 0; have z24_1 := blk_frozen BK172.out 1; have z24_2 := blk_frozen BK172.out 2; have z24_3 := blk_frozen BK172.out 3))
  refine bodyPost_ret (results_ct rfl _ _ gb172 29 #[.int .i64 a0_0, .int .i64 a0_1, .string a0_2, .slice A0_3 l0_3.length c0_3] (0, 0) _ rfl ?hb_ Try.underlying29 rfl (by kernel_rfl)) rfl ?_
  (case hb_ => refine bk_ ?_; refine blk_put (cs := #[.int .i64 a0_0, .int .i64 a0_1, .string a0_2, .slice none 0 0]) ?_ 3 _ rfl; refine bk_ ?_; refine blk_put (cs := #[.int .i64 a0_0, .int .i64 a0_1, .string (⟨#[]⟩ : ByteArray), .slice none 0 0]) ?_ 2 _ rfl; refine bk_ ?_; refine blk_put (cs := #[.int .i64 a0_0, .int .i64 0, .string (⟨#[]⟩ : ByteArray), .slice none 0 0]) ?_ 1 _ rfl; refine bk_ ?_; refine blk_put (cs := #[.int .i64 0, .int .i64 0, .string (⟨#[]⟩ : ByteArray), .slice none 0 0]) ?_ 0 _ rfl; refine bk_ ?_; exact BK172.out)
  exact ⟨_, by first | rfl | (simp [errW_none, errW_some] <;> rfl) | (simp [*, errW_none, errW_some] <;> rfl), by (with_reducible repeat (first | apply Kd.V_alloc | apply Kd.V_drewN | apply Kd.V_drew)); exact Kd.V_mono (Kd.V_far (p := ⟨gb172, 3, none⟩) (Kd.V_far (p := ⟨gb172, 2, none⟩) (Kd.V_far (p := ⟨gb172, 1, none⟩) (Kd.V_far (p := ⟨gb172, 0, none⟩) (Kd.V_mono HO0_3.out (fun k_ hk => (⟨hk, hk.2⟩ : _ ∧ k_ ≠ gb172))) (fun _ hk => hk.2) (.int .i64 a0_0)) (fun _ hk => hk.2) (.int .i64 a0_1)) (fun _ hk => hk.2) (.string a0_2)) (fun _ hk => hk.2) (.slice A0_3 l0_3.length c0_3)) (fun _ hk => hk.1.1.1), bw_ HB.out⟩

end Go.Proofs.Ytcpnhlhigpgonaa.PFnExactKnown
