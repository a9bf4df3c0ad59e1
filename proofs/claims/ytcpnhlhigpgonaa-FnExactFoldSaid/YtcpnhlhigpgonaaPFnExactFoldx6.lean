-- Laid by a program of this session (a changed copy of the kit's printer); Lean checks every line.
import Derived.Test.YtcpnhlhigpgonaaPFnExactFoldx0
import Derived.Test.YtcpnhlhigpgonaaPFnExactFoldx5
namespace Go.Proofs.Ytcpnhlhigpgonaa.PFnExactFold
open Go.RowKit Go.Proofs.YtcpnhlhigpgonaaW.PrintWords Go.Proofs.YtcpnhlhigpgonaaW.PrintLast Go.Proofs.YtcpnhlhigpgonaaW.PrintMore
attribute [local go_sem] max2_int min2_int max_two min_two max_three min_three max_four min_four   -- for this text's walks alone
set_option linter.unusedVariables false
set_option linter.unusedSimpArgs false

/-! ### spec_l10Ok: function 46 -/
mutual
def spec_l10Ok.j0 : Nat → Int → Bool → Bool → Int → Int → ByteArray → List (S29) → Option (Bool)
 | 0, _, _, _, _, _, _, _ => none
 | k + 1, x1, x2, x27, x159000, x159001, x159002, x159003 => if x27 = true then (some false) else (spec_l10Ok.l0 k x1 x2 0 x159000 x159001 x159002 x159003)
def spec_l10Ok.l0 : Nat → Int → Bool → Int → Int → Int → ByteArray → List (S29) → Option (Bool)
 | 0, _, _, _, _, _, _, _ => none
 | k + 1, x1, x2, x7, x159000, x159001, x159002, x159003 => if x7 < (x159003.length : Int) then (if 0 ≤ x7 then ((spec_l10Ok.f k ((rd_T29 x159003 x7).f0) ((rd_T29 x159003 x7).f1) ((rd_T29 x159003 x7).f2) ((rd_T29 x159003 x7).f3) (wrap64 (x1 + 1)) x2).bind fun t161 => (if t161 = true then (spec_l10Ok.l0 k x1 x2 (wrap64 (x7 + 1)) x159000 x159001 x159002 x159003) else (some false))) else (none)) else (some true)
def spec_l10Ok.f : Nat → Int → Int → ByteArray → List (S29) → Int → Bool → Option (Bool)
 | 0, _, _, _, _, _, _ => none
 | k + 1, a0_0, a0_1, a0_2, l0_3, a1, a2 => if a1 > 6 then (spec_l10Ok.j0 k a1 a2 true a0_0 a0_1 a0_2 l0_3) else ((spec_l10Here.f k a0_0 a0_1 a0_2 l0_3).bind fun t159 => (if t159 = true then (if a2 = true then (if a0_0 = 11 then (spec_l10Ok.j0 k a1 a2 true a0_0 a0_1 a0_2 l0_3) else (spec_l10Ok.j0 k a1 a2 (a0_0 == 12) a0_0 a0_1 a0_2 l0_3)) else (spec_l10Ok.j0 k a1 a2 false a0_0 a0_1 a0_2 l0_3)) else (spec_l10Ok.j0 k a1 a2 true a0_0 a0_1 a0_2 l0_3)))
end
theorem spec_l10Ok.mono_l : ∀ k, (∀ y0 y1 y2 y3 y4 y5, LeO (spec_l10Ok.f k y0 y1 y2 y3 y4 y5) (spec_l10Ok.f (k + 1) y0 y1 y2 y3 y4 y5)) ∧ (∀ y0 y1 y2 y3 y4 y5 y6, LeO (spec_l10Ok.j0 k y0 y1 y2 y3 y4 y5 y6) (spec_l10Ok.j0 (k + 1) y0 y1 y2 y3 y4 y5 y6)) ∧ (∀ y0 y1 y2 y3 y4 y5 y6, LeO (spec_l10Ok.l0 k y0 y1 y2 y3 y4 y5 y6) (spec_l10Ok.l0 (k + 1) y0 y1 y2 y3 y4 y5 y6))
 | 0 => ⟨fun _ _ _ _ _ _ r h => by simp [spec_l10Ok.f] at h, fun _ _ _ _ _ _ _ r h => by simp [spec_l10Ok.j0] at h, fun _ _ _ _ _ _ _ r h => by simp [spec_l10Ok.l0] at h⟩
 | k + 1 => by
  obtain ⟨ih0, ih1, ih2⟩ := spec_l10Ok.mono_l k
  refine ⟨?_, ?_, ?_⟩
  ·intro y0 y1 y2 y3 y4 y5
   unfold spec_l10Ok.f
   repeat' first
   | (with_reducible exact ih0 _ _ _ _ _ _)
   | (with_reducible exact ih1 _ _ _ _ _ _ _)
   | (with_reducible exact ih2 _ _ _ _ _ _ _)
   | (with_reducible exact spec_l10Here.mono _ _ _ _ _)
   | (with_reducible exact LeO.refl _)
   | (with_reducible exact LeO.none _)
   | (with_reducible refine LeO.ite ?_ ?_)
   | (with_reducible refine LeO.bind ?_ (fun _ => ?_))
   | exact ih0 _ _ _ _ _ _
   | exact ih1 _ _ _ _ _ _ _
   | exact ih2 _ _ _ _ _ _ _
   | exact spec_l10Here.mono _ _ _ _ _
   | exact LeO.none _
   | refine LeO.ite ?_ ?_
   | refine LeO.bind ?_ (fun _ => ?_)
  ·intro y0 y1 y2 y3 y4 y5 y6
   unfold spec_l10Ok.j0
   repeat' first
   | (with_reducible exact ih0 _ _ _ _ _ _)
   | (with_reducible exact ih1 _ _ _ _ _ _ _)
   | (with_reducible exact ih2 _ _ _ _ _ _ _)
   | (with_reducible exact spec_l10Here.mono _ _ _ _ _)
   | (with_reducible exact LeO.refl _)
   | (with_reducible exact LeO.none _)
   | (with_reducible refine LeO.ite ?_ ?_)
   | (with_reducible refine LeO.bind ?_ (fun _ => ?_))
   | exact ih0 _ _ _ _ _ _
   | exact ih1 _ _ _ _ _ _ _
   | exact ih2 _ _ _ _ _ _ _
   | exact spec_l10Here.mono _ _ _ _ _
   | exact LeO.none _
   | refine LeO.ite ?_ ?_
   | refine LeO.bind ?_ (fun _ => ?_)
  ·intro y0 y1 y2 y3 y4 y5 y6
   unfold spec_l10Ok.l0
   repeat' first
   | (with_reducible exact ih0 _ _ _ _ _ _)
   | (with_reducible exact ih1 _ _ _ _ _ _ _)
   | (with_reducible exact ih2 _ _ _ _ _ _ _)
   | (with_reducible exact spec_l10Here.mono _ _ _ _ _)
   | (with_reducible exact LeO.refl _)
   | (with_reducible exact LeO.none _)
   | (with_reducible refine LeO.ite ?_ ?_)
   | (with_reducible refine LeO.bind ?_ (fun _ => ?_))
   | exact ih0 _ _ _ _ _ _
   | exact ih1 _ _ _ _ _ _ _
   | exact ih2 _ _ _ _ _ _ _
   | exact spec_l10Here.mono _ _ _ _ _
   | exact LeO.none _
   | refine LeO.ite ?_ ?_
   | refine LeO.bind ?_ (fun _ => ?_)
theorem spec_l10Ok.mono : ∀ a0 a1 a2 a3 a4 a5 k, LeO (spec_l10Ok.f k a0 a1 a2 a3 a4 a5) (spec_l10Ok.f (k + 1) a0 a1 a2 a3 a4 a5) := by
 intro a0 a1 a2 a3 a4 a5 k
 obtain ⟨ih0, ih1, ih2⟩ := spec_l10Ok.mono_l k
 exact ih0 a0 a1 a2 a3 a4 a5
set_option maxHeartbeats 8000000 in
set_option maxRecDepth 100000 in
theorem spec_l10Ok.calls (k : Nat) : ∀ (a0_0 : Int) (a0_1 : Int) (a0_2 : ByteArray) (A0_3 : Option Addr) (c0_3 : Nat) (l0_3 : List (S29)) (a1 : Int) (a2 : Bool) (r : Bool) (w : World) (hr0_3 : Kd.C k29 w A0_3 l0_3.length l0_3) (hc0_3 : l0_3.length ≤ c0_3) (h : spec_l10Ok.f k a0_0 a0_1 a0_2 l0_3 a1 a2 = some r),
  Calls Try.prog 46 #[.agg #[.int .i64 a0_0, .int .i64 a0_1, .string a0_2, .slice A0_3 l0_3.length c0_3], .int .i64 a1, .bool a2] w fun e w' => e = .returned (.bool r) ∧ Below w.heap.size w w' := by
 induction k using Nat.strongRecOn with
 | _ k ih =>
 intro a0_0 a0_1 a0_2 A0_3 c0_3 l0_3 a1 a2 r w hr0_3 hc0_3 h
 cases k with
 | zero => exact absurd h (by simp [spec_l10Ok.f])
 | succ k =>
 simp only [spec_l10Ok.f] at h
 have hu29 := Try.underlying29
 have HR0_3 := A_ hr0_3
 have HC0_3 := A_ hc0_3
 clear hr0_3 hc0_3
 have HB := A_ (Below.refl w.heap.size w)
 have H : (if a1 > 6 then (spec_l10Ok.j0 k a1 a2 true a0_0 a0_1 a0_2 l0_3) else ((spec_l10Here.f k a0_0 a0_1 a0_2 l0_3).bind fun t159 => (if t159 = true then (if a2 = true then (if a0_0 = 11 then (spec_l10Ok.j0 k a1 a2 true a0_0 a0_1 a0_2 l0_3) else (spec_l10Ok.j0 k a1 a2 (a0_0 == 12) a0_0 a0_1 a0_2 l0_3)) else (spec_l10Ok.j0 k a1 a2 false a0_0 a0_1 a0_2 l0_3)) else (spec_l10Ok.j0 k a1 a2 true a0_0 a0_1 a0_2 l0_3)))) = some r := h
 clear h
 have HC4 := A_ H
 clear H
 go_enter Try.func46, Try.ntmps46
 go_upto_region 1 with (first | ((with_reducible refine gate_dst (N := 3) rfl ?_); refine bx_ 3 #[.int .i64 a0_0, .int .i64 a0_1, .string a0_2, .slice A0_3 l0_3.length c0_3] 29 ?_; intro gb158 hg w5 hbox hb; have n0_ := A_ (below_step (bw_ HB.out) hb); have n1_ := A_ (hbox); have n2_ := A_ ((d3_ : w.heap.size ≤ gb158)); have n3_ := n2_; clear HB; have HB := n0_; have BK158 := n1_; have GW158 := n2_; have GE158 := n3_; have GI158 := GeI.mk GE158.out; clear n0_ n1_ n2_ n3_; clear hb hbox hg))
 (try simp only [Act.put, List.setIfInBounds_toArray, List.set_cons_zero, List.set_cons_succ])
 go_cut [27] (fun v27 wc => ∃ (kq : Nat) (x27_3 : Bool), v27 = .bool x27_3 ∧ Aside0 (spec_l10Ok.j0 kq a1 a2 x27_3 a0_0 a0_1 a0_2 l0_3 = some r) ∧ Aside0 (kq ≤ k) ∧ Aside0 (wc.heap[gb158]? = some (.cells #[.int .i64 a0_0, .int .i64 a0_1, .string a0_2, (.slice A0_3 l0_3.length c0_3)] 29 (0, 0))) ∧ Aside0 (Below w.heap.size w wc))
 case first =>
  have H := HC4.out
  clear HC4
  by_cases c6 : a1 > 6
  ·rw [if_pos c6] at H
   have c6b0 := decide_eq_true c6
   clear c6
   (first | rw [c6b0] | (simp only [i64_w, i32_w]; rw [c6b0]) | skip)
   have H' := A_ H
   clear H
   go_wp2
   go_meet
   case rel => exact ⟨_, (true), d4_, H', ⟨by first | omega | exact Nat.le_refl _⟩, ⟨by refine bk_ ?_; exact BK158.out⟩, ⟨bw_ HB.out⟩⟩
  ·rw [if_neg c6] at H
   have c6b0 := decide_eq_false c6
   clear c6
   (first | rw [c6b0] | (simp only [i64_w, i32_w]; rw [c6b0]) | skip)
   replace H := Option.bind_eq_some_iff.mp H
   obtain ⟨t159, A70, H⟩ := H
   try dsimp only at H
   have A7 := A_ A70
   clear A70
   by_cases c8 : t159 = true
   ·subst c8
    rw [if_pos rfl] at H
    by_cases c9 : a2 = true
    ·subst c9
     rw [if_pos rfl] at H
     by_cases c10 : a0_0 = 11
     ·rw [if_pos c10] at H
      have c10b0 := beq_iff_eq.mpr c10
      have c10b1 := bne_eq_false_iff_eq.mpr c10
      clear c10
      have H' := A_ H
      clear H
      obtain ⟨y11_0, y11_1, y11_2, y11_3, z11_0, z11_1, z11_2, z11_3⟩ := cz4_ BK158.out
      go_wp2_with (first | (go_at_call 67; (with_reducible refine (spec_l10Here.calls k a0_0 a0_1 a0_2 _ _ l0_3 true _ ?side1 ?side2 A7.out).mono ?_); (case side1 => exact Kd.C_below HR0_3.out (bw_ HB.out)); (case side2 => exact HC0_3.out); rintro e w12 ⟨rfl, hb⟩; replace BK158 := A_ (blk_below (bk_ BK158.out) hb); replace HB := A_ (below_step (bw_ HB.out) hb); clear hb; obtain ⟨y13_0, y13_1, y13_2, y13_3, z13_0, z13_1, z13_2, z13_3⟩ := cz4_ BK158.out))
      go_meet
      case rel => exact ⟨_, (true), d4_, H', ⟨by first | omega | exact Nat.le_refl _⟩, ⟨by refine bk_ ?_; exact BK158.out⟩, ⟨bw_ HB.out⟩⟩
     ·rw [if_neg c10] at H
      have c10b0 := beq_eq_false_iff_ne.mpr c10
      have c10b1 := bne_iff_ne.mpr c10
      have H' := A_ H
      clear H
      obtain ⟨y14_0, y14_1, y14_2, y14_3, z14_0, z14_1, z14_2, z14_3⟩ := cz4_ BK158.out
      go_wp2_with (first | (go_at_call 67; (with_reducible refine (spec_l10Here.calls k a0_0 a0_1 a0_2 _ _ l0_3 true _ ?side1 ?side2 A7.out).mono ?_); (case side1 => exact Kd.C_below HR0_3.out (bw_ HB.out)); (case side2 => exact HC0_3.out); rintro e w15 ⟨rfl, hb⟩; replace BK158 := A_ (blk_below (bk_ BK158.out) hb); replace HB := A_ (below_step (bw_ HB.out) hb); clear hb; obtain ⟨y16_0, y16_1, y16_2, y16_3, z16_0, z16_1, z16_2, z16_3⟩ := cz4_ BK158.out))
      go_meet
      case rel => exact ⟨_, ((a0_0 == 12)), d4_, H', ⟨by first | omega | exact Nat.le_refl _⟩, ⟨by refine bk_ ?_; exact BK158.out⟩, ⟨bw_ HB.out⟩⟩
    ·replace c9 := Bool.eq_false_iff.mpr c9
     subst c9
     rw [if_neg (show ¬ (false = true) by decide)] at H
     have H' := A_ H
     clear H
     obtain ⟨y17_0, y17_1, y17_2, y17_3, z17_0, z17_1, z17_2, z17_3⟩ := cz4_ BK158.out
     go_wp2_with (first | (go_at_call 67; (with_reducible refine (spec_l10Here.calls k a0_0 a0_1 a0_2 _ _ l0_3 true _ ?side1 ?side2 A7.out).mono ?_); (case side1 => exact Kd.C_below HR0_3.out (bw_ HB.out)); (case side2 => exact HC0_3.out); rintro e w18 ⟨rfl, hb⟩; replace BK158 := A_ (blk_below (bk_ BK158.out) hb); replace HB := A_ (below_step (bw_ HB.out) hb); clear hb))
     go_meet
     case rel => exact ⟨_, (false), d4_, H', ⟨by first | omega | exact Nat.le_refl _⟩, ⟨by refine bk_ ?_; exact BK158.out⟩, ⟨bw_ HB.out⟩⟩
   ·replace c8 := Bool.eq_false_iff.mpr c8
    subst c8
    rw [if_neg (show ¬ (false = true) by decide)] at H
    have H' := A_ H
    clear H
    obtain ⟨y19_0, y19_1, y19_2, y19_3, z19_0, z19_1, z19_2, z19_3⟩ := cz4_ BK158.out
    go_wp2_with (first | (go_at_call 67; (with_reducible refine (spec_l10Here.calls k a0_0 a0_1 a0_2 _ _ l0_3 false _ ?side1 ?side2 A7.out).mono ?_); (case side1 => exact Kd.C_below HR0_3.out (bw_ HB.out)); (case side2 => exact HC0_3.out); rintro e w20 ⟨rfl, hb⟩; replace BK158 := A_ (blk_below (bk_ BK158.out) hb); replace HB := A_ (below_step (bw_ HB.out) hb); clear hb))
    go_meet
    case rel => exact ⟨_, (true), d4_, H', ⟨by first | omega | exact Nat.le_refl _⟩, ⟨by refine bk_ ?_; exact BK158.out⟩, ⟨bw_ HB.out⟩⟩
 case rest =>
  clear HC4
  try clear c1
  try clear p2
  try clear c4
  try clear c6
  try clear c6b0
  try clear c8
  try clear c9
  try clear c10
  try clear c10b0
  try clear c10b1
  try clear y11_0 y11_1 y11_2 y11_3 z11_0 z11_1 z11_2 z11_3
  try clear y13_0 y13_1 y13_2 y13_3 z13_0 z13_1 z13_2 z13_3
  try clear y14_0 y14_1 y14_2 y14_3 z14_0 z14_1 z14_2 z14_3
  try clear y16_0 y16_1 y16_2 y16_3 z16_0 z16_1 z16_2 z16_3
  try clear y17_0 y17_1 y17_2 y17_3 z17_0 z17_1 z17_2 z17_3
  try clear y19_0 y19_1 y19_2 y19_3 z19_0 z19_1 z19_2 z19_3
  obtain ⟨kq, x27_3, rfl, HA, HJ3, BK158, HB⟩ := hcut
  cases kq with
  | zero => exact absurd HA.out (by simp [spec_l10Ok.j0])
  | succ kj3 =>
   have H := HA.out
   clear HA
   simp only [spec_l10Ok.j0] at H
   by_cases c21 : x27_3 = true
   ·subst c21
    rw [if_pos rfl] at H
    obtain rfl := Option.some.inj H
    go_wp2
    go_ret
    exact rt_ (bw_ HB.out)
   ·replace c21 := Bool.eq_false_iff.mpr c21
    subst c21
    rw [if_neg (show ¬ (false = true) by decide)] at H
    have H' := A_ H
    clear H
    go_wp2
    go_loopg [7] kj3 (fun kq v7 w' => ∃ (x7_2 : Int), v7 = .int .i64 x7_2 ∧ Aside0 (spec_l10Ok.l0 kq a1 a2 x7_2 a0_0 a0_1 a0_2 l0_3 = some r) ∧ Aside0 (kq ≤ kj3) ∧ Aside0 (w'.heap[gb158]? = some (.cells #[.int .i64 a0_0, .int .i64 a0_1, .string a0_2, (.slice A0_3 l0_3.length c0_3)] 29 (0, 0))) ∧ Aside0 (Below w.heap.size w w'))
    case atStart => exact ⟨(0), d4_, H', ⟨Nat.le_refl _⟩, ⟨by refine bk_ ?_; exact BK158.out⟩, ⟨bw_ HB.out⟩⟩
    case round =>
     clear H'
     try clear c1
     try clear c2
     try clear p2
     try clear c4
     try clear c6
     try clear c6b0
     try clear c8
     try clear c9
     try clear c10
     try clear c10b0
     try clear c10b1
     try clear c21
     try clear y11_0 y11_1 y11_2 y11_3 z11_0 z11_1 z11_2 z11_3
     try clear y13_0 y13_1 y13_2 y13_3 z13_0 z13_1 z13_2 z13_3
     try clear y14_0 y14_1 y14_2 y14_3 z14_0 z14_1 z14_2 z14_3
     try clear y16_0 y16_1 y16_2 y16_3 z16_0 z16_1 z16_2 z16_3
     try clear y17_0 y17_1 y17_2 y17_3 z17_0 z17_1 z17_2 z17_3
     try clear y19_0 y19_1 y19_2 y19_3 z19_0 z19_1 z19_2 z19_3
     try clear p2
     obtain ⟨x7_2, rfl, HA, HK2, BK158, HB⟩ := hrel
     cases gk with
     | zero => exact absurd HA.out (by simp [spec_l10Ok.l0])
     | succ k2 =>
      have H := HA.out
      clear HA
      simp only [spec_l10Ok.l0] at H
      by_cases c22 : x7_2 < (l0_3.length : Int)
      ·rw [if_pos c22] at H
       have c22b0 := decide_eq_true c22
       clear c22
       by_cases c23 : 0 ≤ x7_2
       ·rw [if_pos c23] at H
        have c23b0 := decide_eq_true c23
        clear c23
        replace H := Option.bind_eq_some_iff.mp H
        obtain ⟨t161, A240, H⟩ := H
        try dsimp only at H
        have A24 := A_ A240
        clear A240
        by_cases c25 : t161 = true
        ·subst c25
         rw [if_pos rfl] at H
         have H' := A_ H
         clear H
         obtain ⟨y26_0, y26_1, y26_2, y26_3, z26_0, z26_1, z26_2, z26_3⟩ := cz4_ BK158.out
         have p160 : 0 ≤ (x7_2 : Int) := of_decide_eq_true d1_
         have q160 : x7_2 < (l0_3.length : Int) := of_decide_eq_true d1_
         obtain ⟨ad160, A160_3, c160_3, e160, hx160_0, hx160_1, hx160_2, hx160_3, hl160_3, hi160_3⟩ := at_T29 HR0_3.out x7_2 p160 q160
         cases e160
         replace hx160_0 := (HB.out.cell (World.block_lt_of_cell? w _ hx160_0)).trans hx160_0
         replace hx160_1 := (HB.out.cell (World.block_lt_of_cell? w _ hx160_1)).trans hx160_1
         replace hx160_2 := (HB.out.cell (World.block_lt_of_cell? w _ hx160_2)).trans hx160_2
         replace hx160_3 := (HB.out.cell (World.block_lt_of_cell? w _ hx160_3)).trans hx160_3
         have HR160_3 := A_ hi160_3
         have HC160_3 := A_ hl160_3
         clear hi160_3 hl160_3
         replace p160 := eq_true p160
         replace q160 := eq_true q160
         go_wp2_with (first | ((with_reducible refine gate_callee (f := 46) rfl ?_); refine gL_ (some 43) Try.func46 #[.agg #[.int .i64 ((rd_T29 l0_3 x7_2).f0), .int .i64 ((rd_T29 l0_3 x7_2).f1), .string ((rd_T29 l0_3 x7_2).f2), .slice A160_3 ((rd_T29 l0_3 x7_2).f3).length c160_3], .int .i64 (wrap64 (a1 + 1)), .bool a2] ?_; (with_reducible refine (ih k2 (by have := HJ3.out; have := HK2.out; omega) ((rd_T29 l0_3 x7_2).f0) ((rd_T29 l0_3 x7_2).f1) ((rd_T29 l0_3 x7_2).f2) _ _ ((rd_T29 l0_3 x7_2).f3) (wrap64 (a1 + 1)) a2 true _ ?side1 ?side2 A24.out).mono ?_); (case side1 => exact Kd.C_below HR160_3.out (bw_ HB.out)); (case side2 => exact HC160_3.out); rintro e w27 ⟨rfl, hb⟩; refine ⟨_, rfl, ?_⟩; replace BK158 := A_ (blk_below (bk_ BK158.out) hb); replace HB := A_ (below_step (bw_ HB.out) hb); clear hb))
         go_roundg k2
         case measure => have := HJ3.out; have := HK2.out; omega
         case rel => exact ⟨(wrap64 (x7_2 + 1)), d4_, H', ⟨by have := HJ3.out; have := HK2.out; omega⟩, ⟨by refine bk_ ?_; exact BK158.out⟩, ⟨bw_ HB.out⟩⟩
        ·replace c25 := Bool.eq_false_iff.mpr c25
         subst c25
         rw [if_neg (show ¬ (false = true) by decide)] at H
         obtain rfl := Option.some.inj H
         obtain ⟨y28_0, y28_1, y28_2, y28_3, z28_0, z28_1, z28_2, z28_3⟩ := cz4_ BK158.out
         have p160 : 0 ≤ (x7_2 : Int) := of_decide_eq_true d1_
         have q160 : x7_2 < (l0_3.length : Int) := of_decide_eq_true d1_
         obtain ⟨ad160, A160_3, c160_3, e160, hx160_0, hx160_1, hx160_2, hx160_3, hl160_3, hi160_3⟩ := at_T29 HR0_3.out x7_2 p160 q160
         cases e160
         replace hx160_0 := (HB.out.cell (World.block_lt_of_cell? w _ hx160_0)).trans hx160_0
         replace hx160_1 := (HB.out.cell (World.block_lt_of_cell? w _ hx160_1)).trans hx160_1
         replace hx160_2 := (HB.out.cell (World.block_lt_of_cell? w _ hx160_2)).trans hx160_2
         replace hx160_3 := (HB.out.cell (World.block_lt_of_cell? w _ hx160_3)).trans hx160_3
         have HR160_3 := A_ hi160_3
         have HC160_3 := A_ hl160_3
         clear hi160_3 hl160_3
         replace p160 := eq_true p160
         replace q160 := eq_true q160
         go_wp2_with (first | ((with_reducible refine gate_callee (f := 46) rfl ?_); refine gL_ (some 43) Try.func46 #[.agg #[.int .i64 ((rd_T29 l0_3 x7_2).f0), .int .i64 ((rd_T29 l0_3 x7_2).f1), .string ((rd_T29 l0_3 x7_2).f2), .slice A160_3 ((rd_T29 l0_3 x7_2).f3).length c160_3], .int .i64 (wrap64 (a1 + 1)), .bool a2] ?_; (with_reducible refine (ih k2 (by have := HJ3.out; have := HK2.out; omega) ((rd_T29 l0_3 x7_2).f0) ((rd_T29 l0_3 x7_2).f1) ((rd_T29 l0_3 x7_2).f2) _ _ ((rd_T29 l0_3 x7_2).f3) (wrap64 (a1 + 1)) a2 false _ ?side1 ?side2 A24.out).mono ?_); (case side1 => exact Kd.C_below HR160_3.out (bw_ HB.out)); (case side2 => exact HC160_3.out); rintro e w29 ⟨rfl, hb⟩; refine ⟨_, rfl, ?_⟩; replace BK158 := A_ (blk_below (bk_ BK158.out) hb); replace HB := A_ (below_step (bw_ HB.out) hb); clear hb))
         go_ret
         exact rt_ (bw_ HB.out)
       ·rw [if_neg c23] at H
        exact absurd H (by simp)
      ·rw [if_neg c22] at H
       have c22b0 := decide_eq_false c22
       clear c22
       obtain rfl := Option.some.inj H
       obtain ⟨y30_0, y30_1, y30_2, y30_3, z30_0, z30_1, z30_2, z30_3⟩ := cz4_ BK158.out
       go_wp2
       go_ret
       exact rt_ (bw_ HB.out)

/-! ### spec_ExprOk: function 17 -/
def spec_ExprOk.f (k : Nat) (a0_0 : Int) (a0_1 : Int) (a0_2 : ByteArray) (l0_3 : List (S29)) : Option (Bool) := (spec_l10Ok.f k a0_0 a0_1 a0_2 l0_3 1 false).bind fun t163 => (some t163)
theorem spec_ExprOk.mono : ∀ a0 a1 a2 a3 k, LeO (spec_ExprOk.f k a0 a1 a2 a3) (spec_ExprOk.f (k + 1) a0 a1 a2 a3) := by
 intro a0 a1 a2 a3 k
 unfold spec_ExprOk.f
 repeat' first
   | (with_reducible exact spec_l10Ok.mono _ _ _ _ _ _ _)
   | (with_reducible exact LeO.refl _)
   | (with_reducible exact LeO.none _)
   | (with_reducible refine LeO.ite ?_ ?_)
   | (with_reducible refine LeO.bind ?_ (fun _ => ?_))
   | exact spec_l10Ok.mono _ _ _ _ _ _ _
   | exact LeO.none _
   | refine LeO.ite ?_ ?_
   | refine LeO.bind ?_ (fun _ => ?_)
set_option maxHeartbeats 8000000 in
set_option maxRecDepth 100000 in
theorem spec_ExprOk.calls (k : Nat) (a0_0 : Int) (a0_1 : Int) (a0_2 : ByteArray) (A0_3 : Option Addr) (c0_3 : Nat) (l0_3 : List (S29)) (r : Bool) (w : World) (hr0_3 : Kd.C k29 w A0_3 l0_3.length l0_3) (hc0_3 : l0_3.length ≤ c0_3) (h : spec_ExprOk.f k a0_0 a0_1 a0_2 l0_3 = some r) :
  Calls Try.prog 17 #[.agg #[.int .i64 a0_0, .int .i64 a0_1, .string a0_2, .slice A0_3 l0_3.length c0_3]] w fun e w' => e = .returned (.bool r) ∧ Below w.heap.size w w' := by
 have hu29 := Try.underlying29
 have HR0_3 := A_ hr0_3
 have HC0_3 := A_ hc0_3
 clear hr0_3 hc0_3
 have HB := A_ (Below.refl w.heap.size w)
 have H : ((spec_l10Ok.f k a0_0 a0_1 a0_2 l0_3 1 false).bind fun t163 => (some t163)) = some r := h
 clear h
 replace H := Option.bind_eq_some_iff.mp H
 obtain ⟨t163, A20, H⟩ := H
 try dsimp only at H
 have A2 := A_ A20
 clear A20
 obtain rfl := Option.some.inj H
 go_enter Try.func17, Try.ntmps17
 go_wp2_with (first | ((with_reducible refine gate_dst (N := 1) rfl ?_); refine bx_ 1 #[.int .i64 a0_0, .int .i64 a0_1, .string a0_2, .slice A0_3 l0_3.length c0_3] 29 ?_; intro gb162 hg w3 hbox hb; have n0_ := A_ (below_step (bw_ HB.out) hb); have n1_ := A_ (hbox); have n2_ := A_ ((d3_ : w.heap.size ≤ gb162)); have n3_ := n2_; clear HB; have HB := n0_; have BK162 := n1_; have GW162 := n2_; have GE162 := n3_; have GI162 := GeI.mk GE162.out; clear n0_ n1_ n2_ n3_; clear hb hbox hg; obtain ⟨y4_0, y4_1, y4_2, y4_3, z4_0, z4_1, z4_2, z4_3⟩ := cz4_ BK162.out) | ((with_reducible refine gate_callee (f := 46) rfl ?_); refine gL_ (some 4) Try.func46 #[.agg #[.int .i64 a0_0, .int .i64 a0_1, .string a0_2, .slice A0_3 l0_3.length c0_3], .int .i64 1, .bool false] ?_; (with_reducible refine (spec_l10Ok.calls k a0_0 a0_1 a0_2 _ _ l0_3 1 false t163 _ ?side1 ?side2 A2.out).mono ?_); (case side1 => exact Kd.C_below HR0_3.out (bw_ HB.out)); (case side2 => exact HC0_3.out); rintro e w5 ⟨rfl, hb⟩; refine ⟨_, rfl, ?_⟩; replace BK162 := A_ (blk_below (bk_ BK162.out) hb); replace HB := A_ (below_step (bw_ HB.out) hb); clear hb))
 go_ret
 exact rt_ (bw_ HB.out)

/-! ### spec_l11Copy: function 57 -/
mutual
def spec_l11Copy.l0 : Nat → Int → Int → Int → ByteArray → List (S29) → Int → Int → ByteArray → List (S29) → Option (Int × Int × ByteArray × (List (S29)))
 | 0, _, _, _, _, _, _, _, _, _ => none
 | k + 1, x4, x165000, x165001, x165002, x165003, x167000, x167001, x167002, x167003 => if x4 < (x165003.length : Int) then (if 0 ≤ x4 then ((spec_l11Copy.f k ((rd_T29 x165003 x4).f0) ((rd_T29 x165003 x4).f1) ((rd_T29 x165003 x4).f2) ((rd_T29 x165003 x4).f3)).bind fun bt168 => (if x167003.length < 2513169434916 then (spec_l11Copy.l0 k (wrap64 (x4 + 1)) x165000 x165001 x165002 x165003 x167000 x167001 x167002 (x167003 ++ [(⟨bt168.1, bt168.2.1, bt168.2.2.1, bt168.2.2.2⟩ : S29)])) else (none))) else (none)) else (some (x167000, x167001, x167002, x167003))
def spec_l11Copy.f : Nat → Int → Int → ByteArray → List (S29) → Option (Int × Int × ByteArray × (List (S29)))
 | 0, _, _, _, _ => none
 | k + 1, a0_0, a0_1, a0_2, l0_3 => spec_l11Copy.l0 k 0 a0_0 a0_1 a0_2 l0_3 a0_0 a0_1 a0_2 ([] : List (S29))
end
theorem spec_l11Copy.mono_l : ∀ k, (∀ y0 y1 y2 y3, LeO (spec_l11Copy.f k y0 y1 y2 y3) (spec_l11Copy.f (k + 1) y0 y1 y2 y3)) ∧ (∀ y0 y1 y2 y3 y4 y5 y6 y7 y8, LeO (spec_l11Copy.l0 k y0 y1 y2 y3 y4 y5 y6 y7 y8) (spec_l11Copy.l0 (k + 1) y0 y1 y2 y3 y4 y5 y6 y7 y8))
 | 0 => ⟨fun _ _ _ _ r h => by simp [spec_l11Copy.f] at h, fun _ _ _ _ _ _ _ _ _ r h => by simp [spec_l11Copy.l0] at h⟩
 | k + 1 => by
  obtain ⟨ih0, ih1⟩ := spec_l11Copy.mono_l k
  refine ⟨?_, ?_⟩
  ·intro y0 y1 y2 y3
   unfold spec_l11Copy.f
   repeat' first
   | (with_reducible exact ih0 _ _ _ _)
   | (with_reducible exact ih1 _ _ _ _ _ _ _ _ _)
   | (with_reducible exact LeO.refl _)
   | (with_reducible exact LeO.none _)
   | (with_reducible refine LeO.ite ?_ ?_)
   | (with_reducible refine LeO.bind ?_ (fun _ => ?_))
   | exact ih0 _ _ _ _
   | exact ih1 _ _ _ _ _ _ _ _ _
   | exact LeO.none _
   | refine LeO.ite ?_ ?_
   | refine LeO.bind ?_ (fun _ => ?_)
  ·intro y0 y1 y2 y3 y4 y5 y6 y7 y8
   unfold spec_l11Copy.l0
   repeat' first
   | (with_reducible exact ih0 _ _ _ _)
   | (with_reducible exact ih1 _ _ _ _ _ _ _ _ _)
   | (with_reducible exact LeO.refl _)
   | (with_reducible exact LeO.none _)
   | (with_reducible refine LeO.ite ?_ ?_)
   | (with_reducible refine LeO.bind ?_ (fun _ => ?_))
   | exact ih0 _ _ _ _
   | exact ih1 _ _ _ _ _ _ _ _ _
   | exact LeO.none _
   | refine LeO.ite ?_ ?_
   | refine LeO.bind ?_ (fun _ => ?_)
theorem spec_l11Copy.mono : ∀ a0 a1 a2 a3 k, LeO (spec_l11Copy.f k a0 a1 a2 a3) (spec_l11Copy.f (k + 1) a0 a1 a2 a3) := by
 intro a0 a1 a2 a3 k
 obtain ⟨ih0, ih1⟩ := spec_l11Copy.mono_l k
 exact ih0 a0 a1 a2 a3
set_option maxHeartbeats 8000000 in
set_option maxRecDepth 100000 in
theorem spec_l11Copy.calls (k : Nat) : ∀ (a0_0 : Int) (a0_1 : Int) (a0_2 : ByteArray) (A0_3 : Option Addr) (c0_3 : Nat) (l0_3 : List (S29)) (r1 : Int) (r2 : Int) (r3 : ByteArray) (r4 : List (S29)) (w : World) (hr0_3 : Kd.C k29 w A0_3 l0_3.length l0_3) (hc0_3 : l0_3.length ≤ c0_3) (h : spec_l11Copy.f k a0_0 a0_1 a0_2 l0_3 = some (r1, r2, r3, r4)),
  Calls Try.prog 57 #[.agg #[.int .i64 a0_0, .int .i64 a0_1, .string a0_2, .slice A0_3 l0_3.length c0_3]] w fun e w' => ∃ v3_ : Value, e = .returned (.agg #[.int .i64 r1, .int .i64 r2, .string r3, v3_]) ∧ Kd.R k29 29 w' w.heap.size (fun _ => True) v3_ r4 ∧ Below w.heap.size w w' := by
 induction k using Nat.strongRecOn with
 | _ k ih =>
 intro a0_0 a0_1 a0_2 A0_3 c0_3 l0_3 r1 r2 r3 r4 w hr0_3 hc0_3 h
 cases k with
 | zero => exact absurd h (by simp [spec_l11Copy.f])
 | succ k =>
 simp only [spec_l11Copy.f] at h
 have hu29 := Try.underlying29
 have HR0_3 := A_ hr0_3
 have HC0_3 := A_ hc0_3
 clear hr0_3 hc0_3
 have HB := A_ (Below.refl w.heap.size w)
 have H : (spec_l11Copy.l0 k 0 a0_0 a0_1 a0_2 l0_3 a0_0 a0_1 a0_2 ([] : List (S29))) = some (r1, r2, r3, r4) := h
 clear h
 have H' := A_ H
 clear H
 go_enter Try.func57, Try.ntmps57
 go_wp2_with (first | ((with_reducible refine gate_dst (N := 1) rfl ?_); refine bx_ 1 #[.int .i64 a0_0, .int .i64 a0_1, .string a0_2, .slice A0_3 l0_3.length c0_3] 29 ?_; intro gb164 hg w2 hbox hb; have n0_ := A_ (below_step (bw_ HB.out) hb); have n1_ := A_ (hbox); have n2_ := A_ ((d3_ : w.heap.size ≤ gb164)); have n3_ := n2_; clear HB; have HB := n0_; have BK164 := n1_; have GW164 := n2_; have GE164 := n3_; have GI164 := GeI.mk GE164.out; clear n0_ n1_ n2_ n3_; clear hb hbox hg) | ((with_reducible refine gate_dst (N := 2) rfl ?_); refine bx_ 2 #[.int .i64 0, .int .i64 0, .string (⟨#[]⟩ : ByteArray), .slice none 0 0] 29 ?_; intro gb165 hg w3 hbox hb; have n0_ := A_ (blk_below (bk_ BK164.out) hb); have n1_ := A_ (below_step (bw_ HB.out) hb); have n2_ := A_ (hbox); have n3_ := A_ ((d3_ : w.heap.size ≤ gb165)); have n4_ := n3_; have n5_ := A_ ((by rw [hg]; exact Nat.ne_of_lt (blk_lt (bk_ BK164.out)) : gb164 ≠ gb165)); have n6_ := A_ n5_.out.symm; clear BK164; clear HB; have BK164 := n0_; have HB := n1_; have BK165 := n2_; have GW165 := n3_; have GE165 := n4_; have GI165 := GeI.mk GE165.out; have NB164_165 := n5_; have NB165_164 := n6_; clear n0_ n1_ n2_ n3_ n4_ n5_ n6_; clear hb hbox hg; have hnb4 := NB164_165.out; have hnc4 := NB165_164.out; obtain ⟨y5_0, y5_1, y5_2, y5_3, z5_0, z5_1, z5_2, z5_3⟩ := cz4_ BK164.out) | ((with_reducible refine gate_dst (N := 3) rfl ?_); refine bx_ 3 #[.int .i64 0, .int .i64 0, .string (⟨#[]⟩ : ByteArray), .slice none 0 0] 29 ?_; intro gb166 hg w6 hbox hb; have n0_ := A_ (blk_below (bk_ BK164.out) hb); have n1_ := A_ (blk_below (bk_ BK165.out) hb); have n2_ := A_ (below_step (bw_ HB.out) hb); have n3_ := A_ (hbox); have n4_ := A_ ((d3_ : w.heap.size ≤ gb166)); have n5_ := n4_; have n6_ := A_ ((by rw [hg]; exact Nat.ne_of_lt (blk_lt (bk_ BK164.out)) : gb164 ≠ gb166)); have n7_ := A_ n6_.out.symm; have n8_ := A_ ((by rw [hg]; exact Nat.ne_of_lt (blk_lt (bk_ BK165.out)) : gb165 ≠ gb166)); have n9_ := A_ n8_.out.symm; clear BK164; clear BK165; clear HB; have BK164 := n0_; have BK165 := n1_; have HB := n2_; have BK166 := n3_; have GW166 := n4_; have GE166 := n5_; have GI166 := GeI.mk GE166.out; have NB164_166 := n6_; have NB166_164 := n7_; have NB165_166 := n8_; have NB166_165 := n9_; clear n0_ n1_ n2_ n3_ n4_ n5_ n6_ n7_ n8_ n9_; clear hb hbox hg; have hnb7 := NB166_164.out; have hnc7 := NB164_166.out; have hnb8 := NB166_165.out; have hnc8 := NB165_166.out; obtain ⟨y9_0, y9_1, y9_2, y9_3, z9_0, z9_1, z9_2, z9_3⟩ := cz4_ BK166.out))
 go_loopg [4] k (fun kq v4 w' => ∃ (x4_1 : Int) (x167003_1 : List (S29)) (u167003 : Value), v4 = .int .i64 x4_1 ∧ Aside0 (spec_l11Copy.l0 kq x4_1 a0_0 a0_1 a0_2 l0_3 a0_0 a0_1 a0_2 x167003_1 = some (r1, r2, r3, r4)) ∧ Aside0 (kq ≤ k) ∧ Aside0 (Kd.R k29 29 w' w.heap.size (fun k_ => k_ ≠ gb164 ∧ k_ ≠ gb165 ∧ k_ ≠ gb166) u167003 x167003_1) ∧ Aside0 (w'.heap[gb164]? = some (.cells #[.int .i64 a0_0, .int .i64 a0_1, .string a0_2, (.slice A0_3 l0_3.length c0_3)] 29 (0, 0))) ∧ Aside0 (w'.heap[gb165]? = some (.cells #[.int .i64 0, .int .i64 0, .string (⟨#[]⟩ : ByteArray), (.slice none 0 0)] 29 (0, 0))) ∧ Aside0 (w'.heap[gb166]? = some (.cells #[.int .i64 a0_0, .int .i64 a0_1, .string a0_2, u167003] 29 (0, 0))) ∧ Aside0 (Below w.heap.size w w'))
 case atStart => exact ⟨(0), (([] : List (S29))), (.slice none 0 0), d4_, H', ⟨Nat.le_refl _⟩, ⟨by first | exact Kd.R_nil _ _ _ _ _ | exact Kd.N_nil _ _ _ _ _ | exact Kd.V_nil _ _ _ _ _ | exact Kd.Q_nil _ _ _ _ _ | exact Kd.S_nil _ _ _ _ _⟩, ⟨by refine bk_ ?_; refine blk_far ?_ NB164_166.out _; refine bk_ ?_; refine blk_far ?_ NB164_166.out _; refine bk_ ?_; refine blk_far ?_ NB164_166.out _; refine bk_ ?_; refine blk_far ?_ NB164_166.out _; refine bk_ ?_; exact BK164.out⟩, ⟨by refine bk_ ?_; refine blk_far ?_ NB165_166.out _; refine bk_ ?_; refine blk_far ?_ NB165_166.out _; refine bk_ ?_; refine blk_far ?_ NB165_166.out _; refine bk_ ?_; refine blk_far ?_ NB165_166.out _; refine bk_ ?_; exact BK165.out⟩, ⟨by exact bk_ (bp4_ (bk_ BK166.out))⟩, ⟨bw_ HB.out⟩⟩
 case round =>
  clear H'
  try clear p2
  try clear c4
  try clear c5
  try clear c7
  try clear c8
  try clear y5_0 y5_1 y5_2 y5_3 z5_0 z5_1 z5_2 z5_3
  try clear y9_0 y9_1 y9_2 y9_3 z9_0 z9_1 z9_2 z9_3
  obtain ⟨x4_1, x167003_1, u167003, rfl, HA, HK1, HO_167003, BK164, BK165, BK166, HB⟩ := hrel
  cases gk with
  | zero => exact absurd HA.out (by simp [spec_l11Copy.l0])
  | succ k1 =>
   have H := HA.out
   clear HA
   simp only [spec_l11Copy.l0] at H
   by_cases c10 : x4_1 < (l0_3.length : Int)
   ·rw [if_pos c10] at H
    have c10b0 := decide_eq_true c10
    clear c10
    by_cases c11 : 0 ≤ x4_1
    ·rw [if_pos c11] at H
     have c11b0 := decide_eq_true c11
     clear c11
     replace H := Option.bind_eq_some_iff.mp H
     obtain ⟨⟨t168, t169, t170, t171⟩, A120, H⟩ := H
     try dsimp only at H
     have A12 := A_ A120
     clear A120
     by_cases c13 : x167003_1.length < 2513169434916
     ·rw [if_pos c13] at H
      have LMc13 := A_ c13
      clear c13
      obtain ⟨y175, hy175⟩ : ∃ y_ : List (S29), y_ = (x167003_1 ++ [(⟨t168, t169, t170, t171⟩ : S29)]) := ⟨_, rfl⟩
      replace H : (spec_l11Copy.l0 k1 (wrap64 (x4_1 + 1)) a0_0 a0_1 a0_2 l0_3 a0_0 a0_1 a0_2 y175) = some (r1, r2, r3, r4) := by first | (rw [hy175]; with_reducible exact H) | (have H2_ := (Option.bind_some _ _).symm.trans H; rw [hy175]; with_reducible exact H2_) | (have H2_ := (Option.bind_some _ _).symm.trans H; with_reducible exact H2_) | with_reducible exact H | (rw [hy175]; exact H) | exact H
      have Ny175 := A_ hy175
      clear hy175
      have H' := A_ H
      clear H
      have hnb14 := NB164_165.out
      have hnc14 := NB165_164.out
      have hnb15 := NB164_166.out
      have hnc15 := NB166_164.out
      obtain ⟨y16_0, y16_1, y16_2, y16_3, z16_0, z16_1, z16_2, z16_3⟩ := cz4_ BK164.out
      have p167 : 0 ≤ (x4_1 : Int) := of_decide_eq_true d1_
      have q167 : x4_1 < (l0_3.length : Int) := of_decide_eq_true d1_
      obtain ⟨ad167, A167_3, c167_3, e167, hx167_0, hx167_1, hx167_2, hx167_3, hl167_3, hi167_3⟩ := at_T29 HR0_3.out x4_1 p167 q167
      cases e167
      replace hx167_0 := (HB.out.cell (World.block_lt_of_cell? w _ hx167_0)).trans hx167_0
      replace hx167_1 := (HB.out.cell (World.block_lt_of_cell? w _ hx167_1)).trans hx167_1
      replace hx167_2 := (HB.out.cell (World.block_lt_of_cell? w _ hx167_2)).trans hx167_2
      replace hx167_3 := (HB.out.cell (World.block_lt_of_cell? w _ hx167_3)).trans hx167_3
      have HR167_3 := A_ hi167_3
      have HC167_3 := A_ hl167_3
      clear hi167_3 hl167_3
      replace p167 := eq_true p167
      replace q167 := eq_true q167
      go_wp2_with (first | ((with_reducible refine gate_callee (f := 57) rfl ?_); refine gL_ (some 25) Try.func57 #[.agg #[.int .i64 ((rd_T29 l0_3 x4_1).f0), .int .i64 ((rd_T29 l0_3 x4_1).f1), .string ((rd_T29 l0_3 x4_1).f2), .slice A167_3 ((rd_T29 l0_3 x4_1).f3).length c167_3]] ?_; (with_reducible refine (ih k1 (by have := HK1.out; omega) ((rd_T29 l0_3 x4_1).f0) ((rd_T29 l0_3 x4_1).f1) ((rd_T29 l0_3 x4_1).f2) _ _ ((rd_T29 l0_3 x4_1).f3) t168 t169 t170 t171 _ ?side1 ?side2 A12.out).mono ?_); (case side1 => exact Kd.C_below HR167_3.out (bw_ HB.out)); (case side2 => exact HC167_3.out); rintro e w17 ⟨v172, rfl, ho0, hb⟩; refine ⟨_, rfl, ?_⟩; have HO173 := A_ (Kd.R_lower (Kd.R_newB (Kd.R_newB (Kd.R_newB (Kd.R_new' ho0 (Kd.R_lt (kr_ HO_167003.out))) (bk_ BK164.out)) (bk_ BK165.out)) (bk_ BK166.out)) (below_size (bw_ HB.out))); replace HO_167003 := A_ (Kd.R_elder' (kr_ HO_167003.out) (Kd.R_base ho0) hb); replace BK164 := A_ (blk_below (bk_ BK164.out) hb); replace BK165 := A_ (blk_below (bk_ BK165.out) hb); replace BK166 := A_ (blk_below (bk_ BK166.out) hb); replace HB := A_ (below_step (bw_ HB.out) hb); clear hb; (try clear ho0)) | ((with_reducible refine gate_dst (N := 5) rfl ?_); refine bx_ 5 #[.int .i64 0, .int .i64 0, .string (⟨#[]⟩ : ByteArray), .slice none 0 0] 29 ?_; intro gb174 hg w18 hbox hb; have n0_ := A_ (Kd.R_below (Kd.R_elderB (kr_ HO_167003.out) gb174 (Nat.le_of_eq hg.symm)) hb); have n1_ := A_ (Kd.R_below (Kd.R_elderB (kr_ HO173.out) gb174 (Nat.le_of_eq hg.symm)) hb); have n2_ := A_ (blk_below (bk_ BK164.out) hb); have n3_ := A_ (blk_below (bk_ BK165.out) hb); have n4_ := A_ (blk_below (bk_ BK166.out) hb); have n5_ := A_ (below_step (bw_ HB.out) hb); have n6_ := A_ (hbox); have n7_ := A_ ((d3_ : w.heap.size ≤ gb174)); have n8_ := n7_; have n9_ := A_ ((by rw [hg]; exact Nat.ne_of_lt (blk_lt (bk_ BK164.out)) : gb164 ≠ gb174)); have n10_ := A_ n9_.out.symm; have n11_ := A_ ((by rw [hg]; exact Nat.ne_of_lt (blk_lt (bk_ BK165.out)) : gb165 ≠ gb174)); have n12_ := A_ n11_.out.symm; have n13_ := A_ ((by rw [hg]; exact Nat.ne_of_lt (blk_lt (bk_ BK166.out)) : gb166 ≠ gb174)); have n14_ := A_ n13_.out.symm; clear HO_167003; clear HO173; clear BK164; clear BK165; clear BK166; clear HB; have HO_167003 := n0_; have HO173 := n1_; have BK164 := n2_; have BK165 := n3_; have BK166 := n4_; have HB := n5_; have BK174 := n6_; have GW174 := n7_; have GE174 := n8_; have GI174 := GeI.mk GE174.out; have NB164_174 := n9_; have NB174_164 := n10_; have NB165_174 := n11_; have NB174_165 := n12_; have NB166_174 := n13_; have NB174_166 := n14_; clear n0_ n1_ n2_ n3_ n4_ n5_ n6_ n7_ n8_ n9_ n10_ n11_ n12_ n13_ n14_; clear hb hbox hg; have hnb19 := NB174_164.out; have hnc19 := NB164_174.out; have hnb20 := NB174_165.out; have hnc20 := NB165_174.out; have hnb21 := NB174_166.out; have hnc21 := NB166_174.out; obtain ⟨y22_0, y22_1, y22_2, y22_3, z22_0, z22_1, z22_2, z22_3⟩ := cz4_ BK174.out; obtain ⟨Ao23, co23, eo23⟩ := Kd.R_slice HO173.out; subst eo23) | ((with_reducible refine gate_store (t := 29) (p := 5) rfl ?_); refine store_event (t := 29) (p := 5) (v := ?vo_w24) (w1 := ((((w18.setCell ⟨gb174, 0, none⟩ (.int .i64 t168)).setCell ⟨gb174, 1, none⟩ (.int .i64 t169)).setCell ⟨gb174, 2, none⟩ (.string t170)).setCell ⟨gb174, 3, none⟩ (.slice Ao23 t171.length co23))) ?hg ?ho ?hn ?hr ?_; (case ho => rfl); (case hg => rfl); (case hn => rfl); (case hr => first | (go_simp; done) | (go_simp; rfl)); intro w24 hw; have n0_ : Aside0 (Kd.R k29 29 w24 w.heap.size (fun k_ => some k_ ≠ (.slice Ao23 t171.length co23 : Value).ownBlock ∧ k_ ≠ gb164 ∧ k_ ≠ gb165 ∧ k_ ≠ gb166 ∧ k_ ≠ gb174) u167003 x167003_1) := ⟨(by rw [hw]; exact (kr_ (Kd.R_mono (rf4_ (Kd.R_mono HO_167003.out (fun k_ hk => (⟨hk, hk.2⟩ : _ ∧ k_ ≠ gb174))) (fun _ hk => hk.2)) (fun _ hk => ⟨hk.1.1.2, ⟨hk.1.1.1.1, ⟨hk.1.1.1.2.1, ⟨hk.1.1.1.2.2, hk.1.2⟩⟩⟩⟩))))⟩; have n1_ : Aside0 (Kd.R k29 29 w24 w.heap.size (fun k_ => some k_ ≠ (u167003 : Value).ownBlock ∧ k_ ≠ gb164 ∧ k_ ≠ gb165 ∧ k_ ≠ gb166 ∧ k_ ≠ gb174) (.slice Ao23 t171.length co23) t171) := ⟨(by rw [hw]; exact (kr_ (Kd.R_mono (rf4_ (Kd.R_mono HO173.out (fun k_ hk => (⟨hk, hk.2⟩ : _ ∧ k_ ≠ gb174))) (fun _ hk => hk.2)) (fun _ hk => ⟨hk.1.1.1.1.1.2, ⟨hk.1.1.1.1.2, ⟨hk.1.1.1.2, ⟨hk.1.1.2, hk.1.2⟩⟩⟩⟩))))⟩; have n2_ : Aside0 (w24.heap[gb164]? = some (.cells #[.int .i64 a0_0, .int .i64 a0_1, .string a0_2, .slice (some ad167) l0_3.length c0_3] 29 (0, 0))) := ⟨(by rw [hw]; exact (by refine bk_ ?_; refine blk_far ?_ NB164_174.out _; refine bk_ ?_; refine blk_far ?_ NB164_174.out _; refine bk_ ?_; refine blk_far ?_ NB164_174.out _; refine bk_ ?_; refine blk_far ?_ NB164_174.out _; refine bk_ ?_; exact BK164.out))⟩; have n3_ : Aside0 (w24.heap[gb165]? = some (.cells #[.int .i64 0, .int .i64 0, .string (⟨#[]⟩ : ByteArray), .slice none 0 0] 29 (0, 0))) := ⟨(by rw [hw]; exact (by refine bk_ ?_; refine blk_far ?_ NB165_174.out _; refine bk_ ?_; refine blk_far ?_ NB165_174.out _; refine bk_ ?_; refine blk_far ?_ NB165_174.out _; refine bk_ ?_; refine blk_far ?_ NB165_174.out _; refine bk_ ?_; exact BK165.out))⟩; have n4_ : Aside0 (w24.heap[gb166]? = some (.cells #[.int .i64 a0_0, .int .i64 a0_1, .string a0_2, u167003] 29 (0, 0))) := ⟨(by rw [hw]; exact (by refine bk_ ?_; refine blk_far ?_ NB166_174.out _; refine bk_ ?_; refine blk_far ?_ NB166_174.out _; refine bk_ ?_; refine blk_far ?_ NB166_174.out _; refine bk_ ?_; refine blk_far ?_ NB166_174.out _; refine bk_ ?_; exact BK166.out))⟩; have n5_ : Aside0 (w24.heap[gb174]? = some (.cells #[.int .i64 t168, .int .i64 t169, .string t170, .slice Ao23 t171.length co23] 29 (0, 0))) := ⟨(by rw [hw]; exact (by exact bk_ (bp4_ (bk_ BK174.out))))⟩; have n6_ : Aside0 (Below w.heap.size w w24) := ⟨d37_⟩; clear hw; clear HO_167003; clear HO173; clear BK164; clear BK165; clear BK166; clear BK174; clear HB; have HO_167003 := n0_; have HO173 := n1_; have BK164 := n2_; have BK165 := n3_; have BK166 := n4_; have BK174 := n5_; have HB := n6_; clear n0_ n1_ n2_ n3_ n4_ n5_ n6_; have hnb25 := NB166_165.out; have hnc25 := NB165_166.out; obtain ⟨y26_0, y26_1, y26_2, y26_3, z26_0, z26_1, z26_2, z26_3⟩ := cz4_ BK166.out; obtain ⟨y27_0, y27_1, y27_2, y27_3, z27_0, z27_1, z27_2, z27_3⟩ := cz4_ BK174.out) | ((with_reducible refine gate_builtin (b := .append) (xs := #[.tmp 27, .tmp 29]) rfl ?_); at_builtin; refine Kd.R_append k29 (w0 := w) w.heap.size rfl (.tmp 27) (.tmp 29) 27 29 (.agg #[(.int .i64 0), (.int .i64 0), (.string ⟨#[]⟩), (.slice none 0 0)]) 56 rfl Try.underlying27 info29 rfl (by decide) (by omega) u167003 x167003_1 (⟨t168, t169, t170, t171⟩ : S29) [.int .i64 t168, .int .i64 t169, .string t170, .slice Ao23 t171.length co23] (fun k_ => k_ ≠ gb164 ∧ k_ ≠ gb165 ∧ k_ ≠ gb166 ∧ k_ ≠ gb174) (fun k_ => ((fun k_ => k_ ≠ gb164 ∧ k_ ≠ gb165 ∧ k_ ≠ gb166 ∧ k_ ≠ gb174)) k_ ∧ some k_ ≠ (u167003 : Value).ownBlock) rfl rfl ?aP (fun _ hk => hk) ?aF ?aO ?aB ?aS ?aL ?_; (case aP => exact k29_mkM _ _ _ (⟨t168, t169, t170, t171⟩ : S29) (Kd.R_mono (HO173.out) (fun k_ hk => ⟨⟨hk.2.1, ⟨hk.2.2.1, ⟨hk.2.2.2.1, hk.2.2.2.2⟩⟩⟩, hk.1⟩))); (case aB => exact (bw_ HB.out)); (case aF => exact (fun k_ hk => ⟨Kd.freshB (bk_ BK164.out) k_ hk, Kd.freshB (bk_ BK165.out) k_ hk, Kd.freshB (bk_ BK166.out) k_ hk, Kd.freshB (bk_ BK174.out) k_ hk⟩)); (case aO => exact (kr_ (Kd.R_mono HO_167003.out (fun _ hk => ⟨hk.2.1, ⟨hk.2.2.1, ⟨hk.2.2.2.1, hk.2.2.2.2⟩⟩⟩)))); (case aS => exact (below_size (bw_ HB.out))); (case aL => have := LMc13.out; omega); intro v176 w28 ho hb hg hat; rw [← Ny175.out] at ho; have n0_ := A_ (blk_grown (bk_ BK164.out) hg (Kd.R_away HO_167003.out (fun _ hk => hk.2.1))); have n1_ := A_ (blk_grown (bk_ BK165.out) hg (Kd.R_away HO_167003.out (fun _ hk => hk.2.2.1))); have n2_ := A_ (blk_grown (bk_ BK166.out) hg (Kd.R_away HO_167003.out (fun _ hk => hk.2.2.2.1))); have n3_ := A_ (blk_grown (bk_ BK174.out) hg (Kd.R_away HO_167003.out (fun _ hk => hk.2.2.2.2))); have n4_ := A_ (hb); have n5_ := A_ (ho); clear BK164; clear BK165; clear BK166; clear BK174; clear HB; clear HO_167003; clear HO173; have BK164 := n0_; have BK165 := n1_; have BK166 := n2_; have BK174 := n3_; have HB := n4_; have HO177 := n5_; clear n0_ n1_ n2_ n3_ n4_ n5_; clear ho hb hg hat; obtain ⟨Ao29, co29, eo29⟩ := Kd.R_slice HO177.out; subst eo29; obtain ⟨y30_0, y30_1, y30_2, y30_3, z30_0, z30_1, z30_2, z30_3⟩ := cz4_ BK166.out))
      go_roundg k1
      case measure => have := HK1.out; omega
      case rel => exact ⟨(wrap64 (x4_1 + 1)), (y175), (.slice Ao29 y175.length co29), d4_, H', ⟨by have := HK1.out; omega⟩, ⟨kr_ (Kd.R_mono (Kd.R_far (p := ⟨gb166, 3, none⟩) (Kd.R_mono HO177.out (fun k_ hk => (⟨hk, hk.2.2.1⟩ : _ ∧ k_ ≠ gb166))) (fun _ hk => hk.2) (.slice Ao29 y175.length co29)) (fun _ hk => ⟨hk.1.1, ⟨hk.1.2.1, hk.1.2.2.1⟩⟩))⟩, ⟨by refine bk_ ?_; refine blk_far ?_ NB164_166.out _; refine bk_ ?_; exact BK164.out⟩, ⟨by refine bk_ ?_; refine blk_far ?_ NB165_166.out _; refine bk_ ?_; exact BK165.out⟩, ⟨by refine bk_ ?_; refine blk_put (cs := #[.int .i64 a0_0, .int .i64 a0_1, .string a0_2, u167003]) ?_ 3 _ rfl; refine bk_ ?_; exact BK166.out⟩, ⟨bw_ HB.out⟩⟩
     ·rw [if_neg c13] at H
      exact absurd H (by simp)
    ·rw [if_neg c11] at H
     exact absurd H (by simp)
   ·rw [if_neg c10] at H
    have c10b0 := decide_eq_false c10
    clear c10
    simp only [Option.some.injEq, Prod.mk.injEq] at H
    obtain ⟨rfl, rfl, rfl, rfl⟩ := H
    have hnb31 := NB164_165.out
    have hnc31 := NB165_164.out
    have hnb32 := NB164_166.out
    have hnc32 := NB166_164.out
    obtain ⟨y33_0, y33_1, y33_2, y33_3, z33_0, z33_1, z33_2, z33_3⟩ := cz4_ BK164.out
    have hnb34 := NB166_165.out
    have hnc34 := NB165_166.out
    obtain ⟨y35_0, y35_1, y35_2, y35_3, z35_0, z35_1, z35_2, z35_3⟩ := cz4_ BK166.out
    obtain ⟨y36_0, y36_1, y36_2, y36_3, z36_0, z36_1, z36_2, z36_3⟩ := cz4_ BK165.out
    obtain ⟨Ao37, co37, eo37⟩ := Kd.R_slice HO_167003.out
    subst eo37
    go_wp2
    refine bodyPost_ret (results_cell_row rfl _ _ gb165 29 #[.int .i64 a0_0, .int .i64 a0_1, .string a0_2, .slice Ao37 x167003_1.length co37] (0, 0) _ rfl ?hb_ Try.underlying29 rfl (by kernel_rfl)) rfl ?_
    (case hb_ => exact bk_ (bp4_ (bk_ BK165.out)))
    exact ⟨_, by first | rfl | (simp [errW_none, errW_some] <;> rfl) | (simp [*, errW_none, errW_some] <;> rfl), kr_ (Kd.R_mono (rf4_ (Kd.R_mono HO_167003.out (fun k_ hk => (⟨hk, hk.2.1⟩ : _ ∧ k_ ≠ gb165))) (fun _ hk => hk.2)) (fun _ hk => trivial)), bw_ HB.out⟩

/-! ### spec_Wrap: function 73 -/
def spec_Wrap.f (a0 : Int) : Option (Int) := some (Go.bits .and .i64 a0 65535)
set_option maxHeartbeats 8000000 in
set_option maxRecDepth 100000 in
theorem spec_Wrap.calls (a0 : Int) (r : Int) (w : World) (h : spec_Wrap.f a0 = some r) :
  Calls Try.prog 73 #[.int .i64 a0] w fun e w' => e = .returned (.int .i64 r) ∧ Drawn0 w w' := by
 have H : (some (Go.bits .and .i64 a0 65535)) = some r := h
 clear h
 obtain rfl := Option.some.inj H
 go_enter Try.func73, Try.ntmps73
 go_wp2
 go_ret
 exact ⟨by first | rfl | (simp; done) | (simp [*]; done), by repeat (first | exact Drawn0.refl _ | apply Drawn0.step)⟩

/-! ### spec_l11Two: function 75 -/
def spec_l11Two.f (a0 : Int) (a1 : Int) (a2 : Int) : Option (Int × Bool) := if a0 = 5 then ((spec_Wrap.f (wrap64 (a1 + a2))).bind fun t178 => (some (t178, true))) else (if a0 = 6 then ((spec_Wrap.f (wrap64 (a1 - a2))).bind fun t179 => (some (t179, true))) else (if a0 = 7 then ((spec_Wrap.f (wrap64 (a1 * a2))).bind fun t180 => (some (t180, true))) else (if a0 = 9 then (some (Go.bits .and .i64 a1 a2, true)) else (if a0 = 10 then (some (Go.bits .or .i64 a1 a2, true)) else (if a2 = 0 then (some (0, false)) else (some (wrap64 (Int.tdiv a1 a2), true)))))))
set_option maxHeartbeats 8000000 in
set_option maxRecDepth 100000 in
theorem spec_l11Two.calls (a0 : Int) (a1 : Int) (a2 : Int) (r1 : Int) (r2 : Bool) (w : World) (h : spec_l11Two.f a0 a1 a2 = some (r1, r2)) :
  Calls Try.prog 75 #[.int .i64 a0, .int .i64 a1, .int .i64 a2] w fun e w' => e = .returned (.tuple #[.int .i64 r1, .bool r2]) ∧ Drawn0 w w' := by
 have H : (if a0 = 5 then ((spec_Wrap.f (wrap64 (a1 + a2))).bind fun t178 => (some (t178, true))) else (if a0 = 6 then ((spec_Wrap.f (wrap64 (a1 - a2))).bind fun t179 => (some (t179, true))) else (if a0 = 7 then ((spec_Wrap.f (wrap64 (a1 * a2))).bind fun t180 => (some (t180, true))) else (if a0 = 9 then (some (Go.bits .and .i64 a1 a2, true)) else (if a0 = 10 then (some (Go.bits .or .i64 a1 a2, true)) else (if a2 = 0 then (some (0, false)) else (some (wrap64 (Int.tdiv a1 a2), true)))))))) = some (r1, r2) := h
 clear h
 by_cases c4 : a0 = 5
 ·rw [if_pos c4] at H
  have c4b0 := beq_iff_eq.mpr c4
  have c4b1 := bne_eq_false_iff_eq.mpr c4
  clear c4
  replace H := Option.bind_eq_some_iff.mp H
  obtain ⟨t178, A50, H⟩ := H
  try dsimp only at H
  have A5 := A_ A50
  clear A50
  simp only [Option.some.injEq, Prod.mk.injEq] at H
  obtain ⟨rfl, rfl⟩ := H
  go_enter Try.func75, Try.ntmps75
  go_wp2_with (first | ((with_reducible refine gate_callee (f := 73) rfl ?_); refine gL_ (some 14) Try.func73 #[.int .i64 (wrap64 (a1 + a2))] ?_; (with_reducible refine (spec_Wrap.calls (wrap64 (a1 + a2)) t178 _ A5.out).mono ?_); rintro e w' ⟨rfl, ⟨nd, rfl⟩⟩; refine ⟨_, rfl, ?_⟩))
  go_ret2
  exact ⟨by first | rfl | (simp; done) | (simp [*]; done), by repeat (first | exact Drawn0.refl _ | apply Drawn0.step)⟩
 ·rw [if_neg c4] at H
  have c4b0 := beq_eq_false_iff_ne.mpr c4
  have c4b1 := bne_iff_ne.mpr c4
  by_cases c6 : a0 = 6
  ·rw [if_pos c6] at H
   have c6b0 := beq_iff_eq.mpr c6
   have c6b1 := bne_eq_false_iff_eq.mpr c6
   clear c6
   replace H := Option.bind_eq_some_iff.mp H
   obtain ⟨t179, A70, H⟩ := H
   try dsimp only at H
   have A7 := A_ A70
   clear A70
   simp only [Option.some.injEq, Prod.mk.injEq] at H
   obtain ⟨rfl, rfl⟩ := H
   go_enter Try.func75, Try.ntmps75
   go_wp2_with (first | ((with_reducible refine gate_callee (f := 73) rfl ?_); refine gL_ (some 20) Try.func73 #[.int .i64 (wrap64 (a1 - a2))] ?_; (with_reducible refine (spec_Wrap.calls (wrap64 (a1 - a2)) t179 _ A7.out).mono ?_); rintro e w' ⟨rfl, ⟨nd, rfl⟩⟩; refine ⟨_, rfl, ?_⟩))
   go_ret2
   exact ⟨by first | rfl | (simp; done) | (simp [*]; done), by repeat (first | exact Drawn0.refl _ | apply Drawn0.step)⟩
  ·rw [if_neg c6] at H
   have c6b0 := beq_eq_false_iff_ne.mpr c6
   have c6b1 := bne_iff_ne.mpr c6
   by_cases c8 : a0 = 7
   ·rw [if_pos c8] at H
    have c8b0 := beq_iff_eq.mpr c8
    have c8b1 := bne_eq_false_iff_eq.mpr c8
    clear c8
    replace H := Option.bind_eq_some_iff.mp H
    obtain ⟨t180, A90, H⟩ := H
    try dsimp only at H
    have A9 := A_ A90
    clear A90
    simp only [Option.some.injEq, Prod.mk.injEq] at H
    obtain ⟨rfl, rfl⟩ := H
    go_enter Try.func75, Try.ntmps75
    go_wp2_with (first | ((with_reducible refine gate_callee (f := 73) rfl ?_); refine gL_ (some 26) Try.func73 #[.int .i64 (wrap64 (a1 * a2))] ?_; (with_reducible refine (spec_Wrap.calls (wrap64 (a1 * a2)) t180 _ A9.out).mono ?_); rintro e w' ⟨rfl, ⟨nd, rfl⟩⟩; refine ⟨_, rfl, ?_⟩))
    go_ret2
    exact ⟨by first | rfl | (simp; done) | (simp [*]; done), by repeat (first | exact Drawn0.refl _ | apply Drawn0.step)⟩
   ·rw [if_neg c8] at H
    have c8b0 := beq_eq_false_iff_ne.mpr c8
    have c8b1 := bne_iff_ne.mpr c8
    by_cases c10 : a0 = 9
    ·rw [if_pos c10] at H
     have c10b0 := beq_iff_eq.mpr c10
     have c10b1 := bne_eq_false_iff_eq.mpr c10
     clear c10
     simp only [Option.some.injEq, Prod.mk.injEq] at H
     obtain ⟨rfl, rfl⟩ := H
     go_enter Try.func75, Try.ntmps75
     go_wp2
     go_ret2
     exact ⟨by first | rfl | (simp; done) | (simp [*]; done), by repeat (first | exact Drawn0.refl _ | apply Drawn0.step)⟩
    ·rw [if_neg c10] at H
     have c10b0 := beq_eq_false_iff_ne.mpr c10
     have c10b1 := bne_iff_ne.mpr c10
     by_cases c11 : a0 = 10
     ·rw [if_pos c11] at H
      have c11b0 := beq_iff_eq.mpr c11
      have c11b1 := bne_eq_false_iff_eq.mpr c11
      clear c11
      simp only [Option.some.injEq, Prod.mk.injEq] at H
      obtain ⟨rfl, rfl⟩ := H
      go_enter Try.func75, Try.ntmps75
      go_wp2
      go_ret2
      exact ⟨by first | rfl | (simp; done) | (simp [*]; done), by repeat (first | exact Drawn0.refl _ | apply Drawn0.step)⟩
     ·rw [if_neg c11] at H
      have c11b0 := beq_eq_false_iff_ne.mpr c11
      have c11b1 := bne_iff_ne.mpr c11
      by_cases c12 : a2 = 0
      ·rw [if_pos c12] at H
       have c12b0 := beq_iff_eq.mpr c12
       have c12b1 := bne_eq_false_iff_eq.mpr c12
       clear c12
       simp only [Option.some.injEq, Prod.mk.injEq] at H
       obtain ⟨rfl, rfl⟩ := H
       go_enter Try.func75, Try.ntmps75
       go_wp2
       go_ret2
       exact ⟨by first | rfl | (simp; done) | (simp [*]; done), by repeat (first | exact Drawn0.refl _ | apply Drawn0.step)⟩
      ·rw [if_neg c12] at H
       have c12b0 := beq_eq_false_iff_ne.mpr c12
       have c12b1 := bne_iff_ne.mpr c12
       simp only [Option.some.injEq, Prod.mk.injEq] at H
       obtain ⟨rfl, rfl⟩ := H
       go_enter Try.func75, Try.ntmps75
       go_wp2
       go_ret2
       exact ⟨by first | rfl | (simp; done) | (simp [*]; done), by repeat (first | exact Drawn0.refl _ | apply Drawn0.step)⟩

/-! ### spec_l10Num: function 79 -/
def spec_l10Num.f (a0 : Int) : Option (Int × Int × ByteArray × (List (S29))) := (spec_Wrap.f a0).bind fun t182 => (some (1, t182, (⟨#[]⟩ : ByteArray), ([] : List (S29))))
set_option maxHeartbeats 8000000 in
set_option maxRecDepth 100000 in
theorem spec_l10Num.calls (a0 : Int) (r1 : Int) (r2 : Int) (r3 : ByteArray) (r4 : List (S29)) (w : World) (h : spec_l10Num.f a0 = some (r1, r2, r3, r4)) :
  Calls Try.prog 79 #[.int .i64 a0] w fun e w' => ∃ v3_ : Value, e = .returned (.agg #[.int .i64 r1, .int .i64 r2, .string r3, v3_]) ∧ Kd.R k29 29 w' w.heap.size (fun _ => True) v3_ r4 ∧ Below w.heap.size w w' := by
 have hu29 := Try.underlying29
 have HB := A_ (Below.refl w.heap.size w)
 have H : ((spec_Wrap.f a0).bind fun t182 => (some (1, t182, (⟨#[]⟩ : ByteArray), ([] : List (S29))))) = some (r1, r2, r3, r4) := h
 clear h
 replace H := Option.bind_eq_some_iff.mp H
 obtain ⟨t182, A20, H⟩ := H
 try dsimp only at H
 have A2 := A_ A20
 clear A20
 simp only [Option.some.injEq, Prod.mk.injEq] at H
 obtain ⟨rfl, rfl, rfl, rfl⟩ := H
 go_enter Try.func79, Try.ntmps79
 go_wp2_with (first | ((with_reducible refine gate_dst (N := 2) rfl ?_); refine bx_ 2 #[.int .i64 0, .int .i64 0, .string (⟨#[]⟩ : ByteArray), .slice none 0 0] 29 ?_; intro gb181 hg w3 hbox hb; have n0_ := A_ (below_step (bw_ HB.out) hb); have n1_ := A_ (hbox); have n2_ := A_ ((d3_ : w.heap.size ≤ gb181)); have n3_ := n2_; clear HB; have HB := n0_; have BK181 := n1_; have GW181 := n2_; have GE181 := n3_; have GI181 := GeI.mk GE181.out; clear n0_ n1_ n2_ n3_; clear hb hbox hg) | ((with_reducible refine gate_callee (f := 73) rfl ?_); refine gL_ (some 4) Try.func73 #[.int .i64 a0] ?_; (with_reducible refine (spec_Wrap.calls a0 t182 _ A2.out).mono ?_); rintro e w' ⟨rfl, ⟨nd, rfl⟩⟩; refine ⟨_, rfl, ?_⟩; (try (rw [drewN_self w3]; generalize hq_ : World.drewN w3 _ = w3; have n0_ := A_ (bq_ hq_ BK181.out); have n1_ := A_ (wq_ hq_ HB.out); clear BK181 HB hq_; have BK181 := n0_; have HB := n1_; clear n0_ n1_)); obtain ⟨y4_0, y4_1, y4_2, y4_3, z4_0, z4_1, z4_2, z4_3⟩ := cz4_ BK181.out))
 refine bodyPost_ret (results_cell_row rfl _ _ gb181 29 #[.int .i64 1, .int .i64 t182, .string (⟨#[]⟩ : ByteArray), .slice none 0 0] (0, 0) _ rfl ?hb_ Try.underlying29 rfl (by kernel_rfl)) rfl ?_
 (case hb_ => exact bk_ (bp4_ (bk_ BK181.out)))
 exact ⟨_, by first | rfl | (simp [errW_none, errW_some] <;> rfl) | (simp [*, errW_none, errW_some] <;> rfl), by first | exact Kd.R_nil _ _ _ _ _ | exact Kd.N_nil _ _ _ _ _ | exact Kd.V_nil _ _ _ _ _ | exact Kd.Q_nil _ _ _ _ _ | exact Kd.S_nil _ _ _ _ _, bw_ HB.out⟩

/-! ### spec_l11Part: function 90 -/
def spec_l11Part.f (a0_0 : Int) (a0_1 : Int) (a0_2 : ByteArray) (l0_3 : List (S29)) : Option (Int × Int × ByteArray × (List (S29)) × Int) := if a0_0 = 5 then (if 1 < (l0_3.length : Int) then (if ((rd_T29 l0_3 1).f0) = 1 then (if 0 < (l0_3.length : Int) then (some ((rd_T29 l0_3 0).f0, (rd_T29 l0_3 0).f1, (rd_T29 l0_3 0).f2, (rd_T29 l0_3 0).f3, (rd_T29 l0_3 1).f1)) else (none)) else (some (a0_0, a0_1, a0_2, l0_3, 0))) else (none)) else (some (a0_0, a0_1, a0_2, l0_3, 0))
def spec_l11Part.T2 : Bool × List (List Nat × List Nat) := (true, [([], []), ([0], [0]), ([1], [1]), ([2], [2]), ([], []), ([4], [4]), ([5], [5]), ([6], [6]), ([7], [7]), ([3, 0, 1, 2, 3], [3]), ([8, 9, 0, 1, 2, 3, 4, 5, 6, 7, 8, 9], [8])])
def spec_l11Part.B2 : List Nat := [0, 1, 3, 7, 0, 16, 48, 112, 240, 15, 1023]
theorem spec_l11Part.tab2 : rtab .any (opsOf Try.f90 2) = spec_l11Part.T2 := by kernel_rfl
theorem spec_l11Part.bits2 : waitsOk spec_l11Part.T2.2 spec_l11Part.B2 = true := by kernel_rfl
set_option maxHeartbeats 8000000 in
set_option maxRecDepth 100000 in
theorem spec_l11Part.calls (a0_0 : Int) (a0_1 : Int) (a0_2 : ByteArray) (P0_3_ : Nat → Prop) (A0_3 : Option Addr) (c0_3 : Nat) (l0_3 : List (S29)) (r1 : Int) (r2 : Int) (r3 : ByteArray) (r4 : List (S29)) (r5 : Int) (w : World) (hs0_3 : Kd.V k29 29 w w.heap.size (fun k_ => P0_3_ k_) (.slice A0_3 l0_3.length c0_3) l0_3) (h : spec_l11Part.f a0_0 a0_1 a0_2 l0_3 = some (r1, r2, r3, r4, r5)) :
  Calls Try.prog 90 #[.agg #[.int .i64 a0_0, .int .i64 a0_1, .string a0_2, .slice A0_3 l0_3.length c0_3]] w fun e w' => ∃ v3_ : Value, e = .returned (.tuple #[.agg #[.int .i64 r1, .int .i64 r2, .string r3, v3_], .int .i64 r5]) ∧ Kd.V k29 29 w' w.heap.size (fun k_ => (P0_3_ k_ ∨ w.heap.size ≤ k_)) v3_ r4 ∧ Below w.heap.size w w' := by
 have hu29 := Try.underlying29
 have HO0_3 := A_ (show Kd.V k29 29 w w.heap.size (fun k_ => (P0_3_ k_ ∨ w.heap.size ≤ k_)) (.slice A0_3 l0_3.length c0_3) l0_3 from Kd.V_mono hs0_3 (fun k_ hk => .inl hk))
 have HB := A_ (Below.refl w.heap.size w)
 have H : (if a0_0 = 5 then (if 1 < (l0_3.length : Int) then (if ((rd_T29 l0_3 1).f0) = 1 then (if 0 < (l0_3.length : Int) then (some ((rd_T29 l0_3 0).f0, (rd_T29 l0_3 0).f1, (rd_T29 l0_3 0).f2, (rd_T29 l0_3 0).f3, (rd_T29 l0_3 1).f1)) else (none)) else (some (a0_0, a0_1, a0_2, l0_3, 0))) else (none)) else (some (a0_0, a0_1, a0_2, l0_3, 0))) = some (r1, r2, r3, r4, r5) := h
 clear h
 by_cases c2 : a0_0 = 5
 ·rw [if_pos c2] at H
  have c2b0 := beq_iff_eq.mpr c2
  have c2b1 := bne_eq_false_iff_eq.mpr c2
  clear c2
  by_cases c3 : 1 < (l0_3.length : Int)
  ·rw [if_pos c3] at H
   have c3b0 := decide_eq_true c3
   have c3b1 : decide (1 < l0_3.length) = true := decide_eq_true (by omega)
   clear c3
   by_cases c4 : ((rd_T29 l0_3 1).f0) = 1
   ·rw [if_pos c4] at H
    have c4b0 := beq_iff_eq.mpr c4
    have c4b1 := bne_eq_false_iff_eq.mpr c4
    clear c4
    by_cases c5 : 0 < (l0_3.length : Int)
    ·rw [if_pos c5] at H
     have c5b0 := decide_eq_true c5
     have c5b1 : decide (0 < l0_3.length) = true := decide_eq_true (by omega)
     clear c5
     simp only [Option.some.injEq, Prod.mk.injEq] at H
     obtain ⟨rfl, rfl, rfl, rfl, rfl⟩ := H
     go_enter Try.func90, Try.ntmps90
     try go_wp2_with (first | ((with_reducible refine gate_dst (N := 1) rfl ?_); refine bx_ 1 #[.int .i64 a0_0, .int .i64 a0_1, .string a0_2, .slice A0_3 l0_3.length c0_3] 29 ?_; intro gb183 hg w6 hbox hb; have n0_ := A_ (Kd.V_below (Kd.V_elderB (kv_ HO0_3.out) gb183 (Nat.le_of_eq hg.symm)) hb); have n1_ := A_ (below_step (bw_ HB.out) hb); have n2_ := A_ (hbox); have n3_ := A_ ((d3_ : w.heap.size ≤ gb183)); have n4_ := n3_; clear HO0_3; clear HB; have HO0_3 := n0_; have HB := n1_; have BK183 := n2_; have GW183 := n3_; have GE183 := n4_; have GI183 := GeI.mk GE183.out; clear n0_ n1_ n2_ n3_ n4_; clear hb hbox hg) | ((with_reducible refine gate_dst (N := 2) rfl ?_); refine bx_ 2 #[.int .i64 0, .int .i64 0, .string (⟨#[]⟩ : ByteArray), .slice none 0 0] 29 ?_; intro gb184 hg w7 hbox hb; have n0_ := A_ (Kd.V_below (Kd.V_elderB (kv_ HO0_3.out) gb184 (Nat.le_of_eq hg.symm)) hb); have n1_ := A_ (blk_below (bk_ BK183.out) hb); have n2_ := A_ (below_step (bw_ HB.out) hb); have n3_ := A_ (hbox); have n4_ := A_ ((d3_ : w.heap.size ≤ gb184)); have n5_ := n4_; have n6_ := A_ ((by rw [hg]; exact Nat.ne_of_lt (blk_lt (bk_ BK183.out)) : gb183 ≠ gb184)); have n7_ := A_ n6_.out.symm; clear HO0_3; clear BK183; clear HB; have HO0_3 := n0_; have BK183 := n1_; have HB := n2_; have BK184 := n3_; have GW184 := n4_; have GE184 := n5_; have GI184 := GeI.mk GE184.out; have NB183_184 := n6_; have NB184_183 := n7_; clear n0_ n1_ n2_ n3_ n4_ n5_ n6_ n7_; clear hb hbox hg; have hnb8 := NB183_184.out; have hnc8 := NB184_183.out; obtain ⟨y9_0, y9_1, y9_2, y9_3, z9_0, z9_1, z9_2, z9_3⟩ := cz4_ BK183.out; have p185 : 0 ≤ (1 : Int) := (by omega); have q185 : 1 < (l0_3.length : Int) := of_decide_eq_true d1_; obtain ⟨ad185, A185_3, c185_3, e185, hx185_0, hx185_1, hx185_2, hx185_3, hl185_3, hi185_3⟩ := at_T29 (Kd.V_reads' HO0_3.out).2.2 1 p185 q185; cases e185; obtain ⟨ce185, hce185, hMe185, hcc185⟩ := Kd.V_get HO0_3.out z29 1 p185 (by first | exact q185 | exact of_decide_eq_true d1_ | (have e_ := (Kd.V_reads' HO0_3.out).1; omega)); obtain ⟨ua185_3, uc185_3, rfl, ul185_3, ge185_3⟩ := k29_openF hMe185; have hv185_3 := hcc185 3 _ rfl; rw [add_field _ _ 3 (by omega)] at hv185_3; replace hv185_3 := Option.some.inj (hv185_3.symm.trans hx185_3); injection hv185_3 with hva_ hvn_ hvc_; rw [hva_] at ge185_3; rw [hvc_] at ul185_3; have HL185_3 := A_ (show Kd.V k29 29 _ w.heap.size _ _ ((rd_T29 l0_3 1).f3) from Kd.V_mk ul185_3 ge185_3); clear hva_ hvn_ hvc_ ge185_3 ul185_3; clear hcc185 hce185; (try simp only [show (1 : Int).toNat = 1 from rfl, Nat.reduceMul, Nat.reduceEqDiff, Go.Addr.add, ↓reduceIte] at hx185_0); (try simp only [show (1 : Int).toNat = 1 from rfl, Nat.reduceMul, Nat.reduceEqDiff, Go.Addr.add, ↓reduceIte] at hx185_1); (try simp only [show (1 : Int).toNat = 1 from rfl, Nat.reduceMul, Nat.reduceEqDiff, Go.Addr.add, ↓reduceIte] at hx185_2); (try simp only [show (1 : Int).toNat = 1 from rfl, Nat.reduceMul, Nat.reduceEqDiff, Go.Addr.add, ↓reduceIte] at hx185_3); have qi185 : (1 < l0_3.length) = True := eq_true (by omega); (try rw [show ((1 : Int)).toNat = 1 from rfl] at hx185_0); (try rw [show 1 * 4 = 4 from rfl] at hx185_0); (try rw [show ((1 : Int)).toNat = 1 from rfl] at hx185_1); (try rw [show 1 * 4 = 4 from rfl] at hx185_1); (try rw [show ((1 : Int)).toNat = 1 from rfl] at hx185_2); (try rw [show 1 * 4 = 4 from rfl] at hx185_2); (try rw [show ((1 : Int)).toNat = 1 from rfl] at hx185_3); (try rw [show 1 * 4 = 4 from rfl] at hx185_3); have HR185_3 := A_ hi185_3; have HC185_3 := A_ hl185_3; clear hi185_3 hl185_3; replace p185 := eq_true p185; replace q185 := eq_true q185))
     replace HO0_3 := A_ (Kd.V_drew HO0_3.out)
     replace HL185_3 := A_ (Kd.V_drew HL185_3.out)
     replace BK183 := A_ (blk_drew BK183.out)
     replace BK184 := A_ (blk_drew BK184.out)
     replace HR185_3 := A_ (Kd.C_drew HR185_3.out)
     replace HB := A_ (below_drew1 HB.out)
     have p186 : 0 ≤ (0 : Int) := (by omega)
     have q186 : 0 < (l0_3.length : Int) := of_decide_eq_true d1_
     obtain ⟨ad186, A186_3, c186_3, e186, hx186_0, hx186_1, hx186_2, hx186_3, hl186_3, hi186_3⟩ := at_T29 (Kd.V_reads' HO0_3.out).2.2 0 p186 q186
     obtain rfl : ad185 = ad186 := (by injection e186)
     obtain ⟨ce186, hce186, hMe186, hcc186⟩ := Kd.V_get HO0_3.out z29 0 p186 (by first | exact q186 | exact of_decide_eq_true d1_ | (have e_ := (Kd.V_reads' HO0_3.out).1; omega))
     obtain ⟨ua186_3, uc186_3, rfl, ul186_3, ge186_3⟩ := k29_openF hMe186
     have hv186_3 := hcc186 3 _ rfl
     rw [add_field _ _ 3 (by omega)] at hv186_3
     replace hv186_3 := Option.some.inj (hv186_3.symm.trans hx186_3)
     injection hv186_3 with hva_ hvn_ hvc_
     rw [hva_] at ge186_3
     rw [hvc_] at ul186_3
     have HL186_3 := A_ (show Kd.V k29 29 _ w.heap.size _ _ ((rd_T29 l0_3 0).f3) from Kd.V_mk ul186_3 ge186_3)
     clear hva_ hvn_ hvc_ ge186_3 ul186_3
     clear hcc186 hce186
     have qi186 : (0 < l0_3.length) = True := eq_true (by omega)
     (try rw [show ((0 : Int)).toNat = 0 from rfl] at hx186_0)
     (try rw [show 0 * 4 = 0 from rfl] at hx186_0)
     (try rw [Addr.add_zero'] at hx186_0)
     (try rw [show ((0 : Int)).toNat = 0 from rfl] at hx186_1)
     (try rw [show 0 * 4 = 0 from rfl] at hx186_1)
     (try rw [Addr.add_zero'] at hx186_1)
     (try rw [show ((0 : Int)).toNat = 0 from rfl] at hx186_2)
     (try rw [show 0 * 4 = 0 from rfl] at hx186_2)
     (try rw [Addr.add_zero'] at hx186_2)
     (try rw [show ((0 : Int)).toNat = 0 from rfl] at hx186_3)
     (try rw [show 0 * 4 = 0 from rfl] at hx186_3)
     (try rw [Addr.add_zero'] at hx186_3)
     have HR186_3 := A_ hi186_3
     have HC186_3 := A_ hl186_3
     clear hi186_3 hl186_3
     replace p186 := eq_true p186
     replace q186 := eq_true q186
     have p187 : 0 ≤ (1 : Int) := (by omega)
     have q187 : 1 < (l0_3.length : Int) := of_decide_eq_true d1_
     obtain ⟨ad187, A187_3, c187_3, e187, hx187_0, hx187_1, hx187_2, hx187_3, hl187_3, hi187_3⟩ := at_T29 (Kd.V_reads' HO0_3.out).2.2 1 p187 q187
     obtain rfl : ad185 = ad187 := (by injection e187)
     obtain ⟨ce187, hce187, hMe187, hcc187⟩ := Kd.V_get HO0_3.out z29 1 p187 (by first | exact q187 | exact of_decide_eq_true d1_ | (have e_ := (Kd.V_reads' HO0_3.out).1; omega))
     obtain ⟨ua187_3, uc187_3, rfl, ul187_3, ge187_3⟩ := k29_openF hMe187
     have hv187_3 := hcc187 3 _ rfl
     rw [add_field _ _ 3 (by omega)] at hv187_3
     replace hv187_3 := Option.some.inj (hv187_3.symm.trans hx187_3)
     injection hv187_3 with hva_ hvn_ hvc_
     rw [hva_] at ge187_3
     rw [hvc_] at ul187_3
     have HL187_3 := A_ (show Kd.V k29 29 _ w.heap.size _ _ ((rd_T29 l0_3 1).f3) from Kd.V_mk ul187_3 ge187_3)
     clear hva_ hvn_ hvc_ ge187_3 ul187_3
     clear hcc187 hce187
     (try simp only [show (1 : Int).toNat = 1 from rfl, Nat.reduceMul, Nat.reduceEqDiff, Go.Addr.add, ↓reduceIte] at hx187_0)
     (try simp only [show (1 : Int).toNat = 1 from rfl, Nat.reduceMul, Nat.reduceEqDiff, Go.Addr.add, ↓reduceIte] at hx187_1)
     (try simp only [show (1 : Int).toNat = 1 from rfl, Nat.reduceMul, Nat.reduceEqDiff, Go.Addr.add, ↓reduceIte] at hx187_2)
     (try simp only [show (1 : Int).toNat = 1 from rfl, Nat.reduceMul, Nat.reduceEqDiff, Go.Addr.add, ↓reduceIte] at hx187_3)
     have qi187 : (1 < l0_3.length) = True := eq_true (by omega)
     (try rw [show ((1 : Int)).toNat = 1 from rfl] at hx187_0)
     (try rw [show 1 * 4 = 4 from rfl] at hx187_0)
     (try rw [show ((1 : Int)).toNat = 1 from rfl] at hx187_1)
     (try rw [show 1 * 4 = 4 from rfl] at hx187_1)
     (try rw [show ((1 : Int)).toNat = 1 from rfl] at hx187_2)
     (try rw [show 1 * 4 = 4 from rfl] at hx187_2)
     (try rw [show ((1 : Int)).toNat = 1 from rfl] at hx187_3)
     (try rw [show 1 * 4 = 4 from rfl] at hx187_3)
     have HR187_3 := A_ hi187_3
     have HC187_3 := A_ hl187_3
     clear hi187_3 hl187_3
     replace p187 := eq_true p187
     replace q187 := eq_true q187
     refine start_ (n := 11) (S := fun w' => w'.cell? ⟨gb183, 0, none⟩ = some (.int .i64 a0_0) ∧ w'.cell? ⟨gb183, 1, none⟩ = some (.int .i64 a0_1) ∧ w'.cell? ⟨gb183, 2, none⟩ = some (.string a0_2) ∧ w'.cell? ⟨gb183, 3, none⟩ = some (.slice (some ad185) l0_3.length c0_3) ∧ w'.cell? ad185 = some (.int .i64 ((rd_T29 l0_3 0).f0)) ∧ w'.cell? ⟨ad185.block, ad185.off + 1, none⟩ = some (.int .i64 ((rd_T29 l0_3 0).f1)) ∧ w'.cell? ⟨ad185.block, ad185.off + 2, none⟩ = some (.string ((rd_T29 l0_3 0).f2)) ∧ w'.cell? ⟨ad185.block, ad185.off + 3, none⟩ = some (.slice A186_3 ((rd_T29 l0_3 0).f3).length c186_3) ∧ w'.cell? ⟨ad185.block, ad185.off + 4, none⟩ = some (.int .i64 ((rd_T29 l0_3 1).f0)) ∧ w'.cell? ⟨ad185.block, ad185.off + 4 + 1, none⟩ = some (.int .i64 ((rd_T29 l0_3 1).f1)) ∧ w'.cell? ⟨ad185.block, ad185.off + 4 + 2, none⟩ = some (.string ((rd_T29 l0_3 1).f2)) ∧ w'.cell? ⟨ad185.block, ad185.off + 4 + 3, none⟩ = some (.slice A187_3 ((rd_T29 l0_3 1).f3).length c187_3)) (ds := []) #[false, false, false, false, false, false, false, false, false, false, false] (by kernel_rfl) rfl rfl ⟨(blk_cell BK183.out 0).trans rfl, (blk_cell BK183.out 1).trans rfl, (blk_cell BK183.out 2).trans rfl, (blk_cell BK183.out 3).trans rfl, hx186_0, hx186_1, hx186_2, hx186_3, hx187_0, hx187_1, hx187_2, hx187_3⟩ (fun hHeld => ?_); refine with_tabW spec_l11Part.tab2 spec_l11Part.bits2 (fun HT_ HW_ => ?_)
     generalize w7.drew = w10 at HO0_3 HL185_3 BK183 BK184 HR185_3 HB HL186_3 HL187_3 HR186_3 HR187_3 hx186_0 hx186_1 hx186_2 hx186_3 hx187_0 hx187_1 hx187_2 hx187_3 hHeld ⊢
     refine pu_ 0 (some 15) (bm_ 11 1) (any_of HT_.out (by kernel_rfl)) ?_
     refine pu_ 4 (some 19) (bm_ 11 17) (any_of HT_.out (by kernel_rfl)) ?_
     refine take_ (i := 1) (N := some 16) (v := ?_) (a' := ?_) (bm_ 11 19) rfl rfl (take_ofW HT_.out HW_.out (by kernel_rfl)) (fun _ _ _ h => h) (Or.inl ⟨by rfl, ?_⟩) hHeld ?_ ?_
     rotate_left
     ·rintro w' ⟨s0, s1, s2, s3, s4, s5, s6, s7, s8, s9, s10, s11⟩
      go_simp
      with_reducible rfl
     rotate_left
     ·simp only [Act.put, List.setIfInBounds_toArray, List.set_cons_zero, List.set_cons_succ, i64_w, i32_w]
      rfl
     refine pu_ 2 (some 17) (bm_ 11 23) (any_of HT_.out (by kernel_rfl)) ?_
     refine take_ (i := 3) (N := some 18) (v := ?_) (a' := ?_) (bm_ 11 31) rfl rfl (take_ofW HT_.out HW_.out (by kernel_rfl)) (fun _ _ _ h => h) (Or.inl ⟨by rfl, ?_⟩) hHeld ?_ ?_
     rotate_left
     ·rintro w' ⟨s0, s1, s2, s3, s4, s5, s6, s7, s8, s9, s10, s11⟩
      go_simp
      with_reducible rfl
     rotate_left
     ·simp only [Act.put, List.setIfInBounds_toArray, List.set_cons_zero, List.set_cons_succ, i64_w, i32_w]
      rfl
     refine take_ (i := 5) (N := some 20) (v := ?_) (a' := ?_) (bm_ 11 63) rfl rfl (take_ofW HT_.out HW_.out (by kernel_rfl)) (fun _ _ _ h => h) (Or.inl ⟨by rfl, ?_⟩) hHeld ?_ ?_
     rotate_left
     ·rintro w' ⟨s0, s1, s2, s3, s4, s5, s6, s7, s8, s9, s10, s11⟩
      go_simp
      with_reducible rfl
     rotate_left
     ·simp only [Act.put, List.setIfInBounds_toArray, List.set_cons_zero, List.set_cons_succ, i64_w, i32_w]
      rfl
     refine pu_ 6 (some 21) (bm_ 11 127) (any_of HT_.out (by kernel_rfl)) ?_
     refine pu_ 7 (some 22) (bm_ 11 255) (any_of HT_.out (by kernel_rfl)) ?_
     refine take_ (i := 8) (N := some 23) (v := ?_) (a' := ?_) (bm_ 11 511) rfl rfl (take_ofW HT_.out HW_.out (by kernel_rfl)) (fun _ _ _ h => h) (Or.inl ⟨by rfl, ?_⟩) hHeld ?_ ?_
     rotate_left
     ·rintro w' ⟨s0, s1, s2, s3, s4, s5, s6, s7, s8, s9, s10, s11⟩
      go_simp
      with_reducible rfl
     rotate_left
     ·simp only [Act.put, List.setIfInBounds_toArray, List.set_cons_zero, List.set_cons_succ, i64_w, i32_w]
      rfl
     refine one_ (i := 9) (N := none) (bm_ 11 1023) rfl rfl (one_of HT_.out (by kernel_rfl)) (by decide) (fun K hK => ?_)
     have hs11 : w10.cell? ⟨gb184, 0, none⟩ = some (.int .i64 0) := (blk_cell BK184.out 0).trans rfl
     have hfs11 := blk_frozen BK184.out 0
     have hns11_0 := NB183_184.out
     have hms11_0 := NB184_183.out
     have hs12 : w10.cell? ⟨gb184, 1, none⟩ = some (.int .i64 0) := (blk_cell BK184.out 1).trans rfl
     have hfs12 := blk_frozen BK184.out 1
     have hns12_0 := NB183_184.out
     have hms12_0 := NB184_183.out
     have hs13 : w10.cell? ⟨gb184, 2, none⟩ = some (.string (⟨#[]⟩ : ByteArray)) := (blk_cell BK184.out 2).trans rfl
     have hfs13 := blk_frozen BK184.out 2
     have hns13_0 := NB183_184.out
     have hms13_0 := NB184_183.out
     have hs14 : w10.cell? ⟨gb184, 3, none⟩ = some (.slice none 0 0) := (blk_cell BK184.out 3).trans rfl
     have hfs14 := blk_frozen BK184.out 3
     have hns14_0 := NB183_184.out
     have hms14_0 := NB184_183.out
     refine skip_ (w1 := ?_) (by rfl) rfl ?_ ?_
     rotate_left
     ·go_simp
      rfl
     refine hK.out _ _ ⟨(cf_ NB183_184 ((cf_ NB183_184 ((cf_ NB183_184 ((cf_ NB183_184 (hHeld.1)))))))), (cf_ NB183_184 ((cf_ NB183_184 ((cf_ NB183_184 ((cf_ NB183_184 (hHeld.2.1)))))))), (cf_ NB183_184 ((cf_ NB183_184 ((cf_ NB183_184 ((cf_ NB183_184 (hHeld.2.2.1)))))))), (cf_ NB183_184 ((cf_ NB183_184 ((cf_ NB183_184 ((cf_ NB183_184 (hHeld.2.2.2.1)))))))), ((cell_far (p := ⟨gb184, _, none⟩) d2_ _).trans (((cell_far (p := ⟨gb184, _, none⟩) d2_ _).trans (((cell_far (p := ⟨gb184, _, none⟩) d2_ _).trans (((cell_far (p := ⟨gb184, _, none⟩) d2_ _).trans (hHeld.2.2.2.2.1)))))))), ((cell_far (p := ⟨gb184, _, none⟩) d2_ _).trans (((cell_far (p := ⟨gb184, _, none⟩) d2_ _).trans (((cell_far (p := ⟨gb184, _, none⟩) d2_ _).trans (((cell_far (p := ⟨gb184, _, none⟩) d2_ _).trans (hHeld.2.2.2.2.2.1)))))))), ((cell_far (p := ⟨gb184, _, none⟩) d2_ _).trans (((cell_far (p := ⟨gb184, _, none⟩) d2_ _).trans (((cell_far (p := ⟨gb184, _, none⟩) d2_ _).trans (((cell_far (p := ⟨gb184, _, none⟩) d2_ _).trans (hHeld.2.2.2.2.2.2.1)))))))), ((cell_far (p := ⟨gb184, _, none⟩) d2_ _).trans (((cell_far (p := ⟨gb184, _, none⟩) d2_ _).trans (((cell_far (p := ⟨gb184, _, none⟩) d2_ _).trans (((cell_far (p := ⟨gb184, _, none⟩) d2_ _).trans (hHeld.2.2.2.2.2.2.2.1)))))))), ((cell_far (p := ⟨gb184, _, none⟩) d2_ _).trans (((cell_far (p := ⟨gb184, _, none⟩) d2_ _).trans (((cell_far (p := ⟨gb184, _, none⟩) d2_ _).trans (((cell_far (p := ⟨gb184, _, none⟩) d2_ _).trans (hHeld.2.2.2.2.2.2.2.2.1)))))))), ((cell_far (p := ⟨gb184, _, none⟩) d2_ _).trans (((cell_far (p := ⟨gb184, _, none⟩) d2_ _).trans (((cell_far (p := ⟨gb184, _, none⟩) d2_ _).trans (((cell_far (p := ⟨gb184, _, none⟩) d2_ _).trans (hHeld.2.2.2.2.2.2.2.2.2.1)))))))), ((cell_far (p := ⟨gb184, _, none⟩) d2_ _).trans (((cell_far (p := ⟨gb184, _, none⟩) d2_ _).trans (((cell_far (p := ⟨gb184, _, none⟩) d2_ _).trans (((cell_far (p := ⟨gb184, _, none⟩) d2_ _).trans (hHeld.2.2.2.2.2.2.2.2.2.2.1)))))))), ((cell_far (p := ⟨gb184, _, none⟩) d2_ _).trans (((cell_far (p := ⟨gb184, _, none⟩) d2_ _).trans (((cell_far (p := ⟨gb184, _, none⟩) d2_ _).trans (((cell_far (p := ⟨gb184, _, none⟩) d2_ _).trans (hHeld.2.2.2.2.2.2.2.2.2.2.2))))))))⟩ (fun hHeld => ?_)
     clear hK K
     refine pu_ 10 (some 3) (bm_ 11 2047) (any_of HT_.out (by kernel_rfl)) ?_
     refine done_ (done_of HT_.out (by kernel_rfl)) ?_
     try go_wp2
     refine bodyPost_ret (results_ct rfl _ _ gb184 29 #[.int .i64 ((rd_T29 l0_3 0).f0), .int .i64 ((rd_T29 l0_3 0).f1), .string ((rd_T29 l0_3 0).f2), .slice A186_3 ((rd_T29 l0_3 0).f3).length c186_3] (0, 0) _ rfl ?hb_ Try.underlying29 rfl (by kernel_rfl)) rfl ?_
     (case hb_ => exact bk_ (bp4_ (bk_ BK184.out)))
     exact ⟨_, by first | rfl | (simp [errW_none, errW_some] <;> rfl) | (simp [*, errW_none, errW_some] <;> rfl), kv_ (Kd.V_mono (vf4_ (Kd.V_mono HL186_3.out (fun k_ hk => (⟨hk, hk.2⟩ : _ ∧ k_ ≠ gb184))) (fun _ hk => hk.2)) (fun _ hk => hk.1.1.1)), bw_ HB.out⟩
    ·rw [if_neg c5] at H
     exact absurd H (by simp)
   ·rw [if_neg c4] at H
    have c4b0 := beq_eq_false_iff_ne.mpr c4
    have c4b1 := bne_iff_ne.mpr c4
    simp only [Option.some.injEq, Prod.mk.injEq] at H
    obtain ⟨rfl, rfl, rfl, rfl, rfl⟩ := H
    go_enter Try.func90, Try.ntmps90
    go_wp2_with (first | ((with_reducible refine gate_dst (N := 1) rfl ?_); refine bx_ 1 #[.int .i64 a0_0, .int .i64 a0_1, .string a0_2, .slice A0_3 l0_3.length c0_3] 29 ?_; intro gb183 hg w15 hbox hb; have n0_ := A_ (Kd.V_below (Kd.V_elderB (kv_ HO0_3.out) gb183 (Nat.le_of_eq hg.symm)) hb); have n1_ := A_ (below_step (bw_ HB.out) hb); have n2_ := A_ (hbox); have n3_ := A_ ((d3_ : w.heap.size ≤ gb183)); have n4_ := n3_; clear HO0_3; clear HB; have HO0_3 := n0_; have HB := n1_; have BK183 := n2_; have GW183 := n3_; have GE183 := n4_; have GI183 := GeI.mk GE183.out; clear n0_ n1_ n2_ n3_ n4_; clear hb hbox hg) | ((with_reducible refine gate_dst (N := 2) rfl ?_); refine bx_ 2 #[.int .i64 0, .int .i64 0, .string (⟨#[]⟩ : ByteArray), .slice none 0 0] 29 ?_; intro gb184 hg w16 hbox hb; have n0_ := A_ (Kd.V_below (Kd.V_elderB (kv_ HO0_3.out) gb184 (Nat.le_of_eq hg.symm)) hb); have n1_ := A_ (blk_below (bk_ BK183.out) hb); have n2_ := A_ (below_step (bw_ HB.out) hb); have n3_ := A_ (hbox); have n4_ := A_ ((d3_ : w.heap.size ≤ gb184)); have n5_ := n4_; have n6_ := A_ ((by rw [hg]; exact Nat.ne_of_lt (blk_lt (bk_ BK183.out)) : gb183 ≠ gb184)); have n7_ := A_ n6_.out.symm; clear HO0_3; clear BK183; clear HB; have HO0_3 := n0_; have BK183 := n1_; have HB := n2_; have BK184 := n3_; have GW184 := n4_; have GE184 := n5_; have GI184 := GeI.mk GE184.out; have NB183_184 := n6_; have NB184_183 := n7_; clear n0_ n1_ n2_ n3_ n4_ n5_ n6_ n7_; clear hb hbox hg; have hnb17 := NB183_184.out; have hnc17 := NB184_183.out; obtain ⟨y18_0, y18_1, y18_2, y18_3, z18_0, z18_1, z18_2, z18_3⟩ := cz4_ BK183.out; have p185 : 0 ≤ (1 : Int) := (by omega); have q185 : 1 < (l0_3.length : Int) := of_decide_eq_true d1_; obtain ⟨ad185, A185_3, c185_3, e185, hx185_0, hx185_1, hx185_2, hx185_3, hl185_3, hi185_3⟩ := at_T29 (Kd.V_reads' HO0_3.out).2.2 1 p185 q185; cases e185; obtain ⟨ce185, hce185, hMe185, hcc185⟩ := Kd.V_get HO0_3.out z29 1 p185 (by first | exact q185 | exact of_decide_eq_true d1_ | (have e_ := (Kd.V_reads' HO0_3.out).1; omega)); obtain ⟨ua185_3, uc185_3, rfl, ul185_3, ge185_3⟩ := k29_openF hMe185; have hv185_3 := hcc185 3 _ rfl; rw [add_field _ _ 3 (by omega)] at hv185_3; replace hv185_3 := Option.some.inj (hv185_3.symm.trans hx185_3); injection hv185_3 with hva_ hvn_ hvc_; rw [hva_] at ge185_3; rw [hvc_] at ul185_3; have HL185_3 := A_ (show Kd.V k29 29 _ w.heap.size _ _ ((rd_T29 l0_3 1).f3) from Kd.V_mk ul185_3 ge185_3); clear hva_ hvn_ hvc_ ge185_3 ul185_3; clear hcc185 hce185; (try simp only [show (1 : Int).toNat = 1 from rfl, Nat.reduceMul, Nat.reduceEqDiff, Go.Addr.add, ↓reduceIte] at hx185_0); (try simp only [show (1 : Int).toNat = 1 from rfl, Nat.reduceMul, Nat.reduceEqDiff, Go.Addr.add, ↓reduceIte] at hx185_1); (try simp only [show (1 : Int).toNat = 1 from rfl, Nat.reduceMul, Nat.reduceEqDiff, Go.Addr.add, ↓reduceIte] at hx185_2); (try simp only [show (1 : Int).toNat = 1 from rfl, Nat.reduceMul, Nat.reduceEqDiff, Go.Addr.add, ↓reduceIte] at hx185_3); have qi185 : (1 < l0_3.length) = True := eq_true (by omega); (try rw [show ((1 : Int)).toNat = 1 from rfl] at hx185_0); (try rw [show 1 * 4 = 4 from rfl] at hx185_0); (try rw [show ((1 : Int)).toNat = 1 from rfl] at hx185_1); (try rw [show 1 * 4 = 4 from rfl] at hx185_1); (try rw [show ((1 : Int)).toNat = 1 from rfl] at hx185_2); (try rw [show 1 * 4 = 4 from rfl] at hx185_2); (try rw [show ((1 : Int)).toNat = 1 from rfl] at hx185_3); (try rw [show 1 * 4 = 4 from rfl] at hx185_3); have HR185_3 := A_ hi185_3; have HC185_3 := A_ hl185_3; clear hi185_3 hl185_3; replace p185 := eq_true p185; replace q185 := eq_true q185; obtain ⟨y19_0, y19_1, y19_2, y19_3, z19_0, z19_1, z19_2, z19_3⟩ := cz4_ BK184.out))
    refine bodyPost_ret (results_ct rfl _ _ gb184 29 #[.int .i64 a0_0, .int .i64 a0_1, .string a0_2, .slice (some ad185) l0_3.length c0_3] (0, 0) _ rfl ?hb_ Try.underlying29 rfl (by kernel_rfl)) rfl ?_
    (case hb_ => exact bk_ (bp4_ (bk_ BK184.out)))
    exact ⟨_, by first | rfl | (simp [errW_none, errW_some] <;> rfl) | (simp [*, errW_none, errW_some] <;> rfl), kv_ (Kd.V_mono (vf4_ (Kd.V_mono HO0_3.out (fun k_ hk => (⟨hk, hk.2⟩ : _ ∧ k_ ≠ gb184))) (fun _ hk => hk.2)) (fun _ hk => hk.1.1.1)), bw_ HB.out⟩
  ·rw [if_neg c3] at H
   exact absurd H (by simp)
 ·rw [if_neg c2] at H
  have c2b0 := beq_eq_false_iff_ne.mpr c2
  have c2b1 := bne_iff_ne.mpr c2
  simp only [Option.some.injEq, Prod.mk.injEq] at H
  obtain ⟨rfl, rfl, rfl, rfl, rfl⟩ := H
  go_enter Try.func90, Try.ntmps90
  go_wp2_with (first | ((with_reducible refine gate_dst (N := 1) rfl ?_); refine bx_ 1 #[.int .i64 a0_0, .int .i64 a0_1, .string a0_2, .slice A0_3 l0_3.length c0_3] 29 ?_; intro gb183 hg w20 hbox hb; have n0_ := A_ (Kd.V_below (Kd.V_elderB (kv_ HO0_3.out) gb183 (Nat.le_of_eq hg.symm)) hb); have n1_ := A_ (below_step (bw_ HB.out) hb); have n2_ := A_ (hbox); have n3_ := A_ ((d3_ : w.heap.size ≤ gb183)); have n4_ := n3_; clear HO0_3; clear HB; have HO0_3 := n0_; have HB := n1_; have BK183 := n2_; have GW183 := n3_; have GE183 := n4_; have GI183 := GeI.mk GE183.out; clear n0_ n1_ n2_ n3_ n4_; clear hb hbox hg) | ((with_reducible refine gate_dst (N := 2) rfl ?_); refine bx_ 2 #[.int .i64 0, .int .i64 0, .string (⟨#[]⟩ : ByteArray), .slice none 0 0] 29 ?_; intro gb184 hg w21 hbox hb; have n0_ := A_ (Kd.V_below (Kd.V_elderB (kv_ HO0_3.out) gb184 (Nat.le_of_eq hg.symm)) hb); have n1_ := A_ (blk_below (bk_ BK183.out) hb); have n2_ := A_ (below_step (bw_ HB.out) hb); have n3_ := A_ (hbox); have n4_ := A_ ((d3_ : w.heap.size ≤ gb184)); have n5_ := n4_; have n6_ := A_ ((by rw [hg]; exact Nat.ne_of_lt (blk_lt (bk_ BK183.out)) : gb183 ≠ gb184)); have n7_ := A_ n6_.out.symm; clear HO0_3; clear BK183; clear HB; have HO0_3 := n0_; have BK183 := n1_; have HB := n2_; have BK184 := n3_; have GW184 := n4_; have GE184 := n5_; have GI184 := GeI.mk GE184.out; have NB183_184 := n6_; have NB184_183 := n7_; clear n0_ n1_ n2_ n3_ n4_ n5_ n6_ n7_; clear hb hbox hg; have hnb22 := NB183_184.out; have hnc22 := NB184_183.out; obtain ⟨y23_0, y23_1, y23_2, y23_3, z23_0, z23_1, z23_2, z23_3⟩ := cz4_ BK183.out; obtain ⟨y24_0, y24_1, y24_2, y24_3, z24_0, z24_1, z24_2, z24_3⟩ := cz4_ BK184.out))
  refine bodyPost_ret (results_ct rfl _ _ gb184 29 #[.int .i64 a0_0, .int .i64 a0_1, .string a0_2, .slice A0_3 l0_3.length c0_3] (0, 0) _ rfl ?hb_ Try.underlying29 rfl (by kernel_rfl)) rfl ?_
  (case hb_ => exact bk_ (bp4_ (bk_ BK184.out)))
  exact ⟨_, by first | rfl | (simp [errW_none, errW_some] <;> rfl) | (simp [*, errW_none, errW_some] <;> rfl), kv_ (Kd.V_mono (vf4_ (Kd.V_mono HO0_3.out (fun k_ hk => (⟨hk, hk.2⟩ : _ ∧ k_ ≠ gb184))) (fun _ hk => hk.2)) (fun _ hk => hk.1.1.1)), bw_ HB.out⟩

end Go.Proofs.Ytcpnhlhigpgonaa.PFnExactFold
