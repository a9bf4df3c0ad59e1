-- Laid by a program of this session (a changed copy of the kit's printer); Lean checks every line.
import Derived.Test.YtcpnhlhigpgonaaPFnPutInx0
import Derived.Test.YtcpnhlhigpgonaaPFnPutInx4
import Derived.Test.YtcpnhlhigpgonaaPFnPutInx5
namespace Go.Proofs.Ytcpnhlhigpgonaa.PFnPutIn
open Go.RowKit Go.Proofs.YtcpnhlhigpgonaaW.PrintWords Go.Proofs.YtcpnhlhigpgonaaW.PrintLast Go.Proofs.YtcpnhlhigpgonaaW.PrintMore
attribute [local go_sem] max2_int min2_int max_two min_two max_three min_three max_four min_four   -- for this text's walks alone
set_option linter.unusedVariables false
set_option linter.unusedSimpArgs false

/-! ### spec_l10Ok: function 46 -/
mutual
def spec_l10Ok.j0 : Nat → Int → Bool → Bool → Int → Int → ByteArray → List (S29) → Option (Bool)
 | 0, _, _, _, _, _, _, _ => none
 | k + 1, x1, x2, x27, x162000, x162001, x162002, x162003 => if x27 = true then (some false) else (spec_l10Ok.l0 k x1 x2 0 x162000 x162001 x162002 x162003)
def spec_l10Ok.l0 : Nat → Int → Bool → Int → Int → Int → ByteArray → List (S29) → Option (Bool)
 | 0, _, _, _, _, _, _, _ => none
 | k + 1, x1, x2, x7, x162000, x162001, x162002, x162003 => if x7 < (x162003.length : Int) then (if 0 ≤ x7 then ((spec_l10Ok.f k ((rd_T29 x162003 x7).f0) ((rd_T29 x162003 x7).f1) ((rd_T29 x162003 x7).f2) ((rd_T29 x162003 x7).f3) (wrap64 (x1 + 1)) x2).bind fun t164 => (if t164 = true then (spec_l10Ok.l0 k x1 x2 (wrap64 (x7 + 1)) x162000 x162001 x162002 x162003) else (some false))) else (none)) else (some true)
def spec_l10Ok.f : Nat → Int → Int → ByteArray → List (S29) → Int → Bool → Option (Bool)
 | 0, _, _, _, _, _, _ => none
 | k + 1, a0_0, a0_1, a0_2, l0_3, a1, a2 => if a1 > 6 then (spec_l10Ok.j0 k a1 a2 true a0_0 a0_1 a0_2 l0_3) else ((spec_l10Here.f k a0_0 a0_1 a0_2 l0_3).bind fun t162 => (if t162 = true then (if a2 = true then (if a0_0 = 11 then (spec_l10Ok.j0 k a1 a2 true a0_0 a0_1 a0_2 l0_3) else (spec_l10Ok.j0 k a1 a2 (a0_0 == 12) a0_0 a0_1 a0_2 l0_3)) else (spec_l10Ok.j0 k a1 a2 false a0_0 a0_1 a0_2 l0_3)) else (spec_l10Ok.j0 k a1 a2 true a0_0 a0_1 a0_2 l0_3)))
end
theorem spec_l10Ok.mono_l : ∀ k, (∀ y0 y1 y2 y3 y4 y5, LeO (spec_l10Ok.f k y0 y1 y2 y3 y4 y5) (spec_l10Ok.f (k + 1) y0 y1 y2 y3 y4 y5)) ∧ (∀ y0 y1 y2 y3 y4 y5 y6, LeO (spec_l10Ok.j0 k y0 y1 y2 y3 y4 y5 y6) (spec_l10Ok.j0 (k + 1) y0 y1 y2 y3 y4 y5 y6)) ∧ (∀ y0 y1 y2 y3 y4 y5 y6, LeO (spec_l10Ok.l0 k y0 y1 y2 y3 y4 y5 y6) (spec_l10Ok.l0 (k + 1) y0 y1 y2 y3 y4 y5 y6))
 | 0 => ⟨fun _ _ _ _ _ _ r h => by simp [spec_l10Ok.f] at h, fun _ _ _ _ _ _ _ r h => by simp [spec_l10Ok.j0] at h, fun _ _ _ _ _ _ _ r h => by simp [spec_l10Ok.l0] at h⟩
 | k + 1 => by
  obtain ⟨ih0, ih1, ih2⟩ := spec_l10Ok.mono_l k
  refine ⟨?_, ?_, ?_⟩
  ·intro y0 y1 y2 y3 y4 y5
   unfold spec_l10Ok.f
   repeat' first
   | (with_reducible exact ih0 _ _ _ _ _ _)
   | (with_reducible exact ih1 _ _ _ _ _ _ _)
   | (with_reducible exact ih2 _ _ _ _ _ _ _)
   | (with_reducible exact spec_l10Here.mono _ _ _ _ _)
   | (with_reducible exact LeO.refl _)
   | (with_reducible exact LeO.none _)
   | (with_reducible refine LeO.ite ?_ ?_)
   | (with_reducible refine LeO.bind ?_ (fun _ => ?_))
   | exact ih0 _ _ _ _ _ _
   | exact ih1 _ _ _ _ _ _ _
   | exact ih2 _ _ _ _ _ _ _
   | exact spec_l10Here.mono _ _ _ _ _
   | exact LeO.none _
   | refine LeO.ite ?_ ?_
   | refine LeO.bind ?_ (fun _ => ?_)
  ·intro y0 y1 y2 y3 y4 y5 y6
   unfold spec_l10Ok.j0
   repeat' first
   | (with_reducible exact ih0 _ _ _ _ _ _)
   | (with_reducible exact ih1 _ _ _ _ _ _ _)
   | (with_reducible exact ih2 _ _ _ _ _ _ _)
   | (with_reducible exact spec_l10Here.mono _ _ _ _ _)
   | (with_reducible exact LeO.refl _)
   | (with_reducible exact LeO.none _)
   | (with_reducible refine LeO.ite ?_ ?_)
   | (with_reducible refine LeO.bind ?_ (fun _ => ?_))
   | exact ih0 _ _ _ _ _ _
   | exact ih1 _ _ _ _ _ _ _
   | exact ih2 _ _ _ _ _ _ _
   | exact spec_l10Here.mono _ _ _ _ _
   | exact LeO.none _
   | refine LeO.ite ?_ ?_
   | refine LeO.bind ?_ (fun _ => ?_)
  ·intro y0 y1 y2 y3 y4 y5 y6
   unfold spec_l10Ok.l0
   repeat' first
   | (with_reducible exact ih0 _ _ _ _ _ _)
   | (with_reducible exact ih1 _ _ _ _ _ _ _)
   | (with_reducible exact ih2 _ _ _ _ _ _ _)
   | (with_reducible exact spec_l10Here.mono _ _ _ _ _)
   | (with_reducible exact LeO.refl _)
   | (with_reducible exact LeO.none _)
   | (with_reducible refine LeO.ite ?_ ?_)
   | (with_reducible refine LeO.bind ?_ (fun _ => ?_))
   | exact ih0 _ _ _ _ _ _
   | exact ih1 _ _ _ _ _ _ _
   | exact ih2 _ _ _ _ _ _ _
   | exact spec_l10Here.mono _ _ _ _ _
   | exact LeO.none _
   | refine LeO.ite ?_ ?_
   | refine LeO.bind ?_ (fun _ => ?_)
theorem spec_l10Ok.mono : ∀ a0 a1 a2 a3 a4 a5 k, LeO (spec_l10Ok.f k a0 a1 a2 a3 a4 a5) (spec_l10Ok.f (k + 1) a0 a1 a2 a3 a4 a5) := by
 intro a0 a1 a2 a3 a4 a5 k
 obtain ⟨ih0, ih1, ih2⟩ := spec_l10Ok.mono_l k
 exact ih0 a0 a1 a2 a3 a4 a5
set_option maxHeartbeats 8000000 in
set_option maxRecDepth 100000 in
theorem spec_l10Ok.calls (k : Nat) : ∀ (a0_0 : Int) (a0_1 : Int) (a0_2 : ByteArray) (A0_3 : Option Addr) (c0_3 : Nat) (l0_3 : List (S29)) (a1 : Int) (a2 : Bool) (r : Bool) (w : World) (hr0_3 : Kd.C k29 w A0_3 l0_3.length l0_3) (hc0_3 : l0_3.length ≤ c0_3) (h : spec_l10Ok.f k a0_0 a0_1 a0_2 l0_3 a1 a2 = some r),
  Calls Try.prog 46 #[.agg #[.int .i64 a0_0, .int .i64 a0_1, .string a0_2, .slice A0_3 l0_3.length c0_3], .int .i64 a1, .bool a2] w fun e w' => e = .returned (.bool r) ∧ Below w.heap.size w w' := by
 induction k using Nat.strongRecOn with
 | _ k ih =>
 intro a0_0 a0_1 a0_2 A0_3 c0_3 l0_3 a1 a2 r w hr0_3 hc0_3 h
 cases k with
 | zero => exact absurd h (by simp [spec_l10Ok.f])
 | succ k =>
 simp only [spec_l10Ok.f] at h
 have hu29 := Try.underlying29
 have HR0_3 := A_ hr0_3
 have HC0_3 := A_ hc0_3
 clear hr0_3 hc0_3
 have HB := A_ (Below.refl w.heap.size w)
 have H : (if a1 > 6 then (spec_l10Ok.j0 k a1 a2 true a0_0 a0_1 a0_2 l0_3) else ((spec_l10Here.f k a0_0 a0_1 a0_2 l0_3).bind fun t162 => (if t162 = true then (if a2 = true then (if a0_0 = 11 then (spec_l10Ok.j0 k a1 a2 true a0_0 a0_1 a0_2 l0_3) else (spec_l10Ok.j0 k a1 a2 (a0_0 == 12) a0_0 a0_1 a0_2 l0_3)) else (spec_l10Ok.j0 k a1 a2 false a0_0 a0_1 a0_2 l0_3)) else (spec_l10Ok.j0 k a1 a2 true a0_0 a0_1 a0_2 l0_3)))) = some r := h
 clear h
 have HC4 := A_ H
 clear H
 go_enter Try.func46, Try.ntmps46
 go_upto_region 1 with (first | ((with_reducible refine gate_dst (N := 3) rfl ?_); refine bx_ 3 #[.int .i64 a0_0, .int .i64 a0_1, .string a0_2, .slice A0_3 l0_3.length c0_3] 29 ?_; intro gb161 hg w5 hbox hb; have n0_ := A_ (below_step (bw_ HB.out) hb); have n1_ := A_ (hbox); have n2_ := A_ ((d9_ : w.heap.size ≤ gb161)); have n3_ := n2_; clear HB; have HB := n0_; have BK161 := n1_; have GW161 := n2_; have GE161 := n3_; have GI161 := GeI.mk GE161.out; clear n0_ n1_ n2_ n3_; clear hb hbox hg))
 (try simp only [Act.put, List.setIfInBounds_toArray, List.set_cons_zero, List.set_cons_succ])
 go_cut [27] (fun v27 wc => ∃ (kq : Nat) (x27_3 : Bool), v27 = .bool x27_3 ∧ Aside0 (spec_l10Ok.j0 kq a1 a2 x27_3 a0_0 a0_1 a0_2 l0_3 = some r) ∧ Aside0 (kq ≤ k) ∧ Aside0 (wc.heap[gb161]? = some (.cells #[.int .i64 a0_0, .int .i64 a0_1, .string a0_2, (.slice A0_3 l0_3.length c0_3)] 29 (0, 0))) ∧ Aside0 (Below w.heap.size w wc))
 case first =>
  have H := HC4.out
  clear HC4
  by_cases c6 : a1 > 6
  ·rw [if_pos c6] at H
   have c6b0 := decide_eq_true c6
   clear c6
   (first | rw [c6b0] | (simp only [i64_w, i32_w]; rw [c6b0]) | skip)
   have H' := A_ H
   clear H
   go_wp2
   go_meet
   case rel => exact ⟨_, (true), d7_, H', ⟨by first | omega | exact Nat.le_refl _⟩, ⟨by refine bk_ ?_; exact BK161.out⟩, ⟨bw_ HB.out⟩⟩
  ·rw [if_neg c6] at H
   have c6b0 := decide_eq_false c6
   clear c6
   (first | rw [c6b0] | (simp only [i64_w, i32_w]; rw [c6b0]) | skip)
   replace H := Option.bind_eq_some_iff.mp H
   obtain ⟨t162, A70, H⟩ := H
   try dsimp only at H
   have A7 := A_ A70
   clear A70
   by_cases c8 : t162 = true
   ·subst c8
    rw [if_pos rfl] at H
    by_cases c9 : a2 = true
    ·subst c9
     rw [if_pos rfl] at H
     by_cases c10 : a0_0 = 11
     ·rw [if_pos c10] at H
      have c10b0 := beq_iff_eq.mpr c10
      have c10b1 := bne_eq_false_iff_eq.mpr c10
      clear c10
      have H' := A_ H
      clear H
      obtain ⟨y11_0, y11_1, y11_2, y11_3, z11_0, z11_1, z11_2, z11_3⟩ := cz4_ BK161.out
      go_wp2_with (first | (go_at_call 67; (with_reducible refine (spec_l10Here.calls k a0_0 a0_1 a0_2 _ _ l0_3 true _ ?side1 ?side2 A7.out).mono ?_); (case side1 => exact Kd.C_below HR0_3.out (bw_ HB.out)); (case side2 => exact HC0_3.out); rintro e w12 ⟨rfl, hb⟩; replace BK161 := A_ (blk_below (bk_ BK161.out) hb); replace HB := A_ (below_step (bw_ HB.out) hb); clear hb; obtain ⟨y13_0, y13_1, y13_2, y13_3, z13_0, z13_1, z13_2, z13_3⟩ := cz4_ BK161.out))
      go_meet
      case rel => exact ⟨_, (true), d7_, H', ⟨by first | omega | exact Nat.le_refl _⟩, ⟨by refine bk_ ?_; exact BK161.out⟩, ⟨bw_ HB.out⟩⟩
     ·rw [if_neg c10] at H
      have c10b0 := beq_eq_false_iff_ne.mpr c10
      have c10b1 := bne_iff_ne.mpr c10
      have H' := A_ H
      clear H
      obtain ⟨y14_0, y14_1, y14_2, y14_3, z14_0, z14_1, z14_2, z14_3⟩ := cz4_ BK161.out
      go_wp2_with (first | (go_at_call 67; (with_reducible refine (spec_l10Here.calls k a0_0 a0_1 a0_2 _ _ l0_3 true _ ?side1 ?side2 A7.out).mono ?_); (case side1 => exact Kd.C_below HR0_3.out (bw_ HB.out)); (case side2 => exact HC0_3.out); rintro e w15 ⟨rfl, hb⟩; replace BK161 := A_ (blk_below (bk_ BK161.out) hb); replace HB := A_ (below_step (bw_ HB.out) hb); clear hb; obtain ⟨y16_0, y16_1, y16_2, y16_3, z16_0, z16_1, z16_2, z16_3⟩ := cz4_ BK161.out))
      go_meet
      case rel => exact ⟨_, ((a0_0 == 12)), d7_, H', ⟨by first | omega | exact Nat.le_refl _⟩, ⟨by refine bk_ ?_; exact BK161.out⟩, ⟨bw_ HB.out⟩⟩
    ·replace c9 := Bool.eq_false_iff.mpr c9
     subst c9
     rw [if_neg (show ¬ (false = true) by decide)] at H
     have H' := A_ H
     clear H
     obtain ⟨y17_0, y17_1, y17_2, y17_3, z17_0, z17_1, z17_2, z17_3⟩ := cz4_ BK161.out
     go_wp2_with (first | (go_at_call 67; (with_reducible refine (spec_l10Here.calls k a0_0 a0_1 a0_2 _ _ l0_3 true _ ?side1 ?side2 A7.out).mono ?_); (case side1 => exact Kd.C_below HR0_3.out (bw_ HB.out)); (case side2 => exact HC0_3.out); rintro e w18 ⟨rfl, hb⟩; replace BK161 := A_ (blk_below (bk_ BK161.out) hb); replace HB := A_ (below_step (bw_ HB.out) hb); clear hb))
     go_meet
     case rel => exact ⟨_, (false), d7_, H', ⟨by first | omega | exact Nat.le_refl _⟩, ⟨by refine bk_ ?_; exact BK161.out⟩, ⟨bw_ HB.out⟩⟩
   ·replace c8 := Bool.eq_false_iff.mpr c8
    subst c8
    rw [if_neg (show ¬ (false = true) by decide)] at H
    have H' := A_ H
    clear H
    obtain ⟨y19_0, y19_1, y19_2, y19_3, z19_0, z19_1, z19_2, z19_3⟩ := cz4_ BK161.out
    go_wp2_with (first | (go_at_call 67; (with_reducible refine (spec_l10Here.calls k a0_0 a0_1 a0_2 _ _ l0_3 false _ ?side1 ?side2 A7.out).mono ?_); (case side1 => exact Kd.C_below HR0_3.out (bw_ HB.out)); (case side2 => exact HC0_3.out); rintro e w20 ⟨rfl, hb⟩; replace BK161 := A_ (blk_below (bk_ BK161.out) hb); replace HB := A_ (below_step (bw_ HB.out) hb); clear hb))
    go_meet
    case rel => exact ⟨_, (true), d7_, H', ⟨by first | omega | exact Nat.le_refl _⟩, ⟨by refine bk_ ?_; exact BK161.out⟩, ⟨bw_ HB.out⟩⟩
 case rest =>
  clear HC4
  try clear c1
  try clear p2
  try clear c4
  try clear c6
  try clear c6b0
  try clear c8
  try clear c9
  try clear c10
  try clear c10b0
  try clear c10b1
  try clear y11_0 y11_1 y11_2 y11_3 z11_0 z11_1 z11_2 z11_3
  try clear y13_0 y13_1 y13_2 y13_3 z13_0 z13_1 z13_2 z13_3
  try clear y14_0 y14_1 y14_2 y14_3 z14_0 z14_1 z14_2 z14_3
  try clear y16_0 y16_1 y16_2 y16_3 z16_0 z16_1 z16_2 z16_3
  try clear y17_0 y17_1 y17_2 y17_3 z17_0 z17_1 z17_2 z17_3
  try clear y19_0 y19_1 y19_2 y19_3 z19_0 z19_1 z19_2 z19_3
  obtain ⟨kq, x27_3, rfl, HA, HJ3, BK161, HB⟩ := hcut
  cases kq with
  | zero => exact absurd HA.out (by simp [spec_l10Ok.j0])
  | succ kj3 =>
   have H := HA.out
   clear HA
   simp only [spec_l10Ok.j0] at H
   by_cases c21 : x27_3 = true
   ·subst c21
    rw [if_pos rfl] at H
    obtain rfl := Option.some.inj H
    go_wp2
    go_ret
    exact rt_ (bw_ HB.out)
   ·replace c21 := Bool.eq_false_iff.mpr c21
    subst c21
    rw [if_neg (show ¬ (false = true) by decide)] at H
    have H' := A_ H
    clear H
    go_wp2
    go_loopg [7] kj3 (fun kq v7 w' => ∃ (x7_2 : Int), v7 = .int .i64 x7_2 ∧ Aside0 (spec_l10Ok.l0 kq a1 a2 x7_2 a0_0 a0_1 a0_2 l0_3 = some r) ∧ Aside0 (kq ≤ kj3) ∧ Aside0 (w'.heap[gb161]? = some (.cells #[.int .i64 a0_0, .int .i64 a0_1, .string a0_2, (.slice A0_3 l0_3.length c0_3)] 29 (0, 0))) ∧ Aside0 (Below w.heap.size w w'))
    case atStart => exact ⟨(0), d7_, H', ⟨Nat.le_refl _⟩, ⟨by refine bk_ ?_; exact BK161.out⟩, ⟨bw_ HB.out⟩⟩
    case round =>
     clear H'
     try clear c1
     try clear c2
     try clear p2
     try clear c4
     try clear c6
     try clear c6b0
     try clear c8
     try clear c9
     try clear c10
     try clear c10b0
     try clear c10b1
     try clear c21
     try clear y11_0 y11_1 y11_2 y11_3 z11_0 z11_1 z11_2 z11_3
     try clear y13_0 y13_1 y13_2 y13_3 z13_0 z13_1 z13_2 z13_3
     try clear y14_0 y14_1 y14_2 y14_3 z14_0 z14_1 z14_2 z14_3
     try clear y16_0 y16_1 y16_2 y16_3 z16_0 z16_1 z16_2 z16_3
     try clear y17_0 y17_1 y17_2 y17_3 z17_0 z17_1 z17_2 z17_3
     try clear y19_0 y19_1 y19_2 y19_3 z19_0 z19_1 z19_2 z19_3
     try clear p2
     obtain ⟨x7_2, rfl, HA, HK2, BK161, HB⟩ := hrel
     cases gk with
     | zero => exact absurd HA.out (by simp [spec_l10Ok.l0])
     | succ k2 =>
      have H := HA.out
      clear HA
      simp only [spec_l10Ok.l0] at H
      by_cases c22 : x7_2 < (l0_3.length : Int)
      ·rw [if_pos c22] at H
       have c22b0 := decide_eq_true c22
       clear c22
       by_cases c23 : 0 ≤ x7_2
       ·rw [if_pos c23] at H
        have c23b0 := decide_eq_true c23
        clear c23
        replace H := Option.bind_eq_some_iff.mp H
        obtain ⟨t164, A240, H⟩ := H
        try dsimp only at H
        have A24 := A_ A240
        clear A240
        by_cases c25 : t164 = true
        ·subst c25
         rw [if_pos rfl] at H
         have H' := A_ H
         clear H
         obtain ⟨y26_0, y26_1, y26_2, y26_3, z26_0, z26_1, z26_2, z26_3⟩ := cz4_ BK161.out
         have p163 : 0 ≤ (x7_2 : Int) := of_decide_eq_true d5_
         have q163 : x7_2 < (l0_3.length : Int) := of_decide_eq_true d5_
         obtain ⟨ad163, A163_3, c163_3, e163, hx163_0, hx163_1, hx163_2, hx163_3, hl163_3, hi163_3⟩ := at_T29 HR0_3.out x7_2 p163 q163
         cases e163
         replace hx163_0 := (HB.out.cell (World.block_lt_of_cell? w _ hx163_0)).trans hx163_0
         replace hx163_1 := (HB.out.cell (World.block_lt_of_cell? w _ hx163_1)).trans hx163_1
         replace hx163_2 := (HB.out.cell (World.block_lt_of_cell? w _ hx163_2)).trans hx163_2
         replace hx163_3 := (HB.out.cell (World.block_lt_of_cell? w _ hx163_3)).trans hx163_3
         have HR163_3 := A_ hi163_3
         have HC163_3 := A_ hl163_3
         clear hi163_3 hl163_3
         replace p163 := eq_true p163
         replace q163 := eq_true q163
         go_wp2_with (first | ((with_reducible refine gate_callee (f := 46) rfl ?_); refine gL_ (some 43) Try.func46 #[.agg #[.int .i64 ((rd_T29 l0_3 x7_2).f0), .int .i64 ((rd_T29 l0_3 x7_2).f1), .string ((rd_T29 l0_3 x7_2).f2), .slice A163_3 ((rd_T29 l0_3 x7_2).f3).length c163_3], .int .i64 (wrap64 (a1 + 1)), .bool a2] ?_; (with_reducible refine (ih k2 (by have := HJ3.out; have := HK2.out; omega) ((rd_T29 l0_3 x7_2).f0) ((rd_T29 l0_3 x7_2).f1) ((rd_T29 l0_3 x7_2).f2) _ _ ((rd_T29 l0_3 x7_2).f3) (wrap64 (a1 + 1)) a2 true _ ?side1 ?side2 A24.out).mono ?_); (case side1 => exact Kd.C_below HR163_3.out (bw_ HB.out)); (case side2 => exact HC163_3.out); rintro e w27 ⟨rfl, hb⟩; refine ⟨_, rfl, ?_⟩; replace BK161 := A_ (blk_below (bk_ BK161.out) hb); replace HB := A_ (below_step (bw_ HB.out) hb); clear hb))
         go_roundg k2
         case measure => have := HJ3.out; have := HK2.out; omega
         case rel => exact ⟨(wrap64 (x7_2 + 1)), d7_, H', ⟨by have := HJ3.out; have := HK2.out; omega⟩, ⟨by refine bk_ ?_; exact BK161.out⟩, ⟨bw_ HB.out⟩⟩
        ·replace c25 := Bool.eq_false_iff.mpr c25
         subst c25
         rw [if_neg (show ¬ (false = true) by decide)] at H
         obtain rfl := Option.some.inj H
         obtain ⟨y28_0, y28_1, y28_2, y28_3, z28_0, z28_1, z28_2, z28_3⟩ := cz4_ BK161.out
         have p163 : 0 ≤ (x7_2 : Int) := of_decide_eq_true d5_
         have q163 : x7_2 < (l0_3.length : Int) := of_decide_eq_true d5_
         obtain ⟨ad163, A163_3, c163_3, e163, hx163_0, hx163_1, hx163_2, hx163_3, hl163_3, hi163_3⟩ := at_T29 HR0_3.out x7_2 p163 q163
         cases e163
         replace hx163_0 := (HB.out.cell (World.block_lt_of_cell? w _ hx163_0)).trans hx163_0
         replace hx163_1 := (HB.out.cell (World.block_lt_of_cell? w _ hx163_1)).trans hx163_1
         replace hx163_2 := (HB.out.cell (World.block_lt_of_cell? w _ hx163_2)).trans hx163_2
         replace hx163_3 := (HB.out.cell (World.block_lt_of_cell? w _ hx163_3)).trans hx163_3
         have HR163_3 := A_ hi163_3
         have HC163_3 := A_ hl163_3
         clear hi163_3 hl163_3
         replace p163 := eq_true p163
         replace q163 := eq_true q163
         go_wp2_with (first | ((with_reducible refine gate_callee (f := 46) rfl ?_); refine gL_ (some 43) Try.func46 #[.agg #[.int .i64 ((rd_T29 l0_3 x7_2).f0), .int .i64 ((rd_T29 l0_3 x7_2).f1), .string ((rd_T29 l0_3 x7_2).f2), .slice A163_3 ((rd_T29 l0_3 x7_2).f3).length c163_3], .int .i64 (wrap64 (a1 + 1)), .bool a2] ?_; (with_reducible refine (ih k2 (by have := HJ3.out; have := HK2.out; omega) ((rd_T29 l0_3 x7_2).f0) ((rd_T29 l0_3 x7_2).f1) ((rd_T29 l0_3 x7_2).f2) _ _ ((rd_T29 l0_3 x7_2).f3) (wrap64 (a1 + 1)) a2 false _ ?side1 ?side2 A24.out).mono ?_); (case side1 => exact Kd.C_below HR163_3.out (bw_ HB.out)); (case side2 => exact HC163_3.out); rintro e w29 ⟨rfl, hb⟩; refine ⟨_, rfl, ?_⟩; replace BK161 := A_ (blk_below (bk_ BK161.out) hb); replace HB := A_ (below_step (bw_ HB.out) hb); clear hb))
         go_ret
         exact rt_ (bw_ HB.out)
       ·rw [if_neg c23] at H
        exact absurd H (by simp)
      ·rw [if_neg c22] at H
       have c22b0 := decide_eq_false c22
       clear c22
       obtain rfl := Option.some.inj H
       obtain ⟨y30_0, y30_1, y30_2, y30_3, z30_0, z30_1, z30_2, z30_3⟩ := cz4_ BK161.out
       go_wp2
       go_ret
       exact rt_ (bw_ HB.out)

/-! ### spec_ExprOk: function 17 -/
def spec_ExprOk.f (k : Nat) (a0_0 : Int) (a0_1 : Int) (a0_2 : ByteArray) (l0_3 : List (S29)) : Option (Bool) := (spec_l10Ok.f k a0_0 a0_1 a0_2 l0_3 1 false).bind fun t166 => (some t166)
theorem spec_ExprOk.mono : ∀ a0 a1 a2 a3 k, LeO (spec_ExprOk.f k a0 a1 a2 a3) (spec_ExprOk.f (k + 1) a0 a1 a2 a3) := by
 intro a0 a1 a2 a3 k
 unfold spec_ExprOk.f
 repeat' first
   | (with_reducible exact spec_l10Ok.mono _ _ _ _ _ _ _)
   | (with_reducible exact LeO.refl _)
   | (with_reducible exact LeO.none _)
   | (with_reducible refine LeO.ite ?_ ?_)
   | (with_reducible refine LeO.bind ?_ (fun _ => ?_))
   | exact spec_l10Ok.mono _ _ _ _ _ _ _
   | exact LeO.none _
   | refine LeO.ite ?_ ?_
   | refine LeO.bind ?_ (fun _ => ?_)
set_option maxHeartbeats 8000000 in
set_option maxRecDepth 100000 in
theorem spec_ExprOk.calls (k : Nat) (a0_0 : Int) (a0_1 : Int) (a0_2 : ByteArray) (A0_3 : Option Addr) (c0_3 : Nat) (l0_3 : List (S29)) (r : Bool) (w : World) (hr0_3 : Kd.C k29 w A0_3 l0_3.length l0_3) (hc0_3 : l0_3.length ≤ c0_3) (h : spec_ExprOk.f k a0_0 a0_1 a0_2 l0_3 = some r) :
  Calls Try.prog 17 #[.agg #[.int .i64 a0_0, .int .i64 a0_1, .string a0_2, .slice A0_3 l0_3.length c0_3]] w fun e w' => e = .returned (.bool r) ∧ Below w.heap.size w w' := by
 have hu29 := Try.underlying29
 have HR0_3 := A_ hr0_3
 have HC0_3 := A_ hc0_3
 clear hr0_3 hc0_3
 have HB := A_ (Below.refl w.heap.size w)
 have H : ((spec_l10Ok.f k a0_0 a0_1 a0_2 l0_3 1 false).bind fun t166 => (some t166)) = some r := h
 clear h
 replace H := Option.bind_eq_some_iff.mp H
 obtain ⟨t166, A20, H⟩ := H
 try dsimp only at H
 have A2 := A_ A20
 clear A20
 obtain rfl := Option.some.inj H
 go_enter Try.func17, Try.ntmps17
 go_wp2_with (first | ((with_reducible refine gate_dst (N := 1) rfl ?_); refine bx_ 1 #[.int .i64 a0_0, .int .i64 a0_1, .string a0_2, .slice A0_3 l0_3.length c0_3] 29 ?_; intro gb165 hg w3 hbox hb; have n0_ := A_ (below_step (bw_ HB.out) hb); have n1_ := A_ (hbox); have n2_ := A_ ((d9_ : w.heap.size ≤ gb165)); have n3_ := n2_; clear HB; have HB := n0_; have BK165 := n1_; have GW165 := n2_; have GE165 := n3_; have GI165 := GeI.mk GE165.out; clear n0_ n1_ n2_ n3_; clear hb hbox hg; obtain ⟨y4_0, y4_1, y4_2, y4_3, z4_0, z4_1, z4_2, z4_3⟩ := cz4_ BK165.out) | ((with_reducible refine gate_callee (f := 46) rfl ?_); refine gL_ (some 4) Try.func46 #[.agg #[.int .i64 a0_0, .int .i64 a0_1, .string a0_2, .slice A0_3 l0_3.length c0_3], .int .i64 1, .bool false] ?_; (with_reducible refine (spec_l10Ok.calls k a0_0 a0_1 a0_2 _ _ l0_3 1 false t166 _ ?side1 ?side2 A2.out).mono ?_); (case side1 => exact Kd.C_below HR0_3.out (bw_ HB.out)); (case side2 => exact HC0_3.out); rintro e w5 ⟨rfl, hb⟩; refine ⟨_, rfl, ?_⟩; replace BK165 := A_ (blk_below (bk_ BK165.out) hb); replace HB := A_ (below_step (bw_ HB.out) hb); clear hb))
 go_ret
 exact rt_ (bw_ HB.out)

/-! ### spec_Wrap: function 73 -/
def spec_Wrap.f (a0 : Int) : Option (Int) := some (Go.bits .and .i64 a0 65535)
set_option maxHeartbeats 8000000 in
set_option maxRecDepth 100000 in
theorem spec_Wrap.calls (a0 : Int) (r : Int) (w : World) (h : spec_Wrap.f a0 = some r) :
  Calls Try.prog 73 #[.int .i64 a0] w fun e w' => e = .returned (.int .i64 r) ∧ Drawn0 w w' := by
 have H : (some (Go.bits .and .i64 a0 65535)) = some r := h
 clear h
 obtain rfl := Option.some.inj H
 go_enter Try.func73, Try.ntmps73
 go_wp2
 go_ret
 exact ⟨by first | rfl | (simp; done) | (simp [*]; done), by repeat (first | exact Drawn0.refl _ | apply Drawn0.step)⟩

/-! ### spec_l11Two: function 75 -/
def spec_l11Two.f (a0 : Int) (a1 : Int) (a2 : Int) : Option (Int × Bool) := if a0 = 5 then ((spec_Wrap.f (wrap64 (a1 + a2))).bind fun t167 => (some (t167, true))) else (if a0 = 6 then ((spec_Wrap.f (wrap64 (a1 - a2))).bind fun t168 => (some (t168, true))) else (if a0 = 7 then ((spec_Wrap.f (wrap64 (a1 * a2))).bind fun t169 => (some (t169, true))) else (if a0 = 9 then (some (Go.bits .and .i64 a1 a2, true)) else (if a0 = 10 then (some (Go.bits .or .i64 a1 a2, true)) else (if a2 = 0 then (some (0, false)) else (some (wrap64 (Int.tdiv a1 a2), true)))))))
set_option maxHeartbeats 8000000 in
set_option maxRecDepth 100000 in
theorem spec_l11Two.calls (a0 : Int) (a1 : Int) (a2 : Int) (r1 : Int) (r2 : Bool) (w : World) (h : spec_l11Two.f a0 a1 a2 = some (r1, r2)) :
  Calls Try.prog 75 #[.int .i64 a0, .int .i64 a1, .int .i64 a2] w fun e w' => e = .returned (.tuple #[.int .i64 r1, .bool r2]) ∧ Drawn0 w w' := by
 have H : (if a0 = 5 then ((spec_Wrap.f (wrap64 (a1 + a2))).bind fun t167 => (some (t167, true))) else (if a0 = 6 then ((spec_Wrap.f (wrap64 (a1 - a2))).bind fun t168 => (some (t168, true))) else (if a0 = 7 then ((spec_Wrap.f (wrap64 (a1 * a2))).bind fun t169 => (some (t169, true))) else (if a0 = 9 then (some (Go.bits .and .i64 a1 a2, true)) else (if a0 = 10 then (some (Go.bits .or .i64 a1 a2, true)) else (if a2 = 0 then (some (0, false)) else (some (wrap64 (Int.tdiv a1 a2), true)))))))) = some (r1, r2) := h
 clear h
 by_cases c4 : a0 = 5
 ·rw [if_pos c4] at H
  have c4b0 := beq_iff_eq.mpr c4
  have c4b1 := bne_eq_false_iff_eq.mpr c4
  clear c4
  replace H := Option.bind_eq_some_iff.mp H
  obtain ⟨t167, A50, H⟩ := H
  try dsimp only at H
  have A5 := A_ A50
  clear A50
  simp only [Option.some.injEq, Prod.mk.injEq] at H
  obtain ⟨rfl, rfl⟩ := H
  go_enter Try.func75, Try.ntmps75
  go_wp2_with (first | ((with_reducible refine gate_callee (f := 73) rfl ?_); refine gL_ (some 14) Try.func73 #[.int .i64 (wrap64 (a1 + a2))] ?_; (with_reducible refine (spec_Wrap.calls (wrap64 (a1 + a2)) t167 _ A5.out).mono ?_); rintro e w' ⟨rfl, ⟨nd, rfl⟩⟩; refine ⟨_, rfl, ?_⟩))
  go_ret2
  exact ⟨by first | rfl | (simp; done) | (simp [*]; done), by repeat (first | exact Drawn0.refl _ | apply Drawn0.step)⟩
 ·rw [if_neg c4] at H
  have c4b0 := beq_eq_false_iff_ne.mpr c4
  have c4b1 := bne_iff_ne.mpr c4
  by_cases c6 : a0 = 6
  ·rw [if_pos c6] at H
   have c6b0 := beq_iff_eq.mpr c6
   have c6b1 := bne_eq_false_iff_eq.mpr c6
   clear c6
   replace H := Option.bind_eq_some_iff.mp H
   obtain ⟨t168, A70, H⟩ := H
   try dsimp only at H
   have A7 := A_ A70
   clear A70
   simp only [Option.some.injEq, Prod.mk.injEq] at H
   obtain ⟨rfl, rfl⟩ := H
   go_enter Try.func75, Try.ntmps75
   go_wp2_with (first | ((with_reducible refine gate_callee (f := 73) rfl ?_); refine gL_ (some 20) Try.func73 #[.int .i64 (wrap64 (a1 - a2))] ?_; (with_reducible refine (spec_Wrap.calls (wrap64 (a1 - a2)) t168 _ A7.out).mono ?_); rintro e w' ⟨rfl, ⟨nd, rfl⟩⟩; refine ⟨_, rfl, ?_⟩))
   go_ret2
   exact ⟨by first | rfl | (simp; done) | (simp [*]; done), by repeat (first | exact Drawn0.refl _ | apply Drawn0.step)⟩
  ·rw [if_neg c6] at H
   have c6b0 := beq_eq_false_iff_ne.mpr c6
   have c6b1 := bne_iff_ne.mpr c6
   by_cases c8 : a0 = 7
   ·rw [if_pos c8] at H
    have c8b0 := beq_iff_eq.mpr c8
    have c8b1 := bne_eq_false_iff_eq.mpr c8
    clear c8
    replace H := Option.bind_eq_some_iff.mp H
    obtain ⟨t169, A90, H⟩ := H
    try dsimp only at H
    have A9 := A_ A90
    clear A90
    simp only [Option.some.injEq, Prod.mk.injEq] at H
    obtain ⟨rfl, rfl⟩ := H
    go_enter Try.func75, Try.ntmps75
    go_wp2_with (first | ((with_reducible refine gate_callee (f := 73) rfl ?_); refine gL_ (some 26) Try.func73 #[.int .i64 (wrap64 (a1 * a2))] ?_; (with_reducible refine (spec_Wrap.calls (wrap64 (a1 * a2)) t169 _ A9.out).mono ?_); rintro e w' ⟨rfl, ⟨nd, rfl⟩⟩; refine ⟨_, rfl, ?_⟩))
    go_ret2
    exact ⟨by first | rfl | (simp; done) | (simp [*]; done), by repeat (first | exact Drawn0.refl _ | apply Drawn0.step)⟩
   ·rw [if_neg c8] at H
    have c8b0 := beq_eq_false_iff_ne.mpr c8
    have c8b1 := bne_iff_ne.mpr c8
    by_cases c10 : a0 = 9
    ·rw [if_pos c10] at H
     have c10b0 := beq_iff_eq.mpr c10
     have c10b1 := bne_eq_false_iff_eq.mpr c10
     clear c10
     simp only [Option.some.injEq, Prod.mk.injEq] at H
     obtain ⟨rfl, rfl⟩ := H
     go_enter Try.func75, Try.ntmps75
     go_wp2
     go_ret2
     exact ⟨by first | rfl | (simp; done) | (simp [*]; done), by repeat (first | exact Drawn0.refl _ | apply Drawn0.step)⟩
    ·rw [if_neg c10] at H
     have c10b0 := beq_eq_false_iff_ne.mpr c10
     have c10b1 := bne_iff_ne.mpr c10
     by_cases c11 : a0 = 10
     ·rw [if_pos c11] at H
      have c11b0 := beq_iff_eq.mpr c11
      have c11b1 := bne_eq_false_iff_eq.mpr c11
      clear c11
      simp only [Option.some.injEq, Prod.mk.injEq] at H
      obtain ⟨rfl, rfl⟩ := H
      go_enter Try.func75, Try.ntmps75
      go_wp2
      go_ret2
      exact ⟨by first | rfl | (simp; done) | (simp [*]; done), by repeat (first | exact Drawn0.refl _ | apply Drawn0.step)⟩
     ·rw [if_neg c11] at H
      have c11b0 := beq_eq_false_iff_ne.mpr c11
      have c11b1 := bne_iff_ne.mpr c11
      by_cases c12 : a2 = 0
      ·rw [if_pos c12] at H
       have c12b0 := beq_iff_eq.mpr c12
       have c12b1 := bne_eq_false_iff_eq.mpr c12
       clear c12
       simp only [Option.some.injEq, Prod.mk.injEq] at H
       obtain ⟨rfl, rfl⟩ := H
       go_enter Try.func75, Try.ntmps75
       go_wp2
       go_ret2
       exact ⟨by first | rfl | (simp; done) | (simp [*]; done), by repeat (first | exact Drawn0.refl _ | apply Drawn0.step)⟩
      ·rw [if_neg c12] at H
       have c12b0 := beq_eq_false_iff_ne.mpr c12
       have c12b1 := bne_iff_ne.mpr c12
       simp only [Option.some.injEq, Prod.mk.injEq] at H
       obtain ⟨rfl, rfl⟩ := H
       go_enter Try.func75, Try.ntmps75
       go_wp2
       go_ret2
       exact ⟨by first | rfl | (simp; done) | (simp [*]; done), by repeat (first | exact Drawn0.refl _ | apply Drawn0.step)⟩

/-! ### spec_l11Worth: function 51 -/
def spec_l11Worth.f : Nat → Int → Int → ByteArray → List (S29) → List Int → List ByteArray → List Int → Option (Int × Bool)
 | 0, _, _, _, _, _, _, _ => none
 | k + 1, a0_0, a0_1, a0_2, l0_3, l1, l2, l3 => if a0_0 = 1 then (some (a0_1, true)) else (if a0_0 = 11 then (if a0_1 ≥ (l1.length : Int) then (some (0, false)) else (if 0 ≤ a0_1 then (if a0_1 < (l1.length : Int) then ((spec_Wrap.f (rd l1 a0_1)).bind fun t172 => (some (t172, true))) else (none)) else (none))) else (if a0_0 = 12 then ((spec_l9At.f k l2 a0_2).bind fun t173 => (if t173 < 0 then (some (0, false)) else (if t173 ≥ (l3.length : Int) then (some (0, false)) else (if 0 ≤ t173 then (if t173 < (l3.length : Int) then ((spec_Wrap.f (rd l3 t173)).bind fun t175 => (some (t175, true))) else (none)) else (none))))) else (if a0_0 = 3 then (some (0, false)) else (if a0_0 = 2 then (some (0, false)) else (if 0 < (l0_3.length : Int) then ((spec_l11Worth.f k ((rd_T29 l0_3 0).f0) ((rd_T29 l0_3 0).f1) ((rd_T29 l0_3 0).f2) ((rd_T29 l0_3 0).f3) l1 l2 l3).bind fun bt177 => (if a0_0 = 4 then ((spec_Wrap.f (wrap64 (-bt177.1))).bind fun t179 => (some (t179, bt177.2))) else (if 1 < (l0_3.length : Int) then ((spec_l11Worth.f k ((rd_T29 l0_3 1).f0) ((rd_T29 l0_3 1).f1) ((rd_T29 l0_3 1).f2) ((rd_T29 l0_3 1).f3) l1 l2 l3).bind fun bt181 => (if bt177.2 = true then (if bt181.2 = true then ((spec_l11Two.f a0_0 bt177.1 bt181.1).bind fun bt183 => (some (bt183.1, bt183.2))) else (some (0, false))) else (some (0, false)))) else (none)))) else (none))))))
theorem spec_l11Worth.mono_l : ∀ k, (∀ y0 y1 y2 y3 y4 y5 y6, LeO (spec_l11Worth.f k y0 y1 y2 y3 y4 y5 y6) (spec_l11Worth.f (k + 1) y0 y1 y2 y3 y4 y5 y6))
 | 0 => fun _ _ _ _ _ _ _ r h => by simp [spec_l11Worth.f] at h
 | k + 1 => by
  have ih0 := spec_l11Worth.mono_l k
  ·intro y0 y1 y2 y3 y4 y5 y6
   unfold spec_l11Worth.f
   repeat' first
   | (with_reducible exact ih0 _ _ _ _ _ _ _)
   | (with_reducible exact spec_l9At.mono _ _ _)
   | (with_reducible exact LeO.refl _)
   | (with_reducible exact LeO.none _)
   | (with_reducible refine LeO.ite ?_ ?_)
   | (with_reducible refine LeO.bind ?_ (fun _ => ?_))
   | exact ih0 _ _ _ _ _ _ _
   | exact spec_l9At.mono _ _ _
   | exact LeO.none _
   | refine LeO.ite ?_ ?_
   | refine LeO.bind ?_ (fun _ => ?_)
theorem spec_l11Worth.mono : ∀ a0 a1 a2 a3 a4 a5 a6 k, LeO (spec_l11Worth.f k a0 a1 a2 a3 a4 a5 a6) (spec_l11Worth.f (k + 1) a0 a1 a2 a3 a4 a5 a6) := by
 intro a0 a1 a2 a3 a4 a5 a6 k
 have ih0 := spec_l11Worth.mono_l k
 exact ih0 a0 a1 a2 a3 a4 a5 a6
set_option maxHeartbeats 8000000 in
set_option maxRecDepth 100000 in
theorem spec_l11Worth.calls (k : Nat) : ∀ (a0_0 : Int) (a0_1 : Int) (a0_2 : ByteArray) (A0_3 : Option Addr) (c0_3 : Nat) (l0_3 : List (S29)) (A1 : Option Addr) (c1 : Nat) (l1 : List Int) (A2 : Option Addr) (c2 : Nat) (l2 : List ByteArray) (A3 : Option Addr) (c3 : Nat) (l3 : List Int) (r1 : Int) (r2 : Bool) (w : World) (hr0_3 : Kd.C k29 w A0_3 l0_3.length l0_3) (hc0_3 : l0_3.length ≤ c0_3) (hr1 : Kd.C (Kd.int .i64) w A1 l1.length l1) (hc1 : l1.length ≤ c1) (hr2 : Kd.C Kd.string w A2 l2.length l2) (hc2 : l2.length ≤ c2) (hr3 : Kd.C (Kd.int .i64) w A3 l3.length l3) (hc3 : l3.length ≤ c3) (h : spec_l11Worth.f k a0_0 a0_1 a0_2 l0_3 l1 l2 l3 = some (r1, r2)),
  Calls Try.prog 51 #[.agg #[.int .i64 a0_0, .int .i64 a0_1, .string a0_2, .slice A0_3 l0_3.length c0_3], .slice A1 l1.length c1, .slice A2 l2.length c2, .slice A3 l3.length c3] w fun e w' => e = .returned (.tuple #[.int .i64 r1, .bool r2]) ∧ Below w.heap.size w w' := by
 induction k using Nat.strongRecOn with
 | _ k ih =>
 intro a0_0 a0_1 a0_2 A0_3 c0_3 l0_3 A1 c1 l1 A2 c2 l2 A3 c3 l3 r1 r2 w hr0_3 hc0_3 hr1 hc1 hr2 hc2 hr3 hc3 h
 cases k with
 | zero => exact absurd h (by simp [spec_l11Worth.f])
 | succ k =>
 simp only [spec_l11Worth.f] at h
 have hu29 := Try.underlying29
 have HR0_3 := A_ hr0_3
 have HC0_3 := A_ hc0_3
 clear hr0_3 hc0_3
 have HR1 := A_ hr1
 have HC1 := A_ hc1
 clear hr1 hc1
 have HR2 := A_ hr2
 have HC2 := A_ hc2
 clear hr2 hc2
 have HR3 := A_ hr3
 have HC3 := A_ hc3
 clear hr3 hc3
 have HB := A_ (Below.refl w.heap.size w)
 have H : (if a0_0 = 1 then (some (a0_1, true)) else (if a0_0 = 11 then (if a0_1 ≥ (l1.length : Int) then (some (0, false)) else (if 0 ≤ a0_1 then (if a0_1 < (l1.length : Int) then ((spec_Wrap.f (rd l1 a0_1)).bind fun t172 => (some (t172, true))) else (none)) else (none))) else (if a0_0 = 12 then ((spec_l9At.f k l2 a0_2).bind fun t173 => (if t173 < 0 then (some (0, false)) else (if t173 ≥ (l3.length : Int) then (some (0, false)) else (if 0 ≤ t173 then (if t173 < (l3.length : Int) then ((spec_Wrap.f (rd l3 t173)).bind fun t175 => (some (t175, true))) else (none)) else (none))))) else (if a0_0 = 3 then (some (0, false)) else (if a0_0 = 2 then (some (0, false)) else (if 0 < (l0_3.length : Int) then ((spec_l11Worth.f k ((rd_T29 l0_3 0).f0) ((rd_T29 l0_3 0).f1) ((rd_T29 l0_3 0).f2) ((rd_T29 l0_3 0).f3) l1 l2 l3).bind fun bt177 => (if a0_0 = 4 then ((spec_Wrap.f (wrap64 (-bt177.1))).bind fun t179 => (some (t179, bt177.2))) else (if 1 < (l0_3.length : Int) then ((spec_l11Worth.f k ((rd_T29 l0_3 1).f0) ((rd_T29 l0_3 1).f1) ((rd_T29 l0_3 1).f2) ((rd_T29 l0_3 1).f3) l1 l2 l3).bind fun bt181 => (if bt177.2 = true then (if bt181.2 = true then ((spec_l11Two.f a0_0 bt177.1 bt181.1).bind fun bt183 => (some (bt183.1, bt183.2))) else (some (0, false))) else (some (0, false)))) else (none)))) else (none))))))) = some (r1, r2) := h
 clear h
 by_cases c5 : a0_0 = 1
 rw [if_pos c5] at H
 have c5b0 := beq_iff_eq.mpr c5
 have c5b1 := bne_eq_false_iff_eq.mpr c5
 clear c5
 simp only [Option.some.injEq, Prod.mk.injEq] at H
 obtain ⟨rfl, rfl⟩ := H
 rotate_left
 rw [if_neg c5] at H
 have c5b0 := beq_eq_false_iff_ne.mpr c5
 have c5b1 := bne_iff_ne.mpr c5
 by_cases c8 : a0_0 = 11
 rw [if_pos c8] at H
 have c8b0 := beq_iff_eq.mpr c8
 have c8b1 := bne_eq_false_iff_eq.mpr c8
 clear c8
 by_cases c9 : a0_1 ≥ (l1.length : Int)
 rw [if_pos c9] at H
 have c9b0 := decide_eq_true c9
 clear c9
 simp only [Option.some.injEq, Prod.mk.injEq] at H
 obtain ⟨rfl, rfl⟩ := H
 rotate_left
 rw [if_neg c9] at H
 have c9b0 := decide_eq_false c9
 clear c9
 by_cases c12 : 0 ≤ a0_1
 rw [if_pos c12] at H
 have c12b0 := decide_eq_true c12
 clear c12
 by_cases c13 : a0_1 < (l1.length : Int)
 rw [if_pos c13] at H
 have c13b0 := decide_eq_true c13
 clear c13
 replace H := Option.bind_eq_some_iff.mp H
 obtain ⟨t172, A140, H⟩ := H
 try dsimp only at H
 have A14 := A_ A140
 clear A140
 simp only [Option.some.injEq, Prod.mk.injEq] at H
 obtain ⟨rfl, rfl⟩ := H
 rotate_left
 rw [if_neg c13] at H
 exact absurd H (by simp)
 rw [if_neg c12] at H
 exact absurd H (by simp)
 rw [if_neg c8] at H
 have c8b0 := beq_eq_false_iff_ne.mpr c8
 have c8b1 := bne_iff_ne.mpr c8
 by_cases c17 : a0_0 = 12
 rw [if_pos c17] at H
 have c17b0 := beq_iff_eq.mpr c17
 have c17b1 := bne_eq_false_iff_eq.mpr c17
 clear c17
 replace H := Option.bind_eq_some_iff.mp H
 obtain ⟨t173, A180, H⟩ := H
 try dsimp only at H
 have A18 := A_ A180
 clear A180
 by_cases c19 : t173 < 0
 rw [if_pos c19] at H
 have c19b0 := decide_eq_true c19
 clear c19
 simp only [Option.some.injEq, Prod.mk.injEq] at H
 obtain ⟨rfl, rfl⟩ := H
 rotate_left
 rw [if_neg c19] at H
 have c19b0 := decide_eq_false c19
 clear c19
 by_cases c22 : t173 ≥ (l3.length : Int)
 rw [if_pos c22] at H
 have c22b0 := decide_eq_true c22
 clear c22
 simp only [Option.some.injEq, Prod.mk.injEq] at H
 obtain ⟨rfl, rfl⟩ := H
 rotate_left
 rw [if_neg c22] at H
 have c22b0 := decide_eq_false c22
 clear c22
 by_cases c25 : 0 ≤ t173
 rw [if_pos c25] at H
 have c25b0 := decide_eq_true c25
 clear c25
 by_cases c26 : t173 < (l3.length : Int)
 rw [if_pos c26] at H
 have c26b0 := decide_eq_true c26
 clear c26
 replace H := Option.bind_eq_some_iff.mp H
 obtain ⟨t175, A270, H⟩ := H
 try dsimp only at H
 have A27 := A_ A270
 clear A270
 simp only [Option.some.injEq, Prod.mk.injEq] at H
 obtain ⟨rfl, rfl⟩ := H
 rotate_left
 rw [if_neg c26] at H
 exact absurd H (by simp)
 rw [if_neg c25] at H
 exact absurd H (by simp)
 rw [if_neg c17] at H
 have c17b0 := beq_eq_false_iff_ne.mpr c17
 have c17b1 := bne_iff_ne.mpr c17
 by_cases c30 : a0_0 = 3
 rw [if_pos c30] at H
 have c30b0 := beq_iff_eq.mpr c30
 have c30b1 := bne_eq_false_iff_eq.mpr c30
 clear c30
 simp only [Option.some.injEq, Prod.mk.injEq] at H
 obtain ⟨rfl, rfl⟩ := H
 rotate_left
 rw [if_neg c30] at H
 have c30b0 := beq_eq_false_iff_ne.mpr c30
 have c30b1 := bne_iff_ne.mpr c30
 by_cases c33 : a0_0 = 2
 rw [if_pos c33] at H
 have c33b0 := beq_iff_eq.mpr c33
 have c33b1 := bne_eq_false_iff_eq.mpr c33
 clear c33
 simp only [Option.some.injEq, Prod.mk.injEq] at H
 obtain ⟨rfl, rfl⟩ := H
 rotate_left
 rw [if_neg c33] at H
 have c33b0 := beq_eq_false_iff_ne.mpr c33
 have c33b1 := bne_iff_ne.mpr c33
 by_cases c36 : 0 < (l0_3.length : Int)
 rw [if_pos c36] at H
 have c36b0 := decide_eq_true c36
 have c36b1 : decide (0 < l0_3.length) = true := decide_eq_true (by omega)
 clear c36
 replace H := Option.bind_eq_some_iff.mp H
 obtain ⟨⟨t177, t178⟩, A370, H⟩ := H
 try dsimp only at H
 have A37 := A_ A370
 clear A370
 by_cases c38 : a0_0 = 4
 rw [if_pos c38] at H
 have c38b0 := beq_iff_eq.mpr c38
 have c38b1 := bne_eq_false_iff_eq.mpr c38
 clear c38
 replace H := Option.bind_eq_some_iff.mp H
 obtain ⟨t179, A390, H⟩ := H
 try dsimp only at H
 have A39 := A_ A390
 clear A390
 simp only [Option.some.injEq, Prod.mk.injEq] at H
 obtain ⟨rfl, rfl⟩ := H
 rotate_left
 rw [if_neg c38] at H
 have c38b0 := beq_eq_false_iff_ne.mpr c38
 have c38b1 := bne_iff_ne.mpr c38
 by_cases c44 : 1 < (l0_3.length : Int)
 rw [if_pos c44] at H
 have c44b0 := decide_eq_true c44
 have c44b1 : decide (1 < l0_3.length) = true := decide_eq_true (by omega)
 clear c44
 replace H := Option.bind_eq_some_iff.mp H
 obtain ⟨⟨t181, t182⟩, A450, H⟩ := H
 try dsimp only at H
 have A45 := A_ A450
 clear A450
 by_cases c46 : t178 = true
 subst c46
 rw [if_pos rfl] at H
 by_cases c47 : t182 = true
 subst c47
 rw [if_pos rfl] at H
 replace H := Option.bind_eq_some_iff.mp H
 obtain ⟨⟨t183, t184⟩, A480, H⟩ := H
 try dsimp only at H
 have A48 := A_ A480
 clear A480
 simp only [Option.some.injEq, Prod.mk.injEq] at H
 obtain ⟨rfl, rfl⟩ := H
 rotate_left
 replace c47 := Bool.eq_false_iff.mpr c47
 subst c47
 rw [if_neg (show ¬ (false = true) by decide)] at H
 simp only [Option.some.injEq, Prod.mk.injEq] at H
 obtain ⟨rfl, rfl⟩ := H
 rotate_left
 replace c46 := Bool.eq_false_iff.mpr c46
 subst c46
 rw [if_neg (show ¬ (false = true) by decide)] at H
 simp only [Option.some.injEq, Prod.mk.injEq] at H
 obtain ⟨rfl, rfl⟩ := H
 rotate_left
 rw [if_neg c44] at H
 exact absurd H (by simp)
 rw [if_neg c36] at H
 exact absurd H (by simp)
 all_goals go_enter Try.func51, Try.ntmps51
 all_goals go_wp2_with (first | ((with_reducible refine gate_dst (N := 4) rfl ?_); (try (refine gate_guard (by rfl) ?_; dsimp only)); refine bx_ 4 #[.int .i64 a0_0, .int .i64 a0_1, .string a0_2, .slice A0_3 l0_3.length c0_3] 29 ?_; intro gb170 hg w40 hbox hb; have n0_ := A_ (below_step (bw_ HB.out) hb); have n1_ := A_ (hbox); have n2_ := A_ ((d9_ : w.heap.size ≤ gb170)); have n3_ := n2_; clear HB; have HB := n0_; have BK170 := n1_; have GW170 := n2_; have GE170 := n3_; have GI170 := GeI.mk GE170.out; clear n0_ n1_ n2_ n3_; clear hb hbox hg; obtain ⟨y41_0, y41_1, y41_2, y41_3, z41_0, z41_1, z41_2, z41_3⟩ := cz4_ BK170.out; have p176 : 0 ≤ (0 : Int) := (by omega); have q176 : 0 < (l0_3.length : Int) := of_decide_eq_true d5_; obtain ⟨ad176, A176_3, c176_3, e176, hx176_0, hx176_1, hx176_2, hx176_3, hl176_3, hi176_3⟩ := at_T29 HR0_3.out 0 p176 q176; cases e176; have qi176 : (0 < l0_3.length) = True := eq_true (by omega); (try rw [show ((0 : Int)).toNat = 0 from rfl] at hx176_0); (try rw [show 0 * 4 = 0 from rfl] at hx176_0); (try rw [Addr.add_zero'] at hx176_0); (try rw [show ((0 : Int)).toNat = 0 from rfl] at hx176_1); (try rw [show 0 * 4 = 0 from rfl] at hx176_1); (try rw [Addr.add_zero'] at hx176_1); (try rw [show ((0 : Int)).toNat = 0 from rfl] at hx176_2); (try rw [show 0 * 4 = 0 from rfl] at hx176_2); (try rw [Addr.add_zero'] at hx176_2); (try rw [show ((0 : Int)).toNat = 0 from rfl] at hx176_3); (try rw [show 0 * 4 = 0 from rfl] at hx176_3); (try rw [Addr.add_zero'] at hx176_3); replace hx176_0 := (HB.out.cell (World.block_lt_of_cell? w _ hx176_0)).trans hx176_0; replace hx176_1 := (HB.out.cell (World.block_lt_of_cell? w _ hx176_1)).trans hx176_1; replace hx176_2 := (HB.out.cell (World.block_lt_of_cell? w _ hx176_2)).trans hx176_2; replace hx176_3 := (HB.out.cell (World.block_lt_of_cell? w _ hx176_3)).trans hx176_3; have HR176_3 := A_ hi176_3; have HC176_3 := A_ hl176_3; clear hi176_3 hl176_3; replace p176 := eq_true p176; replace q176 := eq_true q176) | ((with_reducible refine gate_dst (N := 4) rfl ?_); (try (refine gate_guard (by rfl) ?_; dsimp only)); refine bx_ 4 #[.int .i64 a0_0, .int .i64 a0_1, .string a0_2, .slice A0_3 l0_3.length c0_3] 29 ?_; intro gb170 hg w15 hbox hb; have n0_ := A_ (below_step (bw_ HB.out) hb); have n1_ := A_ (hbox); have n2_ := A_ ((d9_ : w.heap.size ≤ gb170)); have n3_ := n2_; clear HB; have HB := n0_; have BK170 := n1_; have GW170 := n2_; have GE170 := n3_; have GI170 := GeI.mk GE170.out; clear n0_ n1_ n2_ n3_; clear hb hbox hg; obtain ⟨y16_0, y16_1, y16_2, y16_3, z16_0, z16_1, z16_2, z16_3⟩ := cz4_ BK170.out; have p171 : 0 ≤ (a0_1 : Int) := of_decide_eq_true d5_; have q171 : a0_1 < (l1.length : Int) := of_decide_eq_true d5_; obtain ⟨ad171, e171, hx171_0⟩ := Kd.at_int HR1.out a0_1 p171 q171; cases e171; replace hx171_0 := (HB.out.cell (World.block_lt_of_cell? w _ hx171_0)).trans hx171_0; replace p171 := eq_true p171; replace q171 := eq_true q171) | ((with_reducible refine gate_dst (N := 4) rfl ?_); (try (refine gate_guard (by rfl) ?_; dsimp only)); refine bx_ 4 #[.int .i64 a0_0, .int .i64 a0_1, .string a0_2, .slice A0_3 l0_3.length c0_3] 29 ?_; intro gb170 hg w6 hbox hb; have n0_ := A_ (below_step (bw_ HB.out) hb); have n1_ := A_ (hbox); have n2_ := A_ ((d9_ : w.heap.size ≤ gb170)); have n3_ := n2_; clear HB; have HB := n0_; have BK170 := n1_; have GW170 := n2_; have GE170 := n3_; have GI170 := GeI.mk GE170.out; clear n0_ n1_ n2_ n3_; clear hb hbox hg; obtain ⟨y7_0, y7_1, y7_2, y7_3, z7_0, z7_1, z7_2, z7_3⟩ := cz4_ BK170.out) | ((with_reducible refine gate_callee (f := 73) rfl ?_); refine gL_ (some 33) Try.func73 #[.int .i64 (rd l1 a0_1)] ?_; (with_reducible refine (spec_Wrap.calls (rd l1 a0_1) t172 _ A14.out).mono ?_); rintro e w' ⟨rfl, ⟨nd, rfl⟩⟩; refine ⟨_, rfl, ?_⟩) | ((with_reducible refine gate_callee (f := 74) rfl ?_); refine gL_ (some 39) Try.func74 #[.slice A2 l2.length c2, .string a0_2] ?_; (with_reducible refine (spec_l9At.calls k _ _ l2 a0_2 t173 _ ?side1 ?side2 A18.out).mono ?_); (case side1 => exact Kd.C_below HR2.out (bw_ HB.out)); (case side2 => exact HC2.out); rintro e w' ⟨rfl, ⟨nd, rfl⟩⟩; refine ⟨_, rfl, ?_⟩; have p174 : 0 ≤ (t173 : Int) := of_decide_eq_true d5_; have q174 : t173 < (l3.length : Int) := of_decide_eq_true d5_; obtain ⟨ad174, e174, hx174_0⟩ := Kd.at_int HR3.out t173 p174 q174; cases e174; replace hx174_0 := (HB.out.cell (World.block_lt_of_cell? w _ hx174_0)).trans hx174_0; replace p174 := eq_true p174; replace q174 := eq_true q174) | ((with_reducible refine gate_callee (f := 74) rfl ?_); refine gL_ (some 39) Try.func74 #[.slice A2 l2.length c2, .string a0_2] ?_; (with_reducible refine (spec_l9At.calls k _ _ l2 a0_2 t173 _ ?side1 ?side2 A18.out).mono ?_); (case side1 => exact Kd.C_below HR2.out (bw_ HB.out)); (case side2 => exact HC2.out); rintro e w' ⟨rfl, ⟨nd, rfl⟩⟩; refine ⟨_, rfl, ?_⟩) | ((with_reducible refine gate_callee (f := 73) rfl ?_); refine gL_ (some 52) Try.func73 #[.int .i64 (rd l3 t173)] ?_; (with_reducible refine (spec_Wrap.calls (rd l3 t173) t175 _ A27.out).mono ?_); rintro e w' ⟨rfl, ⟨nd, rfl⟩⟩; refine ⟨_, rfl, ?_⟩) | ((with_reducible refine gate_callee (f := 51) rfl ?_); refine gL_ (some 64) Try.func51 #[.agg #[.int .i64 ((rd_T29 l0_3 0).f0), .int .i64 ((rd_T29 l0_3 0).f1), .string ((rd_T29 l0_3 0).f2), .slice A176_3 ((rd_T29 l0_3 0).f3).length c176_3], .slice A1 l1.length c1, .slice A2 l2.length c2, .slice A3 l3.length c3] ?_; (with_reducible refine (ih k (by omega) ((rd_T29 l0_3 0).f0) ((rd_T29 l0_3 0).f1) ((rd_T29 l0_3 0).f2) _ _ ((rd_T29 l0_3 0).f3) _ _ l1 _ _ l2 _ _ l3 t177 false _ ?side1 ?side2 ?side3 ?side4 ?side5 ?side6 ?side7 ?side8 A37.out).mono ?_); (case side1 => exact Kd.C_below HR176_3.out (bw_ HB.out)); (case side2 => exact HC176_3.out); (case side3 => exact Kd.C_below HR1.out (bw_ HB.out)); (case side4 => exact HC1.out); (case side5 => exact Kd.C_below HR2.out (bw_ HB.out)); (case side6 => exact HC2.out); (case side7 => exact Kd.C_below HR3.out (bw_ HB.out)); (case side8 => exact HC3.out); rintro e w62 ⟨rfl, hb⟩; refine ⟨_, rfl, ?_⟩; replace BK170 := A_ (blk_below (bk_ BK170.out) hb); replace HB := A_ (below_step (bw_ HB.out) hb); clear hb; obtain ⟨y63_0, y63_1, y63_2, y63_3, z63_0, z63_1, z63_2, z63_3⟩ := cz4_ BK170.out; have p180 : 0 ≤ (1 : Int) := (by omega); have q180 : 1 < (l0_3.length : Int) := of_decide_eq_true d5_; obtain ⟨ad180, A180_3, c180_3, e180, hx180_0, hx180_1, hx180_2, hx180_3, hl180_3, hi180_3⟩ := at_T29 HR0_3.out 1 p180 q180; obtain rfl : ad176 = ad180 := (by injection e180); (try simp only [show (1 : Int).toNat = 1 from rfl, Nat.reduceMul, Nat.reduceEqDiff, Go.Addr.add, ↓reduceIte] at hx180_0); (try simp only [show (1 : Int).toNat = 1 from rfl, Nat.reduceMul, Nat.reduceEqDiff, Go.Addr.add, ↓reduceIte] at hx180_1); (try simp only [show (1 : Int).toNat = 1 from rfl, Nat.reduceMul, Nat.reduceEqDiff, Go.Addr.add, ↓reduceIte] at hx180_2); (try simp only [show (1 : Int).toNat = 1 from rfl, Nat.reduceMul, Nat.reduceEqDiff, Go.Addr.add, ↓reduceIte] at hx180_3); have qi180 : (1 < l0_3.length) = True := eq_true (by omega); (try rw [show ((1 : Int)).toNat = 1 from rfl] at hx180_0); (try rw [show 1 * 4 = 4 from rfl] at hx180_0); (try rw [show ((1 : Int)).toNat = 1 from rfl] at hx180_1); (try rw [show 1 * 4 = 4 from rfl] at hx180_1); (try rw [show ((1 : Int)).toNat = 1 from rfl] at hx180_2); (try rw [show 1 * 4 = 4 from rfl] at hx180_2); (try rw [show ((1 : Int)).toNat = 1 from rfl] at hx180_3); (try rw [show 1 * 4 = 4 from rfl] at hx180_3); replace hx180_0 := (HB.out.cell (World.block_lt_of_cell? w _ hx180_0)).trans hx180_0; replace hx180_1 := (HB.out.cell (World.block_lt_of_cell? w _ hx180_1)).trans hx180_1; replace hx180_2 := (HB.out.cell (World.block_lt_of_cell? w _ hx180_2)).trans hx180_2; replace hx180_3 := (HB.out.cell (World.block_lt_of_cell? w _ hx180_3)).trans hx180_3; have HR180_3 := A_ hi180_3; have HC180_3 := A_ hl180_3; clear hi180_3 hl180_3; replace p180 := eq_true p180; replace q180 := eq_true q180) | ((with_reducible refine gate_callee (f := 51) rfl ?_); refine gL_ (some 64) Try.func51 #[.agg #[.int .i64 ((rd_T29 l0_3 0).f0), .int .i64 ((rd_T29 l0_3 0).f1), .string ((rd_T29 l0_3 0).f2), .slice A176_3 ((rd_T29 l0_3 0).f3).length c176_3], .slice A1 l1.length c1, .slice A2 l2.length c2, .slice A3 l3.length c3] ?_; (with_reducible refine (ih k (by omega) ((rd_T29 l0_3 0).f0) ((rd_T29 l0_3 0).f1) ((rd_T29 l0_3 0).f2) _ _ ((rd_T29 l0_3 0).f3) _ _ l1 _ _ l2 _ _ l3 t177 true _ ?side1 ?side2 ?side3 ?side4 ?side5 ?side6 ?side7 ?side8 A37.out).mono ?_); (case side1 => exact Kd.C_below HR176_3.out (bw_ HB.out)); (case side2 => exact HC176_3.out); (case side3 => exact Kd.C_below HR1.out (bw_ HB.out)); (case side4 => exact HC1.out); (case side5 => exact Kd.C_below HR2.out (bw_ HB.out)); (case side6 => exact HC2.out); (case side7 => exact Kd.C_below HR3.out (bw_ HB.out)); (case side8 => exact HC3.out); rintro e w51 ⟨rfl, hb⟩; refine ⟨_, rfl, ?_⟩; replace BK170 := A_ (blk_below (bk_ BK170.out) hb); replace HB := A_ (below_step (bw_ HB.out) hb); clear hb; obtain ⟨y52_0, y52_1, y52_2, y52_3, z52_0, z52_1, z52_2, z52_3⟩ := cz4_ BK170.out; have p180 : 0 ≤ (1 : Int) := (by omega); have q180 : 1 < (l0_3.length : Int) := of_decide_eq_true d5_; obtain ⟨ad180, A180_3, c180_3, e180, hx180_0, hx180_1, hx180_2, hx180_3, hl180_3, hi180_3⟩ := at_T29 HR0_3.out 1 p180 q180; obtain rfl : ad176 = ad180 := (by injection e180); (try simp only [show (1 : Int).toNat = 1 from rfl, Nat.reduceMul, Nat.reduceEqDiff, Go.Addr.add, ↓reduceIte] at hx180_0); (try simp only [show (1 : Int).toNat = 1 from rfl, Nat.reduceMul, Nat.reduceEqDiff, Go.Addr.add, ↓reduceIte] at hx180_1); (try simp only [show (1 : Int).toNat = 1 from rfl, Nat.reduceMul, Nat.reduceEqDiff, Go.Addr.add, ↓reduceIte] at hx180_2); (try simp only [show (1 : Int).toNat = 1 from rfl, Nat.reduceMul, Nat.reduceEqDiff, Go.Addr.add, ↓reduceIte] at hx180_3); have qi180 : (1 < l0_3.length) = True := eq_true (by omega); (try rw [show ((1 : Int)).toNat = 1 from rfl] at hx180_0); (try rw [show 1 * 4 = 4 from rfl] at hx180_0); (try rw [show ((1 : Int)).toNat = 1 from rfl] at hx180_1); (try rw [show 1 * 4 = 4 from rfl] at hx180_1); (try rw [show ((1 : Int)).toNat = 1 from rfl] at hx180_2); (try rw [show 1 * 4 = 4 from rfl] at hx180_2); (try rw [show ((1 : Int)).toNat = 1 from rfl] at hx180_3); (try rw [show 1 * 4 = 4 from rfl] at hx180_3); replace hx180_0 := (HB.out.cell (World.block_lt_of_cell? w _ hx180_0)).trans hx180_0; replace hx180_1 := (HB.out.cell (World.block_lt_of_cell? w _ hx180_1)).trans hx180_1; replace hx180_2 := (HB.out.cell (World.block_lt_of_cell? w _ hx180_2)).trans hx180_2; replace hx180_3 := (HB.out.cell (World.block_lt_of_cell? w _ hx180_3)).trans hx180_3; have HR180_3 := A_ hi180_3; have HC180_3 := A_ hl180_3; clear hi180_3 hl180_3; replace p180 := eq_true p180; replace q180 := eq_true q180) | ((with_reducible refine gate_callee (f := 51) rfl ?_); refine gL_ (some 64) Try.func51 #[.agg #[.int .i64 ((rd_T29 l0_3 0).f0), .int .i64 ((rd_T29 l0_3 0).f1), .string ((rd_T29 l0_3 0).f2), .slice A176_3 ((rd_T29 l0_3 0).f3).length c176_3], .slice A1 l1.length c1, .slice A2 l2.length c2, .slice A3 l3.length c3] ?_; (with_reducible refine (ih k (by omega) ((rd_T29 l0_3 0).f0) ((rd_T29 l0_3 0).f1) ((rd_T29 l0_3 0).f2) _ _ ((rd_T29 l0_3 0).f3) _ _ l1 _ _ l2 _ _ l3 t177 t178 _ ?side1 ?side2 ?side3 ?side4 ?side5 ?side6 ?side7 ?side8 A37.out).mono ?_); (case side1 => exact Kd.C_below HR176_3.out (bw_ HB.out)); (case side2 => exact HC176_3.out); (case side3 => exact Kd.C_below HR1.out (bw_ HB.out)); (case side4 => exact HC1.out); (case side5 => exact Kd.C_below HR2.out (bw_ HB.out)); (case side6 => exact HC2.out); (case side7 => exact Kd.C_below HR3.out (bw_ HB.out)); (case side8 => exact HC3.out); rintro e w42 ⟨rfl, hb⟩; refine ⟨_, rfl, ?_⟩; replace BK170 := A_ (blk_below (bk_ BK170.out) hb); replace HB := A_ (below_step (bw_ HB.out) hb); clear hb; obtain ⟨y43_0, y43_1, y43_2, y43_3, z43_0, z43_1, z43_2, z43_3⟩ := cz4_ BK170.out) | ((with_reducible refine gate_callee (f := 73) rfl ?_); refine gL_ (some 72) Try.func73 #[.int .i64 (wrap64 (-t177))] ?_; (with_reducible refine (spec_Wrap.calls (wrap64 (-t177)) t179 _ A39.out).mono ?_); rintro e w' ⟨rfl, ⟨nd, rfl⟩⟩; refine ⟨_, rfl, ?_⟩) | ((with_reducible refine gate_callee (f := 51) rfl ?_); refine gL_ (some 82) Try.func51 #[.agg #[.int .i64 ((rd_T29 l0_3 1).f0), .int .i64 ((rd_T29 l0_3 1).f1), .string ((rd_T29 l0_3 1).f2), .slice A180_3 ((rd_T29 l0_3 1).f3).length c180_3], .slice A1 l1.length c1, .slice A2 l2.length c2, .slice A3 l3.length c3] ?_; (with_reducible refine (ih k (by omega) ((rd_T29 l0_3 1).f0) ((rd_T29 l0_3 1).f1) ((rd_T29 l0_3 1).f2) _ _ ((rd_T29 l0_3 1).f3) _ _ l1 _ _ l2 _ _ l3 t181 true _ ?side1 ?side2 ?side3 ?side4 ?side5 ?side6 ?side7 ?side8 A45.out).mono ?_); (case side1 => exact Kd.C_below HR180_3.out (bw_ HB.out)); (case side2 => exact HC180_3.out); (case side3 => exact Kd.C_below HR1.out (bw_ HB.out)); (case side4 => exact HC1.out); (case side5 => exact Kd.C_below HR2.out (bw_ HB.out)); (case side6 => exact HC2.out); (case side7 => exact Kd.C_below HR3.out (bw_ HB.out)); (case side8 => exact HC3.out); rintro e w53 ⟨rfl, hb⟩; refine ⟨_, rfl, ?_⟩; replace BK170 := A_ (blk_below (bk_ BK170.out) hb); replace HB := A_ (below_step (bw_ HB.out) hb); clear hb; obtain ⟨y54_0, y54_1, y54_2, y54_3, z54_0, z54_1, z54_2, z54_3⟩ := cz4_ BK170.out) | ((with_reducible refine gate_callee (f := 75) rfl ?_); refine gL_ (some 95) Try.func75 #[.int .i64 a0_0, .int .i64 t177, .int .i64 t181] ?_; (with_reducible refine (spec_l11Two.calls a0_0 t177 t181 t183 t184 _ A48.out).mono ?_); rintro e w' ⟨rfl, ⟨nd, rfl⟩⟩; refine ⟨_, rfl, ?_⟩) | ((with_reducible refine gate_callee (f := 51) rfl ?_); refine gL_ (some 82) Try.func51 #[.agg #[.int .i64 ((rd_T29 l0_3 1).f0), .int .i64 ((rd_T29 l0_3 1).f1), .string ((rd_T29 l0_3 1).f2), .slice A180_3 ((rd_T29 l0_3 1).f3).length c180_3], .slice A1 l1.length c1, .slice A2 l2.length c2, .slice A3 l3.length c3] ?_; (with_reducible refine (ih k (by omega) ((rd_T29 l0_3 1).f0) ((rd_T29 l0_3 1).f1) ((rd_T29 l0_3 1).f2) _ _ ((rd_T29 l0_3 1).f3) _ _ l1 _ _ l2 _ _ l3 t181 false _ ?side1 ?side2 ?side3 ?side4 ?side5 ?side6 ?side7 ?side8 A45.out).mono ?_); (case side1 => exact Kd.C_below HR180_3.out (bw_ HB.out)); (case side2 => exact HC180_3.out); (case side3 => exact Kd.C_below HR1.out (bw_ HB.out)); (case side4 => exact HC1.out); (case side5 => exact Kd.C_below HR2.out (bw_ HB.out)); (case side6 => exact HC2.out); (case side7 => exact Kd.C_below HR3.out (bw_ HB.out)); (case side8 => exact HC3.out); rintro e w59 ⟨rfl, hb⟩; refine ⟨_, rfl, ?_⟩; replace BK170 := A_ (blk_below (bk_ BK170.out) hb); replace HB := A_ (below_step (bw_ HB.out) hb); clear hb) | ((with_reducible refine gate_callee (f := 51) rfl ?_); refine gL_ (some 82) Try.func51 #[.agg #[.int .i64 ((rd_T29 l0_3 1).f0), .int .i64 ((rd_T29 l0_3 1).f1), .string ((rd_T29 l0_3 1).f2), .slice A180_3 ((rd_T29 l0_3 1).f3).length c180_3], .slice A1 l1.length c1, .slice A2 l2.length c2, .slice A3 l3.length c3] ?_; (with_reducible refine (ih k (by omega) ((rd_T29 l0_3 1).f0) ((rd_T29 l0_3 1).f1) ((rd_T29 l0_3 1).f2) _ _ ((rd_T29 l0_3 1).f3) _ _ l1 _ _ l2 _ _ l3 t181 t182 _ ?side1 ?side2 ?side3 ?side4 ?side5 ?side6 ?side7 ?side8 A45.out).mono ?_); (case side1 => exact Kd.C_below HR180_3.out (bw_ HB.out)); (case side2 => exact HC180_3.out); (case side3 => exact Kd.C_below HR1.out (bw_ HB.out)); (case side4 => exact HC1.out); (case side5 => exact Kd.C_below HR2.out (bw_ HB.out)); (case side6 => exact HC2.out); (case side7 => exact Kd.C_below HR3.out (bw_ HB.out)); (case side8 => exact HC3.out); rintro e w64 ⟨rfl, hb⟩; refine ⟨_, rfl, ?_⟩; replace BK170 := A_ (blk_below (bk_ BK170.out) hb); replace HB := A_ (below_step (bw_ HB.out) hb); clear hb))
 ·go_ret2
  exact rt_ (bw_ HB.out)
 ·go_ret2
  exact rt_ (bw_ HB.out)
 ·go_ret2
  exact rt_ (bw_ HB.out)
 ·go_ret2
  exact rt_ (bw_ HB.out)
 ·go_ret2
  exact rt_ (bw_ HB.out)
 ·go_ret2
  exact rt_ (bw_ HB.out)
 ·go_ret2
  exact rt_ (bw_ HB.out)
 ·go_ret2
  exact rt_ (bw_ HB.out)
 ·go_ret2
  exact rt_ (bw_ HB.out)
 ·go_ret2
  exact rt_ (bw_ HB.out)
 ·go_ret2
  exact rt_ (bw_ HB.out)
 ·go_ret2
  exact rt_ (bw_ HB.out)

/-! ### spec_Worth: function 25 -/
def spec_Worth.f (k : Nat) (a0_0 : Int) (a0_1 : Int) (a0_2 : ByteArray) (l0_3 : List (S29)) (l1 : List Int) (l2 : List ByteArray) (l3 : List Int) : Option (Int × Bool) := (spec_ExprOk.f k a0_0 a0_1 a0_2 l0_3).bind fun t186 => (if t186 = true then ((spec_l11Worth.f k a0_0 a0_1 a0_2 l0_3 l1 l2 l3).bind fun bt187 => (if bt187.2 = true then (some (bt187.1, true)) else (some (0, false)))) else (some (0, false)))
theorem spec_Worth.mono : ∀ a0 a1 a2 a3 a4 a5 a6 k, LeO (spec_Worth.f k a0 a1 a2 a3 a4 a5 a6) (spec_Worth.f (k + 1) a0 a1 a2 a3 a4 a5 a6) := by
 intro a0 a1 a2 a3 a4 a5 a6 k
 unfold spec_Worth.f
 repeat' first
   | (with_reducible exact spec_ExprOk.mono _ _ _ _ _)
   | (with_reducible exact spec_l11Worth.mono _ _ _ _ _ _ _ _)
   | (with_reducible exact LeO.refl _)
   | (with_reducible exact LeO.none _)
   | (with_reducible refine LeO.ite ?_ ?_)
   | (with_reducible refine LeO.bind ?_ (fun _ => ?_))
   | exact spec_ExprOk.mono _ _ _ _ _
   | exact spec_l11Worth.mono _ _ _ _ _ _ _ _
   | exact LeO.none _
   | refine LeO.ite ?_ ?_
   | refine LeO.bind ?_ (fun _ => ?_)
set_option maxHeartbeats 8000000 in
set_option maxRecDepth 100000 in
theorem spec_Worth.calls (k : Nat) (a0_0 : Int) (a0_1 : Int) (a0_2 : ByteArray) (A0_3 : Option Addr) (c0_3 : Nat) (l0_3 : List (S29)) (A1 : Option Addr) (c1 : Nat) (l1 : List Int) (A2 : Option Addr) (c2 : Nat) (l2 : List ByteArray) (A3 : Option Addr) (c3 : Nat) (l3 : List Int) (r1 : Int) (r2 : Bool) (w : World) (hr0_3 : Kd.C k29 w A0_3 l0_3.length l0_3) (hc0_3 : l0_3.length ≤ c0_3) (hr1 : Kd.C (Kd.int .i64) w A1 l1.length l1) (hc1 : l1.length ≤ c1) (hr2 : Kd.C Kd.string w A2 l2.length l2) (hc2 : l2.length ≤ c2) (hr3 : Kd.C (Kd.int .i64) w A3 l3.length l3) (hc3 : l3.length ≤ c3) (h : spec_Worth.f k a0_0 a0_1 a0_2 l0_3 l1 l2 l3 = some (r1, r2)) :
  Calls Try.prog 25 #[.agg #[.int .i64 a0_0, .int .i64 a0_1, .string a0_2, .slice A0_3 l0_3.length c0_3], .slice A1 l1.length c1, .slice A2 l2.length c2, .slice A3 l3.length c3] w fun e w' => e = .returned (.tuple #[.int .i64 r1, .bool r2]) ∧ Below w.heap.size w w' := by
 have hu29 := Try.underlying29
 have HR0_3 := A_ hr0_3
 have HC0_3 := A_ hc0_3
 clear hr0_3 hc0_3
 have HR1 := A_ hr1
 have HC1 := A_ hc1
 clear hr1 hc1
 have HR2 := A_ hr2
 have HC2 := A_ hc2
 clear hr2 hc2
 have HR3 := A_ hr3
 have HC3 := A_ hc3
 clear hr3 hc3
 have HB := A_ (Below.refl w.heap.size w)
 have H : ((spec_ExprOk.f k a0_0 a0_1 a0_2 l0_3).bind fun t186 => (if t186 = true then ((spec_l11Worth.f k a0_0 a0_1 a0_2 l0_3 l1 l2 l3).bind fun bt187 => (if bt187.2 = true then (some (bt187.1, true)) else (some (0, false)))) else (some (0, false)))) = some (r1, r2) := h
 clear h
 replace H := Option.bind_eq_some_iff.mp H
 obtain ⟨t186, A50, H⟩ := H
 try dsimp only at H
 have A5 := A_ A50
 clear A50
 by_cases c6 : t186 = true
 ·subst c6
  rw [if_pos rfl] at H
  replace H := Option.bind_eq_some_iff.mp H
  obtain ⟨⟨t187, t188⟩, A70, H⟩ := H
  try dsimp only at H
  have A7 := A_ A70
  clear A70
  by_cases c8 : t188 = true
  ·subst c8
   rw [if_pos rfl] at H
   simp only [Option.some.injEq, Prod.mk.injEq] at H
   obtain ⟨rfl, rfl⟩ := H
   go_enter Try.func25, Try.ntmps25
   go_wp2_with (first | ((with_reducible refine gate_dst (N := 4) rfl ?_); refine bx_ 4 #[.int .i64 a0_0, .int .i64 a0_1, .string a0_2, .slice A0_3 l0_3.length c0_3] 29 ?_; intro gb185 hg w9 hbox hb; have n0_ := A_ (below_step (bw_ HB.out) hb); have n1_ := A_ (hbox); have n2_ := A_ ((d9_ : w.heap.size ≤ gb185)); have n3_ := n2_; clear HB; have HB := n0_; have BK185 := n1_; have GW185 := n2_; have GE185 := n3_; have GI185 := GeI.mk GE185.out; clear n0_ n1_ n2_ n3_; clear hb hbox hg; obtain ⟨y10_0, y10_1, y10_2, y10_3, z10_0, z10_1, z10_2, z10_3⟩ := cz4_ BK185.out) | ((with_reducible refine gate_callee (f := 17) rfl ?_); refine gL_ (some 13) Try.func17 #[.agg #[.int .i64 a0_0, .int .i64 a0_1, .string a0_2, .slice A0_3 l0_3.length c0_3]] ?_; (with_reducible refine (spec_ExprOk.calls k a0_0 a0_1 a0_2 _ _ l0_3 true _ ?side1 ?side2 A5.out).mono ?_); (case side1 => exact Kd.C_below HR0_3.out (bw_ HB.out)); (case side2 => exact HC0_3.out); rintro e w11 ⟨rfl, hb⟩; refine ⟨_, rfl, ?_⟩; replace BK185 := A_ (blk_below (bk_ BK185.out) hb); replace HB := A_ (below_step (bw_ HB.out) hb); clear hb; obtain ⟨y12_0, y12_1, y12_2, y12_3, z12_0, z12_1, z12_2, z12_3⟩ := cz4_ BK185.out) | ((with_reducible refine gate_callee (f := 51) rfl ?_); refine gL_ (some 20) Try.func51 #[.agg #[.int .i64 a0_0, .int .i64 a0_1, .string a0_2, .slice A0_3 l0_3.length c0_3], .slice A1 l1.length c1, .slice A2 l2.length c2, .slice A3 l3.length c3] ?_; (with_reducible refine (spec_l11Worth.calls k a0_0 a0_1 a0_2 _ _ l0_3 _ _ l1 _ _ l2 _ _ l3 t187 true _ ?side1 ?side2 ?side3 ?side4 ?side5 ?side6 ?side7 ?side8 A7.out).mono ?_); (case side1 => exact Kd.C_below HR0_3.out (bw_ HB.out)); (case side2 => exact HC0_3.out); (case side3 => exact Kd.C_below HR1.out (bw_ HB.out)); (case side4 => exact HC1.out); (case side5 => exact Kd.C_below HR2.out (bw_ HB.out)); (case side6 => exact HC2.out); (case side7 => exact Kd.C_below HR3.out (bw_ HB.out)); (case side8 => exact HC3.out); rintro e w13 ⟨rfl, hb⟩; refine ⟨_, rfl, ?_⟩; replace BK185 := A_ (blk_below (bk_ BK185.out) hb); replace HB := A_ (below_step (bw_ HB.out) hb); clear hb))
   go_ret2
   exact rt_ (bw_ HB.out)
  ·replace c8 := Bool.eq_false_iff.mpr c8
   subst c8
   rw [if_neg (show ¬ (false = true) by decide)] at H
   simp only [Option.some.injEq, Prod.mk.injEq] at H
   obtain ⟨rfl, rfl⟩ := H
   go_enter Try.func25, Try.ntmps25
   go_wp2_with (first | ((with_reducible refine gate_dst (N := 4) rfl ?_); refine bx_ 4 #[.int .i64 a0_0, .int .i64 a0_1, .string a0_2, .slice A0_3 l0_3.length c0_3] 29 ?_; intro gb185 hg w14 hbox hb; have n0_ := A_ (below_step (bw_ HB.out) hb); have n1_ := A_ (hbox); have n2_ := A_ ((d9_ : w.heap.size ≤ gb185)); have n3_ := n2_; clear HB; have HB := n0_; have BK185 := n1_; have GW185 := n2_; have GE185 := n3_; have GI185 := GeI.mk GE185.out; clear n0_ n1_ n2_ n3_; clear hb hbox hg; obtain ⟨y15_0, y15_1, y15_2, y15_3, z15_0, z15_1, z15_2, z15_3⟩ := cz4_ BK185.out) | ((with_reducible refine gate_callee (f := 17) rfl ?_); refine gL_ (some 13) Try.func17 #[.agg #[.int .i64 a0_0, .int .i64 a0_1, .string a0_2, .slice A0_3 l0_3.length c0_3]] ?_; (with_reducible refine (spec_ExprOk.calls k a0_0 a0_1 a0_2 _ _ l0_3 true _ ?side1 ?side2 A5.out).mono ?_); (case side1 => exact Kd.C_below HR0_3.out (bw_ HB.out)); (case side2 => exact HC0_3.out); rintro e w16 ⟨rfl, hb⟩; refine ⟨_, rfl, ?_⟩; replace BK185 := A_ (blk_below (bk_ BK185.out) hb); replace HB := A_ (below_step (bw_ HB.out) hb); clear hb; obtain ⟨y17_0, y17_1, y17_2, y17_3, z17_0, z17_1, z17_2, z17_3⟩ := cz4_ BK185.out) | ((with_reducible refine gate_callee (f := 51) rfl ?_); refine gL_ (some 20) Try.func51 #[.agg #[.int .i64 a0_0, .int .i64 a0_1, .string a0_2, .slice A0_3 l0_3.length c0_3], .slice A1 l1.length c1, .slice A2 l2.length c2, .slice A3 l3.length c3] ?_; (with_reducible refine (spec_l11Worth.calls k a0_0 a0_1 a0_2 _ _ l0_3 _ _ l1 _ _ l2 _ _ l3 t187 false _ ?side1 ?side2 ?side3 ?side4 ?side5 ?side6 ?side7 ?side8 A7.out).mono ?_); (case side1 => exact Kd.C_below HR0_3.out (bw_ HB.out)); (case side2 => exact HC0_3.out); (case side3 => exact Kd.C_below HR1.out (bw_ HB.out)); (case side4 => exact HC1.out); (case side5 => exact Kd.C_below HR2.out (bw_ HB.out)); (case side6 => exact HC2.out); (case side7 => exact Kd.C_below HR3.out (bw_ HB.out)); (case side8 => exact HC3.out); rintro e w18 ⟨rfl, hb⟩; refine ⟨_, rfl, ?_⟩; replace BK185 := A_ (blk_below (bk_ BK185.out) hb); replace HB := A_ (below_step (bw_ HB.out) hb); clear hb))
   go_ret2
   exact rt_ (bw_ HB.out)
 ·replace c6 := Bool.eq_false_iff.mpr c6
  subst c6
  rw [if_neg (show ¬ (false = true) by decide)] at H
  simp only [Option.some.injEq, Prod.mk.injEq] at H
  obtain ⟨rfl, rfl⟩ := H
  go_enter Try.func25, Try.ntmps25
  go_wp2_with (first | ((with_reducible refine gate_dst (N := 4) rfl ?_); refine bx_ 4 #[.int .i64 a0_0, .int .i64 a0_1, .string a0_2, .slice A0_3 l0_3.length c0_3] 29 ?_; intro gb185 hg w19 hbox hb; have n0_ := A_ (below_step (bw_ HB.out) hb); have n1_ := A_ (hbox); have n2_ := A_ ((d9_ : w.heap.size ≤ gb185)); have n3_ := n2_; clear HB; have HB := n0_; have BK185 := n1_; have GW185 := n2_; have GE185 := n3_; have GI185 := GeI.mk GE185.out; clear n0_ n1_ n2_ n3_; clear hb hbox hg; obtain ⟨y20_0, y20_1, y20_2, y20_3, z20_0, z20_1, z20_2, z20_3⟩ := cz4_ BK185.out) | ((with_reducible refine gate_callee (f := 17) rfl ?_); refine gL_ (some 13) Try.func17 #[.agg #[.int .i64 a0_0, .int .i64 a0_1, .string a0_2, .slice A0_3 l0_3.length c0_3]] ?_; (with_reducible refine (spec_ExprOk.calls k a0_0 a0_1 a0_2 _ _ l0_3 false _ ?side1 ?side2 A5.out).mono ?_); (case side1 => exact Kd.C_below HR0_3.out (bw_ HB.out)); (case side2 => exact HC0_3.out); rintro e w21 ⟨rfl, hb⟩; refine ⟨_, rfl, ?_⟩; replace BK185 := A_ (blk_below (bk_ BK185.out) hb); replace HB := A_ (below_step (bw_ HB.out) hb); clear hb))
  go_ret2
  exact rt_ (bw_ HB.out)

/-! ### impl_Wrap: function 76 -/
def impl_Wrap.f (a0 : Int) : Option (Int) := some (Go.bits .and .i64 a0 65535)
set_option maxHeartbeats 8000000 in
set_option maxRecDepth 100000 in
theorem impl_Wrap.calls (a0 : Int) (r : Int) (w : World) (h : impl_Wrap.f a0 = some r) :
  Calls Try.prog 76 #[.int .i64 a0] w fun e w' => e = .returned (.int .i64 r) ∧ Drawn0 w w' := by
 have H : (some (Go.bits .and .i64 a0 65535)) = some r := h
 clear h
 obtain rfl := Option.some.inj H
 go_enter Try.func76, Try.ntmps76
 go_wp2
 go_ret
 exact ⟨by first | rfl | (simp; done) | (simp [*]; done), by repeat (first | exact Drawn0.refl _ | apply Drawn0.step)⟩

end Go.Proofs.Ytcpnhlhigpgonaa.PFnPutIn
