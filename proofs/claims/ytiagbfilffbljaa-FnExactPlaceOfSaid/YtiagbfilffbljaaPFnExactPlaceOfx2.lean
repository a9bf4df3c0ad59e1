-- Laid by a program of this session (a changed copy of the kit's printer); Lean checks every line.
import Derived.Test.YtiagbfilffbljaaPFnExactPlaceOfx0
namespace Go.Proofs.Ytiagbfilffbljaa.PFnExactPlaceOf
open Go.RowKit Go.Proofs.YtiagbfilffbljaaW.PrintWords Go.Proofs.YtiagbfilffbljaaW.PrintLast Go.Proofs.YtiagbfilffbljaaW.PrintMore
attribute [local go_sem] max2_int min2_int max_two min_two max_three min_three max_four min_four   -- for this text's walks alone
set_option linter.unusedVariables false
set_option linter.unusedSimpArgs false

/-! ### laws_heldIntS: function 65 -/
def laws_heldIntS.l0 : Nat → List Int → Int → Int → Option (Int)
 | 0, _, _, _ => none
 | k + 1, x0, x1, x5 => if x5 < (x0.length : Int) then (if 0 ≤ x5 then (if (rd x0 x5) = x1 then (laws_heldIntS.l0 k x0 (wrap64 (x1 + 1)) (wrap64 (x5 + 1))) else (some (-1))) else (none)) else (some x1)
def laws_heldIntS.f (k : Nat) (l0 : List Int) (a1 : Int) : Option (Int) := laws_heldIntS.l0 k l0 a1 0
theorem laws_heldIntS.mono_l : ∀ k, (∀ y0 y1 y2, LeO (laws_heldIntS.l0 k y0 y1 y2) (laws_heldIntS.l0 (k + 1) y0 y1 y2))
 | 0 => fun _ _ _ r h => by simp [laws_heldIntS.l0] at h
 | k + 1 => by
  have ih0 := laws_heldIntS.mono_l k
  ·intro y0 y1 y2
   unfold laws_heldIntS.l0
   repeat' first
   | (with_reducible exact ih0 _ _ _)
   | (with_reducible exact LeO.refl _)
   | (with_reducible exact LeO.none _)
   | (with_reducible refine LeO.ite ?_ ?_)
   | (with_reducible refine LeO.bind ?_ (fun _ => ?_))
   | exact ih0 _ _ _
   | exact LeO.none _
   | refine LeO.ite ?_ ?_
   | refine LeO.bind ?_ (fun _ => ?_)
theorem laws_heldIntS.mono : ∀ a0 a1 k, LeO (laws_heldIntS.f k a0 a1) (laws_heldIntS.f (k + 1) a0 a1) := by
 intro a0 a1 k
 have ih0 := laws_heldIntS.mono_l k
 unfold laws_heldIntS.f
 repeat' first
   | (with_reducible exact ih0 _ _ _)
   | (with_reducible exact LeO.refl _)
   | (with_reducible exact LeO.none _)
   | (with_reducible refine LeO.ite ?_ ?_)
   | (with_reducible refine LeO.bind ?_ (fun _ => ?_))
   | exact ih0 _ _ _
   | exact LeO.none _
   | refine LeO.ite ?_ ?_
   | refine LeO.bind ?_ (fun _ => ?_)
set_option maxHeartbeats 8000000 in
set_option maxRecDepth 100000 in
theorem laws_heldIntS.calls (k : Nat) (A0 : Option Addr) (c0 : Nat) (l0 : List Int) (a1 : Int) (r : Int) (w : World) (hr0 : Kd.C (Kd.int .i64) w A0 l0.length l0) (hc0 : l0.length ≤ c0) (h : laws_heldIntS.f k l0 a1 = some r) :
  Calls Try.prog 65 #[.slice A0 l0.length c0, .int .i64 a1] w fun e w' => e = .returned (.int .i64 r) ∧ Drawn0 w w' := by
 have HR0 := A_ hr0
 have HC0 := A_ hc0
 clear hr0 hc0
 have H : (laws_heldIntS.l0 k l0 a1 0) = some r := h
 clear h
 have H' := A_ H
 clear H
 go_enter Try.func65, Try.ntmps65
 go_wp2
 go_loopg [1, 5] k (fun kq v1 v5 w' => ∃ (x1_1 : Int) (x5_1 : Int), v1 = .int .i64 x1_1 ∧ v5 = .int .i64 x5_1 ∧ Aside0 (laws_heldIntS.l0 kq l0 x1_1 x5_1 = some r) ∧ Aside0 (kq ≤ k) ∧ Drawn0 w w')
 case atStart => exact ⟨(a1), (0), d2_, d2_, H', ⟨Nat.le_refl _⟩, by repeat (first | exact Drawn0.refl _ | apply Drawn0.step)⟩
 case round =>
  clear H'
  try clear p2
  obtain ⟨x1_1, x5_1, rfl, rfl, HA, HK1, ⟨m1, rfl⟩⟩ := hrel
  cases gk with
  | zero => exact absurd HA.out (by simp [laws_heldIntS.l0])
  | succ k1 =>
   have H := HA.out
   clear HA
   simp only [laws_heldIntS.l0] at H
   by_cases c3 : x5_1 < (l0.length : Int)
   ·rw [if_pos c3] at H
    have c3b0 := decide_eq_true c3
    clear c3
    by_cases c4 : 0 ≤ x5_1
    ·rw [if_pos c4] at H
     have c4b0 := decide_eq_true c4
     clear c4
     by_cases c5 : (rd l0 x5_1) = x1_1
     ·rw [if_pos c5] at H
      have c5b0 := beq_iff_eq.mpr c5
      have c5b1 := bne_eq_false_iff_eq.mpr c5
      clear c5
      have H' := A_ H
      clear H
      have p144 : 0 ≤ (x5_1 : Int) := of_decide_eq_true d1_
      have q144 : x5_1 < (l0.length : Int) := of_decide_eq_true d1_
      obtain ⟨ad144, e144, hx144_0⟩ := Kd.at_int HR0.out x5_1 p144 q144
      cases e144
      replace p144 := eq_true p144
      replace q144 := eq_true q144
      go_wp2
      go_roundg k1
      case measure => have := HK1.out; omega
      case rel => exact ⟨(wrap64 (x1_1 + 1)), (wrap64 (x5_1 + 1)), d2_, d2_, H', ⟨by have := HK1.out; omega⟩, by repeat (first | exact Drawn0.refl _ | apply Drawn0.step)⟩
     ·rw [if_neg c5] at H
      have c5b0 := beq_eq_false_iff_ne.mpr c5
      have c5b1 := bne_iff_ne.mpr c5
      obtain rfl := Option.some.inj H
      have p144 : 0 ≤ (x5_1 : Int) := of_decide_eq_true d1_
      have q144 : x5_1 < (l0.length : Int) := of_decide_eq_true d1_
      obtain ⟨ad144, e144, hx144_0⟩ := Kd.at_int HR0.out x5_1 p144 q144
      cases e144
      replace p144 := eq_true p144
      replace q144 := eq_true q144
      go_wp2
      go_ret
      exact ⟨by first | rfl | (simp; done) | (simp [*]; done), by repeat (first | exact Drawn0.refl _ | apply Drawn0.step)⟩
    ·rw [if_neg c4] at H
     exact absurd H (by simp)
   ·rw [if_neg c3] at H
    have c3b0 := decide_eq_false c3
    clear c3
    obtain rfl := Option.some.inj H
    go_wp2
    go_ret
    exact ⟨by first | rfl | (simp; done) | (simp [*]; done), by repeat (first | exact Drawn0.refl _ | apply Drawn0.step)⟩

/-! ### laws_heldMach: function 33 -/
def laws_heldMach.f (k : Nat) (l0_0 : List Int) (l0_1 : List Int) (a0_2 : Bool) (a0_3 : Bool) (a0_4 : Bool) (a0_5 : Bool) (l0_6 : List Int) (l0_7 : List Int) (a0_8 : Int) (a1 : Int) : Option (Int) := (laws_heldIntS.f k l0_0 a1).bind fun t146 => (if t146 < 0 then (some (-1)) else ((laws_heldIntS.f k l0_1 t146).bind fun t147 => (if t147 < 0 then (some (-1)) else ((laws_heldIntS.f k l0_6 t147).bind fun t148 => (if t148 < 0 then (some (-1)) else ((laws_heldIntS.f k l0_7 t148).bind fun t149 => (if t149 < 0 then (some (-1)) else (some t149))))))))
theorem laws_heldMach.mono : ∀ a0 a1 a2 a3 a4 a5 a6 a7 a8 a9 k, LeO (laws_heldMach.f k a0 a1 a2 a3 a4 a5 a6 a7 a8 a9) (laws_heldMach.f (k + 1) a0 a1 a2 a3 a4 a5 a6 a7 a8 a9) := by
 intro a0 a1 a2 a3 a4 a5 a6 a7 a8 a9 k
 unfold laws_heldMach.f
 repeat' first
   | (with_reducible exact laws_heldIntS.mono _ _ _)
   | (with_reducible exact LeO.refl _)
   | (with_reducible exact LeO.none _)
   | (with_reducible refine LeO.ite ?_ ?_)
   | (with_reducible refine LeO.bind ?_ (fun _ => ?_))
   | exact laws_heldIntS.mono _ _ _
   | exact LeO.none _
   | refine LeO.ite ?_ ?_
   | refine LeO.bind ?_ (fun _ => ?_)
set_option maxHeartbeats 8000000 in
set_option maxRecDepth 100000 in
theorem laws_heldMach.calls (k : Nat) (A0_0 : Option Addr) (c0_0 : Nat) (l0_0 : List Int) (A0_1 : Option Addr) (c0_1 : Nat) (l0_1 : List Int) (a0_2 : Bool) (a0_3 : Bool) (a0_4 : Bool) (a0_5 : Bool) (A0_6 : Option Addr) (c0_6 : Nat) (l0_6 : List Int) (A0_7 : Option Addr) (c0_7 : Nat) (l0_7 : List Int) (a0_8 : Int) (a1 : Int) (r : Int) (w : World) (hr0_0 : Kd.C (Kd.int .i64) w A0_0 l0_0.length l0_0) (hc0_0 : l0_0.length ≤ c0_0) (hr0_1 : Kd.C (Kd.int .i64) w A0_1 l0_1.length l0_1) (hc0_1 : l0_1.length ≤ c0_1) (hr0_6 : Kd.C (Kd.int .i64) w A0_6 l0_6.length l0_6) (hc0_6 : l0_6.length ≤ c0_6) (hr0_7 : Kd.C (Kd.int .i64) w A0_7 l0_7.length l0_7) (hc0_7 : l0_7.length ≤ c0_7) (h : laws_heldMach.f k l0_0 l0_1 a0_2 a0_3 a0_4 a0_5 l0_6 l0_7 a0_8 a1 = some r) :
  Calls Try.prog 33 #[.agg #[.slice A0_0 l0_0.length c0_0, .slice A0_1 l0_1.length c0_1, .bool a0_2, .bool a0_3, .bool a0_4, .bool a0_5, .slice A0_6 l0_6.length c0_6, .slice A0_7 l0_7.length c0_7, .int .i64 a0_8], .int .i64 a1] w fun e w' => e = .returned (.int .i64 r) ∧ Below w.heap.size w w' := by
 have hu28 := Try.underlying28
 have HR0_0 := A_ hr0_0
 have HC0_0 := A_ hc0_0
 clear hr0_0 hc0_0
 have HR0_1 := A_ hr0_1
 have HC0_1 := A_ hc0_1
 clear hr0_1 hc0_1
 have HR0_6 := A_ hr0_6
 have HC0_6 := A_ hc0_6
 clear hr0_6 hc0_6
 have HR0_7 := A_ hr0_7
 have HC0_7 := A_ hc0_7
 clear hr0_7 hc0_7
 have HB := A_ (Below.refl w.heap.size w)
 have H : ((laws_heldIntS.f k l0_0 a1).bind fun t146 => (if t146 < 0 then (some (-1)) else ((laws_heldIntS.f k l0_1 t146).bind fun t147 => (if t147 < 0 then (some (-1)) else ((laws_heldIntS.f k l0_6 t147).bind fun t148 => (if t148 < 0 then (some (-1)) else ((laws_heldIntS.f k l0_7 t148).bind fun t149 => (if t149 < 0 then (some (-1)) else (some t149))))))))) = some r := h
 clear h
 replace H := Option.bind_eq_some_iff.mp H
 obtain ⟨t146, A30, H⟩ := H
 try dsimp only at H
 have A3 := A_ A30
 clear A30
 by_cases c4 : t146 < 0
 rw [if_pos c4] at H
 have c4b0 := decide_eq_true c4
 clear c4
 obtain rfl := Option.some.inj H
 rotate_left
 rw [if_neg c4] at H
 have c4b0 := decide_eq_false c4
 clear c4
 replace H := Option.bind_eq_some_iff.mp H
 obtain ⟨t147, A70, H⟩ := H
 try dsimp only at H
 have A7 := A_ A70
 clear A70
 by_cases c8 : t147 < 0
 rw [if_pos c8] at H
 have c8b0 := decide_eq_true c8
 clear c8
 obtain rfl := Option.some.inj H
 rotate_left
 rw [if_neg c8] at H
 have c8b0 := decide_eq_false c8
 clear c8
 replace H := Option.bind_eq_some_iff.mp H
 obtain ⟨t148, A110, H⟩ := H
 try dsimp only at H
 have A11 := A_ A110
 clear A110
 by_cases c12 : t148 < 0
 rw [if_pos c12] at H
 have c12b0 := decide_eq_true c12
 clear c12
 obtain rfl := Option.some.inj H
 rotate_left
 rw [if_neg c12] at H
 have c12b0 := decide_eq_false c12
 clear c12
 replace H := Option.bind_eq_some_iff.mp H
 obtain ⟨t149, A150, H⟩ := H
 try dsimp only at H
 have A15 := A_ A150
 clear A150
 by_cases c16 : t149 < 0
 rw [if_pos c16] at H
 have c16b0 := decide_eq_true c16
 clear c16
 obtain rfl := Option.some.inj H
 rotate_left
 rw [if_neg c16] at H
 have c16b0 := decide_eq_false c16
 clear c16
 obtain rfl := Option.some.inj H
 rotate_left
 all_goals go_enter Try.func33, Try.ntmps33
 all_goals go_wp2_with (first | ((with_reducible refine gate_dst (N := 2) rfl ?_); refine bx_ 2 #[.slice A0_0 l0_0.length c0_0, .slice A0_1 l0_1.length c0_1, .bool a0_2, .bool a0_3, .bool a0_4, .bool a0_5, .slice A0_6 l0_6.length c0_6, .slice A0_7 l0_7.length c0_7, .int .i64 a0_8] 28 ?_; intro gb145 hg w5 hbox hb; have n0_ := A_ (below_step (bw_ HB.out) hb); have n1_ := A_ (hbox); have n2_ := A_ ((d0_ : w.heap.size ≤ gb145)); have n3_ := n2_; clear HB; have HB := n0_; have BK145 := n1_; have GW145 := n2_; have GE145 := n3_; have GI145 := GeI.mk GE145.out; clear n0_ n1_ n2_ n3_; clear hb hbox hg; obtain ⟨y6_0, y6_1, y6_2, y6_3, y6_4, y6_5, y6_6, y6_7, y6_8, z6_0, z6_1, z6_2, z6_3, z6_4, z6_5, z6_6, z6_7, z6_8⟩ := cz9_ BK145.out) | ((with_reducible refine gate_callee (f := 65) rfl ?_); refine gL_ (some 8) Try.func65 #[.slice A0_0 l0_0.length c0_0, .int .i64 a1] ?_; (with_reducible refine (laws_heldIntS.calls k _ _ l0_0 a1 t146 _ ?side1 ?side2 A3.out).mono ?_); (case side1 => repeat (first | exact (Kd.C_below HR0_0.out HB.out) | (with_reducible refine Kd.C_alloc ?_ _) | (with_reducible refine Kd.C_drewN ?_ _) | (with_reducible refine Kd.C_drew ?_))); (case side2 => exact HC0_0.out); rintro e w' ⟨rfl, ⟨nd, rfl⟩⟩; refine ⟨_, rfl, ?_⟩) | ((with_reducible refine gate_callee (f := 65) rfl ?_); refine gL_ (some 14) Try.func65 #[.slice A0_1 l0_1.length c0_1, .int .i64 t146] ?_; (with_reducible refine (laws_heldIntS.calls k _ _ l0_1 t146 t147 _ ?side1 ?side2 A7.out).mono ?_); (case side1 => repeat (first | exact (Kd.C_below HR0_1.out (bw_ HB.out)) | (with_reducible refine Kd.C_alloc ?_ _) | (with_reducible refine Kd.C_drewN ?_ _) | (with_reducible refine Kd.C_drew ?_))); (case side2 => exact HC0_1.out); rintro e w' ⟨rfl, ⟨nd, rfl⟩⟩; refine ⟨_, rfl, ?_⟩) | ((with_reducible refine gate_callee (f := 65) rfl ?_); refine gL_ (some 20) Try.func65 #[.slice A0_6 l0_6.length c0_6, .int .i64 t147] ?_; (with_reducible refine (laws_heldIntS.calls k _ _ l0_6 t147 t148 _ ?side1 ?side2 A11.out).mono ?_); (case side1 => repeat (first | exact (Kd.C_below HR0_6.out (bw_ HB.out)) | (with_reducible refine Kd.C_alloc ?_ _) | (with_reducible refine Kd.C_drewN ?_ _) | (with_reducible refine Kd.C_drew ?_))); (case side2 => exact HC0_6.out); rintro e w' ⟨rfl, ⟨nd, rfl⟩⟩; refine ⟨_, rfl, ?_⟩) | ((with_reducible refine gate_callee (f := 65) rfl ?_); refine gL_ (some 26) Try.func65 #[.slice A0_7 l0_7.length c0_7, .int .i64 t148] ?_; (with_reducible refine (laws_heldIntS.calls k _ _ l0_7 t148 t149 _ ?side1 ?side2 A15.out).mono ?_); (case side1 => repeat (first | exact (Kd.C_below HR0_7.out (bw_ HB.out)) | (with_reducible refine Kd.C_alloc ?_ _) | (with_reducible refine Kd.C_drewN ?_ _) | (with_reducible refine Kd.C_drew ?_))); (case side2 => exact HC0_7.out); rintro e w' ⟨rfl, ⟨nd, rfl⟩⟩; refine ⟨_, rfl, ?_⟩))
 ·go_ret
  exact rt_ (bw_ HB.out)
 ·go_ret
  exact rt_ (bw_ HB.out)
 ·go_ret
  exact rt_ (bw_ HB.out)
 ·go_ret
  exact rt_ (bw_ HB.out)
 ·go_ret
  exact rt_ (bw_ HB.out)

/-! ### spec_l1In: function 57 -/
def spec_l1In.f (a0 : Int) (a1 : Int) (a2 : Int) : Option (Bool) := if a0 ≥ a1 then (some (decide (a0 ≤ a2))) else (some false)
set_option maxHeartbeats 8000000 in
set_option maxRecDepth 100000 in
theorem spec_l1In.calls (a0 : Int) (a1 : Int) (a2 : Int) (r : Bool) (w : World) (h : spec_l1In.f a0 a1 a2 = some r) :
  Calls Try.prog 57 #[.int .i64 a0, .int .i64 a1, .int .i64 a2] w fun e w' => e = .returned (.bool r) ∧ Drawn0 w w' := by
 have H : (if a0 ≥ a1 then (some (decide (a0 ≤ a2))) else (some false)) = some r := h
 clear h
 by_cases c4 : a0 ≥ a1
 ·rw [if_pos c4] at H
  have c4b0 := decide_eq_true c4
  clear c4
  obtain rfl := Option.some.inj H
  go_enter Try.func57, Try.ntmps57
  go_wp2
  go_ret
  exact ⟨by first | rfl | (simp; done) | (simp [*]; done), by repeat (first | exact Drawn0.refl _ | apply Drawn0.step)⟩
 ·rw [if_neg c4] at H
  have c4b0 := decide_eq_false c4
  clear c4
  obtain rfl := Option.some.inj H
  go_enter Try.func57, Try.ntmps57
  go_wp2
  go_ret
  exact ⟨by first | rfl | (simp; done) | (simp [*]; done), by repeat (first | exact Drawn0.refl _ | apply Drawn0.step)⟩

/-! ### spec_l5Words: function 59 -/
def spec_l5Words.l0 : Nat → List Int → Int → Option (Bool)
 | 0, _, _ => none
 | k + 1, x0, x3 => if x3 < (x0.length : Int) then (if 0 ≤ x3 then ((spec_l1In.f (rd x0 x3) 0 65535).bind fun t151 => (if t151 = true then (spec_l5Words.l0 k x0 (wrap64 (x3 + 1))) else (some false))) else (none)) else (some true)
def spec_l5Words.f (k : Nat) (l0 : List Int) : Option (Bool) := spec_l5Words.l0 k l0 0
theorem spec_l5Words.mono_l : ∀ k, (∀ y0 y1, LeO (spec_l5Words.l0 k y0 y1) (spec_l5Words.l0 (k + 1) y0 y1))
 | 0 => fun _ _ r h => by simp [spec_l5Words.l0] at h
 | k + 1 => by
  have ih0 := spec_l5Words.mono_l k
  ·intro y0 y1
   unfold spec_l5Words.l0
   repeat' first
   | (with_reducible exact ih0 _ _)
   | (with_reducible exact LeO.refl _)
   | (with_reducible exact LeO.none _)
   | (with_reducible refine LeO.ite ?_ ?_)
   | (with_reducible refine LeO.bind ?_ (fun _ => ?_))
   | exact ih0 _ _
   | exact LeO.none _
   | refine LeO.ite ?_ ?_
   | refine LeO.bind ?_ (fun _ => ?_)
theorem spec_l5Words.mono : ∀ a0 k, LeO (spec_l5Words.f k a0) (spec_l5Words.f (k + 1) a0) := by
 intro a0 k
 have ih0 := spec_l5Words.mono_l k
 unfold spec_l5Words.f
 repeat' first
   | (with_reducible exact ih0 _ _)
   | (with_reducible exact LeO.refl _)
   | (with_reducible exact LeO.none _)
   | (with_reducible refine LeO.ite ?_ ?_)
   | (with_reducible refine LeO.bind ?_ (fun _ => ?_))
   | exact ih0 _ _
   | exact LeO.none _
   | refine LeO.ite ?_ ?_
   | refine LeO.bind ?_ (fun _ => ?_)
set_option maxHeartbeats 8000000 in
set_option maxRecDepth 100000 in
theorem spec_l5Words.calls (k : Nat) (A0 : Option Addr) (c0 : Nat) (l0 : List Int) (r : Bool) (w : World) (hr0 : Kd.C (Kd.int .i64) w A0 l0.length l0) (hc0 : l0.length ≤ c0) (h : spec_l5Words.f k l0 = some r) :
  Calls Try.prog 59 #[.slice A0 l0.length c0] w fun e w' => e = .returned (.bool r) ∧ Drawn0 w w' := by
 have HR0 := A_ hr0
 have HC0 := A_ hc0
 clear hr0 hc0
 have H : (spec_l5Words.l0 k l0 0) = some r := h
 clear h
 have H' := A_ H
 clear H
 go_enter Try.func59, Try.ntmps59
 go_wp2
 go_loopg [3] k (fun kq v3 w' => ∃ (x3_1 : Int), v3 = .int .i64 x3_1 ∧ Aside0 (spec_l5Words.l0 kq l0 x3_1 = some r) ∧ Aside0 (kq ≤ k) ∧ Drawn0 w w')
 case atStart => exact ⟨(0), d2_, H', ⟨Nat.le_refl _⟩, by repeat (first | exact Drawn0.refl _ | apply Drawn0.step)⟩
 case round =>
  clear H'
  obtain ⟨x3_1, rfl, HA, HK1, ⟨m1, rfl⟩⟩ := hrel
  cases gk with
  | zero => exact absurd HA.out (by simp [spec_l5Words.l0])
  | succ k1 =>
   have H := HA.out
   clear HA
   simp only [spec_l5Words.l0] at H
   by_cases c2 : x3_1 < (l0.length : Int)
   ·rw [if_pos c2] at H
    have c2b0 := decide_eq_true c2
    clear c2
    by_cases c3 : 0 ≤ x3_1
    ·rw [if_pos c3] at H
     have c3b0 := decide_eq_true c3
     clear c3
     replace H := Option.bind_eq_some_iff.mp H
     obtain ⟨t151, A40, H⟩ := H
     try dsimp only at H
     have A4 := A_ A40
     clear A40
     by_cases c5 : t151 = true
     ·subst c5
      rw [if_pos rfl] at H
      have H' := A_ H
      clear H
      have p150 : 0 ≤ (x3_1 : Int) := of_decide_eq_true d1_
      have q150 : x3_1 < (l0.length : Int) := of_decide_eq_true d1_
      obtain ⟨ad150, e150, hx150_0⟩ := Kd.at_int HR0.out x3_1 p150 q150
      cases e150
      replace p150 := eq_true p150
      replace q150 := eq_true q150
      go_wp2_with (first | ((with_reducible refine gate_callee (f := 57) rfl ?_); refine gL_ (some 14) Try.func57 #[.int .i64 (rd l0 x3_1), .int .i64 0, .int .i64 65535] ?_; (with_reducible refine (spec_l1In.calls (rd l0 x3_1) 0 65535 true _ A4.out).mono ?_); rintro e w' ⟨rfl, ⟨nd, rfl⟩⟩; refine ⟨_, rfl, ?_⟩))
      go_roundg k1
      case measure => have := HK1.out; omega
      case rel => exact ⟨(wrap64 (x3_1 + 1)), d2_, H', ⟨by have := HK1.out; omega⟩, by repeat (first | exact Drawn0.refl _ | apply Drawn0.step)⟩
     ·replace c5 := Bool.eq_false_iff.mpr c5
      subst c5
      rw [if_neg (show ¬ (false = true) by decide)] at H
      obtain rfl := Option.some.inj H
      have p150 : 0 ≤ (x3_1 : Int) := of_decide_eq_true d1_
      have q150 : x3_1 < (l0.length : Int) := of_decide_eq_true d1_
      obtain ⟨ad150, e150, hx150_0⟩ := Kd.at_int HR0.out x3_1 p150 q150
      cases e150
      replace p150 := eq_true p150
      replace q150 := eq_true q150
      go_wp2_with (first | ((with_reducible refine gate_callee (f := 57) rfl ?_); refine gL_ (some 14) Try.func57 #[.int .i64 (rd l0 x3_1), .int .i64 0, .int .i64 65535] ?_; (with_reducible refine (spec_l1In.calls (rd l0 x3_1) 0 65535 false _ A4.out).mono ?_); rintro e w' ⟨rfl, ⟨nd, rfl⟩⟩; refine ⟨_, rfl, ?_⟩))
      go_ret
      exact ⟨by first | rfl | (simp; done) | (simp [*]; done), by repeat (first | exact Drawn0.refl _ | apply Drawn0.step)⟩
    ·rw [if_neg c3] at H
     exact absurd H (by simp)
   ·rw [if_neg c2] at H
    have c2b0 := decide_eq_false c2
    clear c2
    obtain rfl := Option.some.inj H
    go_wp2
    go_ret
    exact ⟨by first | rfl | (simp; done) | (simp [*]; done), by repeat (first | exact Drawn0.refl _ | apply Drawn0.step)⟩

/-! ### spec_MachOk: function 22 -/
def spec_MachOk.f (k : Nat) (l0_0 : List Int) (l0_1 : List Int) (a0_2 : Bool) (a0_3 : Bool) (a0_4 : Bool) (a0_5 : Bool) (l0_6 : List Int) (l0_7 : List Int) (a0_8 : Int) : Option (Bool) := if (l0_0.length : Int) = 256 then ((spec_l5Words.f k l0_0).bind fun t153 => (if t153 = true then (if (l0_1.length : Int) = 8 then ((spec_l5Words.f k l0_1).bind fun t154 => (if t154 = true then (if (l0_6.length : Int) ≤ 50 then ((spec_l5Words.f k l0_6).bind fun t155 => (if t155 = true then (if (l0_7.length : Int) ≤ 50 then ((spec_l5Words.f k l0_7).bind fun t156 => (if t156 = true then ((spec_l1In.f a0_8 0 2).bind fun t157 => (some t157)) else (some false))) else (some false)) else (some false))) else (some false)) else (some false))) else (some false)) else (some false))) else (some false)
theorem spec_MachOk.mono : ∀ a0 a1 a2 a3 a4 a5 a6 a7 a8 k, LeO (spec_MachOk.f k a0 a1 a2 a3 a4 a5 a6 a7 a8) (spec_MachOk.f (k + 1) a0 a1 a2 a3 a4 a5 a6 a7 a8) := by
 intro a0 a1 a2 a3 a4 a5 a6 a7 a8 k
 unfold spec_MachOk.f
 repeat' first
   | (with_reducible exact spec_l5Words.mono _ _)
   | (with_reducible exact LeO.refl _)
   | (with_reducible exact LeO.none _)
   | (with_reducible refine LeO.ite ?_ ?_)
   | (with_reducible refine LeO.bind ?_ (fun _ => ?_))
   | exact spec_l5Words.mono _ _
   | exact LeO.none _
   | refine LeO.ite ?_ ?_
   | refine LeO.bind ?_ (fun _ => ?_)
set_option maxHeartbeats 8000000 in
set_option maxRecDepth 100000 in
theorem spec_MachOk.calls (k : Nat) (A0_0 : Option Addr) (c0_0 : Nat) (l0_0 : List Int) (A0_1 : Option Addr) (c0_1 : Nat) (l0_1 : List Int) (a0_2 : Bool) (a0_3 : Bool) (a0_4 : Bool) (a0_5 : Bool) (A0_6 : Option Addr) (c0_6 : Nat) (l0_6 : List Int) (A0_7 : Option Addr) (c0_7 : Nat) (l0_7 : List Int) (a0_8 : Int) (r : Bool) (w : World) (hr0_0 : Kd.C (Kd.int .i64) w A0_0 l0_0.length l0_0) (hc0_0 : l0_0.length ≤ c0_0) (hr0_1 : Kd.C (Kd.int .i64) w A0_1 l0_1.length l0_1) (hc0_1 : l0_1.length ≤ c0_1) (hr0_6 : Kd.C (Kd.int .i64) w A0_6 l0_6.length l0_6) (hc0_6 : l0_6.length ≤ c0_6) (hr0_7 : Kd.C (Kd.int .i64) w A0_7 l0_7.length l0_7) (hc0_7 : l0_7.length ≤ c0_7) (h : spec_MachOk.f k l0_0 l0_1 a0_2 a0_3 a0_4 a0_5 l0_6 l0_7 a0_8 = some r) :
  Calls Try.prog 22 #[.agg #[.slice A0_0 l0_0.length c0_0, .slice A0_1 l0_1.length c0_1, .bool a0_2, .bool a0_3, .bool a0_4, .bool a0_5, .slice A0_6 l0_6.length c0_6, .slice A0_7 l0_7.length c0_7, .int .i64 a0_8]] w fun e w' => e = .returned (.bool r) ∧ Below w.heap.size w w' := by
 have hu28 := Try.underlying28
 have HR0_0 := A_ hr0_0
 have HC0_0 := A_ hc0_0
 clear hr0_0 hc0_0
 have HR0_1 := A_ hr0_1
 have HC0_1 := A_ hc0_1
 clear hr0_1 hc0_1
 have HR0_6 := A_ hr0_6
 have HC0_6 := A_ hc0_6
 clear hr0_6 hc0_6
 have HR0_7 := A_ hr0_7
 have HC0_7 := A_ hc0_7
 clear hr0_7 hc0_7
 have HB := A_ (Below.refl w.heap.size w)
 have H : (if (l0_0.length : Int) = 256 then ((spec_l5Words.f k l0_0).bind fun t153 => (if t153 = true then (if (l0_1.length : Int) = 8 then ((spec_l5Words.f k l0_1).bind fun t154 => (if t154 = true then (if (l0_6.length : Int) ≤ 50 then ((spec_l5Words.f k l0_6).bind fun t155 => (if t155 = true then (if (l0_7.length : Int) ≤ 50 then ((spec_l5Words.f k l0_7).bind fun t156 => (if t156 = true then ((spec_l1In.f a0_8 0 2).bind fun t157 => (some t157)) else (some false))) else (some false)) else (some false))) else (some false)) else (some false))) else (some false)) else (some false))) else (some false)) = some r := h
 clear h
 by_cases c2 : (l0_0.length : Int) = 256
 rw [if_pos c2] at H
 have c2b0 := beq_iff_eq.mpr c2
 have c2b1 := bne_eq_false_iff_eq.mpr c2
 clear c2
 replace H := Option.bind_eq_some_iff.mp H
 obtain ⟨t153, A30, H⟩ := H
 try dsimp only at H
 have A3 := A_ A30
 clear A30
 by_cases c4 : t153 = true
 subst c4
 rw [if_pos rfl] at H
 by_cases c5 : (l0_1.length : Int) = 8
 rw [if_pos c5] at H
 have c5b0 := beq_iff_eq.mpr c5
 have c5b1 := bne_eq_false_iff_eq.mpr c5
 clear c5
 replace H := Option.bind_eq_some_iff.mp H
 obtain ⟨t154, A60, H⟩ := H
 try dsimp only at H
 have A6 := A_ A60
 clear A60
 by_cases c7 : t154 = true
 subst c7
 rw [if_pos rfl] at H
 by_cases c8 : (l0_6.length : Int) ≤ 50
 rw [if_pos c8] at H
 have c8b0 := decide_eq_true c8
 have c8b1 : decide (l0_6.length ≤ 50) = true := decide_eq_true (by omega)
 clear c8
 replace H := Option.bind_eq_some_iff.mp H
 obtain ⟨t155, A90, H⟩ := H
 try dsimp only at H
 have A9 := A_ A90
 clear A90
 by_cases c10 : t155 = true
 subst c10
 rw [if_pos rfl] at H
 by_cases c11 : (l0_7.length : Int) ≤ 50
 rw [if_pos c11] at H
 have c11b0 := decide_eq_true c11
 have c11b1 : decide (l0_7.length ≤ 50) = true := decide_eq_true (by omega)
 clear c11
 replace H := Option.bind_eq_some_iff.mp H
 obtain ⟨t156, A120, H⟩ := H
 try dsimp only at H
 have A12 := A_ A120
 clear A120
 by_cases c13 : t156 = true
 subst c13
 rw [if_pos rfl] at H
 replace H := Option.bind_eq_some_iff.mp H
 obtain ⟨t157, A140, H⟩ := H
 try dsimp only at H
 have A14 := A_ A140
 clear A140
 obtain rfl := Option.some.inj H
 rotate_left
 replace c13 := Bool.eq_false_iff.mpr c13
 subst c13
 rw [if_neg (show ¬ (false = true) by decide)] at H
 obtain rfl := Option.some.inj H
 rotate_left
 rw [if_neg c11] at H
 have c11b0 := decide_eq_false c11
 have c11b1 : decide (l0_7.length ≤ 50) = false := decide_eq_false (by omega)
 clear c11
 obtain rfl := Option.some.inj H
 rotate_left
 replace c10 := Bool.eq_false_iff.mpr c10
 subst c10
 rw [if_neg (show ¬ (false = true) by decide)] at H
 obtain rfl := Option.some.inj H
 rotate_left
 rw [if_neg c8] at H
 have c8b0 := decide_eq_false c8
 have c8b1 : decide (l0_6.length ≤ 50) = false := decide_eq_false (by omega)
 clear c8
 obtain rfl := Option.some.inj H
 rotate_left
 replace c7 := Bool.eq_false_iff.mpr c7
 subst c7
 rw [if_neg (show ¬ (false = true) by decide)] at H
 obtain rfl := Option.some.inj H
 rotate_left
 rw [if_neg c5] at H
 have c5b0 := beq_eq_false_iff_ne.mpr c5
 have c5b1 := bne_iff_ne.mpr c5
 obtain rfl := Option.some.inj H
 rotate_left
 replace c4 := Bool.eq_false_iff.mpr c4
 subst c4
 rw [if_neg (show ¬ (false = true) by decide)] at H
 obtain rfl := Option.some.inj H
 rotate_left
 rw [if_neg c2] at H
 have c2b0 := beq_eq_false_iff_ne.mpr c2
 have c2b1 := bne_iff_ne.mpr c2
 obtain rfl := Option.some.inj H
 rotate_left
 all_goals go_enter Try.func22, Try.ntmps22
 all_goals go_wp2_with (first | ((with_reducible refine gate_dst (N := 1) rfl ?_); (try (refine gate_guard (by rfl) ?_; dsimp only)); refine bx_ 1 #[.slice A0_0 l0_0.length c0_0, .slice A0_1 l0_1.length c0_1, .bool a0_2, .bool a0_3, .bool a0_4, .bool a0_5, .slice A0_6 l0_6.length c0_6, .slice A0_7 l0_7.length c0_7, .int .i64 a0_8] 28 ?_; intro gb152 hg w15 hbox hb; have n0_ := A_ (below_step (bw_ HB.out) hb); have n1_ := A_ (hbox); have n2_ := A_ ((d0_ : w.heap.size ≤ gb152)); have n3_ := n2_; clear HB; have HB := n0_; have BK152 := n1_; have GW152 := n2_; have GE152 := n3_; have GI152 := GeI.mk GE152.out; clear n0_ n1_ n2_ n3_; clear hb hbox hg; obtain ⟨y16_0, y16_1, y16_2, y16_3, y16_4, y16_5, y16_6, y16_7, y16_8, z16_0, z16_1, z16_2, z16_3, z16_4, z16_5, z16_6, z16_7, z16_8⟩ := cz9_ BK152.out) | (go_at_call 59; (with_reducible refine (spec_l5Words.calls k _ _ l0_7 false _ ?side1 ?side2 A12.out).mono ?_); (case side1 => repeat (first | exact (Kd.C_below HR0_7.out (bw_ HB.out)) | (with_reducible refine Kd.C_alloc ?_ _) | (with_reducible refine Kd.C_drewN ?_ _) | (with_reducible refine Kd.C_drew ?_))); (case side2 => exact HC0_7.out); rintro e w' ⟨rfl, ⟨nd, rfl⟩⟩) | (go_at_call 59; (with_reducible refine (spec_l5Words.calls k _ _ l0_7 true _ ?side1 ?side2 A12.out).mono ?_); (case side1 => repeat (first | exact (Kd.C_below HR0_7.out (bw_ HB.out)) | (with_reducible refine Kd.C_alloc ?_ _) | (with_reducible refine Kd.C_drewN ?_ _) | (with_reducible refine Kd.C_drew ?_))); (case side2 => exact HC0_7.out); rintro e w' ⟨rfl, ⟨nd, rfl⟩⟩) | (go_at_call 59; (with_reducible refine (spec_l5Words.calls k _ _ l0_6 false _ ?side1 ?side2 A9.out).mono ?_); (case side1 => repeat (first | exact (Kd.C_below HR0_6.out (bw_ HB.out)) | (with_reducible refine Kd.C_alloc ?_ _) | (with_reducible refine Kd.C_drewN ?_ _) | (with_reducible refine Kd.C_drew ?_))); (case side2 => exact HC0_6.out); rintro e w' ⟨rfl, ⟨nd, rfl⟩⟩) | (go_at_call 59; (with_reducible refine (spec_l5Words.calls k _ _ l0_1 false _ ?side1 ?side2 A6.out).mono ?_); (case side1 => repeat (first | exact (Kd.C_below HR0_1.out (bw_ HB.out)) | (with_reducible refine Kd.C_alloc ?_ _) | (with_reducible refine Kd.C_drewN ?_ _) | (with_reducible refine Kd.C_drew ?_))); (case side2 => exact HC0_1.out); rintro e w' ⟨rfl, ⟨nd, rfl⟩⟩) | (go_at_call 59; (with_reducible refine (spec_l5Words.calls k _ _ l0_1 true _ ?side1 ?side2 A6.out).mono ?_); (case side1 => repeat (first | exact (Kd.C_below HR0_1.out (bw_ HB.out)) | (with_reducible refine Kd.C_alloc ?_ _) | (with_reducible refine Kd.C_drewN ?_ _) | (with_reducible refine Kd.C_drew ?_))); (case side2 => exact HC0_1.out); rintro e w' ⟨rfl, ⟨nd, rfl⟩⟩) | (go_at_call 59; (with_reducible refine (spec_l5Words.calls k _ _ l0_6 true _ ?side1 ?side2 A9.out).mono ?_); (case side1 => repeat (first | exact (Kd.C_below HR0_6.out (bw_ HB.out)) | (with_reducible refine Kd.C_alloc ?_ _) | (with_reducible refine Kd.C_drewN ?_ _) | (with_reducible refine Kd.C_drew ?_))); (case side2 => exact HC0_6.out); rintro e w' ⟨rfl, ⟨nd, rfl⟩⟩) | (go_at_call 59; (with_reducible refine (spec_l5Words.calls k _ _ l0_0 false _ ?side1 ?side2 A3.out).mono ?_); (case side1 => repeat (first | exact (Kd.C_below HR0_0.out HB.out) | (with_reducible refine Kd.C_alloc ?_ _) | (with_reducible refine Kd.C_drewN ?_ _) | (with_reducible refine Kd.C_drew ?_))); (case side2 => exact HC0_0.out); rintro e w' ⟨rfl, ⟨nd, rfl⟩⟩) | (go_at_call 59; (with_reducible refine (spec_l5Words.calls k _ _ l0_0 true _ ?side1 ?side2 A3.out).mono ?_); (case side1 => repeat (first | exact (Kd.C_below HR0_0.out HB.out) | (with_reducible refine Kd.C_alloc ?_ _) | (with_reducible refine Kd.C_drewN ?_ _) | (with_reducible refine Kd.C_drew ?_))); (case side2 => exact HC0_0.out); rintro e w' ⟨rfl, ⟨nd, rfl⟩⟩) | (go_at_call 57; (with_reducible refine (spec_l1In.calls a0_8 0 2 t157 _ A14.out).mono ?_); rintro e w' ⟨rfl, ⟨nd, rfl⟩⟩))
 ·go_ret
  exact rt_ (bw_ HB.out)
 ·go_ret
  exact rt_ (bw_ HB.out)
 ·go_ret
  exact rt_ (bw_ HB.out)
 ·go_ret
  exact rt_ (bw_ HB.out)
 ·go_ret
  exact rt_ (bw_ HB.out)
 ·go_ret
  exact rt_ (bw_ HB.out)
 ·go_ret
  exact rt_ (bw_ HB.out)
 ·go_ret
  exact rt_ (bw_ HB.out)
 ·go_ret
  exact rt_ (bw_ HB.out)

/-! ### spec_l5Copy: function 66 -/
def spec_l5Copy.f (l0_0 : List Int) (l0_1 : List Int) (a0_2 : Bool) (a0_3 : Bool) (a0_4 : Bool) (a0_5 : Bool) (l0_6 : List Int) (l0_7 : List Int) (a0_8 : Int) : Option (List Int × List Int × Bool × Bool × Bool × Bool × List Int × List Int × Int) := (some (([] : List Int) : List Int)).bind fun y161 => (if y161.length + l0_0.length < 17592186044416 then ((some (([] : List Int) : List Int)).bind fun y167 => (if y167.length + l0_1.length < 17592186044416 then ((some (([] : List Int) : List Int)).bind fun y173 => (if y173.length + l0_6.length < 17592186044416 then ((some (([] : List Int) : List Int)).bind fun y179 => (if y179.length + l0_7.length < 17592186044416 then (some ((y161 ++ l0_0), (y167 ++ l0_1), a0_2, a0_3, a0_4, a0_5, (y173 ++ l0_6), (y179 ++ l0_7), a0_8)) else (none))) else (none))) else (none))) else (none))
set_option maxHeartbeats 8000000 in
set_option maxRecDepth 100000 in
theorem spec_l5Copy.calls (A0_0 : Option Addr) (c0_0 : Nat) (l0_0 : List Int) (A0_1 : Option Addr) (c0_1 : Nat) (l0_1 : List Int) (a0_2 : Bool) (a0_3 : Bool) (a0_4 : Bool) (a0_5 : Bool) (A0_6 : Option Addr) (c0_6 : Nat) (l0_6 : List Int) (A0_7 : Option Addr) (c0_7 : Nat) (l0_7 : List Int) (a0_8 : Int) (r1 : List Int) (r2 : List Int) (r3 : Bool) (r4 : Bool) (r5 : Bool) (r6 : Bool) (r7 : List Int) (r8 : List Int) (r9 : Int) (w : World) (hr0_0 : Kd.C (Kd.int .i64) w A0_0 l0_0.length l0_0) (hc0_0 : l0_0.length ≤ c0_0) (hr0_1 : Kd.C (Kd.int .i64) w A0_1 l0_1.length l0_1) (hc0_1 : l0_1.length ≤ c0_1) (hr0_6 : Kd.C (Kd.int .i64) w A0_6 l0_6.length l0_6) (hc0_6 : l0_6.length ≤ c0_6) (hr0_7 : Kd.C (Kd.int .i64) w A0_7 l0_7.length l0_7) (hc0_7 : l0_7.length ≤ c0_7) (h : spec_l5Copy.f l0_0 l0_1 a0_2 a0_3 a0_4 a0_5 l0_6 l0_7 a0_8 = some (r1, r2, r3, r4, r5, r6, r7, r8, r9)) :
  Calls Try.prog 66 #[.agg #[.slice A0_0 l0_0.length c0_0, .slice A0_1 l0_1.length c0_1, .bool a0_2, .bool a0_3, .bool a0_4, .bool a0_5, .slice A0_6 l0_6.length c0_6, .slice A0_7 l0_7.length c0_7, .int .i64 a0_8]] w fun e w' => ∃ v0_ v1_ v6_ v7_ : Value, e = .returned (.agg #[v0_, v1_, .bool r3, .bool r4, .bool r5, .bool r6, v6_, v7_, .int .i64 r9]) ∧ Kd.R (Kd.int .i64) 3 w' w.heap.size (fun k_ => some k_ ≠ (v1_ : Value).ownBlock ∧ some k_ ≠ (v6_ : Value).ownBlock ∧ some k_ ≠ (v7_ : Value).ownBlock) v0_ r1 ∧ Kd.R (Kd.int .i64) 3 w' w.heap.size (fun k_ => some k_ ≠ (v0_ : Value).ownBlock ∧ some k_ ≠ (v6_ : Value).ownBlock ∧ some k_ ≠ (v7_ : Value).ownBlock) v1_ r2 ∧ Kd.R (Kd.int .i64) 3 w' w.heap.size (fun k_ => some k_ ≠ (v0_ : Value).ownBlock ∧ some k_ ≠ (v1_ : Value).ownBlock ∧ some k_ ≠ (v7_ : Value).ownBlock) v6_ r7 ∧ Kd.R (Kd.int .i64) 3 w' w.heap.size (fun k_ => some k_ ≠ (v0_ : Value).ownBlock ∧ some k_ ≠ (v1_ : Value).ownBlock ∧ some k_ ≠ (v6_ : Value).ownBlock) v7_ r8 ∧ Below w.heap.size w w' := by
 have hu28 := Try.underlying28
 have HR0_0 := A_ hr0_0
 have HC0_0 := A_ hc0_0
 clear hr0_0 hc0_0
 have HR0_1 := A_ hr0_1
 have HC0_1 := A_ hc0_1
 clear hr0_1 hc0_1
 have HR0_6 := A_ hr0_6
 have HC0_6 := A_ hc0_6
 clear hr0_6 hc0_6
 have HR0_7 := A_ hr0_7
 have HC0_7 := A_ hc0_7
 clear hr0_7 hc0_7
 have HB := A_ (Below.refl w.heap.size w)
 have H : ((some (([] : List Int) : List Int)).bind fun y161 => (if y161.length + l0_0.length < 17592186044416 then ((some (([] : List Int) : List Int)).bind fun y167 => (if y167.length + l0_1.length < 17592186044416 then ((some (([] : List Int) : List Int)).bind fun y173 => (if y173.length + l0_6.length < 17592186044416 then ((some (([] : List Int) : List Int)).bind fun y179 => (if y179.length + l0_7.length < 17592186044416 then (some ((y161 ++ l0_0), (y167 ++ l0_1), a0_2, a0_3, a0_4, a0_5, (y173 ++ l0_6), (y179 ++ l0_7), a0_8)) else (none))) else (none))) else (none))) else (none))) = some (r1, r2, r3, r4, r5, r6, r7, r8, r9) := h
 clear h
 obtain ⟨y161, hy161⟩ : ∃ y_ : List Int, y_ = (([] : List Int)) := ⟨_, rfl⟩
 replace H : (if y161.length + l0_0.length < 17592186044416 then ((some (([] : List Int) : List Int)).bind fun y167 => (if y167.length + l0_1.length < 17592186044416 then ((some (([] : List Int) : List Int)).bind fun y173 => (if y173.length + l0_6.length < 17592186044416 then ((some (([] : List Int) : List Int)).bind fun y179 => (if y179.length + l0_7.length < 17592186044416 then (some ((y161 ++ l0_0), (y167 ++ l0_1), a0_2, a0_3, a0_4, a0_5, (y173 ++ l0_6), (y179 ++ l0_7), a0_8)) else (none))) else (none))) else (none))) else (none)) = some (r1, r2, r3, r4, r5, r6, r7, r8, r9) := by first | (rw [hy161]; with_reducible exact H) | (have H2_ := (Option.bind_some _ _).symm.trans H; rw [hy161]; with_reducible exact H2_) | (have H2_ := (Option.bind_some _ _).symm.trans H; with_reducible exact H2_) | with_reducible exact H | (rw [hy161]; exact H) | exact H
 have Ny161 := A_ hy161
 clear hy161
 by_cases c2 : y161.length + l0_0.length < 17592186044416
 ·rw [if_pos c2] at H
  have LMc2 := A_ c2
  clear c2
  obtain ⟨y164, hy164⟩ : ∃ y_ : List Int, y_ = (y161 ++ l0_0) := ⟨_, rfl⟩
  replace H : ((some (([] : List Int) : List Int)).bind fun y167 => (if y167.length + l0_1.length < 17592186044416 then ((some (([] : List Int) : List Int)).bind fun y173 => (if y173.length + l0_6.length < 17592186044416 then ((some (([] : List Int) : List Int)).bind fun y179 => (if y179.length + l0_7.length < 17592186044416 then (some (y164, (y167 ++ l0_1), a0_2, a0_3, a0_4, a0_5, (y173 ++ l0_6), (y179 ++ l0_7), a0_8)) else (none))) else (none))) else (none))) = some (r1, r2, r3, r4, r5, r6, r7, r8, r9) := by first | (rw [hy164]; with_reducible exact H) | (have H2_ := (Option.bind_some _ _).symm.trans H; rw [hy164]; with_reducible exact H2_) | (have H2_ := (Option.bind_some _ _).symm.trans H; with_reducible exact H2_) | with_reducible exact H | (rw [hy164]; exact H) | exact H
  have Ny164 := A_ hy164
  clear hy164
  obtain ⟨y167, hy167⟩ : ∃ y_ : List Int, y_ = (([] : List Int)) := ⟨_, rfl⟩
  replace H : (if y167.length + l0_1.length < 17592186044416 then ((some (([] : List Int) : List Int)).bind fun y173 => (if y173.length + l0_6.length < 17592186044416 then ((some (([] : List Int) : List Int)).bind fun y179 => (if y179.length + l0_7.length < 17592186044416 then (some (y164, (y167 ++ l0_1), a0_2, a0_3, a0_4, a0_5, (y173 ++ l0_6), (y179 ++ l0_7), a0_8)) else (none))) else (none))) else (none)) = some (r1, r2, r3, r4, r5, r6, r7, r8, r9) := by first | (rw [hy167]; with_reducible exact H) | (have H2_ := (Option.bind_some _ _).symm.trans H; rw [hy167]; with_reducible exact H2_) | (have H2_ := (Option.bind_some _ _).symm.trans H; with_reducible exact H2_) | with_reducible exact H | (rw [hy167]; exact H) | exact H
  have Ny167 := A_ hy167
  clear hy167
  by_cases c3 : y167.length + l0_1.length < 17592186044416
  ·rw [if_pos c3] at H
   have LMc3 := A_ c3
   clear c3
   obtain ⟨y170, hy170⟩ : ∃ y_ : List Int, y_ = (y167 ++ l0_1) := ⟨_, rfl⟩
   replace H : ((some (([] : List Int) : List Int)).bind fun y173 => (if y173.length + l0_6.length < 17592186044416 then ((some (([] : List Int) : List Int)).bind fun y179 => (if y179.length + l0_7.length < 17592186044416 then (some (y164, y170, a0_2, a0_3, a0_4, a0_5, (y173 ++ l0_6), (y179 ++ l0_7), a0_8)) else (none))) else (none))) = some (r1, r2, r3, r4, r5, r6, r7, r8, r9) := by first | (rw [hy170]; with_reducible exact H) | (have H2_ := (Option.bind_some _ _).symm.trans H; rw [hy170]; with_reducible exact H2_) | (have H2_ := (Option.bind_some _ _).symm.trans H; with_reducible exact H2_) | with_reducible exact H | (rw [hy170]; exact H) | exact H
   have Ny170 := A_ hy170
   clear hy170
   obtain ⟨y173, hy173⟩ : ∃ y_ : List Int, y_ = (([] : List Int)) := ⟨_, rfl⟩
   replace H : (if y173.length + l0_6.length < 17592186044416 then ((some (([] : List Int) : List Int)).bind fun y179 => (if y179.length + l0_7.length < 17592186044416 then (some (y164, y170, a0_2, a0_3, a0_4, a0_5, (y173 ++ l0_6), (y179 ++ l0_7), a0_8)) else (none))) else (none)) = some (r1, r2, r3, r4, r5, r6, r7, r8, r9) := by first | (rw [hy173]; with_reducible exact H) | (have H2_ := (Option.bind_some _ _).symm.trans H; rw [hy173]; with_reducible exact H2_) | (have H2_ := (Option.bind_some _ _).symm.trans H; with_reducible exact H2_) | with_reducible exact H | (rw [hy173]; exact H) | exact H
   have Ny173 := A_ hy173
   clear hy173
   by_cases c4 : y173.length + l0_6.length < 17592186044416
   ·rw [if_pos c4] at H
    have LMc4 := A_ c4
    clear c4
    obtain ⟨y176, hy176⟩ : ∃ y_ : List Int, y_ = (y173 ++ l0_6) := ⟨_, rfl⟩
    replace H : ((some (([] : List Int) : List Int)).bind fun y179 => (if y179.length + l0_7.length < 17592186044416 then (some (y164, y170, a0_2, a0_3, a0_4, a0_5, y176, (y179 ++ l0_7), a0_8)) else (none))) = some (r1, r2, r3, r4, r5, r6, r7, r8, r9) := by first | (rw [hy176]; with_reducible exact H) | (have H2_ := (Option.bind_some _ _).symm.trans H; rw [hy176]; with_reducible exact H2_) | (have H2_ := (Option.bind_some _ _).symm.trans H; with_reducible exact H2_) | with_reducible exact H | (rw [hy176]; exact H) | exact H
    have Ny176 := A_ hy176
    clear hy176
    obtain ⟨y179, hy179⟩ : ∃ y_ : List Int, y_ = (([] : List Int)) := ⟨_, rfl⟩
    replace H : (if y179.length + l0_7.length < 17592186044416 then (some (y164, y170, a0_2, a0_3, a0_4, a0_5, y176, (y179 ++ l0_7), a0_8)) else (none)) = some (r1, r2, r3, r4, r5, r6, r7, r8, r9) := by first | (rw [hy179]; with_reducible exact H) | (have H2_ := (Option.bind_some _ _).symm.trans H; rw [hy179]; with_reducible exact H2_) | (have H2_ := (Option.bind_some _ _).symm.trans H; with_reducible exact H2_) | with_reducible exact H | (rw [hy179]; exact H) | exact H
    have Ny179 := A_ hy179
    clear hy179
    by_cases c5 : y179.length + l0_7.length < 17592186044416
    ·rw [if_pos c5] at H
     have LMc5 := A_ c5
     clear c5
     obtain ⟨y182, hy182⟩ : ∃ y_ : List Int, y_ = (y179 ++ l0_7) := ⟨_, rfl⟩
     replace H : (some (y164, y170, a0_2, a0_3, a0_4, a0_5, y176, y182, a0_8)) = some (r1, r2, r3, r4, r5, r6, r7, r8, r9) := by first | (rw [hy182]; with_reducible exact H) | (have H2_ := (Option.bind_some _ _).symm.trans H; rw [hy182]; with_reducible exact H2_) | (have H2_ := (Option.bind_some _ _).symm.trans H; with_reducible exact H2_) | with_reducible exact H | (rw [hy182]; exact H) | exact H
     have Ny182 := A_ hy182
     clear hy182
     simp only [Option.some.injEq, Prod.mk.injEq] at H
     obtain ⟨rfl, rfl, rfl, rfl, rfl, rfl, rfl, rfl, rfl⟩ := H
     go_enter Try.func66, Try.ntmps66
     go_wp2_with (first | ((with_reducible refine gate_dst (N := 1) rfl ?_); refine bx_ 1 #[.slice A0_0 l0_0.length c0_0, .slice A0_1 l0_1.length c0_1, .bool a0_2, .bool a0_3, .bool a0_4, .bool a0_5, .slice A0_6 l0_6.length c0_6, .slice A0_7 l0_7.length c0_7, .int .i64 a0_8] 28 ?_; intro gb158 hg w6 hbox hb; have n0_ := A_ (below_step (bw_ HB.out) hb); have n1_ := A_ (hbox); have n2_ := A_ ((d0_ : w.heap.size ≤ gb158)); have n3_ := n2_; clear HB; have HB := n0_; have BK158 := n1_; have GW158 := n2_; have GE158 := n3_; have GI158 := GeI.mk GE158.out; clear n0_ n1_ n2_ n3_; clear hb hbox hg) | ((with_reducible refine gate_dst (N := 2) rfl ?_); refine bx_ 2 #[.slice none 0 0, .slice none 0 0, .bool false, .bool false, .bool false, .bool false, .slice none 0 0, .slice none 0 0, .int .i64 0] 28 ?_; intro gb159 hg w7 hbox hb; have n0_ := A_ (blk_below (bk_ BK158.out) hb); have n1_ := A_ (below_step (bw_ HB.out) hb); have n2_ := A_ (hbox); have n3_ := A_ ((d0_ : w.heap.size ≤ gb159)); have n4_ := n3_; have n5_ := A_ ((by rw [hg]; exact Nat.ne_of_lt (blk_lt (bk_ BK158.out)) : gb158 ≠ gb159)); have n6_ := A_ n5_.out.symm; clear BK158; clear HB; have BK158 := n0_; have HB := n1_; have BK159 := n2_; have GW159 := n3_; have GE159 := n4_; have GI159 := GeI.mk GE159.out; have NB158_159 := n5_; have NB159_158 := n6_; clear n0_ n1_ n2_ n3_ n4_ n5_ n6_; clear hb hbox hg; have hnb8 := NB158_159.out; have hnc8 := NB159_158.out; obtain ⟨y9_0, y9_1, y9_2, y9_3, y9_4, y9_5, y9_6, y9_7, y9_8, z9_0, z9_1, z9_2, z9_3, z9_4, z9_5, z9_6, z9_7, z9_8⟩ := cz9_ BK158.out) | ((with_reducible refine gate_dst (N := 3) rfl ?_); refine bx_ 3 #[.slice none 0 0, .slice none 0 0, .bool false, .bool false, .bool false, .bool false, .slice none 0 0, .slice none 0 0, .int .i64 0] 28 ?_; intro gb160 hg w10 hbox hb; have n0_ := A_ (blk_below (bk_ BK158.out) hb); have n1_ := A_ (blk_below (bk_ BK159.out) hb); have n2_ := A_ (below_step (bw_ HB.out) hb); have n3_ := A_ (hbox); have n4_ := A_ ((d0_ : w.heap.size ≤ gb160)); have n5_ := n4_; have n6_ := A_ ((by rw [hg]; exact Nat.ne_of_lt (blk_lt (bk_ BK158.out)) : gb158 ≠ gb160)); have n7_ := A_ n6_.out.symm; have n8_ := A_ ((by rw [hg]; exact Nat.ne_of_lt (blk_lt (bk_ BK159.out)) : gb159 ≠ gb160)); have n9_ := A_ n8_.out.symm; clear BK158; clear BK159; clear HB; have BK158 := n0_; have BK159 := n1_; have HB := n2_; have BK160 := n3_; have GW160 := n4_; have GE160 := n5_; have GI160 := GeI.mk GE160.out; have NB158_160 := n6_; have NB160_158 := n7_; have NB159_160 := n8_; have NB160_159 := n9_; clear n0_ n1_ n2_ n3_ n4_ n5_ n6_ n7_ n8_ n9_; clear hb hbox hg; have hnb11 := NB160_158.out; have hnc11 := NB158_160.out; have hnb12 := NB160_159.out; have hnc12 := NB159_160.out; obtain ⟨y13_0, y13_1, y13_2, y13_3, y13_4, y13_5, y13_6, y13_7, y13_8, z13_0, z13_1, z13_2, z13_3, z13_4, z13_5, z13_6, z13_7, z13_8⟩ := cz9_ BK160.out) | ((with_reducible refine gate_dst (N := 5) rfl ?_); refine Kd.R_lit (Kd.int .i64) _ 3 ?hg (N := 5) ?hd (xs := ([] : List Int)) (inner := []) (ok := fun _ => True) (okp := fun _ => True) ?hr ?hp (fun _ hk => hk) trivial (Below.refl _ _) (Nat.le_refl _) (by simp) ?_; (case hd => rfl); (case hg => rfl); (case hr => first | (go_simp; done) | (go_simp; rfl)); (case hp => exact (Reps.none _ _)); intro v162 w14 ho15 hb hg_ hnew_; clear hg_ hnew_; (first | rw [← Ny161.out] at ho15 | (simp only [Int.reduceToNat] at ho15; rw [← Ny161.out] at ho15)); have HO163 := A_ (Kd.R_lower ho15 (below_size (bw_ HB.out))); replace BK158 := A_ (blk_below (g := gb158) (o := .cells #[.slice A0_0 l0_0.length c0_0, .slice A0_1 l0_1.length c0_1, .bool a0_2, .bool a0_3, .bool a0_4, .bool a0_5, .slice A0_6 l0_6.length c0_6, .slice A0_7 l0_7.length c0_7, .int .i64 a0_8] 28 (0, 0)) (by refine bk_ ?_; refine blk_far ?_ NB158_160.out _; refine bk_ ?_; refine blk_far ?_ NB158_160.out _; refine bk_ ?_; refine blk_far ?_ NB158_160.out _; refine bk_ ?_; refine blk_far ?_ NB158_160.out _; refine bk_ ?_; refine blk_far ?_ NB158_160.out _; refine bk_ ?_; refine blk_far ?_ NB158_160.out _; refine bk_ ?_; refine blk_far ?_ NB158_160.out _; refine bk_ ?_; refine blk_far ?_ NB158_160.out _; refine bk_ ?_; refine blk_far ?_ NB158_160.out _; refine bk_ ?_; exact BK158.out) hb); replace BK159 := A_ (blk_below (g := gb159) (o := .cells #[.slice none 0 0, .slice none 0 0, .bool false, .bool false, .bool false, .bool false, .slice none 0 0, .slice none 0 0, .int .i64 0] 28 (0, 0)) (by refine bk_ ?_; refine blk_far ?_ NB159_160.out _; refine bk_ ?_; refine blk_far ?_ NB159_160.out _; refine bk_ ?_; refine blk_far ?_ NB159_160.out _; refine bk_ ?_; refine blk_far ?_ NB159_160.out _; refine bk_ ?_; refine blk_far ?_ NB159_160.out _; refine bk_ ?_; refine blk_far ?_ NB159_160.out _; refine bk_ ?_; refine blk_far ?_ NB159_160.out _; refine bk_ ?_; refine blk_far ?_ NB159_160.out _; refine bk_ ?_; refine blk_far ?_ NB159_160.out _; refine bk_ ?_; exact BK159.out) hb); replace BK160 := A_ (blk_below (g := gb160) (o := .cells #[.slice A0_0 l0_0.length c0_0, .slice A0_1 l0_1.length c0_1, .bool a0_2, .bool a0_3, .bool a0_4, .bool a0_5, .slice A0_6 l0_6.length c0_6, .slice A0_7 l0_7.length c0_7, .int .i64 a0_8] 28 (0, 0)) (by exact bk_ (bp9_ (bk_ BK160.out))) hb); replace HB := A_ (below_step (bw_ HB.out) hb); clear hb ho15; obtain ⟨y16_0, y16_1, y16_2, y16_3, y16_4, y16_5, y16_6, y16_7, y16_8, z16_0, z16_1, z16_2, z16_3, z16_4, z16_5, z16_6, z16_7, z16_8⟩ := cz9_ BK158.out) | ((with_reducible refine gate_builtin (b := .append) (xs := #[.tmp 5, .tmp 7]) rfl ?_); at_builtin; refine Kd.R_append_rows (Kd.int .i64) (w0 := w) w.heap.size rfl (.tmp 5) (.tmp 7) 22 3 (.int .i64 0) 8 rfl Try.underlying22 info3 rfl (by decide) (by omega) v162 y161 l0_0 _ _ _ (fun _ => True) (fun _ => False) rfl rfl ?aO ?aR (fun _ _ h => h) (fun _ h => h.elim) ?aF ?aB ?aS ?aL ?_; (case aR => repeat (first | exact (Kd.C_below HR0_0.out HB.out) | (with_reducible refine Kd.C_alloc ?_ _) | (with_reducible refine Kd.C_drewN ?_ _) | (with_reducible refine Kd.C_drew ?_))); (case aB => exact (bw_ HB.out)); (case aF => exact (fun _ _ => trivial)); (case aO => exact (kr_ HO163.out)); (case aS => exact (below_size (bw_ HB.out))); (case aL => have := LMc2.out; omega); intro v165 w17 ho hb hg hat; rw [← Ny164.out] at ho; have n0_ := A_ (blk_grown (bk_ BK158.out) hg (Kd.R_ne HO163.out BK158.out (by decide))); have n1_ := A_ (blk_grown (bk_ BK159.out) hg (Kd.R_ne HO163.out BK159.out (by decide))); have n2_ := A_ (blk_grown (bk_ BK160.out) hg (Kd.R_ne HO163.out BK160.out (by decide))); have n3_ := A_ (hb); have n4_ := A_ (ho); clear BK158; clear BK159; clear BK160; clear HB; clear HO163; have BK158 := n0_; have BK159 := n1_; have BK160 := n2_; have HB := n3_; have HO166 := n4_; clear n0_ n1_ n2_ n3_ n4_; clear ho hb hg hat; obtain ⟨Ao18, co18, eo18⟩ := Kd.R_slice HO166.out; subst eo18; obtain ⟨y19_0, y19_1, y19_2, y19_3, y19_4, y19_5, y19_6, y19_7, y19_8, z19_0, z19_1, z19_2, z19_3, z19_4, z19_5, z19_6, z19_7, z19_8⟩ := cz9_ BK160.out) | ((with_reducible refine gate_dst (N := 10) rfl ?_); refine Kd.R_lit (Kd.int .i64) _ 3 ?hg (N := 10) ?hd (xs := ([] : List Int)) (inner := []) (ok := fun _ => True) (okp := fun _ => True) ?hr ?hp (fun _ hk => hk) trivial (Below.refl _ _) (Nat.le_refl _) (by simp) ?_; (case hd => rfl); (case hg => rfl); (case hr => first | (go_simp; done) | (go_simp; rfl)); (case hp => exact (Reps.none _ _)); intro v168 w20 ho21 hb hg_ hnew_; clear hg_ hnew_; (first | rw [← Ny167.out] at ho21 | (simp only [Int.reduceToNat] at ho21; rw [← Ny167.out] at ho21)); have HO169 := A_ (Kd.R_lower (Kd.R_new' ho21 (Kd.R_lt (kr_ (Kd.R_mono (Kd.R_far (p := ⟨gb160, 0, none⟩) (Kd.R_types HO166.out BK160.out (by decide)) (fun _ hk => hk.2) (.slice Ao18 y164.length co18)) (fun _ h_ => h_.1))))) (below_size (bw_ HB.out))); replace HO166 := A_ (Kd.R_elder' (kr_ (Kd.R_mono (Kd.R_far (p := ⟨gb160, 0, none⟩) (Kd.R_types HO166.out BK160.out (by decide)) (fun _ hk => hk.2) (.slice Ao18 y164.length co18)) (fun _ h_ => h_.1))) (Kd.R_base ho21) hb); replace BK158 := A_ (blk_below (g := gb158) (o := .cells #[.slice A0_0 l0_0.length c0_0, .slice A0_1 l0_1.length c0_1, .bool a0_2, .bool a0_3, .bool a0_4, .bool a0_5, .slice A0_6 l0_6.length c0_6, .slice A0_7 l0_7.length c0_7, .int .i64 a0_8] 28 (0, 0)) d6_ hb); replace BK159 := A_ (blk_below (g := gb159) (o := .cells #[.slice none 0 0, .slice none 0 0, .bool false, .bool false, .bool false, .bool false, .slice none 0 0, .slice none 0 0, .int .i64 0] 28 (0, 0)) d5_ hb); replace BK160 := A_ (blk_below (g := gb160) (o := .cells #[.slice Ao18 y164.length co18, .slice A0_1 l0_1.length c0_1, .bool a0_2, .bool a0_3, .bool a0_4, .bool a0_5, .slice A0_6 l0_6.length c0_6, .slice A0_7 l0_7.length c0_7, .int .i64 a0_8] 28 (0, 0)) (by refine bk_ ?_; refine blk_put (cs := #[.slice A0_0 l0_0.length c0_0, .slice A0_1 l0_1.length c0_1, .bool a0_2, .bool a0_3, .bool a0_4, .bool a0_5, .slice A0_6 l0_6.length c0_6, .slice A0_7 l0_7.length c0_7, .int .i64 a0_8]) ?_ 0 _ rfl; refine bk_ ?_; exact BK160.out) hb); replace HB := A_ (below_step (bw_ HB.out) hb); clear hb ho21; obtain ⟨y22_0, y22_1, y22_2, y22_3, y22_4, y22_5, y22_6, y22_7, y22_8, z22_0, z22_1, z22_2, z22_3, z22_4, z22_5, z22_6, z22_7, z22_8⟩ := cz9_ BK158.out) | ((with_reducible refine gate_builtin (b := .append) (xs := #[.tmp 10, .tmp 12]) rfl ?_); at_builtin; refine Kd.R_append_rows (Kd.int .i64) (w0 := w) w.heap.size rfl (.tmp 10) (.tmp 12) 22 3 (.int .i64 0) 8 rfl Try.underlying22 info3 rfl (by decide) (by omega) v168 y167 l0_1 _ _ _ (fun k_ => some k_ ≠ (.slice Ao18 y164.length co18 : Value).ownBlock) (fun _ => False) rfl rfl ?aO ?aR (fun _ _ h => h) (fun _ h => h.elim) ?aF ?aB ?aS ?aL ?_; (case aR => repeat (first | exact (Kd.C_below HR0_1.out HB.out) | (with_reducible refine Kd.C_alloc ?_ _) | (with_reducible refine Kd.C_drewN ?_ _) | (with_reducible refine Kd.C_drew ?_))); (case aB => exact (bw_ HB.out)); (case aF => exact (fun k_ hk => Kd.fresh' (Kd.R_lt (kr_ HO166.out)) k_ hk)); (case aO => exact (kr_ (Kd.R_mono HO169.out (fun _ hk => hk.2)))); (case aS => exact (below_size (bw_ HB.out))); (case aL => have := LMc3.out; omega); intro v171 w23 ho hb hg hat; rw [← Ny170.out] at ho; have n0_ := A_ (blk_grown (bk_ BK158.out) hg (Kd.R_ne HO169.out BK158.out (by decide))); have n1_ := A_ (blk_grown (bk_ BK159.out) hg (Kd.R_ne HO169.out BK159.out (by decide))); have n2_ := A_ (blk_grown (bk_ BK160.out) hg (Kd.R_ne HO169.out BK160.out (by decide))); have n3_ := A_ (Kd.R_after (ok := (fun _ => True)) (kr_ HO166.out) hg hat); have n4_ := A_ (hb); have n5_ := A_ (ho); clear BK158; clear BK159; clear BK160; clear HO166; clear HB; clear HO169; have BK158 := n0_; have BK159 := n1_; have BK160 := n2_; have HO166 := n3_; have HB := n4_; have HO172 := n5_; clear n0_ n1_ n2_ n3_ n4_ n5_; clear ho hb hg hat; obtain ⟨Ao24, co24, eo24⟩ := Kd.R_slice HO172.out; subst eo24; obtain ⟨y25_0, y25_1, y25_2, y25_3, y25_4, y25_5, y25_6, y25_7, y25_8, z25_0, z25_1, z25_2, z25_3, z25_4, z25_5, z25_6, z25_7, z25_8⟩ := cz9_ BK160.out) | ((with_reducible refine gate_dst (N := 15) rfl ?_); refine Kd.R_lit (Kd.int .i64) _ 3 ?hg (N := 15) ?hd (xs := ([] : List Int)) (inner := []) (ok := fun _ => True) (okp := fun _ => True) ?hr ?hp (fun _ hk => hk) trivial (Below.refl _ _) (Nat.le_refl _) (by simp) ?_; (case hd => rfl); (case hg => rfl); (case hr => first | (go_simp; done) | (go_simp; rfl)); (case hp => exact (Reps.none _ _)); intro v174 w26 ho27 hb hg_ hnew_; clear hg_ hnew_; (first | rw [← Ny173.out] at ho27 | (simp only [Int.reduceToNat] at ho27; rw [← Ny173.out] at ho27)); have HO175 := A_ (Kd.R_lower (Kd.R_new' (Kd.R_new' ho27 (Kd.R_lt (kr_ (Kd.R_mono (Kd.R_far (p := ⟨gb160, 1, none⟩) (Kd.R_types HO166.out BK160.out (by decide)) (fun _ hk => hk.2) (.slice Ao24 y170.length co24)) (fun _ h_ => h_.1))))) (Kd.R_lt (kr_ (Kd.R_mono (Kd.R_far (p := ⟨gb160, 1, none⟩) (Kd.R_types HO172.out BK160.out (by decide)) (fun _ hk => hk.2) (.slice Ao24 y170.length co24)) (fun _ h_ => h_.1))))) (below_size (bw_ HB.out))); replace HO166 := A_ (Kd.R_elder' (kr_ (Kd.R_mono (Kd.R_far (p := ⟨gb160, 1, none⟩) (Kd.R_types HO166.out BK160.out (by decide)) (fun _ hk => hk.2) (.slice Ao24 y170.length co24)) (fun _ h_ => h_.1))) (Kd.R_base ho27) hb); replace HO172 := A_ (Kd.R_elder' (kr_ (Kd.R_mono (Kd.R_far (p := ⟨gb160, 1, none⟩) (Kd.R_types HO172.out BK160.out (by decide)) (fun _ hk => hk.2) (.slice Ao24 y170.length co24)) (fun _ h_ => h_.1))) (Kd.R_base ho27) hb); replace BK158 := A_ (blk_below (g := gb158) (o := .cells #[.slice A0_0 l0_0.length c0_0, .slice A0_1 l0_1.length c0_1, .bool a0_2, .bool a0_3, .bool a0_4, .bool a0_5, .slice A0_6 l0_6.length c0_6, .slice A0_7 l0_7.length c0_7, .int .i64 a0_8] 28 (0, 0)) d6_ hb); replace BK159 := A_ (blk_below (g := gb159) (o := .cells #[.slice none 0 0, .slice none 0 0, .bool false, .bool false, .bool false, .bool false, .slice none 0 0, .slice none 0 0, .int .i64 0] 28 (0, 0)) d5_ hb); replace BK160 := A_ (blk_below (g := gb160) (o := .cells #[.slice Ao18 y164.length co18, .slice Ao24 y170.length co24, .bool a0_2, .bool a0_3, .bool a0_4, .bool a0_5, .slice A0_6 l0_6.length c0_6, .slice A0_7 l0_7.length c0_7, .int .i64 a0_8] 28 (0, 0)) (by refine bk_ ?_; refine blk_put (cs := #[.slice Ao18 y164.length co18, .slice A0_1 l0_1.length c0_1, .bool a0_2, .bool a0_3, .bool a0_4, .bool a0_5, .slice A0_6 l0_6.length c0_6, .slice A0_7 l0_7.length c0_7, .int .i64 a0_8]) ?_ 1 _ rfl; refine bk_ ?_; exact BK160.out) hb); replace HB := A_ (below_step (bw_ HB.out) hb); clear hb ho27; obtain ⟨y28_0, y28_1, y28_2, y28_3, y28_4, y28_5, y28_6, y28_7, y28_8, z28_0, z28_1, z28_2, z28_3, z28_4, z28_5, z28_6, z28_7, z28_8⟩ := cz9_ BK158.out) | ((with_reducible refine gate_builtin (b := .append) (xs := #[.tmp 15, .tmp 17]) rfl ?_); at_builtin; refine Kd.R_append_rows (Kd.int .i64) (w0 := w) w.heap.size rfl (.tmp 15) (.tmp 17) 22 3 (.int .i64 0) 8 rfl Try.underlying22 info3 rfl (by decide) (by omega) v174 y173 l0_6 _ _ _ (fun k_ => some k_ ≠ (.slice Ao18 y164.length co18 : Value).ownBlock ∧ some k_ ≠ (.slice Ao24 y170.length co24 : Value).ownBlock) (fun _ => False) rfl rfl ?aO ?aR (fun _ _ h => h) (fun _ h => h.elim) ?aF ?aB ?aS ?aL ?_; (case aR => repeat (first | exact (Kd.C_below HR0_6.out HB.out) | (with_reducible refine Kd.C_alloc ?_ _) | (with_reducible refine Kd.C_drewN ?_ _) | (with_reducible refine Kd.C_drew ?_))); (case aB => exact (bw_ HB.out)); (case aF => exact (fun k_ hk => ⟨Kd.fresh' (Kd.R_lt (kr_ HO166.out)) k_ hk, Kd.fresh' (Kd.R_lt (kr_ HO172.out)) k_ hk⟩)); (case aO => exact (kr_ (Kd.R_mono HO175.out (fun _ hk => ⟨hk.1.2, hk.2⟩)))); (case aS => exact (below_size (bw_ HB.out))); (case aL => have := LMc4.out; omega); intro v177 w29 ho hb hg hat; rw [← Ny176.out] at ho; have n0_ := A_ (blk_grown (bk_ BK158.out) hg (Kd.R_ne HO175.out BK158.out (by decide))); have n1_ := A_ (blk_grown (bk_ BK159.out) hg (Kd.R_ne HO175.out BK159.out (by decide))); have n2_ := A_ (blk_grown (bk_ BK160.out) hg (Kd.R_ne HO175.out BK160.out (by decide))); have n3_ := A_ (Kd.R_after (ok := (fun k_ => some k_ ≠ (.slice Ao24 y170.length co24 : Value).ownBlock)) (kr_ (Kd.R_mono HO166.out (fun _ hk => ⟨hk.1.2, hk.2⟩))) hg hat); have n4_ := A_ (Kd.R_after (ok := (fun k_ => some k_ ≠ (.slice Ao18 y164.length co18 : Value).ownBlock)) (kr_ HO172.out) hg hat); have n5_ := A_ (hb); have n6_ := A_ (ho); clear BK158; clear BK159; clear BK160; clear HO166; clear HO172; clear HB; clear HO175; have BK158 := n0_; have BK159 := n1_; have BK160 := n2_; have HO166 := n3_; have HO172 := n4_; have HB := n5_; have HO178 := n6_; clear n0_ n1_ n2_ n3_ n4_ n5_ n6_; clear ho hb hg hat; obtain ⟨Ao30, co30, eo30⟩ := Kd.R_slice HO178.out; subst eo30; obtain ⟨y31_0, y31_1, y31_2, y31_3, y31_4, y31_5, y31_6, y31_7, y31_8, z31_0, z31_1, z31_2, z31_3, z31_4, z31_5, z31_6, z31_7, z31_8⟩ := cz9_ BK160.out) | ((with_reducible refine gate_dst (N := 20) rfl ?_); refine Kd.R_lit (Kd.int .i64) _ 3 ?hg (N := 20) ?hd (xs := ([] : List Int)) (inner := []) (ok := fun _ => True) (okp := fun _ => True) ?hr ?hp (fun _ hk => hk) trivial (Below.refl _ _) (Nat.le_refl _) (by simp) ?_; (case hd => rfl); (case hg => rfl); (case hr => first | (go_simp; done) | (go_simp; rfl)); (case hp => exact (Reps.none _ _)); intro v180 w32 ho33 hb hg_ hnew_; clear hg_ hnew_; (first | rw [← Ny179.out] at ho33 | (simp only [Int.reduceToNat] at ho33; rw [← Ny179.out] at ho33)); have HO181 := A_ (Kd.R_lower (Kd.R_new' (Kd.R_new' (Kd.R_new' ho33 (Kd.R_lt (kr_ (Kd.R_mono (Kd.R_far (p := ⟨gb160, 6, none⟩) (Kd.R_types HO166.out BK160.out (by decide)) (fun _ hk => hk.2) (.slice Ao30 y176.length co30)) (fun _ h_ => h_.1))))) (Kd.R_lt (kr_ (Kd.R_mono (Kd.R_far (p := ⟨gb160, 6, none⟩) (Kd.R_types HO172.out BK160.out (by decide)) (fun _ hk => hk.2) (.slice Ao30 y176.length co30)) (fun _ h_ => h_.1))))) (Kd.R_lt (kr_ (Kd.R_mono (Kd.R_far (p := ⟨gb160, 6, none⟩) (Kd.R_types HO178.out BK160.out (by decide)) (fun _ hk => hk.2) (.slice Ao30 y176.length co30)) (fun _ h_ => h_.1))))) (below_size (bw_ HB.out))); replace HO166 := A_ (Kd.R_elder' (kr_ (Kd.R_mono (Kd.R_far (p := ⟨gb160, 6, none⟩) (Kd.R_types HO166.out BK160.out (by decide)) (fun _ hk => hk.2) (.slice Ao30 y176.length co30)) (fun _ h_ => h_.1))) (Kd.R_base ho33) hb); replace HO172 := A_ (Kd.R_elder' (kr_ (Kd.R_mono (Kd.R_far (p := ⟨gb160, 6, none⟩) (Kd.R_types HO172.out BK160.out (by decide)) (fun _ hk => hk.2) (.slice Ao30 y176.length co30)) (fun _ h_ => h_.1))) (Kd.R_base ho33) hb); replace HO178 := A_ (Kd.R_elder' (kr_ (Kd.R_mono (Kd.R_far (p := ⟨gb160, 6, none⟩) (Kd.R_types HO178.out BK160.out (by decide)) (fun _ hk => hk.2) (.slice Ao30 y176.length co30)) (fun _ h_ => h_.1))) (Kd.R_base ho33) hb); replace BK158 := A_ (blk_below (g := gb158) (o := .cells #[.slice A0_0 l0_0.length c0_0, .slice A0_1 l0_1.length c0_1, .bool a0_2, .bool a0_3, .bool a0_4, .bool a0_5, .slice A0_6 l0_6.length c0_6, .slice A0_7 l0_7.length c0_7, .int .i64 a0_8] 28 (0, 0)) d6_ hb); replace BK159 := A_ (blk_below (g := gb159) (o := .cells #[.slice none 0 0, .slice none 0 0, .bool false, .bool false, .bool false, .bool false, .slice none 0 0, .slice none 0 0, .int .i64 0] 28 (0, 0)) d5_ hb); replace BK160 := A_ (blk_below (g := gb160) (o := .cells #[.slice Ao18 y164.length co18, .slice Ao24 y170.length co24, .bool a0_2, .bool a0_3, .bool a0_4, .bool a0_5, .slice Ao30 y176.length co30, .slice A0_7 l0_7.length c0_7, .int .i64 a0_8] 28 (0, 0)) (by refine bk_ ?_; refine blk_put (cs := #[.slice Ao18 y164.length co18, .slice Ao24 y170.length co24, .bool a0_2, .bool a0_3, .bool a0_4, .bool a0_5, .slice A0_6 l0_6.length c0_6, .slice A0_7 l0_7.length c0_7, .int .i64 a0_8]) ?_ 6 _ rfl; refine bk_ ?_; exact BK160.out) hb); replace HB := A_ (below_step (bw_ HB.out) hb); clear hb ho33; obtain ⟨y34_0, y34_1, y34_2, y34_3, y34_4, y34_5, y34_6, y34_7, y34_8, z34_0, z34_1, z34_2, z34_3, z34_4, z34_5, z34_6, z34_7, z34_8⟩ := cz9_ BK158.out) | ((with_reducible refine gate_builtin (b := .append) (xs := #[.tmp 20, .tmp 22]) rfl ?_); at_builtin; refine Kd.R_append_rows (Kd.int .i64) (w0 := w) w.heap.size rfl (.tmp 20) (.tmp 22) 22 3 (.int .i64 0) 8 rfl Try.underlying22 info3 rfl (by decide) (by omega) v180 y179 l0_7 _ _ _ (fun k_ => some k_ ≠ (.slice Ao18 y164.length co18 : Value).ownBlock ∧ some k_ ≠ (.slice Ao24 y170.length co24 : Value).ownBlock ∧ some k_ ≠ (.slice Ao30 y176.length co30 : Value).ownBlock) (fun _ => False) rfl rfl ?aO ?aR (fun _ _ h => h) (fun _ h => h.elim) ?aF ?aB ?aS ?aL ?_; (case aR => repeat (first | exact (Kd.C_below HR0_7.out HB.out) | (with_reducible refine Kd.C_alloc ?_ _) | (with_reducible refine Kd.C_drewN ?_ _) | (with_reducible refine Kd.C_drew ?_))); (case aB => exact (bw_ HB.out)); (case aF => exact (fun k_ hk => ⟨Kd.fresh' (Kd.R_lt (kr_ HO166.out)) k_ hk, Kd.fresh' (Kd.R_lt (kr_ HO172.out)) k_ hk, Kd.fresh' (Kd.R_lt (kr_ HO178.out)) k_ hk⟩)); (case aO => exact (kr_ (Kd.R_mono HO181.out (fun _ hk => ⟨hk.1.1.2, ⟨hk.1.2, hk.2⟩⟩)))); (case aS => exact (below_size (bw_ HB.out))); (case aL => have := LMc5.out; omega); intro v183 w35 ho hb hg hat; rw [← Ny182.out] at ho; have n0_ := A_ (blk_grown (bk_ BK158.out) hg (Kd.R_ne HO181.out BK158.out (by decide))); have n1_ := A_ (blk_grown (bk_ BK159.out) hg (Kd.R_ne HO181.out BK159.out (by decide))); have n2_ := A_ (blk_grown (bk_ BK160.out) hg (Kd.R_ne HO181.out BK160.out (by decide))); have n3_ := A_ (Kd.R_after (ok := (fun k_ => some k_ ≠ (.slice Ao24 y170.length co24 : Value).ownBlock ∧ some k_ ≠ (.slice Ao30 y176.length co30 : Value).ownBlock)) (kr_ HO166.out) hg hat); have n4_ := A_ (Kd.R_after (ok := (fun k_ => some k_ ≠ (.slice Ao18 y164.length co18 : Value).ownBlock ∧ some k_ ≠ (.slice Ao30 y176.length co30 : Value).ownBlock)) (kr_ HO172.out) hg hat); have n5_ := A_ (Kd.R_after (ok := (fun k_ => some k_ ≠ (.slice Ao18 y164.length co18 : Value).ownBlock ∧ some k_ ≠ (.slice Ao24 y170.length co24 : Value).ownBlock)) (kr_ HO178.out) hg hat); have n6_ := A_ (hb); have n7_ := A_ (ho); clear BK158; clear BK159; clear BK160; clear HO166; clear HO172; clear HO178; clear HB; clear HO181; have BK158 := n0_; have BK159 := n1_; have BK160 := n2_; have HO166 := n3_; have HO172 := n4_; have HO178 := n5_; have HB := n6_; have HO184 := n7_; clear n0_ n1_ n2_ n3_ n4_ n5_ n6_ n7_; clear ho hb hg hat; obtain ⟨Ao36, co36, eo36⟩ := Kd.R_slice HO184.out; subst eo36; obtain ⟨y37_0, y37_1, y37_2, y37_3, y37_4, y37_5, y37_6, y37_7, y37_8, z37_0, z37_1, z37_2, z37_3, z37_4, z37_5, z37_6, z37_7, z37_8⟩ := cz9_ BK160.out; obtain ⟨y38_0, y38_1, y38_2, y38_3, y38_4, y38_5, y38_6, y38_7, y38_8, z38_0, z38_1, z38_2, z38_3, z38_4, z38_5, z38_6, z38_7, z38_8⟩ := cz9_ BK159.out))
     refine bodyPost_ret (results_cell_row rfl _ _ gb159 28 #[.slice Ao18 y164.length co18, .slice Ao24 y170.length co24, .bool a0_2, .bool a0_3, .bool a0_4, .bool a0_5, .slice Ao30 y176.length co30, .slice Ao36 y182.length co36, .int .i64 a0_8] (0, 0) _ rfl ?hb_ Try.underlying28 rfl (by kernel_rfl)) rfl ?_
     (case hb_ => refine bk_ ?_; refine blk_put (cs := #[.slice Ao18 y164.length co18, .slice Ao24 y170.length co24, .bool a0_2, .bool a0_3, .bool a0_4, .bool a0_5, .slice Ao30 y176.length co30, .slice Ao36 y182.length co36, .int .i64 0]) ?_ 8 _ rfl; refine bk_ ?_; refine blk_put (cs := #[.slice Ao18 y164.length co18, .slice Ao24 y170.length co24, .bool a0_2, .bool a0_3, .bool a0_4, .bool a0_5, .slice Ao30 y176.length co30, .slice none 0 0, .int .i64 0]) ?_ 7 _ rfl; refine bk_ ?_; refine blk_put (cs := #[.slice Ao18 y164.length co18, .slice Ao24 y170.length co24, .bool a0_2, .bool a0_3, .bool a0_4, .bool a0_5, .slice none 0 0, .slice none 0 0, .int .i64 0]) ?_ 6 _ rfl; refine bk_ ?_; refine blk_put (cs := #[.slice Ao18 y164.length co18, .slice Ao24 y170.length co24, .bool a0_2, .bool a0_3, .bool a0_4, .bool false, .slice none 0 0, .slice none 0 0, .int .i64 0]) ?_ 5 _ rfl; refine bk_ ?_; refine blk_put (cs := #[.slice Ao18 y164.length co18, .slice Ao24 y170.length co24, .bool a0_2, .bool a0_3, .bool false, .bool false, .slice none 0 0, .slice none 0 0, .int .i64 0]) ?_ 4 _ rfl; refine bk_ ?_; refine blk_put (cs := #[.slice Ao18 y164.length co18, .slice Ao24 y170.length co24, .bool a0_2, .bool false, .bool false, .bool false, .slice none 0 0, .slice none 0 0, .int .i64 0]) ?_ 3 _ rfl; refine bk_ ?_; refine blk_put (cs := #[.slice Ao18 y164.length co18, .slice Ao24 y170.length co24, .bool false, .bool false, .bool false, .bool false, .slice none 0 0, .slice none 0 0, .int .i64 0]) ?_ 2 _ rfl; refine bk_ ?_; refine blk_put (cs := #[.slice Ao18 y164.length co18, .slice none 0 0, .bool false, .bool false, .bool false, .bool false, .slice none 0 0, .slice none 0 0, .int .i64 0]) ?_ 1 _ rfl; refine bk_ ?_; refine blk_put (cs := #[.slice none 0 0, .slice none 0 0, .bool false, .bool false, .bool false, .bool false, .slice none 0 0, .slice none 0 0, .int .i64 0]) ?_ 0 _ rfl; refine bk_ ?_; refine blk_far ?_ NB159_160.out _; refine bk_ ?_; exact BK159.out)
     exact ⟨_, _, _, _, by first | rfl | (simp [errW_none, errW_some] <;> rfl) | (simp [*, errW_none, errW_some] <;> rfl), kr_ (Kd.R_mono (rf9_ (Kd.R_far (p := ⟨gb160, 7, none⟩) (Kd.R_types (Kd.R_types HO166.out BK160.out (by decide)) BK159.out (by decide)) (fun _ hk => hk.1.2) (.slice Ao36 y182.length co36)) (fun _ hk => hk.2)) (fun _ hk => ⟨hk.1.1.1.1, ⟨hk.1.1.1.2, hk.1.1.2⟩⟩)), kr_ (Kd.R_mono (rf9_ (Kd.R_far (p := ⟨gb160, 7, none⟩) (Kd.R_types (Kd.R_types HO172.out BK160.out (by decide)) BK159.out (by decide)) (fun _ hk => hk.1.2) (.slice Ao36 y182.length co36)) (fun _ hk => hk.2)) (fun _ hk => ⟨hk.1.1.1.1, ⟨hk.1.1.1.2, hk.1.1.2⟩⟩)), kr_ (Kd.R_mono (rf9_ (Kd.R_far (p := ⟨gb160, 7, none⟩) (Kd.R_types (Kd.R_types HO178.out BK160.out (by decide)) BK159.out (by decide)) (fun _ hk => hk.1.2) (.slice Ao36 y182.length co36)) (fun _ hk => hk.2)) (fun _ hk => ⟨hk.1.1.1.1, ⟨hk.1.1.1.2, hk.1.1.2⟩⟩)), kr_ (Kd.R_mono (rf9_ (Kd.R_far (p := ⟨gb160, 7, none⟩) (Kd.R_types (Kd.R_types HO184.out BK160.out (by decide)) BK159.out (by decide)) (fun _ hk => hk.1.2) (.slice Ao36 y182.length co36)) (fun _ hk => hk.2)) (fun _ hk => ⟨hk.1.1.1, ⟨hk.1.1.2.1, hk.1.1.2.2⟩⟩)), bw_ HB.out⟩
    ·rw [if_neg c5] at H
     exact absurd H (by simp)
   ·rw [if_neg c4] at H
    exact absurd H (by simp)
  ·rw [if_neg c3] at H
   exact absurd H (by simp)
 ·rw [if_neg c2] at H
  exact absurd H (by simp)

/-! ### spec_HasX: function 89 -/
def spec_HasX.f (a0_0 : Int) (a0_1 : Int) (a0_2 : Int) : Option (Bool) := if a0_0 = 6 then (some true) else (if a0_0 = 7 then (some true) else (if a0_1 = 7 then (if a0_0 = 2 then (some true) else (some (a0_0 == 3))) else (some false)))
set_option maxHeartbeats 8000000 in
set_option maxRecDepth 100000 in
theorem spec_HasX.calls (a0_0 : Int) (a0_1 : Int) (a0_2 : Int) (r : Bool) (w : World) (h : spec_HasX.f a0_0 a0_1 a0_2 = some r) :
  Calls Try.prog 89 #[.agg #[.int .i64 a0_0, .int .i64 a0_1, .int .i64 a0_2]] w fun e w' => e = .returned (.bool r) ∧ Below w.heap.size w w' := by
 have hu63 := Try.underlying63
 have HB := A_ (Below.refl w.heap.size w)
 have H : (if a0_0 = 6 then (some true) else (if a0_0 = 7 then (some true) else (if a0_1 = 7 then (if a0_0 = 2 then (some true) else (some (a0_0 == 3))) else (some false)))) = some r := h
 clear h
 by_cases c2 : a0_0 = 6
 ·rw [if_pos c2] at H
  have c2b0 := beq_iff_eq.mpr c2
  have c2b1 := bne_eq_false_iff_eq.mpr c2
  clear c2
  obtain rfl := Option.some.inj H
  go_enter Try.func89, Try.ntmps89
  go_wp2_with (first | ((with_reducible refine gate_dst (N := 1) rfl ?_); refine bx_ 1 #[.int .i64 a0_0, .int .i64 a0_1, .int .i64 a0_2] 63 ?_; intro gb185 hg w3 hbox hb; have n0_ := A_ (below_step (bw_ HB.out) hb); have n1_ := A_ (hbox); have n2_ := A_ ((d0_ : w.heap.size ≤ gb185)); have n3_ := n2_; clear HB; have HB := n0_; have BK185 := n1_; have GW185 := n2_; have GE185 := n3_; have GI185 := GeI.mk GE185.out; clear n0_ n1_ n2_ n3_; clear hb hbox hg; have y4_0 : w3.cell? ⟨gb185, 0, none⟩ = some (.int .i64 a0_0) := (blk_cell BK185.out 0).trans rfl; have y4_1 : w3.cell? ⟨gb185, 1, none⟩ = some (.int .i64 a0_1) := (blk_cell BK185.out 1).trans rfl; have y4_2 : w3.cell? ⟨gb185, 2, none⟩ = some (.int .i64 a0_2) := (blk_cell BK185.out 2).trans rfl; have z4_0 := blk_frozen BK185.out 0; have z4_1 := blk_frozen BK185.out 1; have z4_2 := blk_frozen BK185.out 2))
  go_ret
  exact rt_ (bw_ HB.out)
 ·rw [if_neg c2] at H
  have c2b0 := beq_eq_false_iff_ne.mpr c2
  have c2b1 := bne_iff_ne.mpr c2
  by_cases c5 : a0_0 = 7
  ·rw [if_pos c5] at H
   have c5b0 := beq_iff_eq.mpr c5
   have c5b1 := bne_eq_false_iff_eq.mpr c5
   clear c5
   obtain rfl := Option.some.inj H
   go_enter Try.func89, Try.ntmps89
   go_wp2_with (first | ((with_reducible refine gate_dst (N := 1) rfl ?_); refine bx_ 1 #[.int .i64 a0_0, .int .i64 a0_1, .int .i64 a0_2] 63 ?_; intro gb185 hg w6 hbox hb; have n0_ := A_ (below_step (bw_ HB.out) hb); have n1_ := A_ (hbox); have n2_ := A_ ((d0_ : w.heap.size ≤ gb185)); have n3_ := n2_; clear HB; have HB := n0_; have BK185 := n1_; have GW185 := n2_; have GE185 := n3_; have GI185 := GeI.mk GE185.out; clear n0_ n1_ n2_ n3_; clear hb hbox hg; have y7_0 : w6.cell? ⟨gb185, 0, none⟩ = some (.int .i64 a0_0) := (blk_cell BK185.out 0).trans rfl; have y7_1 : w6.cell? ⟨gb185, 1, none⟩ = some (.int .i64 a0_1) := (blk_cell BK185.out 1).trans rfl; have y7_2 : w6.cell? ⟨gb185, 2, none⟩ = some (.int .i64 a0_2) := (blk_cell BK185.out 2).trans rfl; have z7_0 := blk_frozen BK185.out 0; have z7_1 := blk_frozen BK185.out 1; have z7_2 := blk_frozen BK185.out 2))
   go_ret
   exact rt_ (bw_ HB.out)
  ·rw [if_neg c5] at H
   have c5b0 := beq_eq_false_iff_ne.mpr c5
   have c5b1 := bne_iff_ne.mpr c5
   by_cases c8 : a0_1 = 7
   ·rw [if_pos c8] at H
    have c8b0 := beq_iff_eq.mpr c8
    have c8b1 := bne_eq_false_iff_eq.mpr c8
    clear c8
    by_cases c9 : a0_0 = 2
    ·rw [if_pos c9] at H
     have c9b0 := beq_iff_eq.mpr c9
     have c9b1 := bne_eq_false_iff_eq.mpr c9
     clear c9
     obtain rfl := Option.some.inj H
     go_enter Try.func89, Try.ntmps89
     go_wp2_with (first | ((with_reducible refine gate_dst (N := 1) rfl ?_); refine bx_ 1 #[.int .i64 a0_0, .int .i64 a0_1, .int .i64 a0_2] 63 ?_; intro gb185 hg w10 hbox hb; have n0_ := A_ (below_step (bw_ HB.out) hb); have n1_ := A_ (hbox); have n2_ := A_ ((d0_ : w.heap.size ≤ gb185)); have n3_ := n2_; clear HB; have HB := n0_; have BK185 := n1_; have GW185 := n2_; have GE185 := n3_; have GI185 := GeI.mk GE185.out; clear n0_ n1_ n2_ n3_; clear hb hbox hg; have y11_0 : w10.cell? ⟨gb185, 0, none⟩ = some (.int .i64 a0_0) := (blk_cell BK185.out 0).trans rfl; have y11_1 : w10.cell? ⟨gb185, 1, none⟩ = some (.int .i64 a0_1) := (blk_cell BK185.out 1).trans rfl; have y11_2 : w10.cell? ⟨gb185, 2, none⟩ = some (.int .i64 a0_2) := (blk_cell BK185.out 2).trans rfl; have z11_0 := blk_frozen BK185.out 0; have z11_1 := blk_frozen BK185.out 1; have z11_2 := blk_frozen BK185.out 2))
     go_ret
     exact rt_ (bw_ HB.out)
    ·rw [if_neg c9] at H
     have c9b0 := beq_eq_false_iff_ne.mpr c9
     have c9b1 := bne_iff_ne.mpr c9
     obtain rfl := Option.some.inj H
     go_enter Try.func89, Try.ntmps89
     go_wp2_with (first | ((with_reducible refine gate_dst (N := 1) rfl ?_); refine bx_ 1 #[.int .i64 a0_0, .int .i64 a0_1, .int .i64 a0_2] 63 ?_; intro gb185 hg w12 hbox hb; have n0_ := A_ (below_step (bw_ HB.out) hb); have n1_ := A_ (hbox); have n2_ := A_ ((d0_ : w.heap.size ≤ gb185)); have n3_ := n2_; clear HB; have HB := n0_; have BK185 := n1_; have GW185 := n2_; have GE185 := n3_; have GI185 := GeI.mk GE185.out; clear n0_ n1_ n2_ n3_; clear hb hbox hg; have y13_0 : w12.cell? ⟨gb185, 0, none⟩ = some (.int .i64 a0_0) := (blk_cell BK185.out 0).trans rfl; have y13_1 : w12.cell? ⟨gb185, 1, none⟩ = some (.int .i64 a0_1) := (blk_cell BK185.out 1).trans rfl; have y13_2 : w12.cell? ⟨gb185, 2, none⟩ = some (.int .i64 a0_2) := (blk_cell BK185.out 2).trans rfl; have z13_0 := blk_frozen BK185.out 0; have z13_1 := blk_frozen BK185.out 1; have z13_2 := blk_frozen BK185.out 2))
     go_ret
     exact rt_ (bw_ HB.out)
   ·rw [if_neg c8] at H
    have c8b0 := beq_eq_false_iff_ne.mpr c8
    have c8b1 := bne_iff_ne.mpr c8
    obtain rfl := Option.some.inj H
    go_enter Try.func89, Try.ntmps89
    go_wp2_with (first | ((with_reducible refine gate_dst (N := 1) rfl ?_); refine bx_ 1 #[.int .i64 a0_0, .int .i64 a0_1, .int .i64 a0_2] 63 ?_; intro gb185 hg w14 hbox hb; have n0_ := A_ (below_step (bw_ HB.out) hb); have n1_ := A_ (hbox); have n2_ := A_ ((d0_ : w.heap.size ≤ gb185)); have n3_ := n2_; clear HB; have HB := n0_; have BK185 := n1_; have GW185 := n2_; have GE185 := n3_; have GI185 := GeI.mk GE185.out; clear n0_ n1_ n2_ n3_; clear hb hbox hg; have y15_0 : w14.cell? ⟨gb185, 0, none⟩ = some (.int .i64 a0_0) := (blk_cell BK185.out 0).trans rfl; have y15_1 : w14.cell? ⟨gb185, 1, none⟩ = some (.int .i64 a0_1) := (blk_cell BK185.out 1).trans rfl; have y15_2 : w14.cell? ⟨gb185, 2, none⟩ = some (.int .i64 a0_2) := (blk_cell BK185.out 2).trans rfl; have z15_0 := blk_frozen BK185.out 0; have z15_1 := blk_frozen BK185.out 1; have z15_2 := blk_frozen BK185.out 2))
    go_ret
    exact rt_ (bw_ HB.out)

/-! ### spec_OpdOk: function 74 -/
def spec_OpdOk.f (a0_0 : Int) (a0_1 : Int) (a0_2 : Int) : Option (Bool) := (spec_l1In.f a0_0 0 7).bind fun t187 => (if t187 = true then ((spec_l1In.f a0_1 0 7).bind fun t188 => (if t188 = true then ((spec_l1In.f a0_2 0 65535).bind fun t189 => (if t189 = true then ((spec_HasX.f a0_0 a0_1 a0_2).bind fun t190 => (if t190 = true then (some true) else (some (a0_2 == 0)))) else (some false))) else (some false))) else (some false))
set_option maxHeartbeats 8000000 in
set_option maxRecDepth 100000 in
theorem spec_OpdOk.calls (a0_0 : Int) (a0_1 : Int) (a0_2 : Int) (r : Bool) (w : World) (h : spec_OpdOk.f a0_0 a0_1 a0_2 = some r) :
  Calls Try.prog 74 #[.agg #[.int .i64 a0_0, .int .i64 a0_1, .int .i64 a0_2]] w fun e w' => e = .returned (.bool r) ∧ Below w.heap.size w w' := by
 have hu63 := Try.underlying63
 have HB := A_ (Below.refl w.heap.size w)
 have H : ((spec_l1In.f a0_0 0 7).bind fun t187 => (if t187 = true then ((spec_l1In.f a0_1 0 7).bind fun t188 => (if t188 = true then ((spec_l1In.f a0_2 0 65535).bind fun t189 => (if t189 = true then ((spec_HasX.f a0_0 a0_1 a0_2).bind fun t190 => (if t190 = true then (some true) else (some (a0_2 == 0)))) else (some false))) else (some false))) else (some false))) = some r := h
 clear h
 replace H := Option.bind_eq_some_iff.mp H
 obtain ⟨t187, A20, H⟩ := H
 try dsimp only at H
 have A2 := A_ A20
 clear A20
 by_cases c3 : t187 = true
 ·subst c3
  rw [if_pos rfl] at H
  replace H := Option.bind_eq_some_iff.mp H
  obtain ⟨t188, A40, H⟩ := H
  try dsimp only at H
  have A4 := A_ A40
  clear A40
  by_cases c5 : t188 = true
  ·subst c5
   rw [if_pos rfl] at H
   replace H := Option.bind_eq_some_iff.mp H
   obtain ⟨t189, A60, H⟩ := H
   try dsimp only at H
   have A6 := A_ A60
   clear A60
   by_cases c7 : t189 = true
   ·subst c7
    rw [if_pos rfl] at H
    replace H := Option.bind_eq_some_iff.mp H
    obtain ⟨t190, A80, H⟩ := H
    try dsimp only at H
    have A8 := A_ A80
    clear A80
    by_cases c9 : t190 = true
    ·subst c9
     rw [if_pos rfl] at H
     obtain rfl := Option.some.inj H
     go_enter Try.func74, Try.ntmps74
     go_wp2_with (first | ((with_reducible refine gate_dst (N := 1) rfl ?_); refine bx_ 1 #[.int .i64 a0_0, .int .i64 a0_1, .int .i64 a0_2] 63 ?_; intro gb186 hg w10 hbox hb; have n0_ := A_ (below_step (bw_ HB.out) hb); have n1_ := A_ (hbox); have n2_ := A_ ((d0_ : w.heap.size ≤ gb186)); have n3_ := n2_; clear HB; have HB := n0_; have BK186 := n1_; have GW186 := n2_; have GE186 := n3_; have GI186 := GeI.mk GE186.out; clear n0_ n1_ n2_ n3_; clear hb hbox hg; have y11_0 : w10.cell? ⟨gb186, 0, none⟩ = some (.int .i64 a0_0) := (blk_cell BK186.out 0).trans rfl; have y11_1 : w10.cell? ⟨gb186, 1, none⟩ = some (.int .i64 a0_1) := (blk_cell BK186.out 1).trans rfl; have y11_2 : w10.cell? ⟨gb186, 2, none⟩ = some (.int .i64 a0_2) := (blk_cell BK186.out 2).trans rfl; have z11_0 := blk_frozen BK186.out 0; have z11_1 := blk_frozen BK186.out 1; have z11_2 := blk_frozen BK186.out 2) | ((with_reducible refine gate_callee (f := 57) rfl ?_); refine gL_ (some 5) Try.func57 #[.int .i64 a0_0, .int .i64 0, .int .i64 7] ?_; (with_reducible refine (spec_l1In.calls a0_0 0 7 true _ A2.out).mono ?_); rintro e w' ⟨rfl, ⟨nd, rfl⟩⟩; refine ⟨_, rfl, ?_⟩) | (go_at_call 57; (with_reducible refine (spec_l1In.calls a0_1 0 7 true _ A4.out).mono ?_); rintro e w' ⟨rfl, ⟨nd, rfl⟩⟩) | (go_at_call 57; (with_reducible refine (spec_l1In.calls a0_2 0 65535 true _ A6.out).mono ?_); rintro e w' ⟨rfl, ⟨nd, rfl⟩⟩) | (go_at_call 89; (with_reducible refine (spec_HasX.calls a0_0 a0_1 a0_2 true _ A8.out).mono ?_); rintro e w12 ⟨rfl, hb⟩; replace BK186 := A_ (blk_below (bk_ BK186.out) hb); replace HB := A_ (below_step (bw_ HB.out) hb); clear hb))
     go_ret
     exact rt_ (bw_ HB.out)
    ·replace c9 := Bool.eq_false_iff.mpr c9
     subst c9
     rw [if_neg (show ¬ (false = true) by decide)] at H
     obtain rfl := Option.some.inj H
     go_enter Try.func74, Try.ntmps74
     go_wp2_with (first | ((with_reducible refine gate_dst (N := 1) rfl ?_); refine bx_ 1 #[.int .i64 a0_0, .int .i64 a0_1, .int .i64 a0_2] 63 ?_; intro gb186 hg w13 hbox hb; have n0_ := A_ (below_step (bw_ HB.out) hb); have n1_ := A_ (hbox); have n2_ := A_ ((d0_ : w.heap.size ≤ gb186)); have n3_ := n2_; clear HB; have HB := n0_; have BK186 := n1_; have GW186 := n2_; have GE186 := n3_; have GI186 := GeI.mk GE186.out; clear n0_ n1_ n2_ n3_; clear hb hbox hg; have y14_0 : w13.cell? ⟨gb186, 0, none⟩ = some (.int .i64 a0_0) := (blk_cell BK186.out 0).trans rfl; have y14_1 : w13.cell? ⟨gb186, 1, none⟩ = some (.int .i64 a0_1) := (blk_cell BK186.out 1).trans rfl; have y14_2 : w13.cell? ⟨gb186, 2, none⟩ = some (.int .i64 a0_2) := (blk_cell BK186.out 2).trans rfl; have z14_0 := blk_frozen BK186.out 0; have z14_1 := blk_frozen BK186.out 1; have z14_2 := blk_frozen BK186.out 2) | ((with_reducible refine gate_callee (f := 57) rfl ?_); refine gL_ (some 5) Try.func57 #[.int .i64 a0_0, .int .i64 0, .int .i64 7] ?_; (with_reducible refine (spec_l1In.calls a0_0 0 7 true _ A2.out).mono ?_); rintro e w' ⟨rfl, ⟨nd, rfl⟩⟩; refine ⟨_, rfl, ?_⟩) | (go_at_call 57; (with_reducible refine (spec_l1In.calls a0_1 0 7 true _ A4.out).mono ?_); rintro e w' ⟨rfl, ⟨nd, rfl⟩⟩) | (go_at_call 57; (with_reducible refine (spec_l1In.calls a0_2 0 65535 true _ A6.out).mono ?_); rintro e w' ⟨rfl, ⟨nd, rfl⟩⟩) | (go_at_call 89; (with_reducible refine (spec_HasX.calls a0_0 a0_1 a0_2 false _ A8.out).mono ?_); rintro e w15 ⟨rfl, hb⟩; replace BK186 := A_ (blk_below (bk_ BK186.out) hb); replace HB := A_ (below_step (bw_ HB.out) hb); clear hb; have y16_0 : w15.cell? ⟨gb186, 0, none⟩ = some (.int .i64 a0_0) := (blk_cell BK186.out 0).trans rfl; have y16_1 : w15.cell? ⟨gb186, 1, none⟩ = some (.int .i64 a0_1) := (blk_cell BK186.out 1).trans rfl; have y16_2 : w15.cell? ⟨gb186, 2, none⟩ = some (.int .i64 a0_2) := (blk_cell BK186.out 2).trans rfl; have z16_0 := blk_frozen BK186.out 0; have z16_1 := blk_frozen BK186.out 1; have z16_2 := blk_frozen BK186.out 2))
     go_ret
     exact rt_ (bw_ HB.out)
   ·replace c7 := Bool.eq_false_iff.mpr c7
    subst c7
    rw [if_neg (show ¬ (false = true) by decide)] at H
    obtain rfl := Option.some.inj H
    go_enter Try.func74, Try.ntmps74
    go_wp2_with (first | ((with_reducible refine gate_dst (N := 1) rfl ?_); refine bx_ 1 #[.int .i64 a0_0, .int .i64 a0_1, .int .i64 a0_2] 63 ?_; intro gb186 hg w17 hbox hb; have n0_ := A_ (below_step (bw_ HB.out) hb); have n1_ := A_ (hbox); have n2_ := A_ ((d0_ : w.heap.size ≤ gb186)); have n3_ := n2_; clear HB; have HB := n0_; have BK186 := n1_; have GW186 := n2_; have GE186 := n3_; have GI186 := GeI.mk GE186.out; clear n0_ n1_ n2_ n3_; clear hb hbox hg; have y18_0 : w17.cell? ⟨gb186, 0, none⟩ = some (.int .i64 a0_0) := (blk_cell BK186.out 0).trans rfl; have y18_1 : w17.cell? ⟨gb186, 1, none⟩ = some (.int .i64 a0_1) := (blk_cell BK186.out 1).trans rfl; have y18_2 : w17.cell? ⟨gb186, 2, none⟩ = some (.int .i64 a0_2) := (blk_cell BK186.out 2).trans rfl; have z18_0 := blk_frozen BK186.out 0; have z18_1 := blk_frozen BK186.out 1; have z18_2 := blk_frozen BK186.out 2) | ((with_reducible refine gate_callee (f := 57) rfl ?_); refine gL_ (some 5) Try.func57 #[.int .i64 a0_0, .int .i64 0, .int .i64 7] ?_; (with_reducible refine (spec_l1In.calls a0_0 0 7 true _ A2.out).mono ?_); rintro e w' ⟨rfl, ⟨nd, rfl⟩⟩; refine ⟨_, rfl, ?_⟩) | (go_at_call 57; (with_reducible refine (spec_l1In.calls a0_1 0 7 true _ A4.out).mono ?_); rintro e w' ⟨rfl, ⟨nd, rfl⟩⟩) | (go_at_call 57; (with_reducible refine (spec_l1In.calls a0_2 0 65535 false _ A6.out).mono ?_); rintro e w' ⟨rfl, ⟨nd, rfl⟩⟩))
    go_ret
    exact rt_ (bw_ HB.out)
  ·replace c5 := Bool.eq_false_iff.mpr c5
   subst c5
   rw [if_neg (show ¬ (false = true) by decide)] at H
   obtain rfl := Option.some.inj H
   go_enter Try.func74, Try.ntmps74
   go_wp2_with (first | ((with_reducible refine gate_dst (N := 1) rfl ?_); refine bx_ 1 #[.int .i64 a0_0, .int .i64 a0_1, .int .i64 a0_2] 63 ?_; intro gb186 hg w19 hbox hb; have n0_ := A_ (below_step (bw_ HB.out) hb); have n1_ := A_ (hbox); have n2_ := A_ ((d0_ : w.heap.size ≤ gb186)); have n3_ := n2_; clear HB; have HB := n0_; have BK186 := n1_; have GW186 := n2_; have GE186 := n3_; have GI186 := GeI.mk GE186.out; clear n0_ n1_ n2_ n3_; clear hb hbox hg; have y20_0 : w19.cell? ⟨gb186, 0, none⟩ = some (.int .i64 a0_0) := (blk_cell BK186.out 0).trans rfl; have y20_1 : w19.cell? ⟨gb186, 1, none⟩ = some (.int .i64 a0_1) := (blk_cell BK186.out 1).trans rfl; have y20_2 : w19.cell? ⟨gb186, 2, none⟩ = some (.int .i64 a0_2) := (blk_cell BK186.out 2).trans rfl; have z20_0 := blk_frozen BK186.out 0; have z20_1 := blk_frozen BK186.out 1; have z20_2 := blk_frozen BK186.out 2) | ((with_reducible refine gate_callee (f := 57) rfl ?_); refine gL_ (some 5) Try.func57 #[.int .i64 a0_0, .int .i64 0, .int .i64 7] ?_; (with_reducible refine (spec_l1In.calls a0_0 0 7 true _ A2.out).mono ?_); rintro e w' ⟨rfl, ⟨nd, rfl⟩⟩; refine ⟨_, rfl, ?_⟩) | (go_at_call 57; (with_reducible refine (spec_l1In.calls a0_1 0 7 false _ A4.out).mono ?_); rintro e w' ⟨rfl, ⟨nd, rfl⟩⟩))
   go_ret
   exact rt_ (bw_ HB.out)
 ·replace c3 := Bool.eq_false_iff.mpr c3
  subst c3
  rw [if_neg (show ¬ (false = true) by decide)] at H
  obtain rfl := Option.some.inj H
  go_enter Try.func74, Try.ntmps74
  go_wp2_with (first | ((with_reducible refine gate_dst (N := 1) rfl ?_); refine bx_ 1 #[.int .i64 a0_0, .int .i64 a0_1, .int .i64 a0_2] 63 ?_; intro gb186 hg w21 hbox hb; have n0_ := A_ (below_step (bw_ HB.out) hb); have n1_ := A_ (hbox); have n2_ := A_ ((d0_ : w.heap.size ≤ gb186)); have n3_ := n2_; clear HB; have HB := n0_; have BK186 := n1_; have GW186 := n2_; have GE186 := n3_; have GI186 := GeI.mk GE186.out; clear n0_ n1_ n2_ n3_; clear hb hbox hg; have y22_0 : w21.cell? ⟨gb186, 0, none⟩ = some (.int .i64 a0_0) := (blk_cell BK186.out 0).trans rfl; have y22_1 : w21.cell? ⟨gb186, 1, none⟩ = some (.int .i64 a0_1) := (blk_cell BK186.out 1).trans rfl; have y22_2 : w21.cell? ⟨gb186, 2, none⟩ = some (.int .i64 a0_2) := (blk_cell BK186.out 2).trans rfl; have z22_0 := blk_frozen BK186.out 0; have z22_1 := blk_frozen BK186.out 1; have z22_2 := blk_frozen BK186.out 2) | ((with_reducible refine gate_callee (f := 57) rfl ?_); refine gL_ (some 5) Try.func57 #[.int .i64 a0_0, .int .i64 0, .int .i64 7] ?_; (with_reducible refine (spec_l1In.calls a0_0 0 7 false _ A2.out).mono ?_); rintro e w' ⟨rfl, ⟨nd, rfl⟩⟩; refine ⟨_, rfl, ?_⟩))
  go_ret
  exact rt_ (bw_ HB.out)

/-! ### spec_ReadW: function 16 -/
def spec_ReadW.f (l0_0 : List Int) (l0_1 : List Int) (a0_2 : Bool) (a0_3 : Bool) (a0_4 : Bool) (a0_5 : Bool) (l0_6 : List Int) (l0_7 : List Int) (a0_8 : Int) (a1 : Int) : Option (Int × Bool) := (spec_l1In.f a1 0 510).bind fun t192 => (if t192 = true then (if (Int.tmod a1 2) = 0 then (if (wrap64 (Int.tdiv a1 2)) ≥ (l0_0.length : Int) then (some (0, false)) else (if 0 ≤ (wrap64 (Int.tdiv a1 2)) then (if (wrap64 (Int.tdiv a1 2)) < (l0_0.length : Int) then (some (rd l0_0 (wrap64 (Int.tdiv a1 2)), true)) else (none)) else (none))) else (some (0, false))) else (some (0, false)))
set_option maxHeartbeats 8000000 in
set_option maxRecDepth 100000 in
theorem spec_ReadW.calls (A0_0 : Option Addr) (c0_0 : Nat) (l0_0 : List Int) (A0_1 : Option Addr) (c0_1 : Nat) (l0_1 : List Int) (a0_2 : Bool) (a0_3 : Bool) (a0_4 : Bool) (a0_5 : Bool) (A0_6 : Option Addr) (c0_6 : Nat) (l0_6 : List Int) (A0_7 : Option Addr) (c0_7 : Nat) (l0_7 : List Int) (a0_8 : Int) (a1 : Int) (r1 : Int) (r2 : Bool) (w : World) (hr0_0 : Kd.C (Kd.int .i64) w A0_0 l0_0.length l0_0) (hc0_0 : l0_0.length ≤ c0_0) (hr0_1 : Kd.C (Kd.int .i64) w A0_1 l0_1.length l0_1) (hc0_1 : l0_1.length ≤ c0_1) (hr0_6 : Kd.C (Kd.int .i64) w A0_6 l0_6.length l0_6) (hc0_6 : l0_6.length ≤ c0_6) (hr0_7 : Kd.C (Kd.int .i64) w A0_7 l0_7.length l0_7) (hc0_7 : l0_7.length ≤ c0_7) (h : spec_ReadW.f l0_0 l0_1 a0_2 a0_3 a0_4 a0_5 l0_6 l0_7 a0_8 a1 = some (r1, r2)) :
  Calls Try.prog 16 #[.agg #[.slice A0_0 l0_0.length c0_0, .slice A0_1 l0_1.length c0_1, .bool a0_2, .bool a0_3, .bool a0_4, .bool a0_5, .slice A0_6 l0_6.length c0_6, .slice A0_7 l0_7.length c0_7, .int .i64 a0_8], .int .i64 a1] w fun e w' => e = .returned (.tuple #[.int .i64 r1, .bool r2]) ∧ Below w.heap.size w w' := by
 have hu28 := Try.underlying28
 have HR0_0 := A_ hr0_0
 have HC0_0 := A_ hc0_0
 clear hr0_0 hc0_0
 have HR0_1 := A_ hr0_1
 have HC0_1 := A_ hc0_1
 clear hr0_1 hc0_1
 have HR0_6 := A_ hr0_6
 have HC0_6 := A_ hc0_6
 clear hr0_6 hc0_6
 have HR0_7 := A_ hr0_7
 have HC0_7 := A_ hc0_7
 clear hr0_7 hc0_7
 have HB := A_ (Below.refl w.heap.size w)
 have H : ((spec_l1In.f a1 0 510).bind fun t192 => (if t192 = true then (if (Int.tmod a1 2) = 0 then (if (wrap64 (Int.tdiv a1 2)) ≥ (l0_0.length : Int) then (some (0, false)) else (if 0 ≤ (wrap64 (Int.tdiv a1 2)) then (if (wrap64 (Int.tdiv a1 2)) < (l0_0.length : Int) then (some (rd l0_0 (wrap64 (Int.tdiv a1 2)), true)) else (none)) else (none))) else (some (0, false))) else (some (0, false)))) = some (r1, r2) := h
 clear h
 replace H := Option.bind_eq_some_iff.mp H
 obtain ⟨t192, A30, H⟩ := H
 try dsimp only at H
 have A3 := A_ A30
 clear A30
 by_cases c4 : t192 = true
 ·subst c4
  rw [if_pos rfl] at H
  by_cases c5 : (Int.tmod a1 2) = 0
  ·rw [if_pos c5] at H
   have c5b0 := beq_iff_eq.mpr c5
   have c5b1 := bne_eq_false_iff_eq.mpr c5
   clear c5
   by_cases c6 : (wrap64 (Int.tdiv a1 2)) ≥ (l0_0.length : Int)
   ·rw [if_pos c6] at H
    have c6b0 := decide_eq_true c6
    clear c6
    simp only [Option.some.injEq, Prod.mk.injEq] at H
    obtain ⟨rfl, rfl⟩ := H
    go_enter Try.func16, Try.ntmps16
    go_wp2_with (first | ((with_reducible refine gate_dst (N := 2) rfl ?_); (try (refine gate_guard (by rfl) ?_; dsimp only)); refine bx_ 2 #[.slice A0_0 l0_0.length c0_0, .slice A0_1 l0_1.length c0_1, .bool a0_2, .bool a0_3, .bool a0_4, .bool a0_5, .slice A0_6 l0_6.length c0_6, .slice A0_7 l0_7.length c0_7, .int .i64 a0_8] 28 ?_; intro gb191 hg w7 hbox hb; have n0_ := A_ (below_step (bw_ HB.out) hb); have n1_ := A_ (hbox); have n2_ := A_ ((d0_ : w.heap.size ≤ gb191)); have n3_ := n2_; clear HB; have HB := n0_; have BK191 := n1_; have GW191 := n2_; have GE191 := n3_; have GI191 := GeI.mk GE191.out; clear n0_ n1_ n2_ n3_; clear hb hbox hg) | ((with_reducible refine gate_callee (f := 57) rfl ?_); refine gL_ (some 7) Try.func57 #[.int .i64 a1, .int .i64 0, .int .i64 510] ?_; (with_reducible refine (spec_l1In.calls a1 0 510 true _ A3.out).mono ?_); rintro e w' ⟨rfl, ⟨nd, rfl⟩⟩; refine ⟨_, rfl, ?_⟩; obtain ⟨y8_0, y8_1, y8_2, y8_3, y8_4, y8_5, y8_6, y8_7, y8_8, z8_0, z8_1, z8_2, z8_3, z8_4, z8_5, z8_6, z8_7, z8_8⟩ := cz9_ BK191.out))
    go_ret2
    exact rt_ (bw_ HB.out)
   ·rw [if_neg c6] at H
    have c6b0 := decide_eq_false c6
    clear c6
    obtain ⟨ji9, hji9⟩ : ∃ j_ : Int, (wrap64 (Int.tdiv a1 2)) = j_ := ⟨_, rfl⟩
    replace H : (if 0 ≤ (ji9) then (if (ji9) < (l0_0.length : Int) then (some (rd l0_0 (ji9), true)) else (none)) else (none)) = some (r1, r2) := by first | (rw [hji9] at H; exact H) | (simp only [hji9] at H ⊢; exact H)
    (try rw [hji9] at c6b0)
    (try rw [hji9] at A3)
    have hji9w : (IntKind.i64.wrap (Int.tdiv a1 2)) = ji9 := (i64_w _).trans hji9
    by_cases c10 : 0 ≤ (ji9)
    ·rw [if_pos c10] at H
     have c10b0 := decide_eq_true c10
     clear c10
     by_cases c11 : (ji9) < (l0_0.length : Int)
     ·rw [if_pos c11] at H
      have c11b0 := decide_eq_true c11
      clear c11
      simp only [Option.some.injEq, Prod.mk.injEq] at H
      obtain ⟨rfl, rfl⟩ := H
      go_enter Try.func16, Try.ntmps16
      go_wp2_with (first | ((with_reducible refine gate_dst (N := 2) rfl ?_); (try (refine gate_guard (by rfl) ?_; dsimp only)); refine bx_ 2 #[.slice A0_0 l0_0.length c0_0, .slice A0_1 l0_1.length c0_1, .bool a0_2, .bool a0_3, .bool a0_4, .bool a0_5, .slice A0_6 l0_6.length c0_6, .slice A0_7 l0_7.length c0_7, .int .i64 a0_8] 28 ?_; intro gb191 hg w12 hbox hb; have n0_ := A_ (below_step (bw_ HB.out) hb); have n1_ := A_ (hbox); have n2_ := A_ ((d0_ : w.heap.size ≤ gb191)); have n3_ := n2_; clear HB; have HB := n0_; have BK191 := n1_; have GW191 := n2_; have GE191 := n3_; have GI191 := GeI.mk GE191.out; clear n0_ n1_ n2_ n3_; clear hb hbox hg) | ((with_reducible refine gate_callee (f := 57) rfl ?_); refine gL_ (some 7) Try.func57 #[.int .i64 a1, .int .i64 0, .int .i64 510] ?_; (with_reducible refine (spec_l1In.calls a1 0 510 true _ A3.out).mono ?_); rintro e w' ⟨rfl, ⟨nd, rfl⟩⟩; refine ⟨_, rfl, ?_⟩; obtain ⟨y13_0, y13_1, y13_2, y13_3, y13_4, y13_5, y13_6, y13_7, y13_8, z13_0, z13_1, z13_2, z13_3, z13_4, z13_5, z13_6, z13_7, z13_8⟩ := cz9_ BK191.out; have p193 : 0 ≤ ((ji9) : Int) := of_decide_eq_true d1_; have q193 : (ji9) < (l0_0.length : Int) := of_decide_eq_true d1_; obtain ⟨ad193, e193, hx193_0⟩ := Kd.at_int HR0_0.out (ji9) p193 q193; cases e193; replace hx193_0 := (HB.out.cell (World.block_lt_of_cell? w _ hx193_0)).trans hx193_0; replace p193 := eq_true p193; replace q193 := eq_true q193))
      go_ret2
      exact ⟨by first | rfl | (simp [errW_none, errW_some] <;> rfl) | (simp only [← hji9]; first | rfl | (simp [errW_none, errW_some] <;> rfl)) | (simp [*, errW_none, errW_some] <;> rfl), bw_ HB.out⟩
     ·rw [if_neg c11] at H
      exact absurd H (by simp)
    ·rw [if_neg c10] at H
     exact absurd H (by simp)
  ·rw [if_neg c5] at H
   have c5b0 := beq_eq_false_iff_ne.mpr c5
   have c5b1 := bne_iff_ne.mpr c5
   simp only [Option.some.injEq, Prod.mk.injEq] at H
   obtain ⟨rfl, rfl⟩ := H
   go_enter Try.func16, Try.ntmps16
   go_wp2_with (first | ((with_reducible refine gate_dst (N := 2) rfl ?_); (try (refine gate_guard (by rfl) ?_; dsimp only)); refine bx_ 2 #[.slice A0_0 l0_0.length c0_0, .slice A0_1 l0_1.length c0_1, .bool a0_2, .bool a0_3, .bool a0_4, .bool a0_5, .slice A0_6 l0_6.length c0_6, .slice A0_7 l0_7.length c0_7, .int .i64 a0_8] 28 ?_; intro gb191 hg w14 hbox hb; have n0_ := A_ (below_step (bw_ HB.out) hb); have n1_ := A_ (hbox); have n2_ := A_ ((d0_ : w.heap.size ≤ gb191)); have n3_ := n2_; clear HB; have HB := n0_; have BK191 := n1_; have GW191 := n2_; have GE191 := n3_; have GI191 := GeI.mk GE191.out; clear n0_ n1_ n2_ n3_; clear hb hbox hg) | ((with_reducible refine gate_callee (f := 57) rfl ?_); refine gL_ (some 7) Try.func57 #[.int .i64 a1, .int .i64 0, .int .i64 510] ?_; (with_reducible refine (spec_l1In.calls a1 0 510 true _ A3.out).mono ?_); rintro e w' ⟨rfl, ⟨nd, rfl⟩⟩; refine ⟨_, rfl, ?_⟩))
   go_ret2
   exact rt_ (bw_ HB.out)
 ·replace c4 := Bool.eq_false_iff.mpr c4
  subst c4
  rw [if_neg (show ¬ (false = true) by decide)] at H
  simp only [Option.some.injEq, Prod.mk.injEq] at H
  obtain ⟨rfl, rfl⟩ := H
  go_enter Try.func16, Try.ntmps16
  go_wp2_with (first | ((with_reducible refine gate_dst (N := 2) rfl ?_); (try (refine gate_guard (by rfl) ?_; dsimp only)); refine bx_ 2 #[.slice A0_0 l0_0.length c0_0, .slice A0_1 l0_1.length c0_1, .bool a0_2, .bool a0_3, .bool a0_4, .bool a0_5, .slice A0_6 l0_6.length c0_6, .slice A0_7 l0_7.length c0_7, .int .i64 a0_8] 28 ?_; intro gb191 hg w15 hbox hb; have n0_ := A_ (below_step (bw_ HB.out) hb); have n1_ := A_ (hbox); have n2_ := A_ ((d0_ : w.heap.size ≤ gb191)); have n3_ := n2_; clear HB; have HB := n0_; have BK191 := n1_; have GW191 := n2_; have GE191 := n3_; have GI191 := GeI.mk GE191.out; clear n0_ n1_ n2_ n3_; clear hb hbox hg) | ((with_reducible refine gate_callee (f := 57) rfl ?_); refine gL_ (some 7) Try.func57 #[.int .i64 a1, .int .i64 0, .int .i64 510] ?_; (with_reducible refine (spec_l1In.calls a1 0 510 false _ A3.out).mono ?_); rintro e w' ⟨rfl, ⟨nd, rfl⟩⟩; refine ⟨_, rfl, ?_⟩))
  go_ret2
  exact rt_ (bw_ HB.out)

/-! ### spec_Wrap: function 67 -/
def spec_Wrap.f (a0 : Int) : Option (Int) := some (Go.bits .and .i64 a0 65535)
set_option maxHeartbeats 8000000 in
set_option maxRecDepth 100000 in
theorem spec_Wrap.calls (a0 : Int) (r : Int) (w : World) (h : spec_Wrap.f a0 = some r) :
  Calls Try.prog 67 #[.int .i64 a0] w fun e w' => e = .returned (.int .i64 r) ∧ Drawn0 w w' := by
 have H : (some (Go.bits .and .i64 a0 65535)) = some r := h
 clear h
 obtain rfl := Option.some.inj H
 go_enter Try.func67, Try.ntmps67
 go_wp2
 go_ret
 exact ⟨by first | rfl | (simp; done) | (simp [*]; done), by repeat (first | exact Drawn0.refl _ | apply Drawn0.step)⟩

-- NOT PRINTED: function 97 (spec_l6Fetch)

-- NOT PRINTED: function 90 (spec_l6At)

-- NOT PRINTED: function 75 (spec_l6Place)

-- NOT PRINTED: function 44 (spec_PlaceOf)

/-! ### laws_toOpd: function 45 -/
def laws_toOpd.f (a0_0 : Int) (a0_1 : Int) (a0_2 : Int) : Option (Int × Int × Int) := some (a0_0, a0_1, a0_2)
set_option maxHeartbeats 8000000 in
set_option maxRecDepth 100000 in
theorem laws_toOpd.calls (a0_0 : Int) (a0_1 : Int) (a0_2 : Int) (r1 : Int) (r2 : Int) (r3 : Int) (w : World) (h : laws_toOpd.f a0_0 a0_1 a0_2 = some (r1, r2, r3)) :
  Calls Try.prog 45 #[.agg #[.int .i64 a0_0, .int .i64 a0_1, .int .i64 a0_2]] w fun e w' => e = .returned (.agg #[.int .i64 r1, .int .i64 r2, .int .i64 r3]) ∧ Below w.heap.size w w' := by
 have hu60 := Try.underlying60
 have hu63 := Try.underlying63
 have HB := A_ (Below.refl w.heap.size w)
 have H : (some (a0_0, a0_1, a0_2)) = some (r1, r2, r3) := h
 clear h
 simp only [Option.some.injEq, Prod.mk.injEq] at H
 obtain ⟨rfl, rfl, rfl⟩ := H
 go_enter Try.func45, Try.ntmps45
 go_wp2_with (first | ((with_reducible refine gate_dst (N := 1) rfl ?_); refine bx_ 1 #[.int .i64 a0_0, .int .i64 a0_1, .int .i64 a0_2] 60 ?_; intro gb229 hg w2 hbox hb; have n0_ := A_ (below_step (bw_ HB.out) hb); have n1_ := A_ (hbox); have n2_ := A_ ((d0_ : w.heap.size ≤ gb229)); have n3_ := n2_; clear HB; have HB := n0_; have BK229 := n1_; have GW229 := n2_; have GE229 := n3_; have GI229 := GeI.mk GE229.out; clear n0_ n1_ n2_ n3_; clear hb hbox hg) | ((with_reducible refine gate_dst (N := 2) rfl ?_); refine bx_ 2 #[.int .i64 0, .int .i64 0, .int .i64 0] 63 ?_; intro gb230 hg w3 hbox hb; have n0_ := A_ (blk_below (bk_ BK229.out) hb); have n1_ := A_ (below_step (bw_ HB.out) hb); have n2_ := A_ (hbox); have n3_ := A_ ((d0_ : w.heap.size ≤ gb230)); have n4_ := n3_; have n5_ := A_ ((by rw [hg]; exact Nat.ne_of_lt (blk_lt (bk_ BK229.out)) : gb229 ≠ gb230)); have n6_ := A_ n5_.out.symm; clear BK229; clear HB; have BK229 := n0_; have HB := n1_; have BK230 := n2_; have GW230 := n3_; have GE230 := n4_; have GI230 := GeI.mk GE230.out; have NB229_230 := n5_; have NB230_229 := n6_; clear n0_ n1_ n2_ n3_ n4_ n5_ n6_; clear hb hbox hg) | ((with_reducible refine gate_dst (N := 3) rfl ?_); refine bx_ 3 #[.int .i64 0, .int .i64 0, .int .i64 0] 63 ?_; intro gb231 hg w4 hbox hb; have n0_ := A_ (blk_below (bk_ BK229.out) hb); have n1_ := A_ (blk_below (bk_ BK230.out) hb); have n2_ := A_ (below_step (bw_ HB.out) hb); have n3_ := A_ (hbox); have n4_ := A_ ((d0_ : w.heap.size ≤ gb231)); have n5_ := n4_; have n6_ := A_ ((by rw [hg]; exact Nat.ne_of_lt (blk_lt (bk_ BK229.out)) : gb229 ≠ gb231)); have n7_ := A_ n6_.out.symm; have n8_ := A_ ((by rw [hg]; exact Nat.ne_of_lt (blk_lt (bk_ BK230.out)) : gb230 ≠ gb231)); have n9_ := A_ n8_.out.symm; clear BK229; clear BK230; clear HB; have BK229 := n0_; have BK230 := n1_; have HB := n2_; have BK231 := n3_; have GW231 := n4_; have GE231 := n5_; have GI231 := GeI.mk GE231.out; have NB229_231 := n6_; have NB231_229 := n7_; have NB230_231 := n8_; have NB231_230 := n9_; clear n0_ n1_ n2_ n3_ n4_ n5_ n6_ n7_ n8_ n9_; clear hb hbox hg; have hnb5 := NB229_230.out; have hnc5 := NB230_229.out; have hnb6 := NB229_231.out; have hnc6 := NB231_229.out; have y7_0 : w4.cell? ⟨gb229, 0, none⟩ = some (.int .i64 a0_0) := (blk_cell BK229.out 0).trans rfl; have y7_1 : w4.cell? ⟨gb229, 1, none⟩ = some (.int .i64 a0_1) := (blk_cell BK229.out 1).trans rfl; have y7_2 : w4.cell? ⟨gb229, 2, none⟩ = some (.int .i64 a0_2) := (blk_cell BK229.out 2).trans rfl; have z7_0 := blk_frozen BK229.out 0; have z7_1 := blk_frozen BK229.out 1; have z7_2 := blk_frozen BK229.out 2; have hnb8 := NB231_230.out; have hnc8 := NB230_231.out; have y9_0 : w4.cell? ⟨gb231, 0, none⟩ = some (.int .i64 0) := (blk_cell BK231.out 0).trans rfl; have y9_1 : w4.cell? ⟨gb231, 1, none⟩ = some (.int .i64 0) := (blk_cell BK231.out 1).trans rfl; have y9_2 : w4.cell? ⟨gb231, 2, none⟩ = some (.int .i64 0) := (blk_cell BK231.out 2).trans rfl; have z9_0 := blk_frozen BK231.out 0; have z9_1 := blk_frozen BK231.out 1; have z9_2 := blk_frozen BK231.out 2; have y10_0 : w4.cell? ⟨gb230, 0, none⟩ = some (.int .i64 0) := (blk_cell BK230.out 0).trans rfl; have y10_1 : w4.cell? ⟨gb230, 1, none⟩ = some (.int .i64 0) := (blk_cell BK230.out 1).trans rfl; have y10_2 : w4.cell? ⟨gb230, 2, none⟩ = some (.int .i64 0) := (blk_cell BK230.out 2).trans rfl; have z10_0 := blk_frozen BK230.out 0; have z10_1 := blk_frozen BK230.out 1; have z10_2 := blk_frozen BK230.out 2))
 refine bodyPost_ret (results_cell_row rfl _ _ gb230 63 #[.int .i64 a0_0, .int .i64 a0_1, .int .i64 a0_2] (0, 0) _ rfl ?hb_ Try.underlying63 rfl (by kernel_rfl)) rfl ?_
 (case hb_ => refine bk_ ?_; refine blk_put (cs := #[.int .i64 a0_0, .int .i64 a0_1, .int .i64 0]) ?_ 2 _ rfl; refine bk_ ?_; refine blk_put (cs := #[.int .i64 a0_0, .int .i64 0, .int .i64 0]) ?_ 1 _ rfl; refine bk_ ?_; refine blk_put (cs := #[.int .i64 0, .int .i64 0, .int .i64 0]) ?_ 0 _ rfl; refine bk_ ?_; refine blk_far ?_ NB230_231.out _; refine bk_ ?_; refine blk_far ?_ NB230_231.out _; refine bk_ ?_; refine blk_far ?_ NB230_231.out _; refine bk_ ?_; exact BK230.out)
 exact rt_ (bw_ HB.out)

/-! ### impl_within: function 61 -/
def impl_within.f (a0 : Int) (a1 : Int) (a2 : Int) : Option (Bool) := if a0 ≥ a1 then (some (decide (a0 ≤ a2))) else (some false)
set_option maxHeartbeats 8000000 in
set_option maxRecDepth 100000 in
theorem impl_within.calls (a0 : Int) (a1 : Int) (a2 : Int) (r : Bool) (w : World) (h : impl_within.f a0 a1 a2 = some r) :
  Calls Try.prog 61 #[.int .i64 a0, .int .i64 a1, .int .i64 a2] w fun e w' => e = .returned (.bool r) ∧ Drawn0 w w' := by
 have H : (if a0 ≥ a1 then (some (decide (a0 ≤ a2))) else (some false)) = some r := h
 clear h
 by_cases c4 : a0 ≥ a1
 ·rw [if_pos c4] at H
  have c4b0 := decide_eq_true c4
  clear c4
  obtain rfl := Option.some.inj H
  go_enter Try.func61, Try.ntmps61
  go_wp2
  go_ret
  exact ⟨by first | rfl | (simp; done) | (simp [*]; done), by repeat (first | exact Drawn0.refl _ | apply Drawn0.step)⟩
 ·rw [if_neg c4] at H
  have c4b0 := decide_eq_false c4
  clear c4
  obtain rfl := Option.some.inj H
  go_enter Try.func61, Try.ntmps61
  go_wp2
  go_ret
  exact ⟨by first | rfl | (simp; done) | (simp [*]; done), by repeat (first | exact Drawn0.refl _ | apply Drawn0.step)⟩

/-! ### impl_isWord: function 63 -/
def impl_isWord.f (a0 : Int) : Option (Bool) := (impl_within.f a0 0 65535).bind fun t232 => (some t232)
set_option maxHeartbeats 8000000 in
set_option maxRecDepth 100000 in
theorem impl_isWord.calls (a0 : Int) (r : Bool) (w : World) (h : impl_isWord.f a0 = some r) :
  Calls Try.prog 63 #[.int .i64 a0] w fun e w' => e = .returned (.bool r) ∧ Drawn0 w w' := by
 have H : ((impl_within.f a0 0 65535).bind fun t232 => (some t232)) = some r := h
 clear h
 replace H := Option.bind_eq_some_iff.mp H
 obtain ⟨t232, A20, H⟩ := H
 try dsimp only at H
 have A2 := A_ A20
 clear A20
 obtain rfl := Option.some.inj H
 go_enter Try.func63, Try.ntmps63
 go_wp2_with (first | ((with_reducible refine gate_callee (f := 61) rfl ?_); refine gL_ (some 4) Try.func61 #[.int .i64 a0, .int .i64 0, .int .i64 65535] ?_; (with_reducible refine (impl_within.calls a0 0 65535 t232 _ A2.out).mono ?_); rintro e w' ⟨rfl, ⟨nd, rfl⟩⟩; refine ⟨_, rfl, ?_⟩))
 go_ret
 exact ⟨by first | rfl | (simp; done) | (simp [*]; done), by repeat (first | exact Drawn0.refl _ | apply Drawn0.step)⟩

end Go.Proofs.Ytiagbfilffbljaa.PFnExactPlaceOf
