-- Laid by a program of this session (a changed copy of the kit's printer); Lean checks every line.
import Derived.Test.YtcpnhlhigpgonaaPFnPutInx0
import Derived.Test.YtcpnhlhigpgonaaPFnPutInx1
import Derived.Test.YtcpnhlhigpgonaaPFnPutInx2
import Derived.Test.YtcpnhlhigpgonaaPFnPutInx4
import Derived.Test.YtcpnhlhigpgonaaPFnPutInx6
namespace Go.Proofs.Ytcpnhlhigpgonaa.PFnPutIn
open Go.RowKit Go.Proofs.YtcpnhlhigpgonaaW.PrintWords Go.Proofs.YtcpnhlhigpgonaaW.PrintLast Go.Proofs.YtcpnhlhigpgonaaW.PrintMore
attribute [local go_sem] max2_int min2_int max_two min_two max_three min_three max_four min_four   -- for this text's walks alone
set_option linter.unusedVariables false
set_option linter.unusedSimpArgs false

/-! ### impl_compute: function 78 -/
def impl_compute.f (a0 : Int) (a1 : Int) (a2 : Int) : Option (Int × Bool) := if a0 = 5 then ((impl_Wrap.f (wrap64 (a1 + a2))).bind fun t189 => (some (t189, true))) else (if a0 = 6 then ((impl_Wrap.f (wrap64 (a1 - a2))).bind fun t190 => (some (t190, true))) else (if a0 = 7 then ((impl_Wrap.f (wrap64 (a1 * a2))).bind fun t191 => (some (t191, true))) else (if a0 = 9 then (some (Go.bits .and .i64 a1 a2, true)) else (if a0 = 10 then (some (Go.bits .or .i64 a1 a2, true)) else (if a2 = 0 then (some (0, false)) else (some (wrap64 (Int.tdiv a1 a2), true)))))))
set_option maxHeartbeats 8000000 in
set_option maxRecDepth 100000 in
theorem impl_compute.calls (a0 : Int) (a1 : Int) (a2 : Int) (r1 : Int) (r2 : Bool) (w : World) (h : impl_compute.f a0 a1 a2 = some (r1, r2)) :
  Calls Try.prog 78 #[.int .i64 a0, .int .i64 a1, .int .i64 a2] w fun e w' => e = .returned (.tuple #[.int .i64 r1, .bool r2]) ∧ Drawn0 w w' := by
 have H : (if a0 = 5 then ((impl_Wrap.f (wrap64 (a1 + a2))).bind fun t189 => (some (t189, true))) else (if a0 = 6 then ((impl_Wrap.f (wrap64 (a1 - a2))).bind fun t190 => (some (t190, true))) else (if a0 = 7 then ((impl_Wrap.f (wrap64 (a1 * a2))).bind fun t191 => (some (t191, true))) else (if a0 = 9 then (some (Go.bits .and .i64 a1 a2, true)) else (if a0 = 10 then (some (Go.bits .or .i64 a1 a2, true)) else (if a2 = 0 then (some (0, false)) else (some (wrap64 (Int.tdiv a1 a2), true)))))))) = some (r1, r2) := h
 clear h
 by_cases c4 : a0 = 5
 ·rw [if_pos c4] at H
  have c4b0 := beq_iff_eq.mpr c4
  have c4b1 := bne_eq_false_iff_eq.mpr c4
  clear c4
  replace H := Option.bind_eq_some_iff.mp H
  obtain ⟨t189, A50, H⟩ := H
  try dsimp only at H
  have A5 := A_ A50
  clear A50
  simp only [Option.some.injEq, Prod.mk.injEq] at H
  obtain ⟨rfl, rfl⟩ := H
  go_enter Try.func78, Try.ntmps78
  go_wp2_with (first | ((with_reducible refine gate_callee (f := 76) rfl ?_); refine gL_ (some 14) Try.func76 #[.int .i64 (wrap64 (a1 + a2))] ?_; (with_reducible refine (impl_Wrap.calls (wrap64 (a1 + a2)) t189 _ A5.out).mono ?_); rintro e w' ⟨rfl, ⟨nd, rfl⟩⟩; refine ⟨_, rfl, ?_⟩))
  go_ret2
  exact ⟨by first | rfl | (simp; done) | (simp [*]; done), by repeat (first | exact Drawn0.refl _ | apply Drawn0.step)⟩
 ·rw [if_neg c4] at H
  have c4b0 := beq_eq_false_iff_ne.mpr c4
  have c4b1 := bne_iff_ne.mpr c4
  by_cases c6 : a0 = 6
  ·rw [if_pos c6] at H
   have c6b0 := beq_iff_eq.mpr c6
   have c6b1 := bne_eq_false_iff_eq.mpr c6
   clear c6
   replace H := Option.bind_eq_some_iff.mp H
   obtain ⟨t190, A70, H⟩ := H
   try dsimp only at H
   have A7 := A_ A70
   clear A70
   simp only [Option.some.injEq, Prod.mk.injEq] at H
   obtain ⟨rfl, rfl⟩ := H
   go_enter Try.func78, Try.ntmps78
   go_wp2_with (first | ((with_reducible refine gate_callee (f := 76) rfl ?_); refine gL_ (some 20) Try.func76 #[.int .i64 (wrap64 (a1 - a2))] ?_; (with_reducible refine (impl_Wrap.calls (wrap64 (a1 - a2)) t190 _ A7.out).mono ?_); rintro e w' ⟨rfl, ⟨nd, rfl⟩⟩; refine ⟨_, rfl, ?_⟩))
   go_ret2
   exact ⟨by first | rfl | (simp; done) | (simp [*]; done), by repeat (first | exact Drawn0.refl _ | apply Drawn0.step)⟩
  ·rw [if_neg c6] at H
   have c6b0 := beq_eq_false_iff_ne.mpr c6
   have c6b1 := bne_iff_ne.mpr c6
   by_cases c8 : a0 = 7
   ·rw [if_pos c8] at H
    have c8b0 := beq_iff_eq.mpr c8
    have c8b1 := bne_eq_false_iff_eq.mpr c8
    clear c8
    replace H := Option.bind_eq_some_iff.mp H
    obtain ⟨t191, A90, H⟩ := H
    try dsimp only at H
    have A9 := A_ A90
    clear A90
    simp only [Option.some.injEq, Prod.mk.injEq] at H
    obtain ⟨rfl, rfl⟩ := H
    go_enter Try.func78, Try.ntmps78
    go_wp2_with (first | ((with_reducible refine gate_callee (f := 76) rfl ?_); refine gL_ (some 26) Try.func76 #[.int .i64 (wrap64 (a1 * a2))] ?_; (with_reducible refine (impl_Wrap.calls (wrap64 (a1 * a2)) t191 _ A9.out).mono ?_); rintro e w' ⟨rfl, ⟨nd, rfl⟩⟩; refine ⟨_, rfl, ?_⟩))
    go_ret2
    exact ⟨by first | rfl | (simp; done) | (simp [*]; done), by repeat (first | exact Drawn0.refl _ | apply Drawn0.step)⟩
   ·rw [if_neg c8] at H
    have c8b0 := beq_eq_false_iff_ne.mpr c8
    have c8b1 := bne_iff_ne.mpr c8
    by_cases c10 : a0 = 9
    ·rw [if_pos c10] at H
     have c10b0 := beq_iff_eq.mpr c10
     have c10b1 := bne_eq_false_iff_eq.mpr c10
     clear c10
     simp only [Option.some.injEq, Prod.mk.injEq] at H
     obtain ⟨rfl, rfl⟩ := H
     go_enter Try.func78, Try.ntmps78
     go_wp2
     go_ret2
     exact ⟨by first | rfl | (simp; done) | (simp [*]; done), by repeat (first | exact Drawn0.refl _ | apply Drawn0.step)⟩
    ·rw [if_neg c10] at H
     have c10b0 := beq_eq_false_iff_ne.mpr c10
     have c10b1 := bne_iff_ne.mpr c10
     by_cases c11 : a0 = 10
     ·rw [if_pos c11] at H
      have c11b0 := beq_iff_eq.mpr c11
      have c11b1 := bne_eq_false_iff_eq.mpr c11
      clear c11
      simp only [Option.some.injEq, Prod.mk.injEq] at H
      obtain ⟨rfl, rfl⟩ := H
      go_enter Try.func78, Try.ntmps78
      go_wp2
      go_ret2
      exact ⟨by first | rfl | (simp; done) | (simp [*]; done), by repeat (first | exact Drawn0.refl _ | apply Drawn0.step)⟩
     ·rw [if_neg c11] at H
      have c11b0 := beq_eq_false_iff_ne.mpr c11
      have c11b1 := bne_iff_ne.mpr c11
      by_cases c12 : a2 = 0
      ·rw [if_pos c12] at H
       have c12b0 := beq_iff_eq.mpr c12
       have c12b1 := bne_eq_false_iff_eq.mpr c12
       clear c12
       simp only [Option.some.injEq, Prod.mk.injEq] at H
       obtain ⟨rfl, rfl⟩ := H
       go_enter Try.func78, Try.ntmps78
       go_wp2
       go_ret2
       exact ⟨by first | rfl | (simp; done) | (simp [*]; done), by repeat (first | exact Drawn0.refl _ | apply Drawn0.step)⟩
      ·rw [if_neg c12] at H
       have c12b0 := beq_eq_false_iff_ne.mpr c12
       have c12b1 := bne_iff_ne.mpr c12
       simp only [Option.some.injEq, Prod.mk.injEq] at H
       obtain ⟨rfl, rfl⟩ := H
       go_enter Try.func78, Try.ntmps78
       go_wp2
       go_ret2
       exact ⟨by first | rfl | (simp; done) | (simp [*]; done), by repeat (first | exact Drawn0.refl _ | apply Drawn0.step)⟩

/-! ### impl_worth: function 52 -/
def impl_worth.f : Nat → Int → Int → ByteArray → List (S29) → List Int → List ByteArray → List Int → Option (Int × Bool)
 | 0, _, _, _, _, _, _, _ => none
 | k + 1, a0_0, a0_1, a0_2, l0_3, l1, l2, l3 => if a0_0 = 1 then (some (a0_1, true)) else (if a0_0 = 11 then (if a0_1 < (l1.length : Int) then (if 0 ≤ a0_1 then ((impl_Wrap.f (rd l1 a0_1)).bind fun t194 => (some (t194, true))) else (none)) else (some (0, false))) else (if a0_0 = 12 then ((impl_placeIn.f k l2 a0_2).bind fun t195 => ((impl_within.f t195 0 (wrap64 ((l3.length : Int) - 1))).bind fun t196 => (if t196 = true then (if 0 ≤ t195 then (if t195 < (l3.length : Int) then ((impl_Wrap.f (rd l3 t195)).bind fun t198 => (some (t198, true))) else (none)) else (none)) else (some (0, false))))) else (if a0_0 = 2 then (some (0, false)) else (if a0_0 = 3 then (some (0, false)) else (if 0 < (l0_3.length : Int) then ((impl_worth.f k ((rd_T29 l0_3 0).f0) ((rd_T29 l0_3 0).f1) ((rd_T29 l0_3 0).f2) ((rd_T29 l0_3 0).f3) l1 l2 l3).bind fun bt200 => (if bt200.2 = true then (if a0_0 = 4 then ((impl_Wrap.f (wrap64 (-bt200.1))).bind fun t202 => (some (t202, true))) else (if 1 < (l0_3.length : Int) then ((impl_worth.f k ((rd_T29 l0_3 1).f0) ((rd_T29 l0_3 1).f1) ((rd_T29 l0_3 1).f2) ((rd_T29 l0_3 1).f3) l1 l2 l3).bind fun bt204 => (if bt204.2 = true then ((impl_compute.f a0_0 bt200.1 bt204.1).bind fun bt206 => (some (bt206.1, bt206.2))) else (some (0, false)))) else (none))) else (some (0, false)))) else (none))))))
theorem impl_worth.mono_l : ∀ k, (∀ y0 y1 y2 y3 y4 y5 y6, LeO (impl_worth.f k y0 y1 y2 y3 y4 y5 y6) (impl_worth.f (k + 1) y0 y1 y2 y3 y4 y5 y6))
 | 0 => fun _ _ _ _ _ _ _ r h => by simp [impl_worth.f] at h
 | k + 1 => by
  have ih0 := impl_worth.mono_l k
  ·intro y0 y1 y2 y3 y4 y5 y6
   unfold impl_worth.f
   repeat' first
   | (with_reducible exact ih0 _ _ _ _ _ _ _)
   | (with_reducible exact impl_placeIn.mono _ _ _)
   | (with_reducible exact LeO.refl _)
   | (with_reducible exact LeO.none _)
   | (with_reducible refine LeO.ite ?_ ?_)
   | (with_reducible refine LeO.bind ?_ (fun _ => ?_))
   | exact ih0 _ _ _ _ _ _ _
   | exact impl_placeIn.mono _ _ _
   | exact LeO.none _
   | refine LeO.ite ?_ ?_
   | refine LeO.bind ?_ (fun _ => ?_)
theorem impl_worth.mono : ∀ a0 a1 a2 a3 a4 a5 a6 k, LeO (impl_worth.f k a0 a1 a2 a3 a4 a5 a6) (impl_worth.f (k + 1) a0 a1 a2 a3 a4 a5 a6) := by
 intro a0 a1 a2 a3 a4 a5 a6 k
 have ih0 := impl_worth.mono_l k
 exact ih0 a0 a1 a2 a3 a4 a5 a6
set_option maxHeartbeats 8000000 in
set_option maxRecDepth 100000 in
theorem impl_worth.calls (k : Nat) : ∀ (a0_0 : Int) (a0_1 : Int) (a0_2 : ByteArray) (A0_3 : Option Addr) (c0_3 : Nat) (l0_3 : List (S29)) (A1 : Option Addr) (c1 : Nat) (l1 : List Int) (A2 : Option Addr) (c2 : Nat) (l2 : List ByteArray) (A3 : Option Addr) (c3 : Nat) (l3 : List Int) (r1 : Int) (r2 : Bool) (w : World) (hr0_3 : Kd.C k29 w A0_3 l0_3.length l0_3) (hc0_3 : l0_3.length ≤ c0_3) (hr1 : Kd.C (Kd.int .i64) w A1 l1.length l1) (hc1 : l1.length ≤ c1) (hr2 : Kd.C Kd.string w A2 l2.length l2) (hc2 : l2.length ≤ c2) (hr3 : Kd.C (Kd.int .i64) w A3 l3.length l3) (hc3 : l3.length ≤ c3) (h : impl_worth.f k a0_0 a0_1 a0_2 l0_3 l1 l2 l3 = some (r1, r2)),
  Calls Try.prog 52 #[.agg #[.int .i64 a0_0, .int .i64 a0_1, .string a0_2, .slice A0_3 l0_3.length c0_3], .slice A1 l1.length c1, .slice A2 l2.length c2, .slice A3 l3.length c3] w fun e w' => e = .returned (.tuple #[.int .i64 r1, .bool r2]) ∧ Below w.heap.size w w' := by
 induction k using Nat.strongRecOn with
 | _ k ih =>
 intro a0_0 a0_1 a0_2 A0_3 c0_3 l0_3 A1 c1 l1 A2 c2 l2 A3 c3 l3 r1 r2 w hr0_3 hc0_3 hr1 hc1 hr2 hc2 hr3 hc3 h
 cases k with
 | zero => exact absurd h (by simp [impl_worth.f])
 | succ k =>
 simp only [impl_worth.f] at h
 have hu29 := Try.underlying29
 have HR0_3 := A_ hr0_3
 have HC0_3 := A_ hc0_3
 clear hr0_3 hc0_3
 have HR1 := A_ hr1
 have HC1 := A_ hc1
 clear hr1 hc1
 have HR2 := A_ hr2
 have HC2 := A_ hc2
 clear hr2 hc2
 have HR3 := A_ hr3
 have HC3 := A_ hc3
 clear hr3 hc3
 have HB := A_ (Below.refl w.heap.size w)
 have H : (if a0_0 = 1 then (some (a0_1, true)) else (if a0_0 = 11 then (if a0_1 < (l1.length : Int) then (if 0 ≤ a0_1 then ((impl_Wrap.f (rd l1 a0_1)).bind fun t194 => (some (t194, true))) else (none)) else (some (0, false))) else (if a0_0 = 12 then ((impl_placeIn.f k l2 a0_2).bind fun t195 => ((impl_within.f t195 0 (wrap64 ((l3.length : Int) - 1))).bind fun t196 => (if t196 = true then (if 0 ≤ t195 then (if t195 < (l3.length : Int) then ((impl_Wrap.f (rd l3 t195)).bind fun t198 => (some (t198, true))) else (none)) else (none)) else (some (0, false))))) else (if a0_0 = 2 then (some (0, false)) else (if a0_0 = 3 then (some (0, false)) else (if 0 < (l0_3.length : Int) then ((impl_worth.f k ((rd_T29 l0_3 0).f0) ((rd_T29 l0_3 0).f1) ((rd_T29 l0_3 0).f2) ((rd_T29 l0_3 0).f3) l1 l2 l3).bind fun bt200 => (if bt200.2 = true then (if a0_0 = 4 then ((impl_Wrap.f (wrap64 (-bt200.1))).bind fun t202 => (some (t202, true))) else (if 1 < (l0_3.length : Int) then ((impl_worth.f k ((rd_T29 l0_3 1).f0) ((rd_T29 l0_3 1).f1) ((rd_T29 l0_3 1).f2) ((rd_T29 l0_3 1).f3) l1 l2 l3).bind fun bt204 => (if bt204.2 = true then ((impl_compute.f a0_0 bt200.1 bt204.1).bind fun bt206 => (some (bt206.1, bt206.2))) else (some (0, false)))) else (none))) else (some (0, false)))) else (none))))))) = some (r1, r2) := h
 clear h
 by_cases c5 : a0_0 = 1
 rw [if_pos c5] at H
 have c5b0 := beq_iff_eq.mpr c5
 have c5b1 := bne_eq_false_iff_eq.mpr c5
 clear c5
 simp only [Option.some.injEq, Prod.mk.injEq] at H
 obtain ⟨rfl, rfl⟩ := H
 rotate_left
 rw [if_neg c5] at H
 have c5b0 := beq_eq_false_iff_ne.mpr c5
 have c5b1 := bne_iff_ne.mpr c5
 by_cases c8 : a0_0 = 11
 rw [if_pos c8] at H
 have c8b0 := beq_iff_eq.mpr c8
 have c8b1 := bne_eq_false_iff_eq.mpr c8
 clear c8
 by_cases c9 : a0_1 < (l1.length : Int)
 rw [if_pos c9] at H
 have c9b0 := decide_eq_true c9
 clear c9
 by_cases c10 : 0 ≤ a0_1
 rw [if_pos c10] at H
 have c10b0 := decide_eq_true c10
 clear c10
 replace H := Option.bind_eq_some_iff.mp H
 obtain ⟨t194, A110, H⟩ := H
 try dsimp only at H
 have A11 := A_ A110
 clear A110
 simp only [Option.some.injEq, Prod.mk.injEq] at H
 obtain ⟨rfl, rfl⟩ := H
 rotate_left
 rw [if_neg c10] at H
 exact absurd H (by simp)
 rw [if_neg c9] at H
 have c9b0 := decide_eq_false c9
 clear c9
 simp only [Option.some.injEq, Prod.mk.injEq] at H
 obtain ⟨rfl, rfl⟩ := H
 rotate_left
 rw [if_neg c8] at H
 have c8b0 := beq_eq_false_iff_ne.mpr c8
 have c8b1 := bne_iff_ne.mpr c8
 by_cases c16 : a0_0 = 12
 rw [if_pos c16] at H
 have c16b0 := beq_iff_eq.mpr c16
 have c16b1 := bne_eq_false_iff_eq.mpr c16
 clear c16
 replace H := Option.bind_eq_some_iff.mp H
 obtain ⟨t195, A170, H⟩ := H
 try dsimp only at H
 have A17 := A_ A170
 clear A170
 replace H := Option.bind_eq_some_iff.mp H
 obtain ⟨t196, A180, H⟩ := H
 try dsimp only at H
 have A18 := A_ A180
 clear A180
 by_cases c19 : t196 = true
 subst c19
 rw [if_pos rfl] at H
 by_cases c20 : 0 ≤ t195
 rw [if_pos c20] at H
 have c20b0 := decide_eq_true c20
 clear c20
 by_cases c21 : t195 < (l3.length : Int)
 rw [if_pos c21] at H
 have c21b0 := decide_eq_true c21
 clear c21
 replace H := Option.bind_eq_some_iff.mp H
 obtain ⟨t198, A220, H⟩ := H
 try dsimp only at H
 have A22 := A_ A220
 clear A220
 simp only [Option.some.injEq, Prod.mk.injEq] at H
 obtain ⟨rfl, rfl⟩ := H
 rotate_left
 rw [if_neg c21] at H
 exact absurd H (by simp)
 rw [if_neg c20] at H
 exact absurd H (by simp)
 replace c19 := Bool.eq_false_iff.mpr c19
 subst c19
 rw [if_neg (show ¬ (false = true) by decide)] at H
 simp only [Option.some.injEq, Prod.mk.injEq] at H
 obtain ⟨rfl, rfl⟩ := H
 rotate_left
 rw [if_neg c16] at H
 have c16b0 := beq_eq_false_iff_ne.mpr c16
 have c16b1 := bne_iff_ne.mpr c16
 by_cases c27 : a0_0 = 2
 rw [if_pos c27] at H
 have c27b0 := beq_iff_eq.mpr c27
 have c27b1 := bne_eq_false_iff_eq.mpr c27
 clear c27
 simp only [Option.some.injEq, Prod.mk.injEq] at H
 obtain ⟨rfl, rfl⟩ := H
 rotate_left
 rw [if_neg c27] at H
 have c27b0 := beq_eq_false_iff_ne.mpr c27
 have c27b1 := bne_iff_ne.mpr c27
 by_cases c30 : a0_0 = 3
 rw [if_pos c30] at H
 have c30b0 := beq_iff_eq.mpr c30
 have c30b1 := bne_eq_false_iff_eq.mpr c30
 clear c30
 simp only [Option.some.injEq, Prod.mk.injEq] at H
 obtain ⟨rfl, rfl⟩ := H
 rotate_left
 rw [if_neg c30] at H
 have c30b0 := beq_eq_false_iff_ne.mpr c30
 have c30b1 := bne_iff_ne.mpr c30
 by_cases c33 : 0 < (l0_3.length : Int)
 rw [if_pos c33] at H
 have c33b0 := decide_eq_true c33
 have c33b1 : decide (0 < l0_3.length) = true := decide_eq_true (by omega)
 clear c33
 replace H := Option.bind_eq_some_iff.mp H
 obtain ⟨⟨t200, t201⟩, A340, H⟩ := H
 try dsimp only at H
 have A34 := A_ A340
 clear A340
 by_cases c35 : t201 = true
 subst c35
 rw [if_pos rfl] at H
 by_cases c36 : a0_0 = 4
 rw [if_pos c36] at H
 have c36b0 := beq_iff_eq.mpr c36
 have c36b1 := bne_eq_false_iff_eq.mpr c36
 clear c36
 replace H := Option.bind_eq_some_iff.mp H
 obtain ⟨t202, A370, H⟩ := H
 try dsimp only at H
 have A37 := A_ A370
 clear A370
 simp only [Option.some.injEq, Prod.mk.injEq] at H
 obtain ⟨rfl, rfl⟩ := H
 rotate_left
 rw [if_neg c36] at H
 have c36b0 := beq_eq_false_iff_ne.mpr c36
 have c36b1 := bne_iff_ne.mpr c36
 by_cases c42 : 1 < (l0_3.length : Int)
 rw [if_pos c42] at H
 have c42b0 := decide_eq_true c42
 have c42b1 : decide (1 < l0_3.length) = true := decide_eq_true (by omega)
 clear c42
 replace H := Option.bind_eq_some_iff.mp H
 obtain ⟨⟨t204, t205⟩, A430, H⟩ := H
 try dsimp only at H
 have A43 := A_ A430
 clear A430
 by_cases c44 : t205 = true
 subst c44
 rw [if_pos rfl] at H
 replace H := Option.bind_eq_some_iff.mp H
 obtain ⟨⟨t206, t207⟩, A450, H⟩ := H
 try dsimp only at H
 have A45 := A_ A450
 clear A450
 simp only [Option.some.injEq, Prod.mk.injEq] at H
 obtain ⟨rfl, rfl⟩ := H
 rotate_left
 replace c44 := Bool.eq_false_iff.mpr c44
 subst c44
 rw [if_neg (show ¬ (false = true) by decide)] at H
 simp only [Option.some.injEq, Prod.mk.injEq] at H
 obtain ⟨rfl, rfl⟩ := H
 rotate_left
 rw [if_neg c42] at H
 exact absurd H (by simp)
 replace c35 := Bool.eq_false_iff.mpr c35
 subst c35
 rw [if_neg (show ¬ (false = true) by decide)] at H
 simp only [Option.some.injEq, Prod.mk.injEq] at H
 obtain ⟨rfl, rfl⟩ := H
 rotate_left
 rw [if_neg c33] at H
 exact absurd H (by simp)
 all_goals go_enter Try.func52, Try.ntmps52
 all_goals go_wp2_with (first | ((with_reducible refine gate_dst (N := 4) rfl ?_); refine bx_ 4 #[.int .i64 a0_0, .int .i64 a0_1, .string a0_2, .slice A0_3 l0_3.length c0_3] 29 ?_; intro gb192 hg w38 hbox hb; have n0_ := A_ (below_step (bw_ HB.out) hb); have n1_ := A_ (hbox); have n2_ := A_ ((d9_ : w.heap.size ≤ gb192)); have n3_ := n2_; clear HB; have HB := n0_; have BK192 := n1_; have GW192 := n2_; have GE192 := n3_; have GI192 := GeI.mk GE192.out; clear n0_ n1_ n2_ n3_; clear hb hbox hg; obtain ⟨y39_0, y39_1, y39_2, y39_3, z39_0, z39_1, z39_2, z39_3⟩ := cz4_ BK192.out; have p199 : 0 ≤ (0 : Int) := (by omega); have q199 : 0 < (l0_3.length : Int) := of_decide_eq_true d5_; obtain ⟨ad199, A199_3, c199_3, e199, hx199_0, hx199_1, hx199_2, hx199_3, hl199_3, hi199_3⟩ := at_T29 HR0_3.out 0 p199 q199; cases e199; have qi199 : (0 < l0_3.length) = True := eq_true (by omega); (try rw [show ((0 : Int)).toNat = 0 from rfl] at hx199_0); (try rw [show 0 * 4 = 0 from rfl] at hx199_0); (try rw [Addr.add_zero'] at hx199_0); (try rw [show ((0 : Int)).toNat = 0 from rfl] at hx199_1); (try rw [show 0 * 4 = 0 from rfl] at hx199_1); (try rw [Addr.add_zero'] at hx199_1); (try rw [show ((0 : Int)).toNat = 0 from rfl] at hx199_2); (try rw [show 0 * 4 = 0 from rfl] at hx199_2); (try rw [Addr.add_zero'] at hx199_2); (try rw [show ((0 : Int)).toNat = 0 from rfl] at hx199_3); (try rw [show 0 * 4 = 0 from rfl] at hx199_3); (try rw [Addr.add_zero'] at hx199_3); replace hx199_0 := (HB.out.cell (World.block_lt_of_cell? w _ hx199_0)).trans hx199_0; replace hx199_1 := (HB.out.cell (World.block_lt_of_cell? w _ hx199_1)).trans hx199_1; replace hx199_2 := (HB.out.cell (World.block_lt_of_cell? w _ hx199_2)).trans hx199_2; replace hx199_3 := (HB.out.cell (World.block_lt_of_cell? w _ hx199_3)).trans hx199_3; have HR199_3 := A_ hi199_3; have HC199_3 := A_ hl199_3; clear hi199_3 hl199_3; replace p199 := eq_true p199; replace q199 := eq_true q199) | ((with_reducible refine gate_dst (N := 4) rfl ?_); refine bx_ 4 #[.int .i64 a0_0, .int .i64 a0_1, .string a0_2, .slice A0_3 l0_3.length c0_3] 29 ?_; intro gb192 hg w12 hbox hb; have n0_ := A_ (below_step (bw_ HB.out) hb); have n1_ := A_ (hbox); have n2_ := A_ ((d9_ : w.heap.size ≤ gb192)); have n3_ := n2_; clear HB; have HB := n0_; have BK192 := n1_; have GW192 := n2_; have GE192 := n3_; have GI192 := GeI.mk GE192.out; clear n0_ n1_ n2_ n3_; clear hb hbox hg; obtain ⟨y13_0, y13_1, y13_2, y13_3, z13_0, z13_1, z13_2, z13_3⟩ := cz4_ BK192.out; have p193 : 0 ≤ (a0_1 : Int) := of_decide_eq_true d5_; have q193 : a0_1 < (l1.length : Int) := of_decide_eq_true d5_; obtain ⟨ad193, e193, hx193_0⟩ := Kd.at_int HR1.out a0_1 p193 q193; cases e193; replace hx193_0 := (HB.out.cell (World.block_lt_of_cell? w _ hx193_0)).trans hx193_0; replace p193 := eq_true p193; replace q193 := eq_true q193) | ((with_reducible refine gate_dst (N := 4) rfl ?_); refine bx_ 4 #[.int .i64 a0_0, .int .i64 a0_1, .string a0_2, .slice A0_3 l0_3.length c0_3] 29 ?_; intro gb192 hg w6 hbox hb; have n0_ := A_ (below_step (bw_ HB.out) hb); have n1_ := A_ (hbox); have n2_ := A_ ((d9_ : w.heap.size ≤ gb192)); have n3_ := n2_; clear HB; have HB := n0_; have BK192 := n1_; have GW192 := n2_; have GE192 := n3_; have GI192 := GeI.mk GE192.out; clear n0_ n1_ n2_ n3_; clear hb hbox hg; obtain ⟨y7_0, y7_1, y7_2, y7_3, z7_0, z7_1, z7_2, z7_3⟩ := cz4_ BK192.out) | ((with_reducible refine gate_callee (f := 76) rfl ?_); refine gL_ (some 32) Try.func76 #[.int .i64 (rd l1 a0_1)] ?_; (with_reducible refine (impl_Wrap.calls (rd l1 a0_1) t194 _ A11.out).mono ?_); rintro e w' ⟨rfl, ⟨nd, rfl⟩⟩; refine ⟨_, rfl, ?_⟩) | ((with_reducible refine gate_callee (f := 77) rfl ?_); refine gL_ (some 38) Try.func77 #[.slice A2 l2.length c2, .string a0_2] ?_; (with_reducible refine (impl_placeIn.calls k _ _ l2 a0_2 t195 _ ?side1 ?side2 A17.out).mono ?_); (case side1 => exact Kd.C_below HR2.out (bw_ HB.out)); (case side2 => exact HC2.out); rintro e w' ⟨rfl, ⟨nd, rfl⟩⟩; refine ⟨_, rfl, ?_⟩) | ((with_reducible refine gate_callee (f := 70) rfl ?_); refine gL_ (some 43) Try.func70 #[.int .i64 t195, .int .i64 0, .int .i64 (wrap64 ((l3.length : Int) - 1))] ?_; (with_reducible refine (impl_within.calls t195 0 (wrap64 ((l3.length : Int) - 1)) true _ A18.out).mono ?_); rintro e w' ⟨rfl, ⟨nd, rfl⟩⟩; refine ⟨_, rfl, ?_⟩; have p197 : 0 ≤ (t195 : Int) := of_decide_eq_true d5_; have q197 : t195 < (l3.length : Int) := of_decide_eq_true d5_; obtain ⟨ad197, e197, hx197_0⟩ := Kd.at_int HR3.out t195 p197 q197; cases e197; replace hx197_0 := (HB.out.cell (World.block_lt_of_cell? w _ hx197_0)).trans hx197_0; replace p197 := eq_true p197; replace q197 := eq_true q197) | ((with_reducible refine gate_callee (f := 76) rfl ?_); refine gL_ (some 48) Try.func76 #[.int .i64 (rd l3 t195)] ?_; (with_reducible refine (impl_Wrap.calls (rd l3 t195) t198 _ A22.out).mono ?_); rintro e w' ⟨rfl, ⟨nd, rfl⟩⟩; refine ⟨_, rfl, ?_⟩) | ((with_reducible refine gate_callee (f := 70) rfl ?_); refine gL_ (some 43) Try.func70 #[.int .i64 t195, .int .i64 0, .int .i64 (wrap64 ((l3.length : Int) - 1))] ?_; (with_reducible refine (impl_within.calls t195 0 (wrap64 ((l3.length : Int) - 1)) false _ A18.out).mono ?_); rintro e w' ⟨rfl, ⟨nd, rfl⟩⟩; refine ⟨_, rfl, ?_⟩) | ((with_reducible refine gate_callee (f := 52) rfl ?_); refine gL_ (some 60) Try.func52 #[.agg #[.int .i64 ((rd_T29 l0_3 0).f0), .int .i64 ((rd_T29 l0_3 0).f1), .string ((rd_T29 l0_3 0).f2), .slice A199_3 ((rd_T29 l0_3 0).f3).length c199_3], .slice A1 l1.length c1, .slice A2 l2.length c2, .slice A3 l3.length c3] ?_; (with_reducible refine (ih k (by omega) ((rd_T29 l0_3 0).f0) ((rd_T29 l0_3 0).f1) ((rd_T29 l0_3 0).f2) _ _ ((rd_T29 l0_3 0).f3) _ _ l1 _ _ l2 _ _ l3 t200 true _ ?side1 ?side2 ?side3 ?side4 ?side5 ?side6 ?side7 ?side8 A34.out).mono ?_); (case side1 => exact Kd.C_below HR199_3.out (bw_ HB.out)); (case side2 => exact HC199_3.out); (case side3 => exact Kd.C_below HR1.out (bw_ HB.out)); (case side4 => exact HC1.out); (case side5 => exact Kd.C_below HR2.out (bw_ HB.out)); (case side6 => exact HC2.out); (case side7 => exact Kd.C_below HR3.out (bw_ HB.out)); (case side8 => exact HC3.out); rintro e w48 ⟨rfl, hb⟩; refine ⟨_, rfl, ?_⟩; replace BK192 := A_ (blk_below (bk_ BK192.out) hb); replace HB := A_ (below_step (bw_ HB.out) hb); clear hb; obtain ⟨y49_0, y49_1, y49_2, y49_3, z49_0, z49_1, z49_2, z49_3⟩ := cz4_ BK192.out; have p203 : 0 ≤ (1 : Int) := (by omega); have q203 : 1 < (l0_3.length : Int) := of_decide_eq_true d5_; obtain ⟨ad203, A203_3, c203_3, e203, hx203_0, hx203_1, hx203_2, hx203_3, hl203_3, hi203_3⟩ := at_T29 HR0_3.out 1 p203 q203; obtain rfl : ad199 = ad203 := (by injection e203); (try simp only [show (1 : Int).toNat = 1 from rfl, Nat.reduceMul, Nat.reduceEqDiff, Go.Addr.add, ↓reduceIte] at hx203_0); (try simp only [show (1 : Int).toNat = 1 from rfl, Nat.reduceMul, Nat.reduceEqDiff, Go.Addr.add, ↓reduceIte] at hx203_1); (try simp only [show (1 : Int).toNat = 1 from rfl, Nat.reduceMul, Nat.reduceEqDiff, Go.Addr.add, ↓reduceIte] at hx203_2); (try simp only [show (1 : Int).toNat = 1 from rfl, Nat.reduceMul, Nat.reduceEqDiff, Go.Addr.add, ↓reduceIte] at hx203_3); have qi203 : (1 < l0_3.length) = True := eq_true (by omega); (try rw [show ((1 : Int)).toNat = 1 from rfl] at hx203_0); (try rw [show 1 * 4 = 4 from rfl] at hx203_0); (try rw [show ((1 : Int)).toNat = 1 from rfl] at hx203_1); (try rw [show 1 * 4 = 4 from rfl] at hx203_1); (try rw [show ((1 : Int)).toNat = 1 from rfl] at hx203_2); (try rw [show 1 * 4 = 4 from rfl] at hx203_2); (try rw [show ((1 : Int)).toNat = 1 from rfl] at hx203_3); (try rw [show 1 * 4 = 4 from rfl] at hx203_3); replace hx203_0 := (HB.out.cell (World.block_lt_of_cell? w _ hx203_0)).trans hx203_0; replace hx203_1 := (HB.out.cell (World.block_lt_of_cell? w _ hx203_1)).trans hx203_1; replace hx203_2 := (HB.out.cell (World.block_lt_of_cell? w _ hx203_2)).trans hx203_2; replace hx203_3 := (HB.out.cell (World.block_lt_of_cell? w _ hx203_3)).trans hx203_3; have HR203_3 := A_ hi203_3; have HC203_3 := A_ hl203_3; clear hi203_3 hl203_3; replace p203 := eq_true p203; replace q203 := eq_true q203) | ((with_reducible refine gate_callee (f := 52) rfl ?_); refine gL_ (some 60) Try.func52 #[.agg #[.int .i64 ((rd_T29 l0_3 0).f0), .int .i64 ((rd_T29 l0_3 0).f1), .string ((rd_T29 l0_3 0).f2), .slice A199_3 ((rd_T29 l0_3 0).f3).length c199_3], .slice A1 l1.length c1, .slice A2 l2.length c2, .slice A3 l3.length c3] ?_; (with_reducible refine (ih k (by omega) ((rd_T29 l0_3 0).f0) ((rd_T29 l0_3 0).f1) ((rd_T29 l0_3 0).f2) _ _ ((rd_T29 l0_3 0).f3) _ _ l1 _ _ l2 _ _ l3 t200 true _ ?side1 ?side2 ?side3 ?side4 ?side5 ?side6 ?side7 ?side8 A34.out).mono ?_); (case side1 => exact Kd.C_below HR199_3.out (bw_ HB.out)); (case side2 => exact HC199_3.out); (case side3 => exact Kd.C_below HR1.out (bw_ HB.out)); (case side4 => exact HC1.out); (case side5 => exact Kd.C_below HR2.out (bw_ HB.out)); (case side6 => exact HC2.out); (case side7 => exact Kd.C_below HR3.out (bw_ HB.out)); (case side8 => exact HC3.out); rintro e w40 ⟨rfl, hb⟩; refine ⟨_, rfl, ?_⟩; replace BK192 := A_ (blk_below (bk_ BK192.out) hb); replace HB := A_ (below_step (bw_ HB.out) hb); clear hb; obtain ⟨y41_0, y41_1, y41_2, y41_3, z41_0, z41_1, z41_2, z41_3⟩ := cz4_ BK192.out) | ((with_reducible refine gate_callee (f := 76) rfl ?_); refine gL_ (some 70) Try.func76 #[.int .i64 (wrap64 (-t200))] ?_; (with_reducible refine (impl_Wrap.calls (wrap64 (-t200)) t202 _ A37.out).mono ?_); rintro e w' ⟨rfl, ⟨nd, rfl⟩⟩; refine ⟨_, rfl, ?_⟩) | ((with_reducible refine gate_callee (f := 52) rfl ?_); refine gL_ (some 79) Try.func52 #[.agg #[.int .i64 ((rd_T29 l0_3 1).f0), .int .i64 ((rd_T29 l0_3 1).f1), .string ((rd_T29 l0_3 1).f2), .slice A203_3 ((rd_T29 l0_3 1).f3).length c203_3], .slice A1 l1.length c1, .slice A2 l2.length c2, .slice A3 l3.length c3] ?_; (with_reducible refine (ih k (by omega) ((rd_T29 l0_3 1).f0) ((rd_T29 l0_3 1).f1) ((rd_T29 l0_3 1).f2) _ _ ((rd_T29 l0_3 1).f3) _ _ l1 _ _ l2 _ _ l3 t204 true _ ?side1 ?side2 ?side3 ?side4 ?side5 ?side6 ?side7 ?side8 A43.out).mono ?_); (case side1 => exact Kd.C_below HR203_3.out (bw_ HB.out)); (case side2 => exact HC203_3.out); (case side3 => exact Kd.C_below HR1.out (bw_ HB.out)); (case side4 => exact HC1.out); (case side5 => exact Kd.C_below HR2.out (bw_ HB.out)); (case side6 => exact HC2.out); (case side7 => exact Kd.C_below HR3.out (bw_ HB.out)); (case side8 => exact HC3.out); rintro e w50 ⟨rfl, hb⟩; refine ⟨_, rfl, ?_⟩; replace BK192 := A_ (blk_below (bk_ BK192.out) hb); replace HB := A_ (below_step (bw_ HB.out) hb); clear hb; obtain ⟨y51_0, y51_1, y51_2, y51_3, z51_0, z51_1, z51_2, z51_3⟩ := cz4_ BK192.out) | ((with_reducible refine gate_callee (f := 78) rfl ?_); refine gL_ (some 88) Try.func78 #[.int .i64 a0_0, .int .i64 t200, .int .i64 t204] ?_; (with_reducible refine (impl_compute.calls a0_0 t200 t204 t206 t207 _ A45.out).mono ?_); rintro e w' ⟨rfl, ⟨nd, rfl⟩⟩; refine ⟨_, rfl, ?_⟩) | ((with_reducible refine gate_callee (f := 52) rfl ?_); refine gL_ (some 79) Try.func52 #[.agg #[.int .i64 ((rd_T29 l0_3 1).f0), .int .i64 ((rd_T29 l0_3 1).f1), .string ((rd_T29 l0_3 1).f2), .slice A203_3 ((rd_T29 l0_3 1).f3).length c203_3], .slice A1 l1.length c1, .slice A2 l2.length c2, .slice A3 l3.length c3] ?_; (with_reducible refine (ih k (by omega) ((rd_T29 l0_3 1).f0) ((rd_T29 l0_3 1).f1) ((rd_T29 l0_3 1).f2) _ _ ((rd_T29 l0_3 1).f3) _ _ l1 _ _ l2 _ _ l3 t204 false _ ?side1 ?side2 ?side3 ?side4 ?side5 ?side6 ?side7 ?side8 A43.out).mono ?_); (case side1 => exact Kd.C_below HR203_3.out (bw_ HB.out)); (case side2 => exact HC203_3.out); (case side3 => exact Kd.C_below HR1.out (bw_ HB.out)); (case side4 => exact HC1.out); (case side5 => exact Kd.C_below HR2.out (bw_ HB.out)); (case side6 => exact HC2.out); (case side7 => exact Kd.C_below HR3.out (bw_ HB.out)); (case side8 => exact HC3.out); rintro e w56 ⟨rfl, hb⟩; refine ⟨_, rfl, ?_⟩; replace BK192 := A_ (blk_below (bk_ BK192.out) hb); replace HB := A_ (below_step (bw_ HB.out) hb); clear hb) | ((with_reducible refine gate_callee (f := 52) rfl ?_); refine gL_ (some 60) Try.func52 #[.agg #[.int .i64 ((rd_T29 l0_3 0).f0), .int .i64 ((rd_T29 l0_3 0).f1), .string ((rd_T29 l0_3 0).f2), .slice A199_3 ((rd_T29 l0_3 0).f3).length c199_3], .slice A1 l1.length c1, .slice A2 l2.length c2, .slice A3 l3.length c3] ?_; (with_reducible refine (ih k (by omega) ((rd_T29 l0_3 0).f0) ((rd_T29 l0_3 0).f1) ((rd_T29 l0_3 0).f2) _ _ ((rd_T29 l0_3 0).f3) _ _ l1 _ _ l2 _ _ l3 t200 false _ ?side1 ?side2 ?side3 ?side4 ?side5 ?side6 ?side7 ?side8 A34.out).mono ?_); (case side1 => exact Kd.C_below HR199_3.out (bw_ HB.out)); (case side2 => exact HC199_3.out); (case side3 => exact Kd.C_below HR1.out (bw_ HB.out)); (case side4 => exact HC1.out); (case side5 => exact Kd.C_below HR2.out (bw_ HB.out)); (case side6 => exact HC2.out); (case side7 => exact Kd.C_below HR3.out (bw_ HB.out)); (case side8 => exact HC3.out); rintro e w59 ⟨rfl, hb⟩; refine ⟨_, rfl, ?_⟩; replace BK192 := A_ (blk_below (bk_ BK192.out) hb); replace HB := A_ (below_step (bw_ HB.out) hb); clear hb))
 ·go_ret2
  exact rt_ (bw_ HB.out)
 ·go_ret2
  exact rt_ (bw_ HB.out)
 ·go_ret2
  exact rt_ (bw_ HB.out)
 ·go_ret2
  exact rt_ (bw_ HB.out)
 ·go_ret2
  exact rt_ (bw_ HB.out)
 ·go_ret2
  exact rt_ (bw_ HB.out)
 ·go_ret2
  exact rt_ (bw_ HB.out)
 ·go_ret2
  exact rt_ (bw_ HB.out)
 ·go_ret2
  exact rt_ (bw_ HB.out)
 ·go_ret2
  exact rt_ (bw_ HB.out)
 ·go_ret2
  exact rt_ (bw_ HB.out)

/-! ### impl_Worth: function 28 -/
def impl_Worth.f (k : Nat) (a0_0 : Int) (a0_1 : Int) (a0_2 : ByteArray) (l0_3 : List (S29)) (l1 : List Int) (l2 : List ByteArray) (l3 : List Int) : Option (Int × Bool) := (impl_ExprOk.f k a0_0 a0_1 a0_2 l0_3).bind fun t209 => (if t209 = true then ((impl_worth.f k a0_0 a0_1 a0_2 l0_3 l1 l2 l3).bind fun bt210 => (some (bt210.1, bt210.2))) else (some (0, false)))
theorem impl_Worth.mono : ∀ a0 a1 a2 a3 a4 a5 a6 k, LeO (impl_Worth.f k a0 a1 a2 a3 a4 a5 a6) (impl_Worth.f (k + 1) a0 a1 a2 a3 a4 a5 a6) := by
 intro a0 a1 a2 a3 a4 a5 a6 k
 unfold impl_Worth.f
 repeat' first
   | (with_reducible exact impl_ExprOk.mono _ _ _ _ _)
   | (with_reducible exact impl_worth.mono _ _ _ _ _ _ _ _)
   | (with_reducible exact LeO.refl _)
   | (with_reducible exact LeO.none _)
   | (with_reducible refine LeO.ite ?_ ?_)
   | (with_reducible refine LeO.bind ?_ (fun _ => ?_))
   | exact impl_ExprOk.mono _ _ _ _ _
   | exact impl_worth.mono _ _ _ _ _ _ _ _
   | exact LeO.none _
   | refine LeO.ite ?_ ?_
   | refine LeO.bind ?_ (fun _ => ?_)
set_option maxHeartbeats 8000000 in
set_option maxRecDepth 100000 in
theorem impl_Worth.calls (k : Nat) (a0_0 : Int) (a0_1 : Int) (a0_2 : ByteArray) (A0_3 : Option Addr) (c0_3 : Nat) (l0_3 : List (S29)) (A1 : Option Addr) (c1 : Nat) (l1 : List Int) (A2 : Option Addr) (c2 : Nat) (l2 : List ByteArray) (A3 : Option Addr) (c3 : Nat) (l3 : List Int) (r1 : Int) (r2 : Bool) (w : World) (hr0_3 : Kd.C k29 w A0_3 l0_3.length l0_3) (hc0_3 : l0_3.length ≤ c0_3) (hr1 : Kd.C (Kd.int .i64) w A1 l1.length l1) (hc1 : l1.length ≤ c1) (hr2 : Kd.C Kd.string w A2 l2.length l2) (hc2 : l2.length ≤ c2) (hr3 : Kd.C (Kd.int .i64) w A3 l3.length l3) (hc3 : l3.length ≤ c3) (h : impl_Worth.f k a0_0 a0_1 a0_2 l0_3 l1 l2 l3 = some (r1, r2)) :
  Calls Try.prog 28 #[.agg #[.int .i64 a0_0, .int .i64 a0_1, .string a0_2, .slice A0_3 l0_3.length c0_3], .slice A1 l1.length c1, .slice A2 l2.length c2, .slice A3 l3.length c3] w fun e w' => e = .returned (.tuple #[.int .i64 r1, .bool r2]) ∧ Below w.heap.size w w' := by
 have hu29 := Try.underlying29
 have HR0_3 := A_ hr0_3
 have HC0_3 := A_ hc0_3
 clear hr0_3 hc0_3
 have HR1 := A_ hr1
 have HC1 := A_ hc1
 clear hr1 hc1
 have HR2 := A_ hr2
 have HC2 := A_ hc2
 clear hr2 hc2
 have HR3 := A_ hr3
 have HC3 := A_ hc3
 clear hr3 hc3
 have HB := A_ (Below.refl w.heap.size w)
 have H : ((impl_ExprOk.f k a0_0 a0_1 a0_2 l0_3).bind fun t209 => (if t209 = true then ((impl_worth.f k a0_0 a0_1 a0_2 l0_3 l1 l2 l3).bind fun bt210 => (some (bt210.1, bt210.2))) else (some (0, false)))) = some (r1, r2) := h
 clear h
 replace H := Option.bind_eq_some_iff.mp H
 obtain ⟨t209, A50, H⟩ := H
 try dsimp only at H
 have A5 := A_ A50
 clear A50
 by_cases c6 : t209 = true
 ·subst c6
  rw [if_pos rfl] at H
  replace H := Option.bind_eq_some_iff.mp H
  obtain ⟨⟨t210, t211⟩, A70, H⟩ := H
  try dsimp only at H
  have A7 := A_ A70
  clear A70
  simp only [Option.some.injEq, Prod.mk.injEq] at H
  obtain ⟨rfl, rfl⟩ := H
  go_enter Try.func28, Try.ntmps28
  go_wp2_with (first | ((with_reducible refine gate_dst (N := 4) rfl ?_); refine bx_ 4 #[.int .i64 a0_0, .int .i64 a0_1, .string a0_2, .slice A0_3 l0_3.length c0_3] 29 ?_; intro gb208 hg w8 hbox hb; have n0_ := A_ (below_step (bw_ HB.out) hb); have n1_ := A_ (hbox); have n2_ := A_ ((d9_ : w.heap.size ≤ gb208)); have n3_ := n2_; clear HB; have HB := n0_; have BK208 := n1_; have GW208 := n2_; have GE208 := n3_; have GI208 := GeI.mk GE208.out; clear n0_ n1_ n2_ n3_; clear hb hbox hg; obtain ⟨y9_0, y9_1, y9_2, y9_3, z9_0, z9_1, z9_2, z9_3⟩ := cz4_ BK208.out) | ((with_reducible refine gate_callee (f := 18) rfl ?_); refine gL_ (some 11) Try.func18 #[.agg #[.int .i64 a0_0, .int .i64 a0_1, .string a0_2, .slice A0_3 l0_3.length c0_3]] ?_; (with_reducible refine (impl_ExprOk.calls k a0_0 a0_1 a0_2 _ _ l0_3 true _ ?side1 ?side2 A5.out).mono ?_); (case side1 => exact Kd.C_below HR0_3.out (bw_ HB.out)); (case side2 => exact HC0_3.out); rintro e w10 ⟨rfl, hb⟩; refine ⟨_, rfl, ?_⟩; replace BK208 := A_ (blk_below (bk_ BK208.out) hb); replace HB := A_ (below_step (bw_ HB.out) hb); clear hb; obtain ⟨y11_0, y11_1, y11_2, y11_3, z11_0, z11_1, z11_2, z11_3⟩ := cz4_ BK208.out) | ((with_reducible refine gate_callee (f := 52) rfl ?_); refine gL_ (some 17) Try.func52 #[.agg #[.int .i64 a0_0, .int .i64 a0_1, .string a0_2, .slice A0_3 l0_3.length c0_3], .slice A1 l1.length c1, .slice A2 l2.length c2, .slice A3 l3.length c3] ?_; (with_reducible refine (impl_worth.calls k a0_0 a0_1 a0_2 _ _ l0_3 _ _ l1 _ _ l2 _ _ l3 t210 t211 _ ?side1 ?side2 ?side3 ?side4 ?side5 ?side6 ?side7 ?side8 A7.out).mono ?_); (case side1 => exact Kd.C_below HR0_3.out (bw_ HB.out)); (case side2 => exact HC0_3.out); (case side3 => exact Kd.C_below HR1.out (bw_ HB.out)); (case side4 => exact HC1.out); (case side5 => exact Kd.C_below HR2.out (bw_ HB.out)); (case side6 => exact HC2.out); (case side7 => exact Kd.C_below HR3.out (bw_ HB.out)); (case side8 => exact HC3.out); rintro e w12 ⟨rfl, hb⟩; refine ⟨_, rfl, ?_⟩; replace BK208 := A_ (blk_below (bk_ BK208.out) hb); replace HB := A_ (below_step (bw_ HB.out) hb); clear hb))
  go_ret2
  exact rt_ (bw_ HB.out)
 ·replace c6 := Bool.eq_false_iff.mpr c6
  subst c6
  rw [if_neg (show ¬ (false = true) by decide)] at H
  simp only [Option.some.injEq, Prod.mk.injEq] at H
  obtain ⟨rfl, rfl⟩ := H
  go_enter Try.func28, Try.ntmps28
  go_wp2_with (first | ((with_reducible refine gate_dst (N := 4) rfl ?_); refine bx_ 4 #[.int .i64 a0_0, .int .i64 a0_1, .string a0_2, .slice A0_3 l0_3.length c0_3] 29 ?_; intro gb208 hg w13 hbox hb; have n0_ := A_ (below_step (bw_ HB.out) hb); have n1_ := A_ (hbox); have n2_ := A_ ((d9_ : w.heap.size ≤ gb208)); have n3_ := n2_; clear HB; have HB := n0_; have BK208 := n1_; have GW208 := n2_; have GE208 := n3_; have GI208 := GeI.mk GE208.out; clear n0_ n1_ n2_ n3_; clear hb hbox hg; obtain ⟨y14_0, y14_1, y14_2, y14_3, z14_0, z14_1, z14_2, z14_3⟩ := cz4_ BK208.out) | ((with_reducible refine gate_callee (f := 18) rfl ?_); refine gL_ (some 11) Try.func18 #[.agg #[.int .i64 a0_0, .int .i64 a0_1, .string a0_2, .slice A0_3 l0_3.length c0_3]] ?_; (with_reducible refine (impl_ExprOk.calls k a0_0 a0_1 a0_2 _ _ l0_3 false _ ?side1 ?side2 A5.out).mono ?_); (case side1 => exact Kd.C_below HR0_3.out (bw_ HB.out)); (case side2 => exact HC0_3.out); rintro e w15 ⟨rfl, hb⟩; refine ⟨_, rfl, ?_⟩; replace BK208 := A_ (blk_below (bk_ BK208.out) hb); replace HB := A_ (below_step (bw_ HB.out) hb); clear hb))
  go_ret2
  exact rt_ (bw_ HB.out)

/-! ### spec_l11Copy: function 57 -/
mutual
def spec_l11Copy.l0 : Nat → Int → Int → Int → ByteArray → List (S29) → Int → Int → ByteArray → List (S29) → Option (Int × Int × ByteArray × (List (S29)))
 | 0, _, _, _, _, _, _, _, _, _ => none
 | k + 1, x4, x213000, x213001, x213002, x213003, x215000, x215001, x215002, x215003 => if x4 < (x213003.length : Int) then (if 0 ≤ x4 then ((spec_l11Copy.f k ((rd_T29 x213003 x4).f0) ((rd_T29 x213003 x4).f1) ((rd_T29 x213003 x4).f2) ((rd_T29 x213003 x4).f3)).bind fun bt216 => (if x215003.length < 2513169434916 then (spec_l11Copy.l0 k (wrap64 (x4 + 1)) x213000 x213001 x213002 x213003 x215000 x215001 x215002 (x215003 ++ [(⟨bt216.1, bt216.2.1, bt216.2.2.1, bt216.2.2.2⟩ : S29)])) else (none))) else (none)) else (some (x215000, x215001, x215002, x215003))
def spec_l11Copy.f : Nat → Int → Int → ByteArray → List (S29) → Option (Int × Int × ByteArray × (List (S29)))
 | 0, _, _, _, _ => none
 | k + 1, a0_0, a0_1, a0_2, l0_3 => spec_l11Copy.l0 k 0 a0_0 a0_1 a0_2 l0_3 a0_0 a0_1 a0_2 ([] : List (S29))
end
theorem spec_l11Copy.mono_l : ∀ k, (∀ y0 y1 y2 y3, LeO (spec_l11Copy.f k y0 y1 y2 y3) (spec_l11Copy.f (k + 1) y0 y1 y2 y3)) ∧ (∀ y0 y1 y2 y3 y4 y5 y6 y7 y8, LeO (spec_l11Copy.l0 k y0 y1 y2 y3 y4 y5 y6 y7 y8) (spec_l11Copy.l0 (k + 1) y0 y1 y2 y3 y4 y5 y6 y7 y8))
 | 0 => ⟨fun _ _ _ _ r h => by simp [spec_l11Copy.f] at h, fun _ _ _ _ _ _ _ _ _ r h => by simp [spec_l11Copy.l0] at h⟩
 | k + 1 => by
  obtain ⟨ih0, ih1⟩ := spec_l11Copy.mono_l k
  refine ⟨?_, ?_⟩
  ·intro y0 y1 y2 y3
   unfold spec_l11Copy.f
   repeat' first
   | (with_reducible exact ih0 _ _ _ _)
   | (with_reducible exact ih1 _ _ _ _ _ _ _ _ _)
   | (with_reducible exact LeO.refl _)
   | (with_reducible exact LeO.none _)
   | (with_reducible refine LeO.ite ?_ ?_)
   | (with_reducible refine LeO.bind ?_ (fun _ => ?_))
   | exact ih0 _ _ _ _
   | exact ih1 _ _ _ _ _ _ _ _ _
   | exact LeO.none _
   | refine LeO.ite ?_ ?_
   | refine LeO.bind ?_ (fun _ => ?_)
  ·intro y0 y1 y2 y3 y4 y5 y6 y7 y8
   unfold spec_l11Copy.l0
   repeat' first
   | (with_reducible exact ih0 _ _ _ _)
   | (with_reducible exact ih1 _ _ _ _ _ _ _ _ _)
   | (with_reducible exact LeO.refl _)
   | (with_reducible exact LeO.none _)
   | (with_reducible refine LeO.ite ?_ ?_)
   | (with_reducible refine LeO.bind ?_ (fun _ => ?_))
   | exact ih0 _ _ _ _
   | exact ih1 _ _ _ _ _ _ _ _ _
   | exact LeO.none _
   | refine LeO.ite ?_ ?_
   | refine LeO.bind ?_ (fun _ => ?_)
theorem spec_l11Copy.mono : ∀ a0 a1 a2 a3 k, LeO (spec_l11Copy.f k a0 a1 a2 a3) (spec_l11Copy.f (k + 1) a0 a1 a2 a3) := by
 intro a0 a1 a2 a3 k
 obtain ⟨ih0, ih1⟩ := spec_l11Copy.mono_l k
 exact ih0 a0 a1 a2 a3
set_option maxHeartbeats 8000000 in
set_option maxRecDepth 100000 in
theorem spec_l11Copy.calls (k : Nat) : ∀ (a0_0 : Int) (a0_1 : Int) (a0_2 : ByteArray) (A0_3 : Option Addr) (c0_3 : Nat) (l0_3 : List (S29)) (r1 : Int) (r2 : Int) (r3 : ByteArray) (r4 : List (S29)) (w : World) (hr0_3 : Kd.C k29 w A0_3 l0_3.length l0_3) (hc0_3 : l0_3.length ≤ c0_3) (h : spec_l11Copy.f k a0_0 a0_1 a0_2 l0_3 = some (r1, r2, r3, r4)),
  Calls Try.prog 57 #[.agg #[.int .i64 a0_0, .int .i64 a0_1, .string a0_2, .slice A0_3 l0_3.length c0_3]] w fun e w' => ∃ v3_ : Value, e = .returned (.agg #[.int .i64 r1, .int .i64 r2, .string r3, v3_]) ∧ Kd.R k29 29 w' w.heap.size (fun _ => True) v3_ r4 ∧ Below w.heap.size w w' := by
 induction k using Nat.strongRecOn with
 | _ k ih =>
 intro a0_0 a0_1 a0_2 A0_3 c0_3 l0_3 r1 r2 r3 r4 w hr0_3 hc0_3 h
 cases k with
 | zero => exact absurd h (by simp [spec_l11Copy.f])
 | succ k =>
 simp only [spec_l11Copy.f] at h
 have hu29 := Try.underlying29
 have HR0_3 := A_ hr0_3
 have HC0_3 := A_ hc0_3
 clear hr0_3 hc0_3
 have HB := A_ (Below.refl w.heap.size w)
 have H : (spec_l11Copy.l0 k 0 a0_0 a0_1 a0_2 l0_3 a0_0 a0_1 a0_2 ([] : List (S29))) = some (r1, r2, r3, r4) := h
 clear h
 have H' := A_ H
 clear H
 go_enter Try.func57, Try.ntmps57
 go_wp2_with (first | ((with_reducible refine gate_dst (N := 1) rfl ?_); refine bx_ 1 #[.int .i64 a0_0, .int .i64 a0_1, .string a0_2, .slice A0_3 l0_3.length c0_3] 29 ?_; intro gb212 hg w2 hbox hb; have n0_ := A_ (below_step (bw_ HB.out) hb); have n1_ := A_ (hbox); have n2_ := A_ ((d9_ : w.heap.size ≤ gb212)); have n3_ := n2_; clear HB; have HB := n0_; have BK212 := n1_; have GW212 := n2_; have GE212 := n3_; have GI212 := GeI.mk GE212.out; clear n0_ n1_ n2_ n3_; clear hb hbox hg) | ((with_reducible refine gate_dst (N := 2) rfl ?_); refine bx_ 2 #[.int .i64 0, .int .i64 0, .string (⟨#[]⟩ : ByteArray), .slice none 0 0] 29 ?_; intro gb213 hg w3 hbox hb; have n0_ := A_ (blk_below (bk_ BK212.out) hb); have n1_ := A_ (below_step (bw_ HB.out) hb); have n2_ := A_ (hbox); have n3_ := A_ ((d9_ : w.heap.size ≤ gb213)); have n4_ := n3_; have n5_ := A_ ((by rw [hg]; exact Nat.ne_of_lt (blk_lt (bk_ BK212.out)) : gb212 ≠ gb213)); have n6_ := A_ n5_.out.symm; clear BK212; clear HB; have BK212 := n0_; have HB := n1_; have BK213 := n2_; have GW213 := n3_; have GE213 := n4_; have GI213 := GeI.mk GE213.out; have NB212_213 := n5_; have NB213_212 := n6_; clear n0_ n1_ n2_ n3_ n4_ n5_ n6_; clear hb hbox hg; have hnb4 := NB212_213.out; have hnc4 := NB213_212.out; obtain ⟨y5_0, y5_1, y5_2, y5_3, z5_0, z5_1, z5_2, z5_3⟩ := cz4_ BK212.out) | ((with_reducible refine gate_dst (N := 3) rfl ?_); refine bx_ 3 #[.int .i64 0, .int .i64 0, .string (⟨#[]⟩ : ByteArray), .slice none 0 0] 29 ?_; intro gb214 hg w6 hbox hb; have n0_ := A_ (blk_below (bk_ BK212.out) hb); have n1_ := A_ (blk_below (bk_ BK213.out) hb); have n2_ := A_ (below_step (bw_ HB.out) hb); have n3_ := A_ (hbox); have n4_ := A_ ((d9_ : w.heap.size ≤ gb214)); have n5_ := n4_; have n6_ := A_ ((by rw [hg]; exact Nat.ne_of_lt (blk_lt (bk_ BK212.out)) : gb212 ≠ gb214)); have n7_ := A_ n6_.out.symm; have n8_ := A_ ((by rw [hg]; exact Nat.ne_of_lt (blk_lt (bk_ BK213.out)) : gb213 ≠ gb214)); have n9_ := A_ n8_.out.symm; clear BK212; clear BK213; clear HB; have BK212 := n0_; have BK213 := n1_; have HB := n2_; have BK214 := n3_; have GW214 := n4_; have GE214 := n5_; have GI214 := GeI.mk GE214.out; have NB212_214 := n6_; have NB214_212 := n7_; have NB213_214 := n8_; have NB214_213 := n9_; clear n0_ n1_ n2_ n3_ n4_ n5_ n6_ n7_ n8_ n9_; clear hb hbox hg; have hnb7 := NB214_212.out; have hnc7 := NB212_214.out; have hnb8 := NB214_213.out; have hnc8 := NB213_214.out; obtain ⟨y9_0, y9_1, y9_2, y9_3, z9_0, z9_1, z9_2, z9_3⟩ := cz4_ BK214.out))
 go_loopg [4] k (fun kq v4 w' => ∃ (x4_1 : Int) (x215003_1 : List (S29)) (u215003 : Value), v4 = .int .i64 x4_1 ∧ Aside0 (spec_l11Copy.l0 kq x4_1 a0_0 a0_1 a0_2 l0_3 a0_0 a0_1 a0_2 x215003_1 = some (r1, r2, r3, r4)) ∧ Aside0 (kq ≤ k) ∧ Aside0 (Kd.R k29 29 w' w.heap.size (fun k_ => k_ ≠ gb212 ∧ k_ ≠ gb213 ∧ k_ ≠ gb214) u215003 x215003_1) ∧ Aside0 (w'.heap[gb212]? = some (.cells #[.int .i64 a0_0, .int .i64 a0_1, .string a0_2, (.slice A0_3 l0_3.length c0_3)] 29 (0, 0))) ∧ Aside0 (w'.heap[gb213]? = some (.cells #[.int .i64 0, .int .i64 0, .string (⟨#[]⟩ : ByteArray), (.slice none 0 0)] 29 (0, 0))) ∧ Aside0 (w'.heap[gb214]? = some (.cells #[.int .i64 a0_0, .int .i64 a0_1, .string a0_2, u215003] 29 (0, 0))) ∧ Aside0 (Below w.heap.size w w'))
 case atStart => exact ⟨(0), (([] : List (S29))), (.slice none 0 0), d7_, H', ⟨Nat.le_refl _⟩, ⟨by first | exact Kd.R_nil _ _ _ _ _ | exact Kd.N_nil _ _ _ _ _ | exact Kd.V_nil _ _ _ _ _ | exact Kd.Q_nil _ _ _ _ _ | exact Kd.S_nil _ _ _ _ _⟩, ⟨by refine bk_ ?_; refine blk_far ?_ NB212_214.out _; refine bk_ ?_; refine blk_far ?_ NB212_214.out _; refine bk_ ?_; refine blk_far ?_ NB212_214.out _; refine bk_ ?_; refine blk_far ?_ NB212_214.out _; refine bk_ ?_; exact BK212.out⟩, ⟨by refine bk_ ?_; refine blk_far ?_ NB213_214.out _; refine bk_ ?_; refine blk_far ?_ NB213_214.out _; refine bk_ ?_; refine blk_far ?_ NB213_214.out _; refine bk_ ?_; refine blk_far ?_ NB213_214.out _; refine bk_ ?_; exact BK213.out⟩, ⟨by exact bk_ (bp4_ (bk_ BK214.out))⟩, ⟨bw_ HB.out⟩⟩
 case round =>
  clear H'
  try clear p2
  try clear c4
  try clear c5
  try clear c7
  try clear c8
  try clear y5_0 y5_1 y5_2 y5_3 z5_0 z5_1 z5_2 z5_3
  try clear y9_0 y9_1 y9_2 y9_3 z9_0 z9_1 z9_2 z9_3
  obtain ⟨x4_1, x215003_1, u215003, rfl, HA, HK1, HO_215003, BK212, BK213, BK214, HB⟩ := hrel
  cases gk with
  | zero => exact absurd HA.out (by simp [spec_l11Copy.l0])
  | succ k1 =>
   have H := HA.out
   clear HA
   simp only [spec_l11Copy.l0] at H
   by_cases c10 : x4_1 < (l0_3.length : Int)
   ·rw [if_pos c10] at H
    have c10b0 := decide_eq_true c10
    clear c10
    by_cases c11 : 0 ≤ x4_1
    ·rw [if_pos c11] at H
     have c11b0 := decide_eq_true c11
     clear c11
     replace H := Option.bind_eq_some_iff.mp H
     obtain ⟨⟨t216, t217, t218, t219⟩, A120, H⟩ := H
     try dsimp only at H
     have A12 := A_ A120
     clear A120
     by_cases c13 : x215003_1.length < 2513169434916
     ·rw [if_pos c13] at H
      have LMc13 := A_ c13
      clear c13
      obtain ⟨y223, hy223⟩ : ∃ y_ : List (S29), y_ = (x215003_1 ++ [(⟨t216, t217, t218, t219⟩ : S29)]) := ⟨_, rfl⟩
      replace H : (spec_l11Copy.l0 k1 (wrap64 (x4_1 + 1)) a0_0 a0_1 a0_2 l0_3 a0_0 a0_1 a0_2 y223) = some (r1, r2, r3, r4) := by first | (rw [hy223]; with_reducible exact H) | (have H2_ := (Option.bind_some _ _).symm.trans H; rw [hy223]; with_reducible exact H2_) | (have H2_ := (Option.bind_some _ _).symm.trans H; with_reducible exact H2_) | with_reducible exact H | (rw [hy223]; exact H) | exact H
      have Ny223 := A_ hy223
      clear hy223
      have H' := A_ H
      clear H
      have hnb14 := NB212_213.out
      have hnc14 := NB213_212.out
      have hnb15 := NB212_214.out
      have hnc15 := NB214_212.out
      obtain ⟨y16_0, y16_1, y16_2, y16_3, z16_0, z16_1, z16_2, z16_3⟩ := cz4_ BK212.out
      have p215 : 0 ≤ (x4_1 : Int) := of_decide_eq_true d5_
      have q215 : x4_1 < (l0_3.length : Int) := of_decide_eq_true d5_
      obtain ⟨ad215, A215_3, c215_3, e215, hx215_0, hx215_1, hx215_2, hx215_3, hl215_3, hi215_3⟩ := at_T29 HR0_3.out x4_1 p215 q215
      cases e215
      replace hx215_0 := (HB.out.cell (World.block_lt_of_cell? w _ hx215_0)).trans hx215_0
      replace hx215_1 := (HB.out.cell (World.block_lt_of_cell? w _ hx215_1)).trans hx215_1
      replace hx215_2 := (HB.out.cell (World.block_lt_of_cell? w _ hx215_2)).trans hx215_2
      replace hx215_3 := (HB.out.cell (World.block_lt_of_cell? w _ hx215_3)).trans hx215_3
      have HR215_3 := A_ hi215_3
      have HC215_3 := A_ hl215_3
      clear hi215_3 hl215_3
      replace p215 := eq_true p215
      replace q215 := eq_true q215
      go_wp2_with (first | ((with_reducible refine gate_callee (f := 57) rfl ?_); refine gL_ (some 25) Try.func57 #[.agg #[.int .i64 ((rd_T29 l0_3 x4_1).f0), .int .i64 ((rd_T29 l0_3 x4_1).f1), .string ((rd_T29 l0_3 x4_1).f2), .slice A215_3 ((rd_T29 l0_3 x4_1).f3).length c215_3]] ?_; (with_reducible refine (ih k1 (by have := HK1.out; omega) ((rd_T29 l0_3 x4_1).f0) ((rd_T29 l0_3 x4_1).f1) ((rd_T29 l0_3 x4_1).f2) _ _ ((rd_T29 l0_3 x4_1).f3) t216 t217 t218 t219 _ ?side1 ?side2 A12.out).mono ?_); (case side1 => exact Kd.C_below HR215_3.out (bw_ HB.out)); (case side2 => exact HC215_3.out); rintro e w17 ⟨v220, rfl, ho0, hb⟩; refine ⟨_, rfl, ?_⟩; have HO221 := A_ (Kd.R_lower (Kd.R_newB (Kd.R_newB (Kd.R_newB (Kd.R_new' ho0 (Kd.R_lt (kr_ HO_215003.out))) (bk_ BK212.out)) (bk_ BK213.out)) (bk_ BK214.out)) (below_size (bw_ HB.out))); replace HO_215003 := A_ (Kd.R_elder' (kr_ HO_215003.out) (Kd.R_base ho0) hb); replace BK212 := A_ (blk_below (bk_ BK212.out) hb); replace BK213 := A_ (blk_below (bk_ BK213.out) hb); replace BK214 := A_ (blk_below (bk_ BK214.out) hb); replace HB := A_ (below_step (bw_ HB.out) hb); clear hb; (try clear ho0)) | ((with_reducible refine gate_dst (N := 5) rfl ?_); refine bx_ 5 #[.int .i64 0, .int .i64 0, .string (⟨#[]⟩ : ByteArray), .slice none 0 0] 29 ?_; intro gb222 hg w18 hbox hb; have n0_ := A_ (Kd.R_below (Kd.R_elderB (kr_ HO_215003.out) gb222 (Nat.le_of_eq hg.symm)) hb); have n1_ := A_ (Kd.R_below (Kd.R_elderB (kr_ HO221.out) gb222 (Nat.le_of_eq hg.symm)) hb); have n2_ := A_ (blk_below (bk_ BK212.out) hb); have n3_ := A_ (blk_below (bk_ BK213.out) hb); have n4_ := A_ (blk_below (bk_ BK214.out) hb); have n5_ := A_ (below_step (bw_ HB.out) hb); have n6_ := A_ (hbox); have n7_ := A_ ((d9_ : w.heap.size ≤ gb222)); have n8_ := n7_; have n9_ := A_ ((by rw [hg]; exact Nat.ne_of_lt (blk_lt (bk_ BK212.out)) : gb212 ≠ gb222)); have n10_ := A_ n9_.out.symm; have n11_ := A_ ((by rw [hg]; exact Nat.ne_of_lt (blk_lt (bk_ BK213.out)) : gb213 ≠ gb222)); have n12_ := A_ n11_.out.symm; have n13_ := A_ ((by rw [hg]; exact Nat.ne_of_lt (blk_lt (bk_ BK214.out)) : gb214 ≠ gb222)); have n14_ := A_ n13_.out.symm; clear HO_215003; clear HO221; clear BK212; clear BK213; clear BK214; clear HB; have HO_215003 := n0_; have HO221 := n1_; have BK212 := n2_; have BK213 := n3_; have BK214 := n4_; have HB := n5_; have BK222 := n6_; have GW222 := n7_; have GE222 := n8_; have GI222 := GeI.mk GE222.out; have NB212_222 := n9_; have NB222_212 := n10_; have NB213_222 := n11_; have NB222_213 := n12_; have NB214_222 := n13_; have NB222_214 := n14_; clear n0_ n1_ n2_ n3_ n4_ n5_ n6_ n7_ n8_ n9_ n10_ n11_ n12_ n13_ n14_; clear hb hbox hg; have hnb19 := NB222_212.out; have hnc19 := NB212_222.out; have hnb20 := NB222_213.out; have hnc20 := NB213_222.out; have hnb21 := NB222_214.out; have hnc21 := NB214_222.out; obtain ⟨y22_0, y22_1, y22_2, y22_3, z22_0, z22_1, z22_2, z22_3⟩ := cz4_ BK222.out; obtain ⟨Ao23, co23, eo23⟩ := Kd.R_slice HO221.out; subst eo23) | ((with_reducible refine gate_store (t := 29) (p := 5) rfl ?_); refine store_event (t := 29) (p := 5) (v := ?vo_w24) (w1 := ((((w18.setCell ⟨gb222, 0, none⟩ (.int .i64 t216)).setCell ⟨gb222, 1, none⟩ (.int .i64 t217)).setCell ⟨gb222, 2, none⟩ (.string t218)).setCell ⟨gb222, 3, none⟩ (.slice Ao23 t219.length co23))) ?hg ?ho ?hn ?hr ?_; (case ho => rfl); (case hg => rfl); (case hn => rfl); (case hr => first | (go_simp; done) | (go_simp; rfl)); intro w24 hw; have n0_ : Aside0 (Kd.R k29 29 w24 w.heap.size (fun k_ => some k_ ≠ (.slice Ao23 t219.length co23 : Value).ownBlock ∧ k_ ≠ gb212 ∧ k_ ≠ gb213 ∧ k_ ≠ gb214 ∧ k_ ≠ gb222) u215003 x215003_1) := ⟨(by rw [hw]; exact (kr_ (Kd.R_mono (rf4_ (Kd.R_mono HO_215003.out (fun k_ hk => (⟨hk, hk.2⟩ : _ ∧ k_ ≠ gb222))) (fun _ hk => hk.2)) (fun _ hk => ⟨hk.1.1.2, ⟨hk.1.1.1.1, ⟨hk.1.1.1.2.1, ⟨hk.1.1.1.2.2, hk.1.2⟩⟩⟩⟩))))⟩; have n1_ : Aside0 (Kd.R k29 29 w24 w.heap.size (fun k_ => some k_ ≠ (u215003 : Value).ownBlock ∧ k_ ≠ gb212 ∧ k_ ≠ gb213 ∧ k_ ≠ gb214 ∧ k_ ≠ gb222) (.slice Ao23 t219.length co23) t219) := ⟨(by rw [hw]; exact (kr_ (Kd.R_mono (rf4_ (Kd.R_mono HO221.out (fun k_ hk => (⟨hk, hk.2⟩ : _ ∧ k_ ≠ gb222))) (fun _ hk => hk.2)) (fun _ hk => ⟨hk.1.1.1.1.1.2, ⟨hk.1.1.1.1.2, ⟨hk.1.1.1.2, ⟨hk.1.1.2, hk.1.2⟩⟩⟩⟩))))⟩; have n2_ : Aside0 (w24.heap[gb212]? = some (.cells #[.int .i64 a0_0, .int .i64 a0_1, .string a0_2, .slice (some ad215) l0_3.length c0_3] 29 (0, 0))) := ⟨(by rw [hw]; exact (by refine bk_ ?_; refine blk_far ?_ NB212_222.out _; refine bk_ ?_; refine blk_far ?_ NB212_222.out _; refine bk_ ?_; refine blk_far ?_ NB212_222.out _; refine bk_ ?_; refine blk_far ?_ NB212_222.out _; refine bk_ ?_; exact BK212.out))⟩; have n3_ : Aside0 (w24.heap[gb213]? = some (.cells #[.int .i64 0, .int .i64 0, .string (⟨#[]⟩ : ByteArray), .slice none 0 0] 29 (0, 0))) := ⟨(by rw [hw]; exact (by refine bk_ ?_; refine blk_far ?_ NB213_222.out _; refine bk_ ?_; refine blk_far ?_ NB213_222.out _; refine bk_ ?_; refine blk_far ?_ NB213_222.out _; refine bk_ ?_; refine blk_far ?_ NB213_222.out _; refine bk_ ?_; exact BK213.out))⟩; have n4_ : Aside0 (w24.heap[gb214]? = some (.cells #[.int .i64 a0_0, .int .i64 a0_1, .string a0_2, u215003] 29 (0, 0))) := ⟨(by rw [hw]; exact (by refine bk_ ?_; refine blk_far ?_ NB214_222.out _; refine bk_ ?_; refine blk_far ?_ NB214_222.out _; refine bk_ ?_; refine blk_far ?_ NB214_222.out _; refine bk_ ?_; refine blk_far ?_ NB214_222.out _; refine bk_ ?_; exact BK214.out))⟩; have n5_ : Aside0 (w24.heap[gb222]? = some (.cells #[.int .i64 t216, .int .i64 t217, .string t218, .slice Ao23 t219.length co23] 29 (0, 0))) := ⟨(by rw [hw]; exact (by exact bk_ (bp4_ (bk_ BK222.out))))⟩; have n6_ : Aside0 (Below w.heap.size w w24) := ⟨(by rw [hw]; exact (bw_ HB.out))⟩; clear hw; clear HO_215003; clear HO221; clear BK212; clear BK213; clear BK214; clear BK222; clear HB; have HO_215003 := n0_; have HO221 := n1_; have BK212 := n2_; have BK213 := n3_; have BK214 := n4_; have BK222 := n5_; have HB := n6_; clear n0_ n1_ n2_ n3_ n4_ n5_ n6_; have hnb25 := NB214_213.out; have hnc25 := NB213_214.out; obtain ⟨y26_0, y26_1, y26_2, y26_3, z26_0, z26_1, z26_2, z26_3⟩ := cz4_ BK214.out; obtain ⟨y27_0, y27_1, y27_2, y27_3, z27_0, z27_1, z27_2, z27_3⟩ := cz4_ BK222.out) | ((with_reducible refine gate_builtin (b := .append) (xs := #[.tmp 27, .tmp 29]) rfl ?_); at_builtin; refine Kd.R_append k29 (w0 := w) w.heap.size rfl (.tmp 27) (.tmp 29) 27 29 (.agg #[(.int .i64 0), (.int .i64 0), (.string ⟨#[]⟩), (.slice none 0 0)]) 56 rfl Try.underlying27 info29 rfl (by decide) (by omega) u215003 x215003_1 (⟨t216, t217, t218, t219⟩ : S29) [.int .i64 t216, .int .i64 t217, .string t218, .slice Ao23 t219.length co23] (fun k_ => k_ ≠ gb212 ∧ k_ ≠ gb213 ∧ k_ ≠ gb214 ∧ k_ ≠ gb222) (fun k_ => ((fun k_ => k_ ≠ gb212 ∧ k_ ≠ gb213 ∧ k_ ≠ gb214 ∧ k_ ≠ gb222)) k_ ∧ some k_ ≠ (u215003 : Value).ownBlock) rfl rfl ?aP (fun _ hk => hk) ?aF ?aO ?aB ?aS ?aL ?_; (case aP => exact k29_mkM _ _ _ (⟨t216, t217, t218, t219⟩ : S29) (Kd.R_mono (HO221.out) (fun k_ hk => ⟨⟨hk.2.1, ⟨hk.2.2.1, ⟨hk.2.2.2.1, hk.2.2.2.2⟩⟩⟩, hk.1⟩))); (case aB => exact (bw_ HB.out)); (case aF => exact (fun k_ hk => ⟨Kd.freshB (bk_ BK212.out) k_ hk, Kd.freshB (bk_ BK213.out) k_ hk, Kd.freshB (bk_ BK214.out) k_ hk, Kd.freshB (bk_ BK222.out) k_ hk⟩)); (case aO => exact (kr_ (Kd.R_mono HO_215003.out (fun _ hk => ⟨hk.2.1, ⟨hk.2.2.1, ⟨hk.2.2.2.1, hk.2.2.2.2⟩⟩⟩)))); (case aS => exact (below_size (bw_ HB.out))); (case aL => have := LMc13.out; omega); intro v224 w28 ho hb hg hat; rw [← Ny223.out] at ho; have n0_ := A_ (blk_grown (bk_ BK212.out) hg (Kd.R_away HO_215003.out (fun _ hk => hk.2.1))); have n1_ := A_ (blk_grown (bk_ BK213.out) hg (Kd.R_away HO_215003.out (fun _ hk => hk.2.2.1))); have n2_ := A_ (blk_grown (bk_ BK214.out) hg (Kd.R_away HO_215003.out (fun _ hk => hk.2.2.2.1))); have n3_ := A_ (blk_grown (bk_ BK222.out) hg (Kd.R_away HO_215003.out (fun _ hk => hk.2.2.2.2))); have n4_ := A_ (hb); have n5_ := A_ (ho); clear BK212; clear BK213; clear BK214; clear BK222; clear HB; clear HO_215003; clear HO221; have BK212 := n0_; have BK213 := n1_; have BK214 := n2_; have BK222 := n3_; have HB := n4_; have HO225 := n5_; clear n0_ n1_ n2_ n3_ n4_ n5_; clear ho hb hg hat; obtain ⟨Ao29, co29, eo29⟩ := Kd.R_slice HO225.out; subst eo29; obtain ⟨y30_0, y30_1, y30_2, y30_3, z30_0, z30_1, z30_2, z30_3⟩ := cz4_ BK214.out))
      go_roundg k1
      case measure => have := HK1.out; omega
      case rel => exact ⟨(wrap64 (x4_1 + 1)), (y223), (.slice Ao29 y223.length co29), d7_, H', ⟨by have := HK1.out; omega⟩, ⟨kr_ (Kd.R_mono (Kd.R_far (p := ⟨gb214, 3, none⟩) (Kd.R_mono HO225.out (fun k_ hk => (⟨hk, hk.2.2.1⟩ : _ ∧ k_ ≠ gb214))) (fun _ hk => hk.2) (.slice Ao29 y223.length co29)) (fun _ hk => ⟨hk.1.1, ⟨hk.1.2.1, hk.1.2.2.1⟩⟩))⟩, ⟨by refine bk_ ?_; refine blk_far ?_ NB212_214.out _; refine bk_ ?_; exact BK212.out⟩, ⟨by refine bk_ ?_; refine blk_far ?_ NB213_214.out _; refine bk_ ?_; exact BK213.out⟩, ⟨by refine bk_ ?_; refine blk_put (cs := #[.int .i64 a0_0, .int .i64 a0_1, .string a0_2, u215003]) ?_ 3 _ rfl; refine bk_ ?_; exact BK214.out⟩, ⟨bw_ HB.out⟩⟩
     ·rw [if_neg c13] at H
      exact absurd H (by simp)
    ·rw [if_neg c11] at H
     exact absurd H (by simp)
   ·rw [if_neg c10] at H
    have c10b0 := decide_eq_false c10
    clear c10
    simp only [Option.some.injEq, Prod.mk.injEq] at H
    obtain ⟨rfl, rfl, rfl, rfl⟩ := H
    have hnb31 := NB212_213.out
    have hnc31 := NB213_212.out
    have hnb32 := NB212_214.out
    have hnc32 := NB214_212.out
    obtain ⟨y33_0, y33_1, y33_2, y33_3, z33_0, z33_1, z33_2, z33_3⟩ := cz4_ BK212.out
    have hnb34 := NB214_213.out
    have hnc34 := NB213_214.out
    obtain ⟨y35_0, y35_1, y35_2, y35_3, z35_0, z35_1, z35_2, z35_3⟩ := cz4_ BK214.out
    obtain ⟨y36_0, y36_1, y36_2, y36_3, z36_0, z36_1, z36_2, z36_3⟩ := cz4_ BK213.out
    obtain ⟨Ao37, co37, eo37⟩ := Kd.R_slice HO_215003.out
    subst eo37
    go_wp2
    refine bodyPost_ret (results_cell_row rfl _ _ gb213 29 #[.int .i64 a0_0, .int .i64 a0_1, .string a0_2, .slice Ao37 x215003_1.length co37] (0, 0) _ rfl ?hb_ Try.underlying29 rfl (by kernel_rfl)) rfl ?_
    (case hb_ => exact bk_ (bp4_ (bk_ BK213.out)))
    exact ⟨_, by first | rfl | (simp [errW_none, errW_some] <;> rfl) | (simp [*, errW_none, errW_some] <;> rfl), kr_ (Kd.R_mono (rf4_ (Kd.R_mono HO_215003.out (fun k_ hk => (⟨hk, hk.2.1⟩ : _ ∧ k_ ≠ gb213))) (fun _ hk => hk.2)) (fun _ hk => trivial)), bw_ HB.out⟩

end Go.Proofs.Ytcpnhlhigpgonaa.PFnPutIn
