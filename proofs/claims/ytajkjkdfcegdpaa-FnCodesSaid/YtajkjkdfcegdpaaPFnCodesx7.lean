-- Laid by a program of this session (a changed copy of the kit's printer); Lean checks every line.
import Derived.Test.YtajkjkdfcegdpaaPFnCodesx0
import Derived.Test.YtajkjkdfcegdpaaPFnCodesx3
import Derived.Test.YtajkjkdfcegdpaaPFnCodesx4
namespace Go.Proofs.Ytajkjkdfcegdpaa.PFnCodes
open Go.RowKit Go.Proofs.YtajkjkdfcegdpaaW.PrintWords Go.Proofs.YtajkjkdfcegdpaaW.PrintLast Go.Proofs.YtajkjkdfcegdpaaW.PrintMore
attribute [local go_sem] max2_int min2_int max_two min_two max_three min_three max_four min_four   -- for this text's walks alone
set_option linter.unusedVariables false
set_option linter.unusedSimpArgs false

/-! ### impl_opOf: function 47 -/
mutual
def impl_opOf.l0 : Nat → Int → Int → Option (Int)
 | 0, _, _ => none
 | k + 1, x0, x3 => if x3 ≤ 23 then ((impl_hasSrc.f x3).bind fun t219 => (if t219 = true then ((impl_baseOf.f x3).bind fun t220 => (if (Go.bits .andNot .i64 x0 4095) = t220 then (some x3) else (impl_opOf.l0 k x0 (wrap64 (x3 + 1))))) else (if x3 = 15 then ((impl_baseOf.f x3).bind fun t221 => (if (Go.bits .andNot .i64 x0 511) = t221 then (some x3) else (impl_opOf.l0 k x0 (wrap64 (x3 + 1))))) else ((impl_hasDst.f x3).bind fun t222 => (if t222 = true then ((impl_baseOf.f x3).bind fun t223 => (if (Go.bits .andNot .i64 x0 63) = t223 then (some x3) else (impl_opOf.l0 k x0 (wrap64 (x3 + 1))))) else (if x3 = 16 then ((impl_baseOf.f x3).bind fun t224 => (if (Go.bits .andNot .i64 x0 7) = t224 then (some x3) else (impl_opOf.l0 k x0 (wrap64 (x3 + 1))))) else ((impl_isBranch.f x3).bind fun t225 => (if t225 = true then (impl_opOf.j1 k x0 x3 0 true) else (impl_opOf.j1 k x0 x3 0 (x3 == 23)))))))))) else (some 0)
def impl_opOf.j1 : Nat → Int → Int → Int → Bool → Option (Int)
 | 0, _, _, _, _ => none
 | k + 1, x0, x3, x4, x21 => if x21 = true then ((impl_baseOf.f x3).bind fun t226 => (if (Go.bits .andNot .i64 x0 255) = t226 then (some x3) else (impl_opOf.l0 k x0 (wrap64 (x3 + 1))))) else ((impl_baseOf.f x3).bind fun t227 => (if (Go.bits .andNot .i64 x0 x4) = t227 then (some x3) else (impl_opOf.l0 k x0 (wrap64 (x3 + 1)))))
end
def impl_opOf.f (k : Nat) (a0 : Int) : Option (Int) := impl_opOf.l0 k a0 1
theorem impl_opOf.mono_l : ∀ k, (∀ y0 y1, LeO (impl_opOf.l0 k y0 y1) (impl_opOf.l0 (k + 1) y0 y1)) ∧ (∀ y0 y1 y2 y3, LeO (impl_opOf.j1 k y0 y1 y2 y3) (impl_opOf.j1 (k + 1) y0 y1 y2 y3))
 | 0 => ⟨fun _ _ r h => by simp [impl_opOf.l0] at h, fun _ _ _ _ r h => by simp [impl_opOf.j1] at h⟩
 | k + 1 => by
  obtain ⟨ih0, ih1⟩ := impl_opOf.mono_l k
  refine ⟨?_, ?_⟩
  ·intro y0 y1
   unfold impl_opOf.l0
   repeat' first
   | (with_reducible exact ih0 _ _)
   | (with_reducible exact ih1 _ _ _ _)
   | (with_reducible exact LeO.refl _)
   | (with_reducible exact LeO.none _)
   | (with_reducible refine LeO.ite ?_ ?_)
   | (with_reducible refine LeO.bind ?_ (fun _ => ?_))
   | exact ih0 _ _
   | exact ih1 _ _ _ _
   | exact LeO.none _
   | refine LeO.ite ?_ ?_
   | refine LeO.bind ?_ (fun _ => ?_)
  ·intro y0 y1 y2 y3
   unfold impl_opOf.j1
   repeat' first
   | (with_reducible exact ih0 _ _)
   | (with_reducible exact ih1 _ _ _ _)
   | (with_reducible exact LeO.refl _)
   | (with_reducible exact LeO.none _)
   | (with_reducible refine LeO.ite ?_ ?_)
   | (with_reducible refine LeO.bind ?_ (fun _ => ?_))
   | exact ih0 _ _
   | exact ih1 _ _ _ _
   | exact LeO.none _
   | refine LeO.ite ?_ ?_
   | refine LeO.bind ?_ (fun _ => ?_)
theorem impl_opOf.mono : ∀ a0 k, LeO (impl_opOf.f k a0) (impl_opOf.f (k + 1) a0) := by
 intro a0 k
 obtain ⟨ih0, ih1⟩ := impl_opOf.mono_l k
 unfold impl_opOf.f
 repeat' first
   | (with_reducible exact ih0 _ _)
   | (with_reducible exact ih1 _ _ _ _)
   | (with_reducible exact LeO.refl _)
   | (with_reducible exact LeO.none _)
   | (with_reducible refine LeO.ite ?_ ?_)
   | (with_reducible refine LeO.bind ?_ (fun _ => ?_))
   | exact ih0 _ _
   | exact ih1 _ _ _ _
   | exact LeO.none _
   | refine LeO.ite ?_ ?_
   | refine LeO.bind ?_ (fun _ => ?_)
set_option maxHeartbeats 8000000 in
set_option maxRecDepth 100000 in
theorem impl_opOf.calls (k : Nat) (a0 : Int) (r : Int) (w : World) (h : impl_opOf.f k a0 = some r) :
  Calls Try.prog 47 #[.int .i64 a0] w fun e w' => e = .returned (.int .i64 r) ∧ Below w.heap.size w w' := by
 have HB := Aside0.mk (Below.refl w.heap.size w)
 have H : (impl_opOf.l0 k a0 1) = some r := h
 clear h
 have H' := Aside0.mk H
 clear H
 go_enter Try.func47, Try.ntmps47
 go_wp2
 go_loopg [3] k (fun kq v3 w' => ∃ (x3_1 : Int), v3 = .int .i64 x3_1 ∧ Aside0 (impl_opOf.l0 kq a0 x3_1 = some r) ∧ Aside0 (kq ≤ k) ∧ Aside0 (Below w.heap.size w w'))
 case atStart => exact ⟨(1), (by first | rfl | (simp; done) | (simp [*]; done) | (simp [wrap64]; done)), H', ⟨Nat.le_refl _⟩, ⟨bw_ HB.out⟩⟩
 case round =>
  clear H'
  obtain ⟨x3_1, rfl, HA, HK1, HB⟩ := hrel
  cases gk with
  | zero => exact absurd HA.out (by simp [impl_opOf.l0])
  | succ k1 =>
   have H := HA.out
   clear HA
   simp only [impl_opOf.l0] at H
   by_cases c2 : x3_1 ≤ 23
   ·rw [if_pos c2] at H
    have c2b0 : decide (x3_1 ≤ 23) = true := decide_eq_true c2
    clear c2
    replace H := Option.bind_eq_some_iff.mp H
    obtain ⟨t219, A30, H⟩ := H
    try dsimp only at H
    have A3 := Aside0.mk A30
    clear A30
    by_cases c4 : t219 = true
    ·subst c4
     rw [if_pos rfl] at H
     replace H := Option.bind_eq_some_iff.mp H
     obtain ⟨t220, A50, H⟩ := H
     try dsimp only at H
     have A5 := Aside0.mk A50
     clear A50
     by_cases c6 : (Go.bits .andNot .i64 a0 4095) = t220
     ·rw [if_pos c6] at H
      have c6b0 : ((Go.bits .andNot .i64 a0 4095) == t220) = true := beq_iff_eq.mpr c6
      have c6b1 : ((Go.bits .andNot .i64 a0 4095) != t220) = false := bne_eq_false_iff_eq.mpr c6
      clear c6
      obtain rfl := Option.some.inj H
      go_wp2_with (first | ((with_reducible refine gate_callee (f := 39) rfl ?_); refine gL_ (some 11) Try.func39 #[.int .i64 x3_1] ?_; (with_reducible refine (impl_hasSrc.calls x3_1 true _ A3.out).mono ?_); rintro e w' ⟨rfl, ⟨nd, rfl⟩⟩; refine ⟨_, rfl, ?_⟩) | ((with_reducible refine gate_callee (f := 57) rfl ?_); refine gL_ (some 32) Try.func57 #[.int .i64 x3_1] ?_; (with_reducible refine (impl_baseOf.calls x3_1 t220 _ A5.out).mono ?_); rintro e w7 ⟨rfl, hb⟩; refine ⟨_, rfl, ?_⟩; have n0_ := Aside0.mk (below_step (bw_ HB.out) hb); clear HB; have HB := n0_; clear n0_; (try clear hb); (try clear hb2); (try clear hk); (try clear hi)))
      go_ret
      exact rt_ (bw_ HB.out)
     ·rw [if_neg c6] at H
      have c6b0 : ((Go.bits .andNot .i64 a0 4095) == t220) = false := beq_eq_false_iff_ne.mpr c6
      have c6b1 : ((Go.bits .andNot .i64 a0 4095) != t220) = true := bne_iff_ne.mpr c6
      have H' := Aside0.mk H
      clear H
      go_wp2_with (first | ((with_reducible refine gate_callee (f := 39) rfl ?_); refine gL_ (some 11) Try.func39 #[.int .i64 x3_1] ?_; (with_reducible refine (impl_hasSrc.calls x3_1 true _ A3.out).mono ?_); rintro e w' ⟨rfl, ⟨nd, rfl⟩⟩; refine ⟨_, rfl, ?_⟩) | ((with_reducible refine gate_callee (f := 57) rfl ?_); refine gL_ (some 32) Try.func57 #[.int .i64 x3_1] ?_; (with_reducible refine (impl_baseOf.calls x3_1 t220 _ A5.out).mono ?_); rintro e w8 ⟨rfl, hb⟩; refine ⟨_, rfl, ?_⟩; have n0_ := Aside0.mk (below_step (bw_ HB.out) hb); clear HB; have HB := n0_; clear n0_; (try clear hb); (try clear hb2); (try clear hk); (try clear hi)))
      go_roundg k1
      case measure => have := HK1.out; omega
      case rel => exact ⟨(wrap64 (x3_1 + 1)), (by first | rfl | (simp; done) | (simp [*]; done) | (simp [wrap64]; done)), H', ⟨by have := HK1.out; omega⟩, ⟨bw_ HB.out⟩⟩
    ·replace c4 := Bool.eq_false_iff.mpr c4
     subst c4
     rw [if_neg (show ¬ (false = true) by decide)] at H
     by_cases c9 : x3_1 = 15
     ·rw [if_pos c9] at H
      have c9b0 : (x3_1 == 15) = true := beq_iff_eq.mpr c9
      have c9b1 : (x3_1 != 15) = false := bne_eq_false_iff_eq.mpr c9
      clear c9
      replace H := Option.bind_eq_some_iff.mp H
      obtain ⟨t221, A100, H⟩ := H
      try dsimp only at H
      have A10 := Aside0.mk A100
      clear A100
      by_cases c11 : (Go.bits .andNot .i64 a0 511) = t221
      ·rw [if_pos c11] at H
       have c11b0 : ((Go.bits .andNot .i64 a0 511) == t221) = true := beq_iff_eq.mpr c11
       have c11b1 : ((Go.bits .andNot .i64 a0 511) != t221) = false := bne_eq_false_iff_eq.mpr c11
       clear c11
       obtain rfl := Option.some.inj H
       go_wp2_with (first | ((with_reducible refine gate_callee (f := 39) rfl ?_); refine gL_ (some 11) Try.func39 #[.int .i64 x3_1] ?_; (with_reducible refine (impl_hasSrc.calls x3_1 false _ A3.out).mono ?_); rintro e w' ⟨rfl, ⟨nd, rfl⟩⟩; refine ⟨_, rfl, ?_⟩) | ((with_reducible refine gate_callee (f := 57) rfl ?_); refine gL_ (some 32) Try.func57 #[.int .i64 x3_1] ?_; (with_reducible refine (impl_baseOf.calls x3_1 t221 _ A10.out).mono ?_); rintro e w12 ⟨rfl, hb⟩; refine ⟨_, rfl, ?_⟩; have n0_ := Aside0.mk (below_step (bw_ HB.out) hb); clear HB; have HB := n0_; clear n0_; (try clear hb); (try clear hb2); (try clear hk); (try clear hi)))
       go_ret
       exact rt_ (bw_ HB.out)
      ·rw [if_neg c11] at H
       have c11b0 : ((Go.bits .andNot .i64 a0 511) == t221) = false := beq_eq_false_iff_ne.mpr c11
       have c11b1 : ((Go.bits .andNot .i64 a0 511) != t221) = true := bne_iff_ne.mpr c11
       have H' := Aside0.mk H
       clear H
       go_wp2_with (first | ((with_reducible refine gate_callee (f := 39) rfl ?_); refine gL_ (some 11) Try.func39 #[.int .i64 x3_1] ?_; (with_reducible refine (impl_hasSrc.calls x3_1 false _ A3.out).mono ?_); rintro e w' ⟨rfl, ⟨nd, rfl⟩⟩; refine ⟨_, rfl, ?_⟩) | ((with_reducible refine gate_callee (f := 57) rfl ?_); refine gL_ (some 32) Try.func57 #[.int .i64 x3_1] ?_; (with_reducible refine (impl_baseOf.calls x3_1 t221 _ A10.out).mono ?_); rintro e w13 ⟨rfl, hb⟩; refine ⟨_, rfl, ?_⟩; have n0_ := Aside0.mk (below_step (bw_ HB.out) hb); clear HB; have HB := n0_; clear n0_; (try clear hb); (try clear hb2); (try clear hk); (try clear hi)))
       go_roundg k1
       case measure => have := HK1.out; omega
       case rel => exact ⟨(wrap64 (x3_1 + 1)), (by first | rfl | (simp; done) | (simp [*]; done) | (simp [wrap64]; done)), H', ⟨by have := HK1.out; omega⟩, ⟨bw_ HB.out⟩⟩
     ·rw [if_neg c9] at H
      have c9b0 : (x3_1 == 15) = false := beq_eq_false_iff_ne.mpr c9
      have c9b1 : (x3_1 != 15) = true := bne_iff_ne.mpr c9
      replace H := Option.bind_eq_some_iff.mp H
      obtain ⟨t222, A140, H⟩ := H
      try dsimp only at H
      have A14 := Aside0.mk A140
      clear A140
      by_cases c15 : t222 = true
      ·subst c15
       rw [if_pos rfl] at H
       replace H := Option.bind_eq_some_iff.mp H
       obtain ⟨t223, A160, H⟩ := H
       try dsimp only at H
       have A16 := Aside0.mk A160
       clear A160
       by_cases c17 : (Go.bits .andNot .i64 a0 63) = t223
       ·rw [if_pos c17] at H
        have c17b0 : ((Go.bits .andNot .i64 a0 63) == t223) = true := beq_iff_eq.mpr c17
        have c17b1 : ((Go.bits .andNot .i64 a0 63) != t223) = false := bne_eq_false_iff_eq.mpr c17
        clear c17
        obtain rfl := Option.some.inj H
        go_wp2_with (first | ((with_reducible refine gate_callee (f := 39) rfl ?_); refine gL_ (some 11) Try.func39 #[.int .i64 x3_1] ?_; (with_reducible refine (impl_hasSrc.calls x3_1 false _ A3.out).mono ?_); rintro e w' ⟨rfl, ⟨nd, rfl⟩⟩; refine ⟨_, rfl, ?_⟩) | ((with_reducible refine gate_callee (f := 40) rfl ?_); refine gL_ (some 17) Try.func40 #[.int .i64 x3_1] ?_; (with_reducible refine (impl_hasDst.calls x3_1 true _ A14.out).mono ?_); rintro e w' ⟨rfl, ⟨nd, rfl⟩⟩; refine ⟨_, rfl, ?_⟩) | ((with_reducible refine gate_callee (f := 57) rfl ?_); refine gL_ (some 32) Try.func57 #[.int .i64 x3_1] ?_; (with_reducible refine (impl_baseOf.calls x3_1 t223 _ A16.out).mono ?_); rintro e w18 ⟨rfl, hb⟩; refine ⟨_, rfl, ?_⟩; have n0_ := Aside0.mk (below_step (bw_ HB.out) hb); clear HB; have HB := n0_; clear n0_; (try clear hb); (try clear hb2); (try clear hk); (try clear hi)))
        go_ret
        exact rt_ (bw_ HB.out)
       ·rw [if_neg c17] at H
        have c17b0 : ((Go.bits .andNot .i64 a0 63) == t223) = false := beq_eq_false_iff_ne.mpr c17
        have c17b1 : ((Go.bits .andNot .i64 a0 63) != t223) = true := bne_iff_ne.mpr c17
        have H' := Aside0.mk H
        clear H
        go_wp2_with (first | ((with_reducible refine gate_callee (f := 39) rfl ?_); refine gL_ (some 11) Try.func39 #[.int .i64 x3_1] ?_; (with_reducible refine (impl_hasSrc.calls x3_1 false _ A3.out).mono ?_); rintro e w' ⟨rfl, ⟨nd, rfl⟩⟩; refine ⟨_, rfl, ?_⟩) | ((with_reducible refine gate_callee (f := 40) rfl ?_); refine gL_ (some 17) Try.func40 #[.int .i64 x3_1] ?_; (with_reducible refine (impl_hasDst.calls x3_1 true _ A14.out).mono ?_); rintro e w' ⟨rfl, ⟨nd, rfl⟩⟩; refine ⟨_, rfl, ?_⟩) | ((with_reducible refine gate_callee (f := 57) rfl ?_); refine gL_ (some 32) Try.func57 #[.int .i64 x3_1] ?_; (with_reducible refine (impl_baseOf.calls x3_1 t223 _ A16.out).mono ?_); rintro e w19 ⟨rfl, hb⟩; refine ⟨_, rfl, ?_⟩; have n0_ := Aside0.mk (below_step (bw_ HB.out) hb); clear HB; have HB := n0_; clear n0_; (try clear hb); (try clear hb2); (try clear hk); (try clear hi)))
        go_roundg k1
        case measure => have := HK1.out; omega
        case rel => exact ⟨(wrap64 (x3_1 + 1)), (by first | rfl | (simp; done) | (simp [*]; done) | (simp [wrap64]; done)), H', ⟨by have := HK1.out; omega⟩, ⟨bw_ HB.out⟩⟩
      ·replace c15 := Bool.eq_false_iff.mpr c15
       subst c15
       rw [if_neg (show ¬ (false = true) by decide)] at H
       by_cases c20 : x3_1 = 16
       ·rw [if_pos c20] at H
        have c20b0 : (x3_1 == 16) = true := beq_iff_eq.mpr c20
        have c20b1 : (x3_1 != 16) = false := bne_eq_false_iff_eq.mpr c20
        clear c20
        replace H := Option.bind_eq_some_iff.mp H
        obtain ⟨t224, A210, H⟩ := H
        try dsimp only at H
        have A21 := Aside0.mk A210
        clear A210
        by_cases c22 : (Go.bits .andNot .i64 a0 7) = t224
        ·rw [if_pos c22] at H
         have c22b0 : ((Go.bits .andNot .i64 a0 7) == t224) = true := beq_iff_eq.mpr c22
         have c22b1 : ((Go.bits .andNot .i64 a0 7) != t224) = false := bne_eq_false_iff_eq.mpr c22
         clear c22
         obtain rfl := Option.some.inj H
         go_wp2_with (first | ((with_reducible refine gate_callee (f := 39) rfl ?_); refine gL_ (some 11) Try.func39 #[.int .i64 x3_1] ?_; (with_reducible refine (impl_hasSrc.calls x3_1 false _ A3.out).mono ?_); rintro e w' ⟨rfl, ⟨nd, rfl⟩⟩; refine ⟨_, rfl, ?_⟩) | ((with_reducible refine gate_callee (f := 40) rfl ?_); refine gL_ (some 17) Try.func40 #[.int .i64 x3_1] ?_; (with_reducible refine (impl_hasDst.calls x3_1 false _ A14.out).mono ?_); rintro e w' ⟨rfl, ⟨nd, rfl⟩⟩; refine ⟨_, rfl, ?_⟩) | ((with_reducible refine gate_callee (f := 57) rfl ?_); refine gL_ (some 32) Try.func57 #[.int .i64 x3_1] ?_; (with_reducible refine (impl_baseOf.calls x3_1 t224 _ A21.out).mono ?_); rintro e w23 ⟨rfl, hb⟩; refine ⟨_, rfl, ?_⟩; have n0_ := Aside0.mk (below_step (bw_ HB.out) hb); clear HB; have HB := n0_; clear n0_; (try clear hb); (try clear hb2); (try clear hk); (try clear hi)))
         go_ret
         exact rt_ (bw_ HB.out)
        ·rw [if_neg c22] at H
         have c22b0 : ((Go.bits .andNot .i64 a0 7) == t224) = false := beq_eq_false_iff_ne.mpr c22
         have c22b1 : ((Go.bits .andNot .i64 a0 7) != t224) = true := bne_iff_ne.mpr c22
         have H' := Aside0.mk H
         clear H
         go_wp2_with (first | ((with_reducible refine gate_callee (f := 39) rfl ?_); refine gL_ (some 11) Try.func39 #[.int .i64 x3_1] ?_; (with_reducible refine (impl_hasSrc.calls x3_1 false _ A3.out).mono ?_); rintro e w' ⟨rfl, ⟨nd, rfl⟩⟩; refine ⟨_, rfl, ?_⟩) | ((with_reducible refine gate_callee (f := 40) rfl ?_); refine gL_ (some 17) Try.func40 #[.int .i64 x3_1] ?_; (with_reducible refine (impl_hasDst.calls x3_1 false _ A14.out).mono ?_); rintro e w' ⟨rfl, ⟨nd, rfl⟩⟩; refine ⟨_, rfl, ?_⟩) | ((with_reducible refine gate_callee (f := 57) rfl ?_); refine gL_ (some 32) Try.func57 #[.int .i64 x3_1] ?_; (with_reducible refine (impl_baseOf.calls x3_1 t224 _ A21.out).mono ?_); rintro e w24 ⟨rfl, hb⟩; refine ⟨_, rfl, ?_⟩; have n0_ := Aside0.mk (below_step (bw_ HB.out) hb); clear HB; have HB := n0_; clear n0_; (try clear hb); (try clear hb2); (try clear hk); (try clear hi)))
         go_roundg k1
         case measure => have := HK1.out; omega
         case rel => exact ⟨(wrap64 (x3_1 + 1)), (by first | rfl | (simp; done) | (simp [*]; done) | (simp [wrap64]; done)), H', ⟨by have := HK1.out; omega⟩, ⟨bw_ HB.out⟩⟩
       ·rw [if_neg c20] at H
        have c20b0 : (x3_1 == 16) = false := beq_eq_false_iff_ne.mpr c20
        have c20b1 : (x3_1 != 16) = true := bne_iff_ne.mpr c20
        have HC25 := Aside0.mk H
        clear H
        go_upto_region 13 with (first | ((with_reducible refine gate_callee (f := 39) rfl ?_); refine gL_ (some 11) Try.func39 #[.int .i64 x3_1] ?_; (with_reducible refine (impl_hasSrc.calls x3_1 false _ A3.out).mono ?_); rintro e w' ⟨rfl, ⟨nd, rfl⟩⟩; refine ⟨_, rfl, ?_⟩) | ((with_reducible refine gate_callee (f := 40) rfl ?_); refine gL_ (some 17) Try.func40 #[.int .i64 x3_1] ?_; (with_reducible refine (impl_hasDst.calls x3_1 false _ A14.out).mono ?_); rintro e w' ⟨rfl, ⟨nd, rfl⟩⟩; refine ⟨_, rfl, ?_⟩))
        (try simp only [Act.put, List.setIfInBounds_toArray, List.set_cons_zero, List.set_cons_succ])
        go_cut [21] (fun v21 wc => ∃ (kq : Nat) (x21_24 : Bool), v21 = .bool x21_24 ∧ Aside0 (impl_opOf.j1 kq a0 x3_1 0 x21_24 = some r) ∧ Aside0 (kq ≤ k1) ∧ Aside0 (Below w.heap.size w wc))
        case first =>
         have H := HC25.out
         clear HC25
         replace H := Option.bind_eq_some_iff.mp H
         obtain ⟨t225, A260, H⟩ := H
         try dsimp only at H
         have A26 := Aside0.mk A260
         clear A260
         by_cases c27 : t225 = true
         ·subst c27
          rw [if_pos rfl] at H
          have H' := Aside0.mk H
          clear H
          go_wp2_with (first | ((with_reducible refine gate_callee (f := 42) rfl ?_); refine gL_ (some 23) Try.func42 #[.int .i64 x3_1] ?_; (with_reducible refine (impl_isBranch.calls x3_1 true _ A26.out).mono ?_); rintro e w' ⟨rfl, ⟨nd, rfl⟩⟩; refine ⟨_, rfl, ?_⟩))
          go_meet
          case rel => exact ⟨_, (true), (by first | rfl | (simp; done) | (simp [*]; done) | (simp [wrap64]; done)), H', ⟨by have := HK1.out; first | omega | exact Nat.le_refl _⟩, ⟨bw_ HB.out⟩⟩
         ·replace c27 := Bool.eq_false_iff.mpr c27
          subst c27
          rw [if_neg (show ¬ (false = true) by decide)] at H
          have H' := Aside0.mk H
          clear H
          go_wp2_with (first | ((with_reducible refine gate_callee (f := 42) rfl ?_); refine gL_ (some 23) Try.func42 #[.int .i64 x3_1] ?_; (with_reducible refine (impl_isBranch.calls x3_1 false _ A26.out).mono ?_); rintro e w' ⟨rfl, ⟨nd, rfl⟩⟩; refine ⟨_, rfl, ?_⟩))
          go_meet
          case rel => exact ⟨_, ((x3_1 == 23)), (by first | rfl | (simp; done) | (simp [*]; done) | (simp [wrap64]; done)), H', ⟨by have := HK1.out; first | omega | exact Nat.le_refl _⟩, ⟨bw_ HB.out⟩⟩
        case rest =>
         clear HC25
         try clear c1
         try clear c2
         try clear c2b0
         try clear p2
         try clear c3
         try clear c4
         try clear c5
         try clear c6
         try clear c6b0
         try clear c6b1
         try clear p6
         try clear c9
         try clear c9b0
         try clear c9b1
         try clear c11
         try clear c11b0
         try clear c11b1
         try clear c15
         try clear c17
         try clear c17b0
         try clear c17b1
         try clear c20
         try clear c20b0
         try clear c20b1
         try clear c22
         try clear c22b0
         try clear c22b1
         try clear c27
         obtain ⟨kq, x21_24, rfl, HA, HJ24, HB⟩ := hcut
         cases kq with
         | zero => exact absurd HA.out (by simp [impl_opOf.j1])
         | succ kj24 =>
          have H := HA.out
          clear HA
          simp only [impl_opOf.j1] at H
          by_cases c28 : x21_24 = true
          ·subst c28
           rw [if_pos rfl] at H
           replace H := Option.bind_eq_some_iff.mp H
           obtain ⟨t226, A290, H⟩ := H
           try dsimp only at H
           have A29 := Aside0.mk A290
           clear A290
           by_cases c30 : (Go.bits .andNot .i64 a0 255) = t226
           ·rw [if_pos c30] at H
            have c30b0 : ((Go.bits .andNot .i64 a0 255) == t226) = true := beq_iff_eq.mpr c30
            have c30b1 : ((Go.bits .andNot .i64 a0 255) != t226) = false := bne_eq_false_iff_eq.mpr c30
            clear c30
            obtain rfl := Option.some.inj H
            go_wp2_with (first | ((with_reducible refine gate_callee (f := 57) rfl ?_); refine gL_ (some 32) Try.func57 #[.int .i64 x3_1] ?_; (with_reducible refine (impl_baseOf.calls x3_1 t226 _ A29.out).mono ?_); rintro e w31 ⟨rfl, hb⟩; refine ⟨_, rfl, ?_⟩; have n0_ := Aside0.mk (below_step (bw_ HB.out) hb); clear HB; have HB := n0_; clear n0_; (try clear hb); (try clear hb2); (try clear hk); (try clear hi)))
            go_ret
            exact rt_ (bw_ HB.out)
           ·rw [if_neg c30] at H
            have c30b0 : ((Go.bits .andNot .i64 a0 255) == t226) = false := beq_eq_false_iff_ne.mpr c30
            have c30b1 : ((Go.bits .andNot .i64 a0 255) != t226) = true := bne_iff_ne.mpr c30
            have H' := Aside0.mk H
            clear H
            go_wp2_with (first | ((with_reducible refine gate_callee (f := 57) rfl ?_); refine gL_ (some 32) Try.func57 #[.int .i64 x3_1] ?_; (with_reducible refine (impl_baseOf.calls x3_1 t226 _ A29.out).mono ?_); rintro e w32 ⟨rfl, hb⟩; refine ⟨_, rfl, ?_⟩; have n0_ := Aside0.mk (below_step (bw_ HB.out) hb); clear HB; have HB := n0_; clear n0_; (try clear hb); (try clear hb2); (try clear hk); (try clear hi)))
            go_roundg kj24
            case measure => have := HK1.out; have := HJ24.out; omega
            case rel => exact ⟨(wrap64 (x3_1 + 1)), (by first | rfl | (simp; done) | (simp [*]; done) | (simp [wrap64]; done)), H', ⟨by have := HK1.out; have := HJ24.out; omega⟩, ⟨bw_ HB.out⟩⟩
          ·replace c28 := Bool.eq_false_iff.mpr c28
           subst c28
           rw [if_neg (show ¬ (false = true) by decide)] at H
           replace H := Option.bind_eq_some_iff.mp H
           obtain ⟨t227, A330, H⟩ := H
           try dsimp only at H
           have A33 := Aside0.mk A330
           clear A330
           by_cases c34 : (Go.bits .andNot .i64 a0 0) = t227
           ·rw [if_pos c34] at H
            have c34b0 : ((Go.bits .andNot .i64 a0 0) == t227) = true := beq_iff_eq.mpr c34
            have c34b1 : ((Go.bits .andNot .i64 a0 0) != t227) = false := bne_eq_false_iff_eq.mpr c34
            clear c34
            obtain rfl := Option.some.inj H
            go_wp2_with (first | ((with_reducible refine gate_callee (f := 57) rfl ?_); refine gL_ (some 32) Try.func57 #[.int .i64 x3_1] ?_; (with_reducible refine (impl_baseOf.calls x3_1 t227 _ A33.out).mono ?_); rintro e w35 ⟨rfl, hb⟩; refine ⟨_, rfl, ?_⟩; have n0_ := Aside0.mk (below_step (bw_ HB.out) hb); clear HB; have HB := n0_; clear n0_; (try clear hb); (try clear hb2); (try clear hk); (try clear hi)))
            go_ret
            exact rt_ (bw_ HB.out)
           ·rw [if_neg c34] at H
            have c34b0 : ((Go.bits .andNot .i64 a0 0) == t227) = false := beq_eq_false_iff_ne.mpr c34
            have c34b1 : ((Go.bits .andNot .i64 a0 0) != t227) = true := bne_iff_ne.mpr c34
            have H' := Aside0.mk H
            clear H
            go_wp2_with (first | ((with_reducible refine gate_callee (f := 57) rfl ?_); refine gL_ (some 32) Try.func57 #[.int .i64 x3_1] ?_; (with_reducible refine (impl_baseOf.calls x3_1 t227 _ A33.out).mono ?_); rintro e w36 ⟨rfl, hb⟩; refine ⟨_, rfl, ?_⟩; have n0_ := Aside0.mk (below_step (bw_ HB.out) hb); clear HB; have HB := n0_; clear n0_; (try clear hb); (try clear hb2); (try clear hk); (try clear hi)))
            go_roundg kj24
            case measure => have := HK1.out; have := HJ24.out; omega
            case rel => exact ⟨(wrap64 (x3_1 + 1)), (by first | rfl | (simp; done) | (simp [*]; done) | (simp [wrap64]; done)), H', ⟨by have := HK1.out; have := HJ24.out; omega⟩, ⟨bw_ HB.out⟩⟩
   ·rw [if_neg c2] at H
    have c2b0 : decide (x3_1 ≤ 23) = false := decide_eq_false c2
    clear c2
    obtain rfl := Option.some.inj H
    go_wp2
    go_ret
    exact rt_ (bw_ HB.out)

/-! ### impl_insOf: function 48 -/
mutual
def impl_insOf.j0 : Nat → Int → Int → Int → Int → Int → Int → Int → Int → Int → Int → Option (Int × Int × Int × Int × Int × Int × Int × Int)
 | 0, _, _, _, _, _, _, _, _, _, _ => none
 | k + 1, x0, x1, x230000, x230001, x230002, x230003, x230004, x230005, x230006, x230007 => (impl_hasDst.f x1).bind fun t231 => (if t231 = true then (impl_insOf.j1 k x0 x1 x230000 x230001 x230002 x230003 (Go.bits .and .i64 (x0 / 8) 7) (Go.bits .and .i64 x0 7) 0 x230007) else (impl_insOf.j1 k x0 x1 x230000 x230001 x230002 x230003 x230004 x230005 x230006 x230007))
def impl_insOf.j1 : Nat → Int → Int → Int → Int → Int → Int → Int → Int → Int → Int → Option (Int × Int × Int × Int × Int × Int × Int × Int)
 | 0, _, _, _, _, _, _, _, _, _, _ => none
 | k + 1, x0, x1, x230000, x230001, x230002, x230003, x230004, x230005, x230006, x230007 => if x1 = 15 then (some (x230000, x230001, x230002, x230003, x230004, x230005, x230006, Go.bits .and .i64 (x0 / 64) 7)) else (if x1 = 16 then (some (x230000, x230001, x230002, x230003, x230004, x230005, x230006, Go.bits .and .i64 x0 7)) else (if x1 = 23 then (some (x230000, x230001, x230002, x230003, x230004, x230005, x230006, Go.bits .and .i64 x0 255)) else ((impl_isBranch.f x1).bind fun t232 => (if t232 = true then (if (Go.bits .and .i64 x0 255) > 127 then (some (x230000, x230001, x230002, x230003, x230004, x230005, x230006, wrap64 ((Go.bits .and .i64 x0 255) - 256))) else (some (x230000, x230001, x230002, x230003, x230004, x230005, x230006, Go.bits .and .i64 x0 255))) else (some (x230000, x230001, x230002, x230003, x230004, x230005, x230006, x230007))))))
end
def impl_insOf.f (k : Nat) (a0 : Int) (a1 : Int) : Option (Int × Int × Int × Int × Int × Int × Int × Int) := (impl_hasSrc.f a1).bind fun t230 => (if t230 = true then (impl_insOf.j0 k a0 a1 a1 (Go.bits .and .i64 (a0 / 512) 7) (Go.bits .and .i64 (a0 / 64) 7) 0 0 0 0 0) else (impl_insOf.j0 k a0 a1 a1 0 0 0 0 0 0 0))
theorem impl_insOf.mono_l : ∀ k, (∀ y0 y1 y2 y3 y4 y5 y6 y7 y8 y9, LeO (impl_insOf.j0 k y0 y1 y2 y3 y4 y5 y6 y7 y8 y9) (impl_insOf.j0 (k + 1) y0 y1 y2 y3 y4 y5 y6 y7 y8 y9)) ∧ (∀ y0 y1 y2 y3 y4 y5 y6 y7 y8 y9, LeO (impl_insOf.j1 k y0 y1 y2 y3 y4 y5 y6 y7 y8 y9) (impl_insOf.j1 (k + 1) y0 y1 y2 y3 y4 y5 y6 y7 y8 y9))
 | 0 => ⟨fun _ _ _ _ _ _ _ _ _ _ r h => by simp [impl_insOf.j0] at h, fun _ _ _ _ _ _ _ _ _ _ r h => by simp [impl_insOf.j1] at h⟩
 | k + 1 => by
  obtain ⟨ih0, ih1⟩ := impl_insOf.mono_l k
  refine ⟨?_, ?_⟩
  ·intro y0 y1 y2 y3 y4 y5 y6 y7 y8 y9
   unfold impl_insOf.j0
   repeat' first
   | (with_reducible exact ih0 _ _ _ _ _ _ _ _ _ _)
   | (with_reducible exact ih1 _ _ _ _ _ _ _ _ _ _)
   | (with_reducible exact LeO.refl _)
   | (with_reducible exact LeO.none _)
   | (with_reducible refine LeO.ite ?_ ?_)
   | (with_reducible refine LeO.bind ?_ (fun _ => ?_))
   | exact ih0 _ _ _ _ _ _ _ _ _ _
   | exact ih1 _ _ _ _ _ _ _ _ _ _
   | exact LeO.none _
   | refine LeO.ite ?_ ?_
   | refine LeO.bind ?_ (fun _ => ?_)
  ·intro y0 y1 y2 y3 y4 y5 y6 y7 y8 y9
   unfold impl_insOf.j1
   repeat' first
   | (with_reducible exact ih0 _ _ _ _ _ _ _ _ _ _)
   | (with_reducible exact ih1 _ _ _ _ _ _ _ _ _ _)
   | (with_reducible exact LeO.refl _)
   | (with_reducible exact LeO.none _)
   | (with_reducible refine LeO.ite ?_ ?_)
   | (with_reducible refine LeO.bind ?_ (fun _ => ?_))
   | exact ih0 _ _ _ _ _ _ _ _ _ _
   | exact ih1 _ _ _ _ _ _ _ _ _ _
   | exact LeO.none _
   | refine LeO.ite ?_ ?_
   | refine LeO.bind ?_ (fun _ => ?_)
theorem impl_insOf.mono : ∀ a0 a1 k, LeO (impl_insOf.f k a0 a1) (impl_insOf.f (k + 1) a0 a1) := by
 intro a0 a1 k
 obtain ⟨ih0, ih1⟩ := impl_insOf.mono_l k
 unfold impl_insOf.f
 repeat' first
   | (with_reducible exact ih0 _ _ _ _ _ _ _ _ _ _)
   | (with_reducible exact ih1 _ _ _ _ _ _ _ _ _ _)
   | (with_reducible exact LeO.refl _)
   | (with_reducible exact LeO.none _)
   | (with_reducible refine LeO.ite ?_ ?_)
   | (with_reducible refine LeO.bind ?_ (fun _ => ?_))
   | exact ih0 _ _ _ _ _ _ _ _ _ _
   | exact ih1 _ _ _ _ _ _ _ _ _ _
   | exact LeO.none _
   | refine LeO.ite ?_ ?_
   | refine LeO.bind ?_ (fun _ => ?_)
set_option maxHeartbeats 8000000 in
set_option maxRecDepth 100000 in
theorem impl_insOf.calls (k : Nat) (a0 : Int) (a1 : Int) (r1 : Int) (r2 : Int) (r3 : Int) (r4 : Int) (r5 : Int) (r6 : Int) (r7 : Int) (r8 : Int) (w : World) (h : impl_insOf.f k a0 a1 = some (r1, r2, r3, r4, r5, r6, r7, r8)) :
  Calls Try.prog 48 #[.int .i64 a0, .int .i64 a1] w fun e w' => e = .returned (.agg #[.int .i64 r1, .int .i64 r2, .int .i64 r3, .int .i64 r4, .int .i64 r5, .int .i64 r6, .int .i64 r7, .int .i64 r8]) ∧ Below w.heap.size w w' := by
 have hu32 := Try.underlying32
 have hu25 := Try.underlying25
 have HB := Aside0.mk (Below.refl w.heap.size w)
 have H : ((impl_hasSrc.f a1).bind fun t230 => (if t230 = true then (impl_insOf.j0 k a0 a1 a1 (Go.bits .and .i64 (a0 / 512) 7) (Go.bits .and .i64 (a0 / 64) 7) 0 0 0 0 0) else (impl_insOf.j0 k a0 a1 a1 0 0 0 0 0 0 0))) = some (r1, r2, r3, r4, r5, r6, r7, r8) := h
 clear h
 replace H := Option.bind_eq_some_iff.mp H
 obtain ⟨t230, A30, H⟩ := H
 try dsimp only at H
 have A3 := Aside0.mk A30
 clear A30
 have HC4 := Aside0.mk H
 clear H
 go_enter Try.func48, Try.ntmps48
 go_upto_if 9 with (first | ((with_reducible refine gate_dst (N := 4) rfl ?_); refine box_event ?hg (N := 4) ?hd (cs := #[.int .i64 0, .int .i64 0, .int .i64 0, .int .i64 0, .int .i64 0, .int .i64 0, .int .i64 0, .int .i64 0]) (t := 32) ?hr ?_; (case hd => rfl); (case hg => rfl); (case hr => first | (go_simp; done) | (go_simp; rfl)); intro gb228 hg w5 hbox hb; have n0_ := Aside0.mk (below_step (bw_ HB.out) hb); have n1_ := Aside0.mk (hbox); have n2_ := Aside0.mk ((by rw [hg]; exact (below_size (bw_ HB.out)) : w.heap.size ≤ gb228)); have n3_ := n2_; clear HB; have HB := n0_; have BK228 := n1_; have GW228 := n2_; have GE228 := n3_; have GI228 := GeI.mk GE228.out; clear n0_ n1_ n2_ n3_; clear hb hbox hg) | ((with_reducible refine gate_dst (N := 5) rfl ?_); refine box_event ?hg (N := 5) ?hd (cs := #[.int .i64 0, .int .i64 0, .int .i64 0, .int .i64 0, .int .i64 0, .int .i64 0, .int .i64 0, .int .i64 0]) (t := 32) ?hr ?_; (case hd => rfl); (case hg => rfl); (case hr => first | (go_simp; done) | (go_simp; rfl)); intro gb229 hg w6 hbox hb; have n0_ := Aside0.mk (blk_below (bk_ BK228.out) hb); have n1_ := Aside0.mk (below_step (bw_ HB.out) hb); have n2_ := Aside0.mk (hbox); have n3_ := Aside0.mk ((by rw [hg]; exact (below_size (bw_ HB.out)) : w.heap.size ≤ gb229)); have n4_ := n3_; have n5_ := Aside0.mk ((by rw [hg]; exact Nat.ne_of_lt (blk_lt (bk_ BK228.out)) : gb228 ≠ gb229)); have n6_ := Aside0.mk n5_.out.symm; clear BK228; clear HB; have BK228 := n0_; have HB := n1_; have BK229 := n2_; have GW229 := n3_; have GE229 := n4_; have GI229 := GeI.mk GE229.out; have NB228_229 := n5_; have NB229_228 := n6_; clear n0_ n1_ n2_ n3_ n4_ n5_ n6_; clear hb hbox hg; have hnb7 := NB229_228.out; have hnc7 := NB228_229.out; have hcz8_0 : w6.cell? ⟨gb229, 0, none⟩ = some (.int .i64 0) := (blk_cell BK229.out 0).trans rfl; have hcz8_1 : w6.cell? ⟨gb229, 1, none⟩ = some (.int .i64 0) := (blk_cell BK229.out 1).trans rfl; have hcz8_2 : w6.cell? ⟨gb229, 2, none⟩ = some (.int .i64 0) := (blk_cell BK229.out 2).trans rfl; have hcz8_3 : w6.cell? ⟨gb229, 3, none⟩ = some (.int .i64 0) := (blk_cell BK229.out 3).trans rfl; have hcz8_4 : w6.cell? ⟨gb229, 4, none⟩ = some (.int .i64 0) := (blk_cell BK229.out 4).trans rfl; have hcz8_5 : w6.cell? ⟨gb229, 5, none⟩ = some (.int .i64 0) := (blk_cell BK229.out 5).trans rfl; have hcz8_6 : w6.cell? ⟨gb229, 6, none⟩ = some (.int .i64 0) := (blk_cell BK229.out 6).trans rfl; have hcz8_7 : w6.cell? ⟨gb229, 7, none⟩ = some (.int .i64 0) := (blk_cell BK229.out 7).trans rfl; have hfz8_0 := blk_frozen BK229.out 0; have hfz8_1 := blk_frozen BK229.out 1; have hfz8_2 := blk_frozen BK229.out 2; have hfz8_3 := blk_frozen BK229.out 3; have hfz8_4 := blk_frozen BK229.out 4; have hfz8_5 := blk_frozen BK229.out 5; have hfz8_6 := blk_frozen BK229.out 6; have hfz8_7 := blk_frozen BK229.out 7) | ((with_reducible refine gate_callee (f := 39) rfl ?_); refine gL_ (some 9) Try.func39 #[.int .i64 a1] ?_; (with_reducible refine (impl_hasSrc.calls a1 t230 _ A3.out).mono ?_); rintro e w' ⟨rfl, ⟨nd, rfl⟩⟩; refine ⟨_, rfl, ?_⟩))
 (try simp only [Act.put, List.setIfInBounds_toArray, List.set_cons_zero, List.set_cons_succ])
 go_cut [] (fun wc => ∃ (kq : Nat) (x230001_3 : Int) (x230002_3 : Int) (x230003_3 : Int), Aside0 (impl_insOf.j0 kq a0 a1 a1 x230001_3 x230002_3 x230003_3 0 0 0 0 = some (r1, r2, r3, r4, r5, r6, r7, r8)) ∧ Aside0 (kq ≤ k) ∧ Aside0 (wc.heap[gb228]? = some (.cells #[.int .i64 0, .int .i64 0, .int .i64 0, .int .i64 0, .int .i64 0, .int .i64 0, .int .i64 0, .int .i64 0] 32 (0, 0))) ∧ Aside0 (wc.heap[gb229]? = some (.cells #[.int .i64 a1, .int .i64 x230001_3, .int .i64 x230002_3, .int .i64 x230003_3, .int .i64 0, .int .i64 0, .int .i64 0, .int .i64 0] 32 (0, 0))) ∧ Aside0 (Below w.heap.size w wc))
 case first =>
  have H := HC4.out
  clear HC4
  by_cases c9 : t230 = true
  ·subst c9
   rw [if_pos rfl] at H
   have H' := Aside0.mk H
   clear H
   have hnb10 := NB229_228.out
   have hnc10 := NB228_229.out
   obtain ⟨hcz11_0, hcz11_1, hcz11_2, hcz11_3, hcz11_4, hcz11_5, hcz11_6, hcz11_7, hfz11_0, hfz11_1, hfz11_2, hfz11_3, hfz11_4, hfz11_5, hfz11_6, hfz11_7⟩ := cz8_ BK229.out
   go_wp2
   go_meet
   case rel => exact ⟨_, (Go.bits .and .i64 (a0 / 512) 7), (Go.bits .and .i64 (a0 / 64) 7), (0), H', ⟨by first | omega | exact Nat.le_refl _⟩, ⟨by refine bk_ ?_; refine blk_far ?_ NB228_229.out _; refine bk_ ?_; refine blk_far ?_ NB228_229.out _; refine bk_ ?_; refine blk_far ?_ NB228_229.out _; refine bk_ ?_; refine blk_far ?_ NB228_229.out _; refine bk_ ?_; refine blk_far ?_ NB228_229.out _; refine bk_ ?_; refine blk_far ?_ NB228_229.out _; refine bk_ ?_; refine blk_far ?_ NB228_229.out _; refine bk_ ?_; refine blk_far ?_ NB228_229.out _; refine bk_ ?_; refine blk_far ?_ NB228_229.out _; refine bk_ ?_; refine blk_far ?_ NB228_229.out _; refine bk_ ?_; refine blk_far ?_ NB228_229.out _; refine bk_ ?_; exact BK228.out⟩, ⟨by refine bk_ ?_; refine blk_put (cs := #[.int .i64 a1, .int .i64 (Go.bits .and .i64 (a0 / 512) 7), .int .i64 (Go.bits .and .i64 (a0 / 64) 7), .int .i64 0, .int .i64 0, .int .i64 0, .int .i64 0, .int .i64 0]) ?_ 3 _ rfl; refine bk_ ?_; refine blk_put (cs := #[.int .i64 a1, .int .i64 (Go.bits .and .i64 (a0 / 512) 7), .int .i64 0, .int .i64 0, .int .i64 0, .int .i64 0, .int .i64 0, .int .i64 0]) ?_ 2 _ rfl; refine bk_ ?_; refine blk_put (cs := #[.int .i64 a1, .int .i64 0, .int .i64 0, .int .i64 0, .int .i64 0, .int .i64 0, .int .i64 0, .int .i64 0]) ?_ 1 _ rfl; refine bk_ ?_; refine blk_put (cs := #[.int .i64 a1, .int .i64 0, .int .i64 0, .int .i64 0, .int .i64 0, .int .i64 0, .int .i64 0, .int .i64 0]) ?_ 7 _ rfl; refine bk_ ?_; refine blk_put (cs := #[.int .i64 a1, .int .i64 0, .int .i64 0, .int .i64 0, .int .i64 0, .int .i64 0, .int .i64 0, .int .i64 0]) ?_ 6 _ rfl; refine bk_ ?_; refine blk_put (cs := #[.int .i64 a1, .int .i64 0, .int .i64 0, .int .i64 0, .int .i64 0, .int .i64 0, .int .i64 0, .int .i64 0]) ?_ 5 _ rfl; refine bk_ ?_; refine blk_put (cs := #[.int .i64 a1, .int .i64 0, .int .i64 0, .int .i64 0, .int .i64 0, .int .i64 0, .int .i64 0, .int .i64 0]) ?_ 4 _ rfl; refine bk_ ?_; refine blk_put (cs := #[.int .i64 a1, .int .i64 0, .int .i64 0, .int .i64 0, .int .i64 0, .int .i64 0, .int .i64 0, .int .i64 0]) ?_ 3 _ rfl; refine bk_ ?_; refine blk_put (cs := #[.int .i64 a1, .int .i64 0, .int .i64 0, .int .i64 0, .int .i64 0, .int .i64 0, .int .i64 0, .int .i64 0]) ?_ 2 _ rfl; refine bk_ ?_; refine blk_put (cs := #[.int .i64 a1, .int .i64 0, .int .i64 0, .int .i64 0, .int .i64 0, .int .i64 0, .int .i64 0, .int .i64 0]) ?_ 1 _ rfl; refine bk_ ?_; refine blk_put (cs := #[.int .i64 0, .int .i64 0, .int .i64 0, .int .i64 0, .int .i64 0, .int .i64 0, .int .i64 0, .int .i64 0]) ?_ 0 _ rfl; refine bk_ ?_; exact BK229.out⟩, ⟨bw_ HB.out⟩⟩
  ·replace c9 := Bool.eq_false_iff.mpr c9
   subst c9
   rw [if_neg (show ¬ (false = true) by decide)] at H
   have H' := Aside0.mk H
   clear H
   go_wp2
   go_meet
   case rel => exact ⟨_, (0), (0), (0), H', ⟨by first | omega | exact Nat.le_refl _⟩, ⟨by refine bk_ ?_; refine blk_far ?_ NB228_229.out _; refine bk_ ?_; refine blk_far ?_ NB228_229.out _; refine bk_ ?_; refine blk_far ?_ NB228_229.out _; refine bk_ ?_; refine blk_far ?_ NB228_229.out _; refine bk_ ?_; refine blk_far ?_ NB228_229.out _; refine bk_ ?_; refine blk_far ?_ NB228_229.out _; refine bk_ ?_; refine blk_far ?_ NB228_229.out _; refine bk_ ?_; refine blk_far ?_ NB228_229.out _; refine bk_ ?_; exact BK228.out⟩, ⟨by refine bk_ ?_; refine blk_put (cs := #[.int .i64 a1, .int .i64 0, .int .i64 0, .int .i64 0, .int .i64 0, .int .i64 0, .int .i64 0, .int .i64 0]) ?_ 7 _ rfl; refine bk_ ?_; refine blk_put (cs := #[.int .i64 a1, .int .i64 0, .int .i64 0, .int .i64 0, .int .i64 0, .int .i64 0, .int .i64 0, .int .i64 0]) ?_ 6 _ rfl; refine bk_ ?_; refine blk_put (cs := #[.int .i64 a1, .int .i64 0, .int .i64 0, .int .i64 0, .int .i64 0, .int .i64 0, .int .i64 0, .int .i64 0]) ?_ 5 _ rfl; refine bk_ ?_; refine blk_put (cs := #[.int .i64 a1, .int .i64 0, .int .i64 0, .int .i64 0, .int .i64 0, .int .i64 0, .int .i64 0, .int .i64 0]) ?_ 4 _ rfl; refine bk_ ?_; refine blk_put (cs := #[.int .i64 a1, .int .i64 0, .int .i64 0, .int .i64 0, .int .i64 0, .int .i64 0, .int .i64 0, .int .i64 0]) ?_ 3 _ rfl; refine bk_ ?_; refine blk_put (cs := #[.int .i64 a1, .int .i64 0, .int .i64 0, .int .i64 0, .int .i64 0, .int .i64 0, .int .i64 0, .int .i64 0]) ?_ 2 _ rfl; refine bk_ ?_; refine blk_put (cs := #[.int .i64 a1, .int .i64 0, .int .i64 0, .int .i64 0, .int .i64 0, .int .i64 0, .int .i64 0, .int .i64 0]) ?_ 1 _ rfl; refine bk_ ?_; refine blk_put (cs := #[.int .i64 0, .int .i64 0, .int .i64 0, .int .i64 0, .int .i64 0, .int .i64 0, .int .i64 0, .int .i64 0]) ?_ 0 _ rfl; refine bk_ ?_; exact BK229.out⟩, ⟨bw_ HB.out⟩⟩
 case rest =>
  clear HC4
  try clear c1
  try clear p2
  try clear c3
  try clear c4
  try clear c7
  try clear c9
  try clear c10
  try clear hcz11_0 hcz11_1 hcz11_2 hcz11_3 hcz11_4 hcz11_5 hcz11_6 hcz11_7 hfz11_0 hfz11_1 hfz11_2 hfz11_3 hfz11_4 hfz11_5 hfz11_6 hfz11_7
  try clear hcz8_0 hcz8_1 hcz8_2 hcz8_3 hcz8_4 hcz8_5 hcz8_6 hcz8_7 hfz8_0 hfz8_1 hfz8_2 hfz8_3 hfz8_4 hfz8_5 hfz8_6 hfz8_7
  obtain ⟨kq, x230001_3, x230002_3, x230003_3, HA, HJ3, BK228, BK229, HB⟩ := hcut
  cases kq with
  | zero => exact absurd HA.out (by simp [impl_insOf.j0])
  | succ kj3 =>
   have H := HA.out
   clear HA
   simp only [impl_insOf.j0] at H
   replace H := Option.bind_eq_some_iff.mp H
   obtain ⟨t231, A120, H⟩ := H
   try dsimp only at H
   have A12 := Aside0.mk A120
   clear A120
   have HC13 := Aside0.mk H
   clear H
   go_upto_if 19 with (first | ((with_reducible refine gate_callee (f := 40) rfl ?_); refine gL_ (some 19) Try.func40 #[.int .i64 a1] ?_; (with_reducible refine (impl_hasDst.calls a1 t231 _ A12.out).mono ?_); rintro e w' ⟨rfl, ⟨nd, rfl⟩⟩; refine ⟨_, rfl, ?_⟩))
   (try simp only [Act.put, List.setIfInBounds_toArray, List.set_cons_zero, List.set_cons_succ])
   go_cut [] (fun wc => ∃ (kq : Nat) (x230004_12 : Int) (x230005_12 : Int) (x230006_12 : Int), Aside0 (impl_insOf.j1 kq a0 a1 a1 x230001_3 x230002_3 x230003_3 x230004_12 x230005_12 x230006_12 0 = some (r1, r2, r3, r4, r5, r6, r7, r8)) ∧ Aside0 (kq ≤ kj3) ∧ Aside0 (wc.heap[gb228]? = some (.cells #[.int .i64 0, .int .i64 0, .int .i64 0, .int .i64 0, .int .i64 0, .int .i64 0, .int .i64 0, .int .i64 0] 32 (0, 0))) ∧ Aside0 (wc.heap[gb229]? = some (.cells #[.int .i64 a1, .int .i64 x230001_3, .int .i64 x230002_3, .int .i64 x230003_3, .int .i64 x230004_12, .int .i64 x230005_12, .int .i64 x230006_12, .int .i64 0] 32 (0, 0))) ∧ Aside0 (Below w.heap.size w wc))
   case first =>
    have H := HC13.out
    clear HC13
    by_cases c14 : t231 = true
    ·subst c14
     rw [if_pos rfl] at H
     have H' := Aside0.mk H
     clear H
     have hnb15 := NB229_228.out
     have hnc15 := NB228_229.out
     obtain ⟨hcz16_0, hcz16_1, hcz16_2, hcz16_3, hcz16_4, hcz16_5, hcz16_6, hcz16_7, hfz16_0, hfz16_1, hfz16_2, hfz16_3, hfz16_4, hfz16_5, hfz16_6, hfz16_7⟩ := cz8_ BK229.out
     go_wp2
     go_meet
     case rel => exact ⟨_, (Go.bits .and .i64 (a0 / 8) 7), (Go.bits .and .i64 a0 7), (0), H', ⟨by have := HJ3.out; first | omega | exact Nat.le_refl _⟩, ⟨by refine bk_ ?_; refine blk_far ?_ NB228_229.out _; refine bk_ ?_; refine blk_far ?_ NB228_229.out _; refine bk_ ?_; refine blk_far ?_ NB228_229.out _; refine bk_ ?_; exact BK228.out⟩, ⟨by refine bk_ ?_; refine blk_put (cs := #[.int .i64 a1, .int .i64 x230001_3, .int .i64 x230002_3, .int .i64 x230003_3, .int .i64 (Go.bits .and .i64 (a0 / 8) 7), .int .i64 (Go.bits .and .i64 a0 7), .int .i64 0, .int .i64 0]) ?_ 6 _ rfl; refine bk_ ?_; refine blk_put (cs := #[.int .i64 a1, .int .i64 x230001_3, .int .i64 x230002_3, .int .i64 x230003_3, .int .i64 (Go.bits .and .i64 (a0 / 8) 7), .int .i64 0, .int .i64 0, .int .i64 0]) ?_ 5 _ rfl; refine bk_ ?_; refine blk_put (cs := #[.int .i64 a1, .int .i64 x230001_3, .int .i64 x230002_3, .int .i64 x230003_3, .int .i64 0, .int .i64 0, .int .i64 0, .int .i64 0]) ?_ 4 _ rfl; refine bk_ ?_; exact BK229.out⟩, ⟨bw_ HB.out⟩⟩
    ·replace c14 := Bool.eq_false_iff.mpr c14
     subst c14
     rw [if_neg (show ¬ (false = true) by decide)] at H
     have H' := Aside0.mk H
     clear H
     go_wp2
     go_meet
     case rel => exact ⟨_, (0), (0), (0), H', ⟨by have := HJ3.out; first | omega | exact Nat.le_refl _⟩, ⟨by refine bk_ ?_; exact BK228.out⟩, ⟨by refine bk_ ?_; exact BK229.out⟩, ⟨bw_ HB.out⟩⟩
   case rest =>
    clear HC13
    try clear c1
    try clear p2
    try clear c3
    try clear c4
    try clear c7
    try clear c9
    try clear c10
    try clear c14
    try clear c15
    try clear hcz11_0 hcz11_1 hcz11_2 hcz11_3 hcz11_4 hcz11_5 hcz11_6 hcz11_7 hfz11_0 hfz11_1 hfz11_2 hfz11_3 hfz11_4 hfz11_5 hfz11_6 hfz11_7
    try clear hcz16_0 hcz16_1 hcz16_2 hcz16_3 hcz16_4 hcz16_5 hcz16_6 hcz16_7 hfz16_0 hfz16_1 hfz16_2 hfz16_3 hfz16_4 hfz16_5 hfz16_6 hfz16_7
    try clear hcz8_0 hcz8_1 hcz8_2 hcz8_3 hcz8_4 hcz8_5 hcz8_6 hcz8_7 hfz8_0 hfz8_1 hfz8_2 hfz8_3 hfz8_4 hfz8_5 hfz8_6 hfz8_7
    try clear p2
    obtain ⟨kq, x230004_12, x230005_12, x230006_12, HA, HJ12, BK228, BK229, HB⟩ := hcut
    cases kq with
    | zero => exact absurd HA.out (by simp [impl_insOf.j1])
    | succ kj12 =>
     have H := HA.out
     clear HA
     simp only [impl_insOf.j1] at H
     by_cases c17 : a1 = 15
     ·rw [if_pos c17] at H
      have c17b0 : (a1 == 15) = true := beq_iff_eq.mpr c17
      have c17b1 : (a1 != 15) = false := bne_eq_false_iff_eq.mpr c17
      clear c17
      simp only [Option.some.injEq, Prod.mk.injEq] at H
      obtain ⟨rfl, rfl, rfl, rfl, rfl, rfl, rfl, rfl⟩ := H
      have hnb18 := NB229_228.out
      have hnc18 := NB228_229.out
      obtain ⟨hcz19_0, hcz19_1, hcz19_2, hcz19_3, hcz19_4, hcz19_5, hcz19_6, hcz19_7, hfz19_0, hfz19_1, hfz19_2, hfz19_3, hfz19_4, hfz19_5, hfz19_6, hfz19_7⟩ := cz8_ BK229.out
      obtain ⟨hcz20_0, hcz20_1, hcz20_2, hcz20_3, hcz20_4, hcz20_5, hcz20_6, hcz20_7, hfz20_0, hfz20_1, hfz20_2, hfz20_3, hfz20_4, hfz20_5, hfz20_6, hfz20_7⟩ := cz8_ BK228.out
      go_wp2
      refine bodyPost_ret (results_cell_row rfl _ _ gb228 32 #[.int .i64 a1, .int .i64 x230001_3, .int .i64 x230002_3, .int .i64 x230003_3, .int .i64 x230004_12, .int .i64 x230005_12, .int .i64 x230006_12, .int .i64 (Go.bits .and .i64 (a0 / 64) 7)] (0, 0) _ rfl ?hb_ Try.underlying32 rfl (by kernel_rfl)) rfl ?_
      (case hb_ => refine bk_ ?_; refine blk_put (cs := #[.int .i64 a1, .int .i64 x230001_3, .int .i64 x230002_3, .int .i64 x230003_3, .int .i64 x230004_12, .int .i64 x230005_12, .int .i64 x230006_12, .int .i64 0]) ?_ 7 _ rfl; refine bk_ ?_; refine blk_put (cs := #[.int .i64 a1, .int .i64 x230001_3, .int .i64 x230002_3, .int .i64 x230003_3, .int .i64 x230004_12, .int .i64 x230005_12, .int .i64 0, .int .i64 0]) ?_ 6 _ rfl; refine bk_ ?_; refine blk_put (cs := #[.int .i64 a1, .int .i64 x230001_3, .int .i64 x230002_3, .int .i64 x230003_3, .int .i64 x230004_12, .int .i64 0, .int .i64 0, .int .i64 0]) ?_ 5 _ rfl; refine bk_ ?_; refine blk_put (cs := #[.int .i64 a1, .int .i64 x230001_3, .int .i64 x230002_3, .int .i64 x230003_3, .int .i64 0, .int .i64 0, .int .i64 0, .int .i64 0]) ?_ 4 _ rfl; refine bk_ ?_; refine blk_put (cs := #[.int .i64 a1, .int .i64 x230001_3, .int .i64 x230002_3, .int .i64 0, .int .i64 0, .int .i64 0, .int .i64 0, .int .i64 0]) ?_ 3 _ rfl; refine bk_ ?_; refine blk_put (cs := #[.int .i64 a1, .int .i64 x230001_3, .int .i64 0, .int .i64 0, .int .i64 0, .int .i64 0, .int .i64 0, .int .i64 0]) ?_ 2 _ rfl; refine bk_ ?_; refine blk_put (cs := #[.int .i64 a1, .int .i64 0, .int .i64 0, .int .i64 0, .int .i64 0, .int .i64 0, .int .i64 0, .int .i64 0]) ?_ 1 _ rfl; refine bk_ ?_; refine blk_put (cs := #[.int .i64 0, .int .i64 0, .int .i64 0, .int .i64 0, .int .i64 0, .int .i64 0, .int .i64 0, .int .i64 0]) ?_ 0 _ rfl; refine bk_ ?_; refine blk_far ?_ NB228_229.out _; refine bk_ ?_; exact BK228.out)
      exact rt_ (bw_ HB.out)
     ·rw [if_neg c17] at H
      have c17b0 : (a1 == 15) = false := beq_eq_false_iff_ne.mpr c17
      have c17b1 : (a1 != 15) = true := bne_iff_ne.mpr c17
      by_cases c21 : a1 = 16
      ·rw [if_pos c21] at H
       have c21b0 : (a1 == 16) = true := beq_iff_eq.mpr c21
       have c21b1 : (a1 != 16) = false := bne_eq_false_iff_eq.mpr c21
       clear c21
       simp only [Option.some.injEq, Prod.mk.injEq] at H
       obtain ⟨rfl, rfl, rfl, rfl, rfl, rfl, rfl, rfl⟩ := H
       have hnb22 := NB229_228.out
       have hnc22 := NB228_229.out
       obtain ⟨hcz23_0, hcz23_1, hcz23_2, hcz23_3, hcz23_4, hcz23_5, hcz23_6, hcz23_7, hfz23_0, hfz23_1, hfz23_2, hfz23_3, hfz23_4, hfz23_5, hfz23_6, hfz23_7⟩ := cz8_ BK229.out
       obtain ⟨hcz24_0, hcz24_1, hcz24_2, hcz24_3, hcz24_4, hcz24_5, hcz24_6, hcz24_7, hfz24_0, hfz24_1, hfz24_2, hfz24_3, hfz24_4, hfz24_5, hfz24_6, hfz24_7⟩ := cz8_ BK228.out
       go_wp2
       refine bodyPost_ret (results_cell_row rfl _ _ gb228 32 #[.int .i64 a1, .int .i64 x230001_3, .int .i64 x230002_3, .int .i64 x230003_3, .int .i64 x230004_12, .int .i64 x230005_12, .int .i64 x230006_12, .int .i64 (Go.bits .and .i64 a0 7)] (0, 0) _ rfl ?hb_ Try.underlying32 rfl (by kernel_rfl)) rfl ?_
       (case hb_ => refine bk_ ?_; refine blk_put (cs := #[.int .i64 a1, .int .i64 x230001_3, .int .i64 x230002_3, .int .i64 x230003_3, .int .i64 x230004_12, .int .i64 x230005_12, .int .i64 x230006_12, .int .i64 0]) ?_ 7 _ rfl; refine bk_ ?_; refine blk_put (cs := #[.int .i64 a1, .int .i64 x230001_3, .int .i64 x230002_3, .int .i64 x230003_3, .int .i64 x230004_12, .int .i64 x230005_12, .int .i64 0, .int .i64 0]) ?_ 6 _ rfl; refine bk_ ?_; refine blk_put (cs := #[.int .i64 a1, .int .i64 x230001_3, .int .i64 x230002_3, .int .i64 x230003_3, .int .i64 x230004_12, .int .i64 0, .int .i64 0, .int .i64 0]) ?_ 5 _ rfl; refine bk_ ?_; refine blk_put (cs := #[.int .i64 a1, .int .i64 x230001_3, .int .i64 x230002_3, .int .i64 x230003_3, .int .i64 0, .int .i64 0, .int .i64 0, .int .i64 0]) ?_ 4 _ rfl; refine bk_ ?_; refine blk_put (cs := #[.int .i64 a1, .int .i64 x230001_3, .int .i64 x230002_3, .int .i64 0, .int .i64 0, .int .i64 0, .int .i64 0, .int .i64 0]) ?_ 3 _ rfl; refine bk_ ?_; refine blk_put (cs := #[.int .i64 a1, .int .i64 x230001_3, .int .i64 0, .int .i64 0, .int .i64 0, .int .i64 0, .int .i64 0, .int .i64 0]) ?_ 2 _ rfl; refine bk_ ?_; refine blk_put (cs := #[.int .i64 a1, .int .i64 0, .int .i64 0, .int .i64 0, .int .i64 0, .int .i64 0, .int .i64 0, .int .i64 0]) ?_ 1 _ rfl; refine bk_ ?_; refine blk_put (cs := #[.int .i64 0, .int .i64 0, .int .i64 0, .int .i64 0, .int .i64 0, .int .i64 0, .int .i64 0, .int .i64 0]) ?_ 0 _ rfl; refine bk_ ?_; refine blk_far ?_ NB228_229.out _; refine bk_ ?_; exact BK228.out)
       exact rt_ (bw_ HB.out)
      ·rw [if_neg c21] at H
       have c21b0 : (a1 == 16) = false := beq_eq_false_iff_ne.mpr c21
       have c21b1 : (a1 != 16) = true := bne_iff_ne.mpr c21
       by_cases c25 : a1 = 23
       ·rw [if_pos c25] at H
        have c25b0 : (a1 == 23) = true := beq_iff_eq.mpr c25
        have c25b1 : (a1 != 23) = false := bne_eq_false_iff_eq.mpr c25
        clear c25
        simp only [Option.some.injEq, Prod.mk.injEq] at H
        obtain ⟨rfl, rfl, rfl, rfl, rfl, rfl, rfl, rfl⟩ := H
        have hnb26 := NB229_228.out
        have hnc26 := NB228_229.out
        obtain ⟨hcz27_0, hcz27_1, hcz27_2, hcz27_3, hcz27_4, hcz27_5, hcz27_6, hcz27_7, hfz27_0, hfz27_1, hfz27_2, hfz27_3, hfz27_4, hfz27_5, hfz27_6, hfz27_7⟩ := cz8_ BK229.out
        obtain ⟨hcz28_0, hcz28_1, hcz28_2, hcz28_3, hcz28_4, hcz28_5, hcz28_6, hcz28_7, hfz28_0, hfz28_1, hfz28_2, hfz28_3, hfz28_4, hfz28_5, hfz28_6, hfz28_7⟩ := cz8_ BK228.out
        go_wp2
        refine bodyPost_ret (results_cell_row rfl _ _ gb228 32 #[.int .i64 a1, .int .i64 x230001_3, .int .i64 x230002_3, .int .i64 x230003_3, .int .i64 x230004_12, .int .i64 x230005_12, .int .i64 x230006_12, .int .i64 (Go.bits .and .i64 a0 255)] (0, 0) _ rfl ?hb_ Try.underlying32 rfl (by kernel_rfl)) rfl ?_
        (case hb_ => refine bk_ ?_; refine blk_put (cs := #[.int .i64 a1, .int .i64 x230001_3, .int .i64 x230002_3, .int .i64 x230003_3, .int .i64 x230004_12, .int .i64 x230005_12, .int .i64 x230006_12, .int .i64 0]) ?_ 7 _ rfl; refine bk_ ?_; refine blk_put (cs := #[.int .i64 a1, .int .i64 x230001_3, .int .i64 x230002_3, .int .i64 x230003_3, .int .i64 x230004_12, .int .i64 x230005_12, .int .i64 0, .int .i64 0]) ?_ 6 _ rfl; refine bk_ ?_; refine blk_put (cs := #[.int .i64 a1, .int .i64 x230001_3, .int .i64 x230002_3, .int .i64 x230003_3, .int .i64 x230004_12, .int .i64 0, .int .i64 0, .int .i64 0]) ?_ 5 _ rfl; refine bk_ ?_; refine blk_put (cs := #[.int .i64 a1, .int .i64 x230001_3, .int .i64 x230002_3, .int .i64 x230003_3, .int .i64 0, .int .i64 0, .int .i64 0, .int .i64 0]) ?_ 4 _ rfl; refine bk_ ?_; refine blk_put (cs := #[.int .i64 a1, .int .i64 x230001_3, .int .i64 x230002_3, .int .i64 0, .int .i64 0, .int .i64 0, .int .i64 0, .int .i64 0]) ?_ 3 _ rfl; refine bk_ ?_; refine blk_put (cs := #[.int .i64 a1, .int .i64 x230001_3, .int .i64 0, .int .i64 0, .int .i64 0, .int .i64 0, .int .i64 0, .int .i64 0]) ?_ 2 _ rfl; refine bk_ ?_; refine blk_put (cs := #[.int .i64 a1, .int .i64 0, .int .i64 0, .int .i64 0, .int .i64 0, .int .i64 0, .int .i64 0, .int .i64 0]) ?_ 1 _ rfl; refine bk_ ?_; refine blk_put (cs := #[.int .i64 0, .int .i64 0, .int .i64 0, .int .i64 0, .int .i64 0, .int .i64 0, .int .i64 0, .int .i64 0]) ?_ 0 _ rfl; refine bk_ ?_; refine blk_far ?_ NB228_229.out _; refine bk_ ?_; exact BK228.out)
        exact rt_ (bw_ HB.out)
       ·rw [if_neg c25] at H
        have c25b0 : (a1 == 23) = false := beq_eq_false_iff_ne.mpr c25
        have c25b1 : (a1 != 23) = true := bne_iff_ne.mpr c25
        replace H := Option.bind_eq_some_iff.mp H
        obtain ⟨t232, A290, H⟩ := H
        try dsimp only at H
        have A29 := Aside0.mk A290
        clear A290
        by_cases c30 : t232 = true
        ·subst c30
         rw [if_pos rfl] at H
         by_cases c31 : (Go.bits .and .i64 a0 255) > 127
         ·rw [if_pos c31] at H
          have c31b0 : decide (127 < (Go.bits .and .i64 a0 255)) = true := decide_eq_true c31
          clear c31
          simp only [Option.some.injEq, Prod.mk.injEq] at H
          obtain ⟨rfl, rfl, rfl, rfl, rfl, rfl, rfl, rfl⟩ := H
          go_wp2_with (first | ((with_reducible refine gate_callee (f := 42) rfl ?_); refine gL_ (some 48) Try.func42 #[.int .i64 a1] ?_; (with_reducible refine (impl_isBranch.calls a1 true _ A29.out).mono ?_); rintro e w' ⟨rfl, ⟨nd, rfl⟩⟩; refine ⟨_, rfl, ?_⟩; (try (rw [drewN_self wc]; generalize hq_ : World.drewN wc _ = wc; have n0_ : Aside0 (wc.heap[gb228]? = some (.cells #[.int .i64 0, .int .i64 0, .int .i64 0, .int .i64 0, .int .i64 0, .int .i64 0, .int .i64 0, .int .i64 0] 32 (0, 0))) := ⟨by rw [← hq_]; exact (bk_ BK228.out)⟩; have n1_ : Aside0 (wc.heap[gb229]? = some (.cells #[.int .i64 a1, .int .i64 x230001_3, .int .i64 x230002_3, .int .i64 x230003_3, .int .i64 x230004_12, .int .i64 x230005_12, .int .i64 x230006_12, .int .i64 0] 32 (0, 0))) := ⟨by rw [← hq_]; exact (bk_ BK229.out)⟩; have n2_ : Aside0 (Below w.heap.size w wc) := ⟨by rw [← hq_]; exact (bw_ HB.out)⟩; clear BK228 BK229 HB hq_; have BK228 := n0_; have BK229 := n1_; have HB := n2_; clear n0_ n1_ n2_)); have hnb32 := NB229_228.out; have hnc32 := NB228_229.out; have hcz33_0 : wc.cell? ⟨gb229, 0, none⟩ = some (.int .i64 a1) := (blk_cell BK229.out 0).trans rfl; have hcz33_1 : wc.cell? ⟨gb229, 1, none⟩ = some (.int .i64 x230001_3) := (blk_cell BK229.out 1).trans rfl; have hcz33_2 : wc.cell? ⟨gb229, 2, none⟩ = some (.int .i64 x230002_3) := (blk_cell BK229.out 2).trans rfl; have hcz33_3 : wc.cell? ⟨gb229, 3, none⟩ = some (.int .i64 x230003_3) := (blk_cell BK229.out 3).trans rfl; have hcz33_4 : wc.cell? ⟨gb229, 4, none⟩ = some (.int .i64 x230004_12) := (blk_cell BK229.out 4).trans rfl; have hcz33_5 : wc.cell? ⟨gb229, 5, none⟩ = some (.int .i64 x230005_12) := (blk_cell BK229.out 5).trans rfl; have hcz33_6 : wc.cell? ⟨gb229, 6, none⟩ = some (.int .i64 x230006_12) := (blk_cell BK229.out 6).trans rfl; have hcz33_7 : wc.cell? ⟨gb229, 7, none⟩ = some (.int .i64 0) := (blk_cell BK229.out 7).trans rfl; have hfz33_0 := blk_frozen BK229.out 0; have hfz33_1 := blk_frozen BK229.out 1; have hfz33_2 := blk_frozen BK229.out 2; have hfz33_3 := blk_frozen BK229.out 3; have hfz33_4 := blk_frozen BK229.out 4; have hfz33_5 := blk_frozen BK229.out 5; have hfz33_6 := blk_frozen BK229.out 6; have hfz33_7 := blk_frozen BK229.out 7; have hcz34_0 : wc.cell? ⟨gb228, 0, none⟩ = some (.int .i64 0) := (blk_cell BK228.out 0).trans rfl; have hcz34_1 : wc.cell? ⟨gb228, 1, none⟩ = some (.int .i64 0) := (blk_cell BK228.out 1).trans rfl; have hcz34_2 : wc.cell? ⟨gb228, 2, none⟩ = some (.int .i64 0) := (blk_cell BK228.out 2).trans rfl; have hcz34_3 : wc.cell? ⟨gb228, 3, none⟩ = some (.int .i64 0) := (blk_cell BK228.out 3).trans rfl; have hcz34_4 : wc.cell? ⟨gb228, 4, none⟩ = some (.int .i64 0) := (blk_cell BK228.out 4).trans rfl; have hcz34_5 : wc.cell? ⟨gb228, 5, none⟩ = some (.int .i64 0) := (blk_cell BK228.out 5).trans rfl; have hcz34_6 : wc.cell? ⟨gb228, 6, none⟩ = some (.int .i64 0) := (blk_cell BK228.out 6).trans rfl; have hcz34_7 : wc.cell? ⟨gb228, 7, none⟩ = some (.int .i64 0) := (blk_cell BK228.out 7).trans rfl; have hfz34_0 := blk_frozen BK228.out 0; have hfz34_1 := blk_frozen BK228.out 1; have hfz34_2 := blk_frozen BK228.out 2; have hfz34_3 := blk_frozen BK228.out 3; have hfz34_4 := blk_frozen BK228.out 4; have hfz34_5 := blk_frozen BK228.out 5; have hfz34_6 := blk_frozen BK228.out 6; have hfz34_7 := blk_frozen BK228.out 7))
          refine bodyPost_ret (results_cell_row rfl _ _ gb228 32 #[.int .i64 a1, .int .i64 x230001_3, .int .i64 x230002_3, .int .i64 x230003_3, .int .i64 x230004_12, .int .i64 x230005_12, .int .i64 x230006_12, .int .i64 (wrap64 ((Go.bits .and .i64 a0 255) - 256))] (0, 0) _ rfl ?hb_ Try.underlying32 rfl (by kernel_rfl)) rfl ?_
          (case hb_ => refine bk_ ?_; refine blk_put (cs := #[.int .i64 a1, .int .i64 x230001_3, .int .i64 x230002_3, .int .i64 x230003_3, .int .i64 x230004_12, .int .i64 x230005_12, .int .i64 x230006_12, .int .i64 0]) ?_ 7 _ rfl; refine bk_ ?_; refine blk_put (cs := #[.int .i64 a1, .int .i64 x230001_3, .int .i64 x230002_3, .int .i64 x230003_3, .int .i64 x230004_12, .int .i64 x230005_12, .int .i64 0, .int .i64 0]) ?_ 6 _ rfl; refine bk_ ?_; refine blk_put (cs := #[.int .i64 a1, .int .i64 x230001_3, .int .i64 x230002_3, .int .i64 x230003_3, .int .i64 x230004_12, .int .i64 0, .int .i64 0, .int .i64 0]) ?_ 5 _ rfl; refine bk_ ?_; refine blk_put (cs := #[.int .i64 a1, .int .i64 x230001_3, .int .i64 x230002_3, .int .i64 x230003_3, .int .i64 0, .int .i64 0, .int .i64 0, .int .i64 0]) ?_ 4 _ rfl; refine bk_ ?_; refine blk_put (cs := #[.int .i64 a1, .int .i64 x230001_3, .int .i64 x230002_3, .int .i64 0, .int .i64 0, .int .i64 0, .int .i64 0, .int .i64 0]) ?_ 3 _ rfl; refine bk_ ?_; refine blk_put (cs := #[.int .i64 a1, .int .i64 x230001_3, .int .i64 0, .int .i64 0, .int .i64 0, .int .i64 0, .int .i64 0, .int .i64 0]) ?_ 2 _ rfl; refine bk_ ?_; refine blk_put (cs := #[.int .i64 a1, .int .i64 0, .int .i64 0, .int .i64 0, .int .i64 0, .int .i64 0, .int .i64 0, .int .i64 0]) ?_ 1 _ rfl; refine bk_ ?_; refine blk_put (cs := #[.int .i64 0, .int .i64 0, .int .i64 0, .int .i64 0, .int .i64 0, .int .i64 0, .int .i64 0, .int .i64 0]) ?_ 0 _ rfl; refine bk_ ?_; refine blk_far ?_ NB228_229.out _; refine bk_ ?_; refine blk_far ?_ NB228_229.out _; refine bk_ ?_; exact BK228.out)
          exact rt_ (bw_ HB.out)
         ·rw [if_neg c31] at H
          have c31b0 : decide (127 < (Go.bits .and .i64 a0 255)) = false := decide_eq_false c31
          clear c31
          simp only [Option.some.injEq, Prod.mk.injEq] at H
          obtain ⟨rfl, rfl, rfl, rfl, rfl, rfl, rfl, rfl⟩ := H
          go_wp2_with (first | ((with_reducible refine gate_callee (f := 42) rfl ?_); refine gL_ (some 48) Try.func42 #[.int .i64 a1] ?_; (with_reducible refine (impl_isBranch.calls a1 true _ A29.out).mono ?_); rintro e w' ⟨rfl, ⟨nd, rfl⟩⟩; refine ⟨_, rfl, ?_⟩; (try (rw [drewN_self wc]; generalize hq_ : World.drewN wc _ = wc; have n0_ : Aside0 (wc.heap[gb228]? = some (.cells #[.int .i64 0, .int .i64 0, .int .i64 0, .int .i64 0, .int .i64 0, .int .i64 0, .int .i64 0, .int .i64 0] 32 (0, 0))) := ⟨by rw [← hq_]; exact (bk_ BK228.out)⟩; have n1_ : Aside0 (wc.heap[gb229]? = some (.cells #[.int .i64 a1, .int .i64 x230001_3, .int .i64 x230002_3, .int .i64 x230003_3, .int .i64 x230004_12, .int .i64 x230005_12, .int .i64 x230006_12, .int .i64 0] 32 (0, 0))) := ⟨by rw [← hq_]; exact (bk_ BK229.out)⟩; have n2_ : Aside0 (Below w.heap.size w wc) := ⟨by rw [← hq_]; exact (bw_ HB.out)⟩; clear BK228 BK229 HB hq_; have BK228 := n0_; have BK229 := n1_; have HB := n2_; clear n0_ n1_ n2_)); have hnb35 := NB229_228.out; have hnc35 := NB228_229.out; have hcz36_0 : wc.cell? ⟨gb229, 0, none⟩ = some (.int .i64 a1) := (blk_cell BK229.out 0).trans rfl; have hcz36_1 : wc.cell? ⟨gb229, 1, none⟩ = some (.int .i64 x230001_3) := (blk_cell BK229.out 1).trans rfl; have hcz36_2 : wc.cell? ⟨gb229, 2, none⟩ = some (.int .i64 x230002_3) := (blk_cell BK229.out 2).trans rfl; have hcz36_3 : wc.cell? ⟨gb229, 3, none⟩ = some (.int .i64 x230003_3) := (blk_cell BK229.out 3).trans rfl; have hcz36_4 : wc.cell? ⟨gb229, 4, none⟩ = some (.int .i64 x230004_12) := (blk_cell BK229.out 4).trans rfl; have hcz36_5 : wc.cell? ⟨gb229, 5, none⟩ = some (.int .i64 x230005_12) := (blk_cell BK229.out 5).trans rfl; have hcz36_6 : wc.cell? ⟨gb229, 6, none⟩ = some (.int .i64 x230006_12) := (blk_cell BK229.out 6).trans rfl; have hcz36_7 : wc.cell? ⟨gb229, 7, none⟩ = some (.int .i64 0) := (blk_cell BK229.out 7).trans rfl; have hfz36_0 := blk_frozen BK229.out 0; have hfz36_1 := blk_frozen BK229.out 1; have hfz36_2 := blk_frozen BK229.out 2; have hfz36_3 := blk_frozen BK229.out 3; have hfz36_4 := blk_frozen BK229.out 4; have hfz36_5 := blk_frozen BK229.out 5; have hfz36_6 := blk_frozen BK229.out 6; have hfz36_7 := blk_frozen BK229.out 7; have hcz37_0 : wc.cell? ⟨gb228, 0, none⟩ = some (.int .i64 0) := (blk_cell BK228.out 0).trans rfl; have hcz37_1 : wc.cell? ⟨gb228, 1, none⟩ = some (.int .i64 0) := (blk_cell BK228.out 1).trans rfl; have hcz37_2 : wc.cell? ⟨gb228, 2, none⟩ = some (.int .i64 0) := (blk_cell BK228.out 2).trans rfl; have hcz37_3 : wc.cell? ⟨gb228, 3, none⟩ = some (.int .i64 0) := (blk_cell BK228.out 3).trans rfl; have hcz37_4 : wc.cell? ⟨gb228, 4, none⟩ = some (.int .i64 0) := (blk_cell BK228.out 4).trans rfl; have hcz37_5 : wc.cell? ⟨gb228, 5, none⟩ = some (.int .i64 0) := (blk_cell BK228.out 5).trans rfl; have hcz37_6 : wc.cell? ⟨gb228, 6, none⟩ = some (.int .i64 0) := (blk_cell BK228.out 6).trans rfl; have hcz37_7 : wc.cell? ⟨gb228, 7, none⟩ = some (.int .i64 0) := (blk_cell BK228.out 7).trans rfl; have hfz37_0 := blk_frozen BK228.out 0; have hfz37_1 := blk_frozen BK228.out 1; have hfz37_2 := blk_frozen BK228.out 2; have hfz37_3 := blk_frozen BK228.out 3; have hfz37_4 := blk_frozen BK228.out 4; have hfz37_5 := blk_frozen BK228.out 5; have hfz37_6 := blk_frozen BK228.out 6; have hfz37_7 := blk_frozen BK228.out 7))
          refine bodyPost_ret (results_cell_row rfl _ _ gb228 32 #[.int .i64 a1, .int .i64 x230001_3, .int .i64 x230002_3, .int .i64 x230003_3, .int .i64 x230004_12, .int .i64 x230005_12, .int .i64 x230006_12, .int .i64 (Go.bits .and .i64 a0 255)] (0, 0) _ rfl ?hb_ Try.underlying32 rfl (by kernel_rfl)) rfl ?_
          (case hb_ => refine bk_ ?_; refine blk_put (cs := #[.int .i64 a1, .int .i64 x230001_3, .int .i64 x230002_3, .int .i64 x230003_3, .int .i64 x230004_12, .int .i64 x230005_12, .int .i64 x230006_12, .int .i64 0]) ?_ 7 _ rfl; refine bk_ ?_; refine blk_put (cs := #[.int .i64 a1, .int .i64 x230001_3, .int .i64 x230002_3, .int .i64 x230003_3, .int .i64 x230004_12, .int .i64 x230005_12, .int .i64 0, .int .i64 0]) ?_ 6 _ rfl; refine bk_ ?_; refine blk_put (cs := #[.int .i64 a1, .int .i64 x230001_3, .int .i64 x230002_3, .int .i64 x230003_3, .int .i64 x230004_12, .int .i64 0, .int .i64 0, .int .i64 0]) ?_ 5 _ rfl; refine bk_ ?_; refine blk_put (cs := #[.int .i64 a1, .int .i64 x230001_3, .int .i64 x230002_3, .int .i64 x230003_3, .int .i64 0, .int .i64 0, .int .i64 0, .int .i64 0]) ?_ 4 _ rfl; refine bk_ ?_; refine blk_put (cs := #[.int .i64 a1, .int .i64 x230001_3, .int .i64 x230002_3, .int .i64 0, .int .i64 0, .int .i64 0, .int .i64 0, .int .i64 0]) ?_ 3 _ rfl; refine bk_ ?_; refine blk_put (cs := #[.int .i64 a1, .int .i64 x230001_3, .int .i64 0, .int .i64 0, .int .i64 0, .int .i64 0, .int .i64 0, .int .i64 0]) ?_ 2 _ rfl; refine bk_ ?_; refine blk_put (cs := #[.int .i64 a1, .int .i64 0, .int .i64 0, .int .i64 0, .int .i64 0, .int .i64 0, .int .i64 0, .int .i64 0]) ?_ 1 _ rfl; refine bk_ ?_; refine blk_put (cs := #[.int .i64 0, .int .i64 0, .int .i64 0, .int .i64 0, .int .i64 0, .int .i64 0, .int .i64 0, .int .i64 0]) ?_ 0 _ rfl; refine bk_ ?_; refine blk_far ?_ NB228_229.out _; refine bk_ ?_; exact BK228.out)
          exact rt_ (bw_ HB.out)
        ·replace c30 := Bool.eq_false_iff.mpr c30
         subst c30
         rw [if_neg (show ¬ (false = true) by decide)] at H
         simp only [Option.some.injEq, Prod.mk.injEq] at H
         obtain ⟨rfl, rfl, rfl, rfl, rfl, rfl, rfl, rfl⟩ := H
         go_wp2_with (first | ((with_reducible refine gate_callee (f := 42) rfl ?_); refine gL_ (some 48) Try.func42 #[.int .i64 a1] ?_; (with_reducible refine (impl_isBranch.calls a1 false _ A29.out).mono ?_); rintro e w' ⟨rfl, ⟨nd, rfl⟩⟩; refine ⟨_, rfl, ?_⟩; (try (rw [drewN_self wc]; generalize hq_ : World.drewN wc _ = wc; have n0_ : Aside0 (wc.heap[gb228]? = some (.cells #[.int .i64 0, .int .i64 0, .int .i64 0, .int .i64 0, .int .i64 0, .int .i64 0, .int .i64 0, .int .i64 0] 32 (0, 0))) := ⟨by rw [← hq_]; exact (bk_ BK228.out)⟩; have n1_ : Aside0 (wc.heap[gb229]? = some (.cells #[.int .i64 a1, .int .i64 x230001_3, .int .i64 x230002_3, .int .i64 x230003_3, .int .i64 x230004_12, .int .i64 x230005_12, .int .i64 x230006_12, .int .i64 0] 32 (0, 0))) := ⟨by rw [← hq_]; exact (bk_ BK229.out)⟩; have n2_ : Aside0 (Below w.heap.size w wc) := ⟨by rw [← hq_]; exact (bw_ HB.out)⟩; clear BK228 BK229 HB hq_; have BK228 := n0_; have BK229 := n1_; have HB := n2_; clear n0_ n1_ n2_)); have hnb38 := NB229_228.out; have hnc38 := NB228_229.out; have hcz39_0 : wc.cell? ⟨gb229, 0, none⟩ = some (.int .i64 a1) := (blk_cell BK229.out 0).trans rfl; have hcz39_1 : wc.cell? ⟨gb229, 1, none⟩ = some (.int .i64 x230001_3) := (blk_cell BK229.out 1).trans rfl; have hcz39_2 : wc.cell? ⟨gb229, 2, none⟩ = some (.int .i64 x230002_3) := (blk_cell BK229.out 2).trans rfl; have hcz39_3 : wc.cell? ⟨gb229, 3, none⟩ = some (.int .i64 x230003_3) := (blk_cell BK229.out 3).trans rfl; have hcz39_4 : wc.cell? ⟨gb229, 4, none⟩ = some (.int .i64 x230004_12) := (blk_cell BK229.out 4).trans rfl; have hcz39_5 : wc.cell? ⟨gb229, 5, none⟩ = some (.int .i64 x230005_12) := (blk_cell BK229.out 5).trans rfl; have hcz39_6 : wc.cell? ⟨gb229, 6, none⟩ = some (.int .i64 x230006_12) := (blk_cell BK229.out 6).trans rfl; have hcz39_7 : wc.cell? ⟨gb229, 7, none⟩ = some (.int .i64 0) := (blk_cell BK229.out 7).trans rfl; have hfz39_0 := blk_frozen BK229.out 0; have hfz39_1 := blk_frozen BK229.out 1; have hfz39_2 := blk_frozen BK229.out 2; have hfz39_3 := blk_frozen BK229.out 3; have hfz39_4 := blk_frozen BK229.out 4; have hfz39_5 := blk_frozen BK229.out 5; have hfz39_6 := blk_frozen BK229.out 6; have hfz39_7 := blk_frozen BK229.out 7; have hcz40_0 : wc.cell? ⟨gb228, 0, none⟩ = some (.int .i64 0) := (blk_cell BK228.out 0).trans rfl; have hcz40_1 : wc.cell? ⟨gb228, 1, none⟩ = some (.int .i64 0) := (blk_cell BK228.out 1).trans rfl; have hcz40_2 : wc.cell? ⟨gb228, 2, none⟩ = some (.int .i64 0) := (blk_cell BK228.out 2).trans rfl; have hcz40_3 : wc.cell? ⟨gb228, 3, none⟩ = some (.int .i64 0) := (blk_cell BK228.out 3).trans rfl; have hcz40_4 : wc.cell? ⟨gb228, 4, none⟩ = some (.int .i64 0) := (blk_cell BK228.out 4).trans rfl; have hcz40_5 : wc.cell? ⟨gb228, 5, none⟩ = some (.int .i64 0) := (blk_cell BK228.out 5).trans rfl; have hcz40_6 : wc.cell? ⟨gb228, 6, none⟩ = some (.int .i64 0) := (blk_cell BK228.out 6).trans rfl; have hcz40_7 : wc.cell? ⟨gb228, 7, none⟩ = some (.int .i64 0) := (blk_cell BK228.out 7).trans rfl; have hfz40_0 := blk_frozen BK228.out 0; have hfz40_1 := blk_frozen BK228.out 1; have hfz40_2 := blk_frozen BK228.out 2; have hfz40_3 := blk_frozen BK228.out 3; have hfz40_4 := blk_frozen BK228.out 4; have hfz40_5 := blk_frozen BK228.out 5; have hfz40_6 := blk_frozen BK228.out 6; have hfz40_7 := blk_frozen BK228.out 7))
         refine bodyPost_ret (results_cell_row rfl _ _ gb228 32 #[.int .i64 a1, .int .i64 x230001_3, .int .i64 x230002_3, .int .i64 x230003_3, .int .i64 x230004_12, .int .i64 x230005_12, .int .i64 x230006_12, .int .i64 0] (0, 0) _ rfl ?hb_ Try.underlying32 rfl (by kernel_rfl)) rfl ?_
         (case hb_ => refine bk_ ?_; refine blk_put (cs := #[.int .i64 a1, .int .i64 x230001_3, .int .i64 x230002_3, .int .i64 x230003_3, .int .i64 x230004_12, .int .i64 x230005_12, .int .i64 x230006_12, .int .i64 0]) ?_ 7 _ rfl; refine bk_ ?_; refine blk_put (cs := #[.int .i64 a1, .int .i64 x230001_3, .int .i64 x230002_3, .int .i64 x230003_3, .int .i64 x230004_12, .int .i64 x230005_12, .int .i64 0, .int .i64 0]) ?_ 6 _ rfl; refine bk_ ?_; refine blk_put (cs := #[.int .i64 a1, .int .i64 x230001_3, .int .i64 x230002_3, .int .i64 x230003_3, .int .i64 x230004_12, .int .i64 0, .int .i64 0, .int .i64 0]) ?_ 5 _ rfl; refine bk_ ?_; refine blk_put (cs := #[.int .i64 a1, .int .i64 x230001_3, .int .i64 x230002_3, .int .i64 x230003_3, .int .i64 0, .int .i64 0, .int .i64 0, .int .i64 0]) ?_ 4 _ rfl; refine bk_ ?_; refine blk_put (cs := #[.int .i64 a1, .int .i64 x230001_3, .int .i64 x230002_3, .int .i64 0, .int .i64 0, .int .i64 0, .int .i64 0, .int .i64 0]) ?_ 3 _ rfl; refine bk_ ?_; refine blk_put (cs := #[.int .i64 a1, .int .i64 x230001_3, .int .i64 0, .int .i64 0, .int .i64 0, .int .i64 0, .int .i64 0, .int .i64 0]) ?_ 2 _ rfl; refine bk_ ?_; refine blk_put (cs := #[.int .i64 a1, .int .i64 0, .int .i64 0, .int .i64 0, .int .i64 0, .int .i64 0, .int .i64 0, .int .i64 0]) ?_ 1 _ rfl; refine bk_ ?_; refine blk_put (cs := #[.int .i64 0, .int .i64 0, .int .i64 0, .int .i64 0, .int .i64 0, .int .i64 0, .int .i64 0, .int .i64 0]) ?_ 0 _ rfl; refine bk_ ?_; exact BK228.out)
         exact rt_ (bw_ HB.out)

/-! ### impl_wordsOk: function 49 -/
def impl_wordsOk.l0 : Nat → List Int → Int → Int → Option (Bool)
 | 0, _, _, _ => none
 | k + 1, x5, x6, x7 => if x7 < x6 then (if 0 ≤ x7 then (if x7 < (x5.length : Int) then ((impl_isWord.f (rd x5 x7)).bind fun t234 => (if t234 = true then (impl_wordsOk.l0 k x5 x6 (wrap64 (x7 + 1))) else (some false))) else (none)) else (none)) else (some true)
def impl_wordsOk.f (k : Nat) (l0 : List Int) : Option (Bool) := impl_wordsOk.l0 k l0 (l0.length : Int) 0
theorem impl_wordsOk.mono_l : ∀ k, (∀ y0 y1 y2, LeO (impl_wordsOk.l0 k y0 y1 y2) (impl_wordsOk.l0 (k + 1) y0 y1 y2))
 | 0 => fun _ _ _ r h => by simp [impl_wordsOk.l0] at h
 | k + 1 => by
  have ih0 := impl_wordsOk.mono_l k
  ·intro y0 y1 y2
   unfold impl_wordsOk.l0
   repeat' first
   | (with_reducible exact ih0 _ _ _)
   | (with_reducible exact LeO.refl _)
   | (with_reducible exact LeO.none _)
   | (with_reducible refine LeO.ite ?_ ?_)
   | (with_reducible refine LeO.bind ?_ (fun _ => ?_))
   | exact ih0 _ _ _
   | exact LeO.none _
   | refine LeO.ite ?_ ?_
   | refine LeO.bind ?_ (fun _ => ?_)
theorem impl_wordsOk.mono : ∀ a0 k, LeO (impl_wordsOk.f k a0) (impl_wordsOk.f (k + 1) a0) := by
 intro a0 k
 have ih0 := impl_wordsOk.mono_l k
 unfold impl_wordsOk.f
 repeat' first
   | (with_reducible exact ih0 _ _ _)
   | (with_reducible exact LeO.refl _)
   | (with_reducible exact LeO.none _)
   | (with_reducible refine LeO.ite ?_ ?_)
   | (with_reducible refine LeO.bind ?_ (fun _ => ?_))
   | exact ih0 _ _ _
   | exact LeO.none _
   | refine LeO.ite ?_ ?_
   | refine LeO.bind ?_ (fun _ => ?_)
set_option maxHeartbeats 8000000 in
set_option maxRecDepth 100000 in
theorem impl_wordsOk.calls (k : Nat) (A0 : Option Addr) (c0 : Nat) (l0 : List Int) (r : Bool) (w : World) (hr0 : Kd.C (Kd.int .i64) w A0 l0.length l0) (hc0 : l0.length ≤ c0) (h : impl_wordsOk.f k l0 = some r) :
  Calls Try.prog 49 #[.slice A0 l0.length c0] w fun e w' => e = .returned (.bool r) ∧ Drawn0 w w' := by
 have HR0 := Aside0.mk hr0
 have HC0 := Aside0.mk hc0
 clear hr0 hc0
 have H : (impl_wordsOk.l0 k l0 (l0.length : Int) 0) = some r := h
 clear h
 have H' := Aside0.mk H
 clear H
 go_enter Try.func49, Try.ntmps49
 go_wp2
 go_loopg [7] k (fun kq v7 w' => ∃ (x7_1 : Int), v7 = .int .i64 x7_1 ∧ Aside0 (impl_wordsOk.l0 kq l0 (l0.length : Int) x7_1 = some r) ∧ Aside0 (kq ≤ k) ∧ Drawn0 w w')
 case atStart => exact ⟨(0), (by first | rfl | (simp; done) | (simp [*]; done) | (simp [wrap64]; done)), H', ⟨Nat.le_refl _⟩, by repeat (first | exact Drawn0.refl _ | apply Drawn0.step)⟩
 case round =>
  clear H'
  obtain ⟨x7_1, rfl, HA, HK1, ⟨m1, rfl⟩⟩ := hrel
  cases gk with
  | zero => exact absurd HA.out (by simp [impl_wordsOk.l0])
  | succ k1 =>
   have H := HA.out
   clear HA
   simp only [impl_wordsOk.l0] at H
   by_cases c2 : x7_1 < (l0.length : Int)
   ·rw [if_pos c2] at H
    have c2b0 : decide (x7_1 < (l0.length : Int)) = true := decide_eq_true c2
    clear c2
    by_cases c3 : 0 ≤ x7_1
    ·rw [if_pos c3] at H
     have c3b0 : decide (0 ≤ x7_1) = true := decide_eq_true c3
     clear c3
     by_cases c4 : x7_1 < (l0.length : Int)
     ·rw [if_pos c4] at H
      have c4b0 : decide (x7_1 < (l0.length : Int)) = true := decide_eq_true c4
      clear c4
      replace H := Option.bind_eq_some_iff.mp H
      obtain ⟨t234, A50, H⟩ := H
      try dsimp only at H
      have A5 := Aside0.mk A50
      clear A50
      by_cases c6 : t234 = true
      ·subst c6
       rw [if_pos rfl] at H
       have H' := Aside0.mk H
       clear H
       have p233 : 0 ≤ (x7_1 : Int) := of_decide_eq_true (by first | (with_reducible assumption) | assumption)
       have q233 : x7_1 < (l0.length : Int) := of_decide_eq_true (by first | (with_reducible assumption) | assumption)
       obtain ⟨ad233, e233, hx233_0⟩ := Kd.at_int HR0.out x7_1 p233 q233
       cases e233
       replace p233 := eq_true p233
       replace q233 := eq_true q233
       go_wp2_with (first | ((with_reducible refine gate_callee (f := 38) rfl ?_); refine gL_ (some 12) Try.func38 #[.int .i64 (rd l0 x7_1)] ?_; (with_reducible refine (impl_isWord.calls (rd l0 x7_1) true _ A5.out).mono ?_); rintro e w' ⟨rfl, ⟨nd, rfl⟩⟩; refine ⟨_, rfl, ?_⟩))
       go_roundg k1
       case measure => have := HK1.out; omega
       case rel => exact ⟨(wrap64 (x7_1 + 1)), (by first | rfl | (simp; done) | (simp [*]; done) | (simp [wrap64]; done)), H', ⟨by have := HK1.out; omega⟩, by repeat (first | exact Drawn0.refl _ | apply Drawn0.step)⟩
      ·replace c6 := Bool.eq_false_iff.mpr c6
       subst c6
       rw [if_neg (show ¬ (false = true) by decide)] at H
       obtain rfl := Option.some.inj H
       have p233 : 0 ≤ (x7_1 : Int) := of_decide_eq_true (by first | (with_reducible assumption) | assumption)
       have q233 : x7_1 < (l0.length : Int) := of_decide_eq_true (by first | (with_reducible assumption) | assumption)
       obtain ⟨ad233, e233, hx233_0⟩ := Kd.at_int HR0.out x7_1 p233 q233
       cases e233
       replace p233 := eq_true p233
       replace q233 := eq_true q233
       go_wp2_with (first | ((with_reducible refine gate_callee (f := 38) rfl ?_); refine gL_ (some 12) Try.func38 #[.int .i64 (rd l0 x7_1)] ?_; (with_reducible refine (impl_isWord.calls (rd l0 x7_1) false _ A5.out).mono ?_); rintro e w' ⟨rfl, ⟨nd, rfl⟩⟩; refine ⟨_, rfl, ?_⟩))
       go_ret
       exact ⟨by first | rfl | (simp; done) | (simp [*]; done), by repeat (first | exact Drawn0.refl _ | apply Drawn0.step)⟩
     ·rw [if_neg c4] at H
      exact absurd H (by simp)
    ·rw [if_neg c3] at H
     exact absurd H (by simp)
   ·rw [if_neg c2] at H
    have c2b0 : decide (x7_1 < (l0.length : Int)) = false := decide_eq_false c2
    clear c2
    obtain rfl := Option.some.inj H
    go_wp2
    go_ret
    exact ⟨by first | rfl | (simp; done) | (simp [*]; done), by repeat (first | exact Drawn0.refl _ | apply Drawn0.step)⟩

end Go.Proofs.Ytajkjkdfcegdpaa.PFnCodes
