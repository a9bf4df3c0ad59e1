-- Laid by a program of this session (a changed copy of the kit's printer); Lean checks every line.
import Derived.Test.YtcpnhlhigpgonaaPFnExactFoldx0
import Derived.Test.YtcpnhlhigpgonaaPFnExactFoldx3
import Derived.Test.YtcpnhlhigpgonaaPFnExactFoldx4
namespace Go.Proofs.Ytcpnhlhigpgonaa.PFnExactFold
open Go.RowKit Go.Proofs.YtcpnhlhigpgonaaW.PrintWords Go.Proofs.YtcpnhlhigpgonaaW.PrintLast Go.Proofs.YtcpnhlhigpgonaaW.PrintMore
attribute [local go_sem] max2_int min2_int max_two min_two max_three min_three max_four min_four   -- for this text's walks alone
set_option linter.unusedVariables false
set_option linter.unusedSimpArgs false

/-! ### spec_l10Here: function 67 -/
mutual
def spec_l10Here.j0 : Nat → Int → Bool → Int → Int → ByteArray → List (S29) → Option (Bool)
 | 0, _, _, _, _, _, _ => none
 | k + 1, x3, x34, x155000, x155001, x155002, x155003 => if x34 = true then (some false) else (if x155000 = 1 then ((spec_l1In.f x155001 0 65535).bind fun t155 => (if t155 = true then (some (x3 == 0)) else (some false))) else (if x155000 = 2 then (spec_l10Here.j1 k x3 x155000 (x155000 == 2) x155000 x155001 x155002 x155003) else (spec_l10Here.j1 k x3 x155000 (x155000 == 12) x155000 x155001 x155002 x155003)))
def spec_l10Here.j1 : Nat → Int → Int → Bool → Int → Int → ByteArray → List (S29) → Option (Bool)
 | 0, _, _, _, _, _, _, _ => none
 | k + 1, x3, x36, x46, x155000, x155001, x155002, x155003 => if x46 = true then ((spec_l9Name.f k x155002).bind fun t156 => (if t156 = true then (some (x3 == 0)) else (some false))) else (if x36 = 3 then (some (x3 == 0)) else (if x36 = 4 then (some (x3 == 1)) else (if x36 = 5 then (spec_l10Here.j2 k x3 x36 (x36 == 5) x155000 x155001 x155002 x155003) else (if x36 = 6 then (spec_l10Here.j2 k x3 x36 (x36 == 6) x155000 x155001 x155002 x155003) else (if x36 = 7 then (spec_l10Here.j2 k x3 x36 (x36 == 7) x155000 x155001 x155002 x155003) else (if x36 = 8 then (spec_l10Here.j2 k x3 x36 (x36 == 8) x155000 x155001 x155002 x155003) else (if x36 = 9 then (spec_l10Here.j2 k x3 x36 (x36 == 9) x155000 x155001 x155002 x155003) else (spec_l10Here.j2 k x3 x36 (x36 == 10) x155000 x155001 x155002 x155003))))))))
def spec_l10Here.j2 : Nat → Int → Int → Bool → Int → Int → ByteArray → List (S29) → Option (Bool)
 | 0, _, _, _, _, _, _, _ => none
 | k + 1, x3, x36, x64, x155000, x155001, x155002, x155003 => if x64 = true then (some (x3 == 2)) else (if x36 = 11 then ((spec_l1In.f x155001 0 9).bind fun t157 => (if t157 = true then (some (x3 == 0)) else (some false))) else (some false))
end
def spec_l10Here.f (k : Nat) (a0_0 : Int) (a0_1 : Int) (a0_2 : ByteArray) (l0_3 : List (S29)) : Option (Bool) := if a0_0 = 1 then (if a0_0 = 2 then (spec_l10Here.j0 k (l0_3.length : Int) false a0_0 a0_1 a0_2 l0_3) else (if a0_0 = 12 then (spec_l10Here.j0 k (l0_3.length : Int) false a0_0 a0_1 a0_2 l0_3) else (spec_l10Here.j0 k (l0_3.length : Int) (a0_2.toList != ([] : List UInt8)) a0_0 a0_1 a0_2 l0_3))) else (if a0_0 = 11 then (if a0_0 = 2 then (spec_l10Here.j0 k (l0_3.length : Int) false a0_0 a0_1 a0_2 l0_3) else (if a0_0 = 12 then (spec_l10Here.j0 k (l0_3.length : Int) false a0_0 a0_1 a0_2 l0_3) else (spec_l10Here.j0 k (l0_3.length : Int) (a0_2.toList != ([] : List UInt8)) a0_0 a0_1 a0_2 l0_3))) else (if a0_1 = 0 then (if a0_0 = 2 then (spec_l10Here.j0 k (l0_3.length : Int) false a0_0 a0_1 a0_2 l0_3) else (if a0_0 = 12 then (spec_l10Here.j0 k (l0_3.length : Int) false a0_0 a0_1 a0_2 l0_3) else (spec_l10Here.j0 k (l0_3.length : Int) (a0_2.toList != ([] : List UInt8)) a0_0 a0_1 a0_2 l0_3))) else (spec_l10Here.j0 k (l0_3.length : Int) true a0_0 a0_1 a0_2 l0_3)))
theorem spec_l10Here.mono_l : ∀ k, (∀ y0 y1 y2 y3 y4 y5, LeO (spec_l10Here.j0 k y0 y1 y2 y3 y4 y5) (spec_l10Here.j0 (k + 1) y0 y1 y2 y3 y4 y5)) ∧ (∀ y0 y1 y2 y3 y4 y5 y6, LeO (spec_l10Here.j1 k y0 y1 y2 y3 y4 y5 y6) (spec_l10Here.j1 (k + 1) y0 y1 y2 y3 y4 y5 y6)) ∧ (∀ y0 y1 y2 y3 y4 y5 y6, LeO (spec_l10Here.j2 k y0 y1 y2 y3 y4 y5 y6) (spec_l10Here.j2 (k + 1) y0 y1 y2 y3 y4 y5 y6))
 | 0 => ⟨fun _ _ _ _ _ _ r h => by simp [spec_l10Here.j0] at h, fun _ _ _ _ _ _ _ r h => by simp [spec_l10Here.j1] at h, fun _ _ _ _ _ _ _ r h => by simp [spec_l10Here.j2] at h⟩
 | k + 1 => by
  obtain ⟨ih0, ih1, ih2⟩ := spec_l10Here.mono_l k
  refine ⟨?_, ?_, ?_⟩
  ·intro y0 y1 y2 y3 y4 y5
   unfold spec_l10Here.j0
   repeat' first
   | (with_reducible exact ih0 _ _ _ _ _ _)
   | (with_reducible exact ih1 _ _ _ _ _ _ _)
   | (with_reducible exact ih2 _ _ _ _ _ _ _)
   | (with_reducible exact spec_l9Name.mono _ _)
   | (with_reducible exact LeO.refl _)
   | (with_reducible exact LeO.none _)
   | (with_reducible refine LeO.ite ?_ ?_)
   | (with_reducible refine LeO.bind ?_ (fun _ => ?_))
   | exact ih0 _ _ _ _ _ _
   | exact ih1 _ _ _ _ _ _ _
   | exact ih2 _ _ _ _ _ _ _
   | exact spec_l9Name.mono _ _
   | exact LeO.none _
   | refine LeO.ite ?_ ?_
   | refine LeO.bind ?_ (fun _ => ?_)
  ·intro y0 y1 y2 y3 y4 y5 y6
   unfold spec_l10Here.j1
   repeat' first
   | (with_reducible exact ih0 _ _ _ _ _ _)
   | (with_reducible exact ih1 _ _ _ _ _ _ _)
   | (with_reducible exact ih2 _ _ _ _ _ _ _)
   | (with_reducible exact spec_l9Name.mono _ _)
   | (with_reducible exact LeO.refl _)
   | (with_reducible exact LeO.none _)
   | (with_reducible refine LeO.ite ?_ ?_)
   | (with_reducible refine LeO.bind ?_ (fun _ => ?_))
   | exact ih0 _ _ _ _ _ _
   | exact ih1 _ _ _ _ _ _ _
   | exact ih2 _ _ _ _ _ _ _
   | exact spec_l9Name.mono _ _
   | exact LeO.none _
   | refine LeO.ite ?_ ?_
   | refine LeO.bind ?_ (fun _ => ?_)
  ·intro y0 y1 y2 y3 y4 y5 y6
   unfold spec_l10Here.j2
   repeat' first
   | (with_reducible exact ih0 _ _ _ _ _ _)
   | (with_reducible exact ih1 _ _ _ _ _ _ _)
   | (with_reducible exact ih2 _ _ _ _ _ _ _)
   | (with_reducible exact spec_l9Name.mono _ _)
   | (with_reducible exact LeO.refl _)
   | (with_reducible exact LeO.none _)
   | (with_reducible refine LeO.ite ?_ ?_)
   | (with_reducible refine LeO.bind ?_ (fun _ => ?_))
   | exact ih0 _ _ _ _ _ _
   | exact ih1 _ _ _ _ _ _ _
   | exact ih2 _ _ _ _ _ _ _
   | exact spec_l9Name.mono _ _
   | exact LeO.none _
   | refine LeO.ite ?_ ?_
   | refine LeO.bind ?_ (fun _ => ?_)
theorem spec_l10Here.mono : ∀ a0 a1 a2 a3 k, LeO (spec_l10Here.f k a0 a1 a2 a3) (spec_l10Here.f (k + 1) a0 a1 a2 a3) := by
 intro a0 a1 a2 a3 k
 obtain ⟨ih0, ih1, ih2⟩ := spec_l10Here.mono_l k
 unfold spec_l10Here.f
 repeat' first
   | (with_reducible exact ih0 _ _ _ _ _ _)
   | (with_reducible exact ih1 _ _ _ _ _ _ _)
   | (with_reducible exact ih2 _ _ _ _ _ _ _)
   | (with_reducible exact spec_l9Name.mono _ _)
   | (with_reducible exact LeO.refl _)
   | (with_reducible exact LeO.none _)
   | (with_reducible refine LeO.ite ?_ ?_)
   | (with_reducible refine LeO.bind ?_ (fun _ => ?_))
   | exact ih0 _ _ _ _ _ _
   | exact ih1 _ _ _ _ _ _ _
   | exact ih2 _ _ _ _ _ _ _
   | exact spec_l9Name.mono _ _
   | exact LeO.none _
   | refine LeO.ite ?_ ?_
   | refine LeO.bind ?_ (fun _ => ?_)
set_option maxHeartbeats 8000000 in
set_option maxRecDepth 100000 in
theorem spec_l10Here.calls (k : Nat) (a0_0 : Int) (a0_1 : Int) (a0_2 : ByteArray) (A0_3 : Option Addr) (c0_3 : Nat) (l0_3 : List (S29)) (r : Bool) (w : World) (hr0_3 : Kd.C k29 w A0_3 l0_3.length l0_3) (hc0_3 : l0_3.length ≤ c0_3) (h : spec_l10Here.f k a0_0 a0_1 a0_2 l0_3 = some r) :
  Calls Try.prog 67 #[.agg #[.int .i64 a0_0, .int .i64 a0_1, .string a0_2, .slice A0_3 l0_3.length c0_3]] w fun e w' => e = .returned (.bool r) ∧ Below w.heap.size w w' := by
 have hu29 := Try.underlying29
 have HR0_3 := A_ hr0_3
 have HC0_3 := A_ hc0_3
 clear hr0_3 hc0_3
 have HB := A_ (Below.refl w.heap.size w)
 have H : (if a0_0 = 1 then (if a0_0 = 2 then (spec_l10Here.j0 k (l0_3.length : Int) false a0_0 a0_1 a0_2 l0_3) else (if a0_0 = 12 then (spec_l10Here.j0 k (l0_3.length : Int) false a0_0 a0_1 a0_2 l0_3) else (spec_l10Here.j0 k (l0_3.length : Int) (a0_2.toList != ([] : List UInt8)) a0_0 a0_1 a0_2 l0_3))) else (if a0_0 = 11 then (if a0_0 = 2 then (spec_l10Here.j0 k (l0_3.length : Int) false a0_0 a0_1 a0_2 l0_3) else (if a0_0 = 12 then (spec_l10Here.j0 k (l0_3.length : Int) false a0_0 a0_1 a0_2 l0_3) else (spec_l10Here.j0 k (l0_3.length : Int) (a0_2.toList != ([] : List UInt8)) a0_0 a0_1 a0_2 l0_3))) else (if a0_1 = 0 then (if a0_0 = 2 then (spec_l10Here.j0 k (l0_3.length : Int) false a0_0 a0_1 a0_2 l0_3) else (if a0_0 = 12 then (spec_l10Here.j0 k (l0_3.length : Int) false a0_0 a0_1 a0_2 l0_3) else (spec_l10Here.j0 k (l0_3.length : Int) (a0_2.toList != ([] : List UInt8)) a0_0 a0_1 a0_2 l0_3))) else (spec_l10Here.j0 k (l0_3.length : Int) true a0_0 a0_1 a0_2 l0_3)))) = some r := h
 clear h
 have HC2 := A_ H
 clear H
 go_enter Try.func67, Try.ntmps67
 go_upto_region 2 with (first | ((with_reducible refine gate_dst (N := 1) rfl ?_); refine bx_ 1 #[.int .i64 a0_0, .int .i64 a0_1, .string a0_2, .slice A0_3 l0_3.length c0_3] 29 ?_; intro gb154 hg w3 hbox hb; have n0_ := A_ (below_step (bw_ HB.out) hb); have n1_ := A_ (hbox); have n2_ := A_ ((d3_ : w.heap.size ≤ gb154)); have n3_ := n2_; clear HB; have HB := n0_; have BK154 := n1_; have GW154 := n2_; have GE154 := n3_; have GI154 := GeI.mk GE154.out; clear n0_ n1_ n2_ n3_; clear hb hbox hg; obtain ⟨y4_0, y4_1, y4_2, y4_3, z4_0, z4_1, z4_2, z4_3⟩ := cz4_ BK154.out))
 (try simp only [Act.put, List.setIfInBounds_toArray, List.set_cons_zero, List.set_cons_succ])
 go_cut [34] (fun v34 wc => ∃ (kq : Nat) (x34_1 : Bool), v34 = .bool x34_1 ∧ Aside0 (spec_l10Here.j0 kq (l0_3.length : Int) x34_1 a0_0 a0_1 a0_2 l0_3 = some r) ∧ Aside0 (kq ≤ k) ∧ Aside0 (wc.heap[gb154]? = some (.cells #[.int .i64 a0_0, .int .i64 a0_1, .string a0_2, (.slice A0_3 l0_3.length c0_3)] 29 (0, 0))) ∧ Aside0 (Below w.heap.size w wc))
 case first =>
  have H := HC2.out
  clear HC2
  by_cases c5 : a0_0 = 1
  ·rw [if_pos c5] at H
   have c5b0 := beq_iff_eq.mpr c5
   have c5b1 := bne_eq_false_iff_eq.mpr c5
   clear c5
   (first | rw [c5b0] | (simp only [i64_w, i32_w]; rw [c5b0]) | skip)
   by_cases c6 : a0_0 = 2
   ·rw [if_pos c6] at H
    have c6b0 := beq_iff_eq.mpr c6
    have c6b1 := bne_eq_false_iff_eq.mpr c6
    clear c6
    have H' := A_ H
    clear H
    obtain ⟨y7_0, y7_1, y7_2, y7_3, z7_0, z7_1, z7_2, z7_3⟩ := cz4_ BK154.out
    go_wp2
    go_meet
    case rel => exact ⟨_, (false), d0_, H', ⟨by first | omega | exact Nat.le_refl _⟩, ⟨by refine bk_ ?_; exact BK154.out⟩, ⟨bw_ HB.out⟩⟩
   ·rw [if_neg c6] at H
    have c6b0 := beq_eq_false_iff_ne.mpr c6
    have c6b1 := bne_iff_ne.mpr c6
    by_cases c8 : a0_0 = 12
    ·rw [if_pos c8] at H
     have c8b0 := beq_iff_eq.mpr c8
     have c8b1 := bne_eq_false_iff_eq.mpr c8
     clear c8
     have H' := A_ H
     clear H
     obtain ⟨y9_0, y9_1, y9_2, y9_3, z9_0, z9_1, z9_2, z9_3⟩ := cz4_ BK154.out
     go_wp2
     go_meet
     case rel => exact ⟨_, (false), d0_, H', ⟨by first | omega | exact Nat.le_refl _⟩, ⟨by refine bk_ ?_; exact BK154.out⟩, ⟨bw_ HB.out⟩⟩
    ·rw [if_neg c8] at H
     have c8b0 := beq_eq_false_iff_ne.mpr c8
     have c8b1 := bne_iff_ne.mpr c8
     have H' := A_ H
     clear H
     obtain ⟨y10_0, y10_1, y10_2, y10_3, z10_0, z10_1, z10_2, z10_3⟩ := cz4_ BK154.out
     go_wp2
     go_meet
     case rel => exact ⟨_, ((a0_2.toList != ([] : List UInt8))), d0_, H', ⟨by first | omega | exact Nat.le_refl _⟩, ⟨by refine bk_ ?_; exact BK154.out⟩, ⟨bw_ HB.out⟩⟩
  ·rw [if_neg c5] at H
   have c5b0 := beq_eq_false_iff_ne.mpr c5
   have c5b1 := bne_iff_ne.mpr c5
   (first | rw [c5b0] | (simp only [i64_w, i32_w]; rw [c5b0]) | skip)
   by_cases c11 : a0_0 = 11
   ·rw [if_pos c11] at H
    have c11b0 := beq_iff_eq.mpr c11
    have c11b1 := bne_eq_false_iff_eq.mpr c11
    clear c11
    by_cases c12 : a0_0 = 2
    ·rw [if_pos c12] at H
     have c12b0 := beq_iff_eq.mpr c12
     have c12b1 := bne_eq_false_iff_eq.mpr c12
     clear c12
     have H' := A_ H
     clear H
     obtain ⟨y13_0, y13_1, y13_2, y13_3, z13_0, z13_1, z13_2, z13_3⟩ := cz4_ BK154.out
     go_wp2
     go_meet
     case rel => exact ⟨_, (false), d0_, H', ⟨by first | omega | exact Nat.le_refl _⟩, ⟨by refine bk_ ?_; exact BK154.out⟩, ⟨bw_ HB.out⟩⟩
    ·rw [if_neg c12] at H
     have c12b0 := beq_eq_false_iff_ne.mpr c12
     have c12b1 := bne_iff_ne.mpr c12
     by_cases c14 : a0_0 = 12
     ·rw [if_pos c14] at H
      have c14b0 := beq_iff_eq.mpr c14
      have c14b1 := bne_eq_false_iff_eq.mpr c14
      clear c14
      have H' := A_ H
      clear H
      obtain ⟨y15_0, y15_1, y15_2, y15_3, z15_0, z15_1, z15_2, z15_3⟩ := cz4_ BK154.out
      go_wp2
      go_meet
      case rel => exact ⟨_, (false), d0_, H', ⟨by first | omega | exact Nat.le_refl _⟩, ⟨by refine bk_ ?_; exact BK154.out⟩, ⟨bw_ HB.out⟩⟩
     ·rw [if_neg c14] at H
      have c14b0 := beq_eq_false_iff_ne.mpr c14
      have c14b1 := bne_iff_ne.mpr c14
      have H' := A_ H
      clear H
      obtain ⟨y16_0, y16_1, y16_2, y16_3, z16_0, z16_1, z16_2, z16_3⟩ := cz4_ BK154.out
      go_wp2
      go_meet
      case rel => exact ⟨_, ((a0_2.toList != ([] : List UInt8))), d0_, H', ⟨by first | omega | exact Nat.le_refl _⟩, ⟨by refine bk_ ?_; exact BK154.out⟩, ⟨bw_ HB.out⟩⟩
   ·rw [if_neg c11] at H
    have c11b0 := beq_eq_false_iff_ne.mpr c11
    have c11b1 := bne_iff_ne.mpr c11
    by_cases c17 : a0_1 = 0
    ·rw [if_pos c17] at H
     have c17b0 := beq_iff_eq.mpr c17
     have c17b1 := bne_eq_false_iff_eq.mpr c17
     clear c17
     by_cases c18 : a0_0 = 2
     ·rw [if_pos c18] at H
      have c18b0 := beq_iff_eq.mpr c18
      have c18b1 := bne_eq_false_iff_eq.mpr c18
      clear c18
      have H' := A_ H
      clear H
      obtain ⟨y19_0, y19_1, y19_2, y19_3, z19_0, z19_1, z19_2, z19_3⟩ := cz4_ BK154.out
      go_wp2
      go_meet
      case rel => exact ⟨_, (false), d0_, H', ⟨by first | omega | exact Nat.le_refl _⟩, ⟨by refine bk_ ?_; exact BK154.out⟩, ⟨bw_ HB.out⟩⟩
     ·rw [if_neg c18] at H
      have c18b0 := beq_eq_false_iff_ne.mpr c18
      have c18b1 := bne_iff_ne.mpr c18
      by_cases c20 : a0_0 = 12
      ·rw [if_pos c20] at H
       have c20b0 := beq_iff_eq.mpr c20
       have c20b1 := bne_eq_false_iff_eq.mpr c20
       clear c20
       have H' := A_ H
       clear H
       obtain ⟨y21_0, y21_1, y21_2, y21_3, z21_0, z21_1, z21_2, z21_3⟩ := cz4_ BK154.out
       go_wp2
       go_meet
       case rel => exact ⟨_, (false), d0_, H', ⟨by first | omega | exact Nat.le_refl _⟩, ⟨by refine bk_ ?_; exact BK154.out⟩, ⟨bw_ HB.out⟩⟩
      ·rw [if_neg c20] at H
       have c20b0 := beq_eq_false_iff_ne.mpr c20
       have c20b1 := bne_iff_ne.mpr c20
       have H' := A_ H
       clear H
       obtain ⟨y22_0, y22_1, y22_2, y22_3, z22_0, z22_1, z22_2, z22_3⟩ := cz4_ BK154.out
       go_wp2
       go_meet
       case rel => exact ⟨_, ((a0_2.toList != ([] : List UInt8))), d0_, H', ⟨by first | omega | exact Nat.le_refl _⟩, ⟨by refine bk_ ?_; exact BK154.out⟩, ⟨bw_ HB.out⟩⟩
    ·rw [if_neg c17] at H
     have c17b0 := beq_eq_false_iff_ne.mpr c17
     have c17b1 := bne_iff_ne.mpr c17
     have H' := A_ H
     clear H
     obtain ⟨y23_0, y23_1, y23_2, y23_3, z23_0, z23_1, z23_2, z23_3⟩ := cz4_ BK154.out
     go_wp2
     go_meet
     case rel => exact ⟨_, (true), d0_, H', ⟨by first | omega | exact Nat.le_refl _⟩, ⟨by refine bk_ ?_; exact BK154.out⟩, ⟨bw_ HB.out⟩⟩
 case rest =>
  clear HC2
  try clear c1
  try clear c2
  try clear p2
  try clear c5
  try clear c5b0
  try clear c5b1
  try clear c6
  try clear c6b0
  try clear c6b1
  try clear c8
  try clear c8b0
  try clear c8b1
  try clear c11
  try clear c11b0
  try clear c11b1
  try clear c12
  try clear c12b0
  try clear c12b1
  try clear c14
  try clear c14b0
  try clear c14b1
  try clear c17
  try clear c17b0
  try clear c17b1
  try clear c18
  try clear c18b0
  try clear c18b1
  try clear c20
  try clear c20b0
  try clear c20b1
  try clear y10_0 y10_1 y10_2 y10_3 z10_0 z10_1 z10_2 z10_3
  try clear y13_0 y13_1 y13_2 y13_3 z13_0 z13_1 z13_2 z13_3
  try clear y15_0 y15_1 y15_2 y15_3 z15_0 z15_1 z15_2 z15_3
  try clear y16_0 y16_1 y16_2 y16_3 z16_0 z16_1 z16_2 z16_3
  try clear y19_0 y19_1 y19_2 y19_3 z19_0 z19_1 z19_2 z19_3
  try clear y21_0 y21_1 y21_2 y21_3 z21_0 z21_1 z21_2 z21_3
  try clear y22_0 y22_1 y22_2 y22_3 z22_0 z22_1 z22_2 z22_3
  try clear y23_0 y23_1 y23_2 y23_3 z23_0 z23_1 z23_2 z23_3
  try clear y4_0 y4_1 y4_2 y4_3 z4_0 z4_1 z4_2 z4_3
  try clear y7_0 y7_1 y7_2 y7_3 z7_0 z7_1 z7_2 z7_3
  try clear y9_0 y9_1 y9_2 y9_3 z9_0 z9_1 z9_2 z9_3
  obtain ⟨kq, x34_1, rfl, HA, HJ1, BK154, HB⟩ := hcut
  cases kq with
  | zero => exact absurd HA.out (by simp [spec_l10Here.j0])
  | succ kj1 =>
   have H := HA.out
   clear HA
   simp only [spec_l10Here.j0] at H
   by_cases c24 : x34_1 = true
   ·subst c24
    rw [if_pos rfl] at H
    obtain rfl := Option.some.inj H
    go_wp2
    go_ret
    exact rt_ (bw_ HB.out)
   ·replace c24 := Bool.eq_false_iff.mpr c24
    subst c24
    rw [if_neg (show ¬ (false = true) by decide)] at H
    by_cases c25 : a0_0 = 1
    ·rw [if_pos c25] at H
     have c25b0 := beq_iff_eq.mpr c25
     have c25b1 := bne_eq_false_iff_eq.mpr c25
     clear c25
     replace H := Option.bind_eq_some_iff.mp H
     obtain ⟨t155, A260, H⟩ := H
     try dsimp only at H
     have A26 := A_ A260
     clear A260
     by_cases c27 : t155 = true
     ·subst c27
      rw [if_pos rfl] at H
      obtain rfl := Option.some.inj H
      obtain ⟨y28_0, y28_1, y28_2, y28_3, z28_0, z28_1, z28_2, z28_3⟩ := cz4_ BK154.out
      go_wp2_with (first | ((with_reducible refine gate_callee (f := 86) rfl ?_); refine gL_ (some 41) Try.func86 #[.int .i64 a0_1, .int .i64 0, .int .i64 65535] ?_; (with_reducible refine (spec_l1In.calls a0_1 0 65535 true _ A26.out).mono ?_); rintro e w' ⟨rfl, ⟨nd, rfl⟩⟩; refine ⟨_, rfl, ?_⟩))
      go_ret
      exact rt_ (bw_ HB.out)
     ·replace c27 := Bool.eq_false_iff.mpr c27
      subst c27
      rw [if_neg (show ¬ (false = true) by decide)] at H
      obtain rfl := Option.some.inj H
      obtain ⟨y29_0, y29_1, y29_2, y29_3, z29_0, z29_1, z29_2, z29_3⟩ := cz4_ BK154.out
      go_wp2_with (first | ((with_reducible refine gate_callee (f := 86) rfl ?_); refine gL_ (some 41) Try.func86 #[.int .i64 a0_1, .int .i64 0, .int .i64 65535] ?_; (with_reducible refine (spec_l1In.calls a0_1 0 65535 false _ A26.out).mono ?_); rintro e w' ⟨rfl, ⟨nd, rfl⟩⟩; refine ⟨_, rfl, ?_⟩))
      go_ret
      exact rt_ (bw_ HB.out)
    ·rw [if_neg c25] at H
     have c25b0 := beq_eq_false_iff_ne.mpr c25
     have c25b1 := bne_iff_ne.mpr c25
     have HC30 := A_ H
     clear H
     obtain ⟨y31_0, y31_1, y31_2, y31_3, z31_0, z31_1, z31_2, z31_3⟩ := cz4_ BK154.out
     go_upto_if 46 with (fail)
     go_cut [46] (fun v46 wc => ∃ (kq : Nat) (x46_29 : Bool), v46 = .bool x46_29 ∧ Aside0 (spec_l10Here.j1 kq (l0_3.length : Int) a0_0 x46_29 a0_0 a0_1 a0_2 l0_3 = some r) ∧ Aside0 (kq ≤ kj1) ∧ Aside0 (wc.heap[gb154]? = some (.cells #[.int .i64 a0_0, .int .i64 a0_1, .string a0_2, (.slice A0_3 l0_3.length c0_3)] 29 (0, 0))) ∧ Aside0 (Below w.heap.size w wc))
     case first =>
      have H := HC30.out
      clear HC30
      by_cases c32 : a0_0 = 2
      ·rw [if_pos c32] at H
       have c32b0 := beq_iff_eq.mpr c32
       have c32b1 := bne_eq_false_iff_eq.mpr c32
       clear c32
       (first | rw [c32b0] | (simp only [i64_w, i32_w]; rw [c32b0]) | skip)
       have H' := A_ H
       clear H
       go_wp2
       go_meet
       case rel => exact ⟨_, ((a0_0 == 2)), d0_, H', ⟨by have := HJ1.out; first | omega | exact Nat.le_refl _⟩, ⟨by refine bk_ ?_; exact BK154.out⟩, ⟨bw_ HB.out⟩⟩
      ·rw [if_neg c32] at H
       have c32b0 := beq_eq_false_iff_ne.mpr c32
       have c32b1 := bne_iff_ne.mpr c32
       (first | rw [c32b0] | (simp only [i64_w, i32_w]; rw [c32b0]) | skip)
       have H' := A_ H
       clear H
       go_wp2
       go_meet
       case rel => exact ⟨_, ((a0_0 == 12)), d0_, H', ⟨by have := HJ1.out; first | omega | exact Nat.le_refl _⟩, ⟨by refine bk_ ?_; exact BK154.out⟩, ⟨bw_ HB.out⟩⟩
     case rest =>
      clear HC30
      try clear c1
      try clear c2
      try clear p2
      try clear c3
      try clear c5
      try clear c5b0
      try clear c5b1
      try clear c6
      try clear c6b0
      try clear c6b1
      try clear c8
      try clear c8b0
      try clear c8b1
      try clear c11
      try clear c11b0
      try clear c11b1
      try clear c12
      try clear c12b0
      try clear c12b1
      try clear c14
      try clear c14b0
      try clear c14b1
      try clear c17
      try clear c17b0
      try clear c17b1
      try clear c18
      try clear c18b0
      try clear c18b1
      try clear c20
      try clear c20b0
      try clear c20b1
      try clear c24
      try clear c25
      try clear c25b0
      try clear c25b1
      try clear c27
      try clear c32
      try clear c32b0
      try clear c32b1
      try clear y10_0 y10_1 y10_2 y10_3 z10_0 z10_1 z10_2 z10_3
      try clear y13_0 y13_1 y13_2 y13_3 z13_0 z13_1 z13_2 z13_3
      try clear y15_0 y15_1 y15_2 y15_3 z15_0 z15_1 z15_2 z15_3
      try clear y16_0 y16_1 y16_2 y16_3 z16_0 z16_1 z16_2 z16_3
      try clear y19_0 y19_1 y19_2 y19_3 z19_0 z19_1 z19_2 z19_3
      try clear y21_0 y21_1 y21_2 y21_3 z21_0 z21_1 z21_2 z21_3
      try clear y22_0 y22_1 y22_2 y22_3 z22_0 z22_1 z22_2 z22_3
      try clear y23_0 y23_1 y23_2 y23_3 z23_0 z23_1 z23_2 z23_3
      try clear y28_0 y28_1 y28_2 y28_3 z28_0 z28_1 z28_2 z28_3
      try clear y29_0 y29_1 y29_2 y29_3 z29_0 z29_1 z29_2 z29_3
      try clear y31_0 y31_1 y31_2 y31_3 z31_0 z31_1 z31_2 z31_3
      try clear y4_0 y4_1 y4_2 y4_3 z4_0 z4_1 z4_2 z4_3
      try clear y7_0 y7_1 y7_2 y7_3 z7_0 z7_1 z7_2 z7_3
      try clear y9_0 y9_1 y9_2 y9_3 z9_0 z9_1 z9_2 z9_3
      try clear p2
      obtain ⟨kq, x46_29, rfl, HA, HJ29, BK154, HB⟩ := hcut
      cases kq with
      | zero => exact absurd HA.out (by simp [spec_l10Here.j1])
      | succ kj29 =>
       have H := HA.out
       clear HA
       simp only [spec_l10Here.j1] at H
       by_cases c33 : x46_29 = true
       ·subst c33
        rw [if_pos rfl] at H
        replace H := Option.bind_eq_some_iff.mp H
        obtain ⟨t156, A340, H⟩ := H
        try dsimp only at H
        have A34 := A_ A340
        clear A340
        by_cases c35 : t156 = true
        ·subst c35
         rw [if_pos rfl] at H
         obtain rfl := Option.some.inj H
         obtain ⟨y36_0, y36_1, y36_2, y36_3, z36_0, z36_1, z36_2, z36_3⟩ := cz4_ BK154.out
         go_wp2_with (first | ((with_reducible refine gate_callee (f := 87) rfl ?_); refine gL_ (some 51) Try.func87 #[.string a0_2] ?_; (with_reducible refine (spec_l9Name.calls kj29 a0_2 true _ A34.out).mono ?_); rintro e w37 ⟨rfl, hb⟩; refine ⟨_, rfl, ?_⟩; replace BK154 := A_ (blk_below (bk_ BK154.out) hb); replace HB := A_ (below_step (bw_ HB.out) hb); clear hb))
         go_ret
         exact rt_ (bw_ HB.out)
        ·replace c35 := Bool.eq_false_iff.mpr c35
         subst c35
         rw [if_neg (show ¬ (false = true) by decide)] at H
         obtain rfl := Option.some.inj H
         obtain ⟨y38_0, y38_1, y38_2, y38_3, z38_0, z38_1, z38_2, z38_3⟩ := cz4_ BK154.out
         go_wp2_with (first | ((with_reducible refine gate_callee (f := 87) rfl ?_); refine gL_ (some 51) Try.func87 #[.string a0_2] ?_; (with_reducible refine (spec_l9Name.calls kj29 a0_2 false _ A34.out).mono ?_); rintro e w39 ⟨rfl, hb⟩; refine ⟨_, rfl, ?_⟩; replace BK154 := A_ (blk_below (bk_ BK154.out) hb); replace HB := A_ (below_step (bw_ HB.out) hb); clear hb))
         go_ret
         exact rt_ (bw_ HB.out)
       ·replace c33 := Bool.eq_false_iff.mpr c33
        subst c33
        rw [if_neg (show ¬ (false = true) by decide)] at H
        by_cases c40 : a0_0 = 3
        ·rw [if_pos c40] at H
         have c40b0 := beq_iff_eq.mpr c40
         have c40b1 := bne_eq_false_iff_eq.mpr c40
         clear c40
         obtain rfl := Option.some.inj H
         go_wp2
         go_ret
         exact rt_ (bw_ HB.out)
        ·rw [if_neg c40] at H
         have c40b0 := beq_eq_false_iff_ne.mpr c40
         have c40b1 := bne_iff_ne.mpr c40
         by_cases c41 : a0_0 = 4
         ·rw [if_pos c41] at H
          have c41b0 := beq_iff_eq.mpr c41
          have c41b1 := bne_eq_false_iff_eq.mpr c41
          clear c41
          obtain rfl := Option.some.inj H
          go_wp2
          go_ret
          exact rt_ (bw_ HB.out)
         ·rw [if_neg c41] at H
          have c41b0 := beq_eq_false_iff_ne.mpr c41
          have c41b1 := bne_iff_ne.mpr c41
          have HC42 := A_ H
          clear H
          go_upto_if 64 with (fail)
          go_cut [64] (fun v64 wc => ∃ (kq : Nat) (x64_41 : Bool), v64 = .bool x64_41 ∧ Aside0 (spec_l10Here.j2 kq (l0_3.length : Int) a0_0 x64_41 a0_0 a0_1 a0_2 l0_3 = some r) ∧ Aside0 (kq ≤ kj29) ∧ Aside0 (wc.heap[gb154]? = some (.cells #[.int .i64 a0_0, .int .i64 a0_1, .string a0_2, (.slice A0_3 l0_3.length c0_3)] 29 (0, 0))) ∧ Aside0 (Below w.heap.size w wc))
          case first =>
           have H := HC42.out
           clear HC42
           by_cases c43 : a0_0 = 5
           ·rw [if_pos c43] at H
            have c43b0 := beq_iff_eq.mpr c43
            have c43b1 := bne_eq_false_iff_eq.mpr c43
            clear c43
            (first | rw [c43b0] | (simp only [i64_w, i32_w]; rw [c43b0]) | skip)
            have H' := A_ H
            clear H
            go_wp2
            go_meet
            case rel => exact ⟨_, ((a0_0 == 5)), d0_, H', ⟨by have := HJ1.out; have := HJ29.out; first | omega | exact Nat.le_refl _⟩, ⟨by refine bk_ ?_; exact BK154.out⟩, ⟨bw_ HB.out⟩⟩
           ·rw [if_neg c43] at H
            have c43b0 := beq_eq_false_iff_ne.mpr c43
            have c43b1 := bne_iff_ne.mpr c43
            (first | rw [c43b0] | (simp only [i64_w, i32_w]; rw [c43b0]) | skip)
            by_cases c44 : a0_0 = 6
            ·rw [if_pos c44] at H
             have c44b0 := beq_iff_eq.mpr c44
             have c44b1 := bne_eq_false_iff_eq.mpr c44
             clear c44
             have H' := A_ H
             clear H
             go_wp2
             go_meet
             case rel => exact ⟨_, ((a0_0 == 6)), d0_, H', ⟨by have := HJ1.out; have := HJ29.out; first | omega | exact Nat.le_refl _⟩, ⟨by refine bk_ ?_; exact BK154.out⟩, ⟨bw_ HB.out⟩⟩
            ·rw [if_neg c44] at H
             have c44b0 := beq_eq_false_iff_ne.mpr c44
             have c44b1 := bne_iff_ne.mpr c44
             by_cases c45 : a0_0 = 7
             ·rw [if_pos c45] at H
              have c45b0 := beq_iff_eq.mpr c45
              have c45b1 := bne_eq_false_iff_eq.mpr c45
              clear c45
              have H' := A_ H
              clear H
              go_wp2
              go_meet
              case rel => exact ⟨_, ((a0_0 == 7)), d0_, H', ⟨by have := HJ1.out; have := HJ29.out; first | omega | exact Nat.le_refl _⟩, ⟨by refine bk_ ?_; exact BK154.out⟩, ⟨bw_ HB.out⟩⟩
             ·rw [if_neg c45] at H
              have c45b0 := beq_eq_false_iff_ne.mpr c45
              have c45b1 := bne_iff_ne.mpr c45
              by_cases c46 : a0_0 = 8
              ·rw [if_pos c46] at H
               have c46b0 := beq_iff_eq.mpr c46
               have c46b1 := bne_eq_false_iff_eq.mpr c46
               clear c46
               have H' := A_ H
               clear H
               go_wp2
               go_meet
               case rel => exact ⟨_, ((a0_0 == 8)), d0_, H', ⟨by have := HJ1.out; have := HJ29.out; first | omega | exact Nat.le_refl _⟩, ⟨by refine bk_ ?_; exact BK154.out⟩, ⟨bw_ HB.out⟩⟩
              ·rw [if_neg c46] at H
               have c46b0 := beq_eq_false_iff_ne.mpr c46
               have c46b1 := bne_iff_ne.mpr c46
               by_cases c47 : a0_0 = 9
               ·rw [if_pos c47] at H
                have c47b0 := beq_iff_eq.mpr c47
                have c47b1 := bne_eq_false_iff_eq.mpr c47
                clear c47
                have H' := A_ H
                clear H
                go_wp2
                go_meet
                case rel => exact ⟨_, ((a0_0 == 9)), d0_, H', ⟨by have := HJ1.out; have := HJ29.out; first | omega | exact Nat.le_refl _⟩, ⟨by refine bk_ ?_; exact BK154.out⟩, ⟨bw_ HB.out⟩⟩
               ·rw [if_neg c47] at H
                have c47b0 := beq_eq_false_iff_ne.mpr c47
                have c47b1 := bne_iff_ne.mpr c47
                have H' := A_ H
                clear H
                go_wp2
                go_meet
                case rel => exact ⟨_, ((a0_0 == 10)), d0_, H', ⟨by have := HJ1.out; have := HJ29.out; first | omega | exact Nat.le_refl _⟩, ⟨by refine bk_ ?_; exact BK154.out⟩, ⟨bw_ HB.out⟩⟩
          case rest =>
           clear HC42
           try clear c1
           try clear c2
           try clear p2
           try clear c3
           try clear c4
           try clear c5
           try clear c5b0
           try clear c5b1
           try clear c6
           try clear c6b0
           try clear c6b1
           try clear c8
           try clear c8b0
           try clear c8b1
           try clear c11
           try clear c11b0
           try clear c11b1
           try clear c12
           try clear c12b0
           try clear c12b1
           try clear c14
           try clear c14b0
           try clear c14b1
           try clear c17
           try clear c17b0
           try clear c17b1
           try clear c18
           try clear c18b0
           try clear c18b1
           try clear c20
           try clear c20b0
           try clear c20b1
           try clear c24
           try clear c25
           try clear c25b0
           try clear c25b1
           try clear c27
           try clear c32
           try clear c32b0
           try clear c32b1
           try clear c33
           try clear c35
           try clear c40
           try clear c40b0
           try clear c40b1
           try clear c41
           try clear c41b0
           try clear c41b1
           try clear c43
           try clear c43b0
           try clear c43b1
           try clear c44
           try clear c44b0
           try clear c44b1
           try clear c45
           try clear c45b0
           try clear c45b1
           try clear c46
           try clear c46b0
           try clear c46b1
           try clear c47
           try clear c47b0
           try clear c47b1
           try clear y10_0 y10_1 y10_2 y10_3 z10_0 z10_1 z10_2 z10_3
           try clear y13_0 y13_1 y13_2 y13_3 z13_0 z13_1 z13_2 z13_3
           try clear y15_0 y15_1 y15_2 y15_3 z15_0 z15_1 z15_2 z15_3
           try clear y16_0 y16_1 y16_2 y16_3 z16_0 z16_1 z16_2 z16_3
           try clear y19_0 y19_1 y19_2 y19_3 z19_0 z19_1 z19_2 z19_3
           try clear y21_0 y21_1 y21_2 y21_3 z21_0 z21_1 z21_2 z21_3
           try clear y22_0 y22_1 y22_2 y22_3 z22_0 z22_1 z22_2 z22_3
           try clear y23_0 y23_1 y23_2 y23_3 z23_0 z23_1 z23_2 z23_3
           try clear y28_0 y28_1 y28_2 y28_3 z28_0 z28_1 z28_2 z28_3
           try clear y29_0 y29_1 y29_2 y29_3 z29_0 z29_1 z29_2 z29_3
           try clear y31_0 y31_1 y31_2 y31_3 z31_0 z31_1 z31_2 z31_3
           try clear y36_0 y36_1 y36_2 y36_3 z36_0 z36_1 z36_2 z36_3
           try clear y38_0 y38_1 y38_2 y38_3 z38_0 z38_1 z38_2 z38_3
           try clear y4_0 y4_1 y4_2 y4_3 z4_0 z4_1 z4_2 z4_3
           try clear y7_0 y7_1 y7_2 y7_3 z7_0 z7_1 z7_2 z7_3
           try clear y9_0 y9_1 y9_2 y9_3 z9_0 z9_1 z9_2 z9_3
           try clear p2
           obtain ⟨kq, x64_41, rfl, HA, HJ41, BK154, HB⟩ := hcut
           cases kq with
           | zero => exact absurd HA.out (by simp [spec_l10Here.j2])
           | succ kj41 =>
            have H := HA.out
            clear HA
            simp only [spec_l10Here.j2] at H
            by_cases c48 : x64_41 = true
            ·subst c48
             rw [if_pos rfl] at H
             obtain rfl := Option.some.inj H
             go_wp2
             go_ret
             exact rt_ (bw_ HB.out)
            ·replace c48 := Bool.eq_false_iff.mpr c48
             subst c48
             rw [if_neg (show ¬ (false = true) by decide)] at H
             by_cases c49 : a0_0 = 11
             ·rw [if_pos c49] at H
              have c49b0 := beq_iff_eq.mpr c49
              have c49b1 := bne_eq_false_iff_eq.mpr c49
              clear c49
              replace H := Option.bind_eq_some_iff.mp H
              obtain ⟨t157, A500, H⟩ := H
              try dsimp only at H
              have A50 := A_ A500
              clear A500
              by_cases c51 : t157 = true
              ·subst c51
               rw [if_pos rfl] at H
               obtain rfl := Option.some.inj H
               obtain ⟨y52_0, y52_1, y52_2, y52_3, z52_0, z52_1, z52_2, z52_3⟩ := cz4_ BK154.out
               go_wp2_with (first | ((with_reducible refine gate_callee (f := 86) rfl ?_); refine gL_ (some 77) Try.func86 #[.int .i64 a0_1, .int .i64 0, .int .i64 9] ?_; (with_reducible refine (spec_l1In.calls a0_1 0 9 true _ A50.out).mono ?_); rintro e w' ⟨rfl, ⟨nd, rfl⟩⟩; refine ⟨_, rfl, ?_⟩))
               go_ret
               exact rt_ (bw_ HB.out)
              ·replace c51 := Bool.eq_false_iff.mpr c51
               subst c51
               rw [if_neg (show ¬ (false = true) by decide)] at H
               obtain rfl := Option.some.inj H
               obtain ⟨y53_0, y53_1, y53_2, y53_3, z53_0, z53_1, z53_2, z53_3⟩ := cz4_ BK154.out
               go_wp2_with (first | ((with_reducible refine gate_callee (f := 86) rfl ?_); refine gL_ (some 77) Try.func86 #[.int .i64 a0_1, .int .i64 0, .int .i64 9] ?_; (with_reducible refine (spec_l1In.calls a0_1 0 9 false _ A50.out).mono ?_); rintro e w' ⟨rfl, ⟨nd, rfl⟩⟩; refine ⟨_, rfl, ?_⟩))
               go_ret
               exact rt_ (bw_ HB.out)
             ·rw [if_neg c49] at H
              have c49b0 := beq_eq_false_iff_ne.mpr c49
              have c49b1 := bne_iff_ne.mpr c49
              obtain rfl := Option.some.inj H
              go_wp2
              go_ret
              exact rt_ (bw_ HB.out)

end Go.Proofs.Ytcpnhlhigpgonaa.PFnExactFold
