-- Laid by a program of this session (a changed copy of the kit's printer); Lean checks every line.
import Derived.Test.YtiagbfilffbljaaPFnStoredx0
import Derived.Test.YtiagbfilffbljaaPFnStoredx2
import Derived.Test.YtiagbfilffbljaaPFnStoredx4
import Derived.Test.YtiagbfilffbljaaPFnStoredx9
namespace Go.Proofs.Ytiagbfilffbljaa.PFnStored
open Go.RowKit Go.Proofs.YtiagbfilffbljaaW.PrintWords Go.Proofs.YtiagbfilffbljaaW.PrintLast Go.Proofs.YtiagbfilffbljaaW.PrintMore
attribute [local go_sem] max2_int min2_int max_two min_two max_three min_three max_four min_four   -- for this text's walks alone
set_option linter.unusedVariables false
set_option linter.unusedSimpArgs false

/-! ### spec_DrawMach: function 40 -/
def spec_DrawMach.f (k : Nat) (l0 : List Int) : Option (List Int × List Int × Bool × Bool × Bool × Bool × List Int × List Int × Int) := (spec_l1New.f k l0).bind fun bt503 => ((spec_l5Draw.f k bt503.1 bt503.2.1 bt503.2.2).bind fun bt507 => (some (bt507.1, bt507.2.1, bt507.2.2.1, bt507.2.2.2.1, bt507.2.2.2.2.1, bt507.2.2.2.2.2.1, bt507.2.2.2.2.2.2.1, bt507.2.2.2.2.2.2.2.1, bt507.2.2.2.2.2.2.2.2.1)))
theorem spec_DrawMach.mono : ∀ a0 k, LeO (spec_DrawMach.f k a0) (spec_DrawMach.f (k + 1) a0) := by
 intro a0 k
 unfold spec_DrawMach.f
 repeat' first
   | (with_reducible exact spec_l1New.mono _ _)
   | (with_reducible exact spec_l5Draw.mono _ _ _ _)
   | (with_reducible exact LeO.refl _)
   | (with_reducible exact LeO.none _)
   | (with_reducible refine LeO.ite ?_ ?_)
   | (with_reducible refine LeO.bind ?_ (fun _ => ?_))
   | exact spec_l1New.mono _ _
   | exact spec_l5Draw.mono _ _ _ _
   | exact LeO.none _
   | refine LeO.ite ?_ ?_
   | refine LeO.bind ?_ (fun _ => ?_)
set_option maxHeartbeats 8000000 in
set_option maxRecDepth 100000 in
theorem spec_DrawMach.calls (k : Nat) (A0 : Option Addr) (c0 : Nat) (l0 : List Int) (r1 : List Int) (r2 : List Int) (r3 : Bool) (r4 : Bool) (r5 : Bool) (r6 : Bool) (r7 : List Int) (r8 : List Int) (r9 : Int) (w : World) (hr0 : Kd.C (Kd.int .u8) w A0 l0.length l0) (hc0 : l0.length ≤ c0) (h : spec_DrawMach.f k l0 = some (r1, r2, r3, r4, r5, r6, r7, r8, r9)) :
  Calls Try.prog 40 #[.slice A0 l0.length c0] w fun e w' => ∃ v0_ v1_ v6_ v7_ : Value, e = .returned (.agg #[v0_, v1_, .bool r3, .bool r4, .bool r5, .bool r6, v6_, v7_, .int .i64 r9]) ∧ Kd.R (Kd.int .i64) 3 w' w.heap.size (fun k_ => some k_ ≠ (v1_ : Value).ownBlock ∧ some k_ ≠ (v6_ : Value).ownBlock ∧ some k_ ≠ (v7_ : Value).ownBlock) v0_ r1 ∧ Kd.R (Kd.int .i64) 3 w' w.heap.size (fun k_ => some k_ ≠ (v0_ : Value).ownBlock ∧ some k_ ≠ (v6_ : Value).ownBlock ∧ some k_ ≠ (v7_ : Value).ownBlock) v1_ r2 ∧ Kd.R (Kd.int .i64) 3 w' w.heap.size (fun k_ => some k_ ≠ (v0_ : Value).ownBlock ∧ some k_ ≠ (v1_ : Value).ownBlock ∧ some k_ ≠ (v7_ : Value).ownBlock) v6_ r7 ∧ Kd.R (Kd.int .i64) 3 w' w.heap.size (fun k_ => some k_ ≠ (v0_ : Value).ownBlock ∧ some k_ ≠ (v1_ : Value).ownBlock ∧ some k_ ≠ (v6_ : Value).ownBlock) v7_ r8 ∧ Below w.heap.size w w' := by
 have hu28 := Try.underlying28
 have HR0 := A_ hr0
 have HC0 := A_ hc0
 clear hr0 hc0
 have HB := A_ (Below.refl w.heap.size w)
 have H : ((spec_l1New.f k l0).bind fun bt503 => ((spec_l5Draw.f k bt503.1 bt503.2.1 bt503.2.2).bind fun bt507 => (some (bt507.1, bt507.2.1, bt507.2.2.1, bt507.2.2.2.1, bt507.2.2.2.2.1, bt507.2.2.2.2.2.1, bt507.2.2.2.2.2.2.1, bt507.2.2.2.2.2.2.2.1, bt507.2.2.2.2.2.2.2.2.1)))) = some (r1, r2, r3, r4, r5, r6, r7, r8, r9) := h
 clear h
 replace H := Option.bind_eq_some_iff.mp H
 obtain ⟨⟨t503, t504, t505⟩, A20, H⟩ := H
 try dsimp only at H
 have A2 := A_ A20
 clear A20
 replace H := Option.bind_eq_some_iff.mp H
 obtain ⟨⟨t507, t510, t513, t514, t515, t516, t517, t520, t523, t524, t525⟩, A30, H⟩ := H
 try dsimp only at H
 have A3 := A_ A30
 clear A30
 simp only [Option.some.injEq, Prod.mk.injEq] at H
 obtain ⟨rfl, rfl, rfl, rfl, rfl, rfl, rfl, rfl, rfl⟩ := H
 go_enter Try.func40, Try.ntmps40
 go_wp2_with (first | ((with_reducible refine gate_dst (N := 2) rfl ?_); refine bx_ 2 #[.slice none 0 0, .slice none 0 0, .bool false, .bool false, .bool false, .bool false, .slice none 0 0, .slice none 0 0, .int .i64 0] 28 ?_; intro gb502 hg w4 hbox hb; have n0_ := A_ (below_step (bw_ HB.out) hb); have n1_ := A_ (hbox); have n2_ := A_ ((d5_ : w.heap.size ≤ gb502)); have n3_ := n2_; clear HB; have HB := n0_; have BK502 := n1_; have GW502 := n2_; have GE502 := n3_; have GI502 := GeI.mk GE502.out; clear n0_ n1_ n2_ n3_; clear hb hbox hg) | ((with_reducible refine gate_callee (f := 69) rfl ?_); refine gL_ (some 5) Try.func69 #[.slice A0 l0.length c0] ?_; (with_reducible refine (spec_l1New.calls k _ _ l0 t503 t504 t505 w _ ?side1 ?side2 ?side3 A2.out).mono ?_); (case side1 => exact bw_ HB.out); (case side2 => exact HR0.out); (case side3 => exact HC0.out); rintro e w5 ⟨g506, rfl, hi, hb, hb2⟩; refine ⟨_, rfl, ?_⟩; replace HB := A_ (hb); have HI506 := A_ (hi); have NB506_502 := A_ (IsS102.ne_blk hi (blk_below (bk_ BK502.out) hb2) (by decide)); have NB502_506 := A_ (Ne.symm (IsS102.ne_blk hi (blk_below (bk_ BK502.out) hb2) (by decide))); replace BK502 := A_ (blk_below (bk_ BK502.out) hb2); clear hb hb2 hi) | ((with_reducible refine gate_callee (f := 73) rfl ?_); refine gL_ (some 7) Try.func73 #[.pointer (some ⟨g506, 0, none⟩)] ?_; (with_reducible refine (spec_l5Draw.calls k g506 t503 t504 t505 t507 t510 t513 t514 t515 t516 t517 t520 t523 t524 t525 w _ ?side1 ?side2 A3.out).mono ?_); (case side1 => exact hI1_); (case side2 => exact (have := GeI.mk (IsS102.ge HI506.out); bw_ HB.out)); rintro e w6 ⟨v508, v511, v518, v521, rfl, ho0, ho1, ho2, ho3, hi, hb, hk⟩; refine ⟨_, rfl, ?_⟩; replace BK502 := A_ (KeepBut.blk hk (bk_ BK502.out) NB502_506.out (by simp)); have HO509 := A_ (Kd.R_lower ho0 (below_size (have := GeI.mk (IsS102.ge HI506.out); bw_ HB.out))); have HO512 := A_ (Kd.R_lower ho1 (below_size (have := GeI.mk (IsS102.ge HI506.out); bw_ HB.out))); have HO519 := A_ (Kd.R_lower ho2 (below_size (have := GeI.mk (IsS102.ge HI506.out); bw_ HB.out))); have HO522 := A_ (Kd.R_lower ho3 (below_size (have := GeI.mk (IsS102.ge HI506.out); bw_ HB.out))); replace HB := A_ (hb); replace HI506 := A_ (hi); clear hb hk hi; (try clear ho0); (try clear ho1); (try clear ho2); (try clear ho3); obtain ⟨Ao7, co7, eo7⟩ := Kd.R_slice HO509.out; subst eo7; have hnb8 := NB502_506.out; have hnc8 := NB506_502.out; obtain ⟨y9_0, y9_1, y9_2, y9_3, y9_4, y9_5, y9_6, y9_7, y9_8, z9_0, z9_1, z9_2, z9_3, z9_4, z9_5, z9_6, z9_7, z9_8⟩ := cz9_ BK502.out; obtain ⟨Ao10, co10, eo10⟩ := Kd.R_slice HO512.out; subst eo10; obtain ⟨Ao11, co11, eo11⟩ := Kd.R_slice HO519.out; subst eo11; obtain ⟨Ao12, co12, eo12⟩ := Kd.R_slice HO522.out; subst eo12))
 refine bodyPost_ret (results_cell_row rfl _ _ gb502 28 #[.slice Ao7 t507.length co7, .slice Ao10 t510.length co10, .bool t513, .bool t514, .bool t515, .bool t516, .slice Ao11 t517.length co11, .slice Ao12 t520.length co12, .int .i64 t523] (0, 0) _ rfl ?hb_ Try.underlying28 rfl (by kernel_rfl)) rfl ?_
 (case hb_ => exact bk_ (bp9_ (bk_ BK502.out)))
 exact ⟨_, _, _, _, by first | rfl | (simp [errW_none, errW_some] <;> rfl) | (simp [*, errW_none, errW_some] <;> rfl), kr_ (Kd.R_mono (rf9_ (Kd.R_types HO509.out BK502.out (by decide)) (fun _ hk => hk.2)) (fun _ hk => ⟨hk.1.1, ⟨hk.1.2.1, hk.1.2.2⟩⟩)), kr_ (Kd.R_mono (rf9_ (Kd.R_types HO512.out BK502.out (by decide)) (fun _ hk => hk.2)) (fun _ hk => ⟨hk.1.1, ⟨hk.1.2.1, hk.1.2.2⟩⟩)), kr_ (Kd.R_mono (rf9_ (Kd.R_types HO519.out BK502.out (by decide)) (fun _ hk => hk.2)) (fun _ hk => ⟨hk.1.1, ⟨hk.1.2.1, hk.1.2.2⟩⟩)), kr_ (Kd.R_mono (rf9_ (Kd.R_types HO522.out BK502.out (by decide)) (fun _ hk => hk.2)) (fun _ hk => ⟨hk.1.1, ⟨hk.1.2.1, hk.1.2.2⟩⟩)), (have := GeI.mk (IsS102.ge HI506.out); bw_ HB.out)⟩

/-! ### laws_at: function 41 -/
def laws_at.f (l0 : List Int) (a1 : Int) : Option (Int) := if a1 < (l0.length : Int) then (if 0 ≤ a1 then (some (wrap64 (rd l0 a1))) else (none)) else (some (Int.tmod (wrap64 ((wrap64 (a1 * 31)) + (wrap64 ((l0.length : Int) * 7)))) 256))
set_option maxHeartbeats 8000000 in
set_option maxRecDepth 100000 in
theorem laws_at.calls (A0 : Option Addr) (c0 : Nat) (l0 : List Int) (a1 : Int) (r : Int) (w : World) (hr0 : Kd.C (Kd.int .u8) w A0 l0.length l0) (hc0 : l0.length ≤ c0) (h : laws_at.f l0 a1 = some r) :
  Calls Try.prog 41 #[.slice A0 l0.length c0, .int .i64 a1] w fun e w' => e = .returned (.int .i64 r) ∧ Drawn0 w w' := by
 have HR0 := A_ hr0
 have HC0 := A_ hc0
 clear hr0 hc0
 have H : (if a1 < (l0.length : Int) then (if 0 ≤ a1 then (some (wrap64 (rd l0 a1))) else (none)) else (some (Int.tmod (wrap64 ((wrap64 (a1 * 31)) + (wrap64 ((l0.length : Int) * 7)))) 256))) = some r := h
 clear h
 by_cases c3 : a1 < (l0.length : Int)
 ·rw [if_pos c3] at H
  have c3b0 := decide_eq_true c3
  clear c3
  by_cases c4 : 0 ≤ a1
  ·rw [if_pos c4] at H
   have c4b0 := decide_eq_true c4
   clear c4
   obtain rfl := Option.some.inj H
   have p526 : 0 ≤ (a1 : Int) := of_decide_eq_true d8_
   have q526 : a1 < (l0.length : Int) := of_decide_eq_true d8_
   obtain ⟨ad526, e526, hx526_0⟩ := Kd.at_int HR0.out a1 p526 q526
   cases e526
   replace p526 := eq_true p526
   replace q526 := eq_true q526
   go_enter Try.func41, Try.ntmps41
   go_wp2
   go_ret
   exact ⟨by first | rfl | (simp; done) | (simp [*]; done), by repeat (first | exact Drawn0.refl _ | apply Drawn0.step)⟩
  ·rw [if_neg c4] at H
   exact absurd H (by simp)
 ·rw [if_neg c3] at H
  have c3b0 := decide_eq_false c3
  clear c3
  obtain rfl := Option.some.inj H
  go_enter Try.func41, Try.ntmps41
  go_wp2
  go_ret
  exact ⟨by first | rfl | (simp; done) | (simp [*]; done), by repeat (first | exact Drawn0.refl _ | apply Drawn0.step)⟩

/-! ### laws_sameInts: function 55 -/
def laws_sameInts.l0 : Nat → List Int → List Int → Int → Option (Bool)
 | 0, _, _, _ => none
 | k + 1, x0, x1, x5 => if x5 < (x0.length : Int) then (if 0 ≤ x5 then (if x5 < (x1.length : Int) then (if (rd x0 x5) = (rd x1 x5) then (laws_sameInts.l0 k x0 x1 (wrap64 (x5 + 1))) else (some false)) else (none)) else (none)) else (some true)
def laws_sameInts.f (k : Nat) (l0 : List Int) (l1 : List Int) : Option (Bool) := if (l0.length : Int) = (l1.length : Int) then (laws_sameInts.l0 k l0 l1 0) else (some false)
theorem laws_sameInts.mono_l : ∀ k, (∀ y0 y1 y2, LeO (laws_sameInts.l0 k y0 y1 y2) (laws_sameInts.l0 (k + 1) y0 y1 y2))
 | 0 => fun _ _ _ r h => by simp [laws_sameInts.l0] at h
 | k + 1 => by
  have ih0 := laws_sameInts.mono_l k
  ·intro y0 y1 y2
   unfold laws_sameInts.l0
   repeat' first
   | (with_reducible exact ih0 _ _ _)
   | (with_reducible exact LeO.refl _)
   | (with_reducible exact LeO.none _)
   | (with_reducible refine LeO.ite ?_ ?_)
   | (with_reducible refine LeO.bind ?_ (fun _ => ?_))
   | exact ih0 _ _ _
   | exact LeO.none _
   | refine LeO.ite ?_ ?_
   | refine LeO.bind ?_ (fun _ => ?_)
theorem laws_sameInts.mono : ∀ a0 a1 k, LeO (laws_sameInts.f k a0 a1) (laws_sameInts.f (k + 1) a0 a1) := by
 intro a0 a1 k
 have ih0 := laws_sameInts.mono_l k
 unfold laws_sameInts.f
 repeat' first
   | (with_reducible exact ih0 _ _ _)
   | (with_reducible exact LeO.refl _)
   | (with_reducible exact LeO.none _)
   | (with_reducible refine LeO.ite ?_ ?_)
   | (with_reducible refine LeO.bind ?_ (fun _ => ?_))
   | exact ih0 _ _ _
   | exact LeO.none _
   | refine LeO.ite ?_ ?_
   | refine LeO.bind ?_ (fun _ => ?_)
set_option maxHeartbeats 8000000 in
set_option maxRecDepth 100000 in
theorem laws_sameInts.calls (k : Nat) (A0 : Option Addr) (c0 : Nat) (l0 : List Int) (A1 : Option Addr) (c1 : Nat) (l1 : List Int) (r : Bool) (w : World) (hr0 : Kd.C (Kd.int .i64) w A0 l0.length l0) (hc0 : l0.length ≤ c0) (hr1 : Kd.C (Kd.int .i64) w A1 l1.length l1) (hc1 : l1.length ≤ c1) (h : laws_sameInts.f k l0 l1 = some r) :
  Calls Try.prog 55 #[.slice A0 l0.length c0, .slice A1 l1.length c1] w fun e w' => e = .returned (.bool r) ∧ Drawn0 w w' := by
 have HR0 := A_ hr0
 have HC0 := A_ hc0
 clear hr0 hc0
 have HR1 := A_ hr1
 have HC1 := A_ hc1
 clear hr1 hc1
 have H : (if (l0.length : Int) = (l1.length : Int) then (laws_sameInts.l0 k l0 l1 0) else (some false)) = some r := h
 clear h
 by_cases c3 : (l0.length : Int) = (l1.length : Int)
 ·rw [if_pos c3] at H
  have c3b0 := beq_iff_eq.mpr c3
  have c3b1 := bne_eq_false_iff_eq.mpr c3
  have c3b2 : (l0.length == l1.length) = true := by first | simpa using c3 | (simp at c3 ⊢; omega)
  clear c3
  have H' := A_ H
  clear H
  go_enter Try.func55, Try.ntmps55
  go_wp2
  repeat (go_quiet (fail); try go_wp2)
  go_loopg [5] k (fun kq v5 w' => ∃ (x5_1 : Int), v5 = .int .i64 x5_1 ∧ Aside0 (laws_sameInts.l0 kq l0 l1 x5_1 = some r) ∧ Aside0 (kq ≤ k) ∧ Drawn0 w w')
  case atStart => exact ⟨(0), d6_, H', ⟨Nat.le_refl _⟩, by repeat (first | exact Drawn0.refl _ | apply Drawn0.step)⟩
  case round =>
   clear H'
   try clear c1
   try clear p2
   try clear c3
   try clear c3b0
   try clear c3b1
   try clear c3b2
   obtain ⟨x5_1, rfl, HA, HK1, ⟨m1, rfl⟩⟩ := hrel
   cases gk with
   | zero => exact absurd HA.out (by simp [laws_sameInts.l0])
   | succ k1 =>
    have H := HA.out
    clear HA
    simp only [laws_sameInts.l0] at H
    by_cases c4 : x5_1 < (l0.length : Int)
    ·rw [if_pos c4] at H
     have c4b0 := decide_eq_true c4
     clear c4
     by_cases c5 : 0 ≤ x5_1
     ·rw [if_pos c5] at H
      have c5b0 := decide_eq_true c5
      clear c5
      by_cases c6 : x5_1 < (l1.length : Int)
      ·rw [if_pos c6] at H
       have c6b0 := decide_eq_true c6
       clear c6
       by_cases c7 : (rd l0 x5_1) = (rd l1 x5_1)
       ·rw [if_pos c7] at H
        have c7b0 := beq_iff_eq.mpr c7
        have c7b1 := bne_eq_false_iff_eq.mpr c7
        clear c7
        have H' := A_ H
        clear H
        have p527 : 0 ≤ (x5_1 : Int) := of_decide_eq_true d8_
        have q527 : x5_1 < (l0.length : Int) := of_decide_eq_true d8_
        obtain ⟨ad527, e527, hx527_0⟩ := Kd.at_int HR0.out x5_1 p527 q527
        cases e527
        replace p527 := eq_true p527
        replace q527 := eq_true q527
        have p528 : 0 ≤ (x5_1 : Int) := of_decide_eq_true d8_
        have q528 : x5_1 < (l1.length : Int) := of_decide_eq_true d8_
        obtain ⟨ad528, e528, hx528_0⟩ := Kd.at_int HR1.out x5_1 p528 q528
        cases e528
        replace p528 := eq_true p528
        replace q528 := eq_true q528
        go_wp2
        repeat (go_quiet (fail); try go_wp2)
        go_roundg k1
        case measure => have := HK1.out; omega
        case rel => exact ⟨(wrap64 (x5_1 + 1)), d6_, H', ⟨by have := HK1.out; omega⟩, by repeat (first | exact Drawn0.refl _ | apply Drawn0.step)⟩
       ·rw [if_neg c7] at H
        have c7b0 := beq_eq_false_iff_ne.mpr c7
        have c7b1 := bne_iff_ne.mpr c7
        obtain rfl := Option.some.inj H
        have p527 : 0 ≤ (x5_1 : Int) := of_decide_eq_true d8_
        have q527 : x5_1 < (l0.length : Int) := of_decide_eq_true d8_
        obtain ⟨ad527, e527, hx527_0⟩ := Kd.at_int HR0.out x5_1 p527 q527
        cases e527
        replace p527 := eq_true p527
        replace q527 := eq_true q527
        have p528 : 0 ≤ (x5_1 : Int) := of_decide_eq_true d8_
        have q528 : x5_1 < (l1.length : Int) := of_decide_eq_true d8_
        obtain ⟨ad528, e528, hx528_0⟩ := Kd.at_int HR1.out x5_1 p528 q528
        cases e528
        replace p528 := eq_true p528
        replace q528 := eq_true q528
        go_wp2
        repeat (go_quiet (fail); try go_wp2)
        go_ret
        exact ⟨by first | rfl | (simp; done) | (simp [*]; done), by repeat (first | exact Drawn0.refl _ | apply Drawn0.step)⟩
      ·rw [if_neg c6] at H
       exact absurd H (by simp)
     ·rw [if_neg c5] at H
      exact absurd H (by simp)
    ·rw [if_neg c4] at H
     have c4b0 := decide_eq_false c4
     clear c4
     obtain rfl := Option.some.inj H
     go_wp2
     repeat (go_quiet (fail); try go_wp2)
     go_ret
     exact ⟨by first | rfl | (simp; done) | (simp [*]; done), by repeat (first | exact Drawn0.refl _ | apply Drawn0.step)⟩
 ·rw [if_neg c3] at H
  have c3b0 := beq_eq_false_iff_ne.mpr c3
  have c3b1 := bne_iff_ne.mpr c3
  have c3b2 : (l0.length == l1.length) = false := by first | simpa using c3 | (simp at c3 ⊢; omega)
  obtain rfl := Option.some.inj H
  go_enter Try.func55, Try.ntmps55
  go_wp2
  repeat (go_quiet (fail); try go_wp2)
  go_ret
  exact ⟨by first | rfl | (simp; done) | (simp [*]; done), by repeat (first | exact Drawn0.refl _ | apply Drawn0.step)⟩

/-! ### laws_sameMach: function 42 -/
def laws_sameMach.f (k : Nat) (l0_0 : List Int) (l0_1 : List Int) (a0_2 : Bool) (a0_3 : Bool) (a0_4 : Bool) (a0_5 : Bool) (l0_6 : List Int) (l0_7 : List Int) (a0_8 : Int) (l1_0 : List Int) (l1_1 : List Int) (a1_2 : Bool) (a1_3 : Bool) (a1_4 : Bool) (a1_5 : Bool) (l1_6 : List Int) (l1_7 : List Int) (a1_8 : Int) : Option (Bool) := (laws_sameInts.f k l0_0 l1_0).bind fun t531 => (if t531 = true then ((laws_sameInts.f k l0_1 l1_1).bind fun t532 => (if t532 = true then (if (a0_2 == a1_2) = true then (if (a0_3 == a1_3) = true then (if (a0_4 == a1_4) = true then (if (a0_5 == a1_5) = true then ((laws_sameInts.f k l0_6 l1_6).bind fun t533 => (if t533 = true then ((laws_sameInts.f k l0_7 l1_7).bind fun t534 => (if t534 = true then (some (a0_8 == a1_8)) else (some false))) else (some false))) else (some false)) else (some false)) else (some false)) else (some false)) else (some false))) else (some false))
theorem laws_sameMach.mono : ∀ a0 a1 a2 a3 a4 a5 a6 a7 a8 a9 a10 a11 a12 a13 a14 a15 a16 a17 k, LeO (laws_sameMach.f k a0 a1 a2 a3 a4 a5 a6 a7 a8 a9 a10 a11 a12 a13 a14 a15 a16 a17) (laws_sameMach.f (k + 1) a0 a1 a2 a3 a4 a5 a6 a7 a8 a9 a10 a11 a12 a13 a14 a15 a16 a17) := by
 intro a0 a1 a2 a3 a4 a5 a6 a7 a8 a9 a10 a11 a12 a13 a14 a15 a16 a17 k
 unfold laws_sameMach.f
 repeat' first
   | (with_reducible exact laws_sameInts.mono _ _ _)
   | (with_reducible exact LeO.refl _)
   | (with_reducible exact LeO.none _)
   | (with_reducible refine LeO.ite ?_ ?_)
   | (with_reducible refine LeO.bind ?_ (fun _ => ?_))
   | exact laws_sameInts.mono _ _ _
   | exact LeO.none _
   | refine LeO.ite ?_ ?_
   | refine LeO.bind ?_ (fun _ => ?_)
set_option maxHeartbeats 8000000 in
set_option maxRecDepth 100000 in
theorem laws_sameMach.calls (k : Nat) (A0_0 : Option Addr) (c0_0 : Nat) (l0_0 : List Int) (A0_1 : Option Addr) (c0_1 : Nat) (l0_1 : List Int) (a0_2 : Bool) (a0_3 : Bool) (a0_4 : Bool) (a0_5 : Bool) (A0_6 : Option Addr) (c0_6 : Nat) (l0_6 : List Int) (A0_7 : Option Addr) (c0_7 : Nat) (l0_7 : List Int) (a0_8 : Int) (A1_0 : Option Addr) (c1_0 : Nat) (l1_0 : List Int) (A1_1 : Option Addr) (c1_1 : Nat) (l1_1 : List Int) (a1_2 : Bool) (a1_3 : Bool) (a1_4 : Bool) (a1_5 : Bool) (A1_6 : Option Addr) (c1_6 : Nat) (l1_6 : List Int) (A1_7 : Option Addr) (c1_7 : Nat) (l1_7 : List Int) (a1_8 : Int) (r : Bool) (w : World) (hr0_0 : Kd.C (Kd.int .i64) w A0_0 l0_0.length l0_0) (hc0_0 : l0_0.length ≤ c0_0) (hr0_1 : Kd.C (Kd.int .i64) w A0_1 l0_1.length l0_1) (hc0_1 : l0_1.length ≤ c0_1) (hr0_6 : Kd.C (Kd.int .i64) w A0_6 l0_6.length l0_6) (hc0_6 : l0_6.length ≤ c0_6) (hr0_7 : Kd.C (Kd.int .i64) w A0_7 l0_7.length l0_7) (hc0_7 : l0_7.length ≤ c0_7) (hr1_0 : Kd.C (Kd.int .i64) w A1_0 l1_0.length l1_0) (hc1_0 : l1_0.length ≤ c1_0) (hr1_1 : Kd.C (Kd.int .i64) w A1_1 l1_1.length l1_1) (hc1_1 : l1_1.length ≤ c1_1) (hr1_6 : Kd.C (Kd.int .i64) w A1_6 l1_6.length l1_6) (hc1_6 : l1_6.length ≤ c1_6) (hr1_7 : Kd.C (Kd.int .i64) w A1_7 l1_7.length l1_7) (hc1_7 : l1_7.length ≤ c1_7) (h : laws_sameMach.f k l0_0 l0_1 a0_2 a0_3 a0_4 a0_5 l0_6 l0_7 a0_8 l1_0 l1_1 a1_2 a1_3 a1_4 a1_5 l1_6 l1_7 a1_8 = some r) :
  Calls Try.prog 42 #[.agg #[.slice A0_0 l0_0.length c0_0, .slice A0_1 l0_1.length c0_1, .bool a0_2, .bool a0_3, .bool a0_4, .bool a0_5, .slice A0_6 l0_6.length c0_6, .slice A0_7 l0_7.length c0_7, .int .i64 a0_8], .agg #[.slice A1_0 l1_0.length c1_0, .slice A1_1 l1_1.length c1_1, .bool a1_2, .bool a1_3, .bool a1_4, .bool a1_5, .slice A1_6 l1_6.length c1_6, .slice A1_7 l1_7.length c1_7, .int .i64 a1_8]] w fun e w' => e = .returned (.bool r) ∧ Below w.heap.size w w' := by
 have hu28 := Try.underlying28
 have HR0_0 := A_ hr0_0
 have HC0_0 := A_ hc0_0
 clear hr0_0 hc0_0
 have HR0_1 := A_ hr0_1
 have HC0_1 := A_ hc0_1
 clear hr0_1 hc0_1
 have HR0_6 := A_ hr0_6
 have HC0_6 := A_ hc0_6
 clear hr0_6 hc0_6
 have HR0_7 := A_ hr0_7
 have HC0_7 := A_ hc0_7
 clear hr0_7 hc0_7
 have HR1_0 := A_ hr1_0
 have HC1_0 := A_ hc1_0
 clear hr1_0 hc1_0
 have HR1_1 := A_ hr1_1
 have HC1_1 := A_ hc1_1
 clear hr1_1 hc1_1
 have HR1_6 := A_ hr1_6
 have HC1_6 := A_ hc1_6
 clear hr1_6 hc1_6
 have HR1_7 := A_ hr1_7
 have HC1_7 := A_ hc1_7
 clear hr1_7 hc1_7
 have HB := A_ (Below.refl w.heap.size w)
 have H : ((laws_sameInts.f k l0_0 l1_0).bind fun t531 => (if t531 = true then ((laws_sameInts.f k l0_1 l1_1).bind fun t532 => (if t532 = true then (if (a0_2 == a1_2) = true then (if (a0_3 == a1_3) = true then (if (a0_4 == a1_4) = true then (if (a0_5 == a1_5) = true then ((laws_sameInts.f k l0_6 l1_6).bind fun t533 => (if t533 = true then ((laws_sameInts.f k l0_7 l1_7).bind fun t534 => (if t534 = true then (some (a0_8 == a1_8)) else (some false))) else (some false))) else (some false)) else (some false)) else (some false)) else (some false)) else (some false))) else (some false))) = some r := h
 clear h
 replace H := Option.bind_eq_some_iff.mp H
 obtain ⟨t531, A30, H⟩ := H
 try dsimp only at H
 have A3 := A_ A30
 clear A30
 by_cases c4 : t531 = true
 subst c4
 rw [if_pos rfl] at H
 replace H := Option.bind_eq_some_iff.mp H
 obtain ⟨t532, A50, H⟩ := H
 try dsimp only at H
 have A5 := A_ A50
 clear A50
 by_cases c6 : t532 = true
 subst c6
 rw [if_pos rfl] at H
 by_cases c7 : (a0_2 == a1_2) = true
 rw [if_pos c7] at H
 have c7b0 : (a0_2 == a1_2) = true := c7
 (try (have c7b1 : decide (a0_2 = a1_2) = true := by simpa using c7))
 (try (have c7b2 : (a0_2 == a1_2) = true := by simpa using c7))
 clear c7
 by_cases c8 : (a0_3 == a1_3) = true
 rw [if_pos c8] at H
 have c8b0 : (a0_3 == a1_3) = true := c8
 (try (have c8b1 : decide (a0_3 = a1_3) = true := by simpa using c8))
 (try (have c8b2 : (a0_3 == a1_3) = true := by simpa using c8))
 clear c8
 by_cases c9 : (a0_4 == a1_4) = true
 rw [if_pos c9] at H
 have c9b0 : (a0_4 == a1_4) = true := c9
 (try (have c9b1 : decide (a0_4 = a1_4) = true := by simpa using c9))
 (try (have c9b2 : (a0_4 == a1_4) = true := by simpa using c9))
 clear c9
 by_cases c10 : (a0_5 == a1_5) = true
 rw [if_pos c10] at H
 have c10b0 : (a0_5 == a1_5) = true := c10
 (try (have c10b1 : decide (a0_5 = a1_5) = true := by simpa using c10))
 (try (have c10b2 : (a0_5 == a1_5) = true := by simpa using c10))
 clear c10
 replace H := Option.bind_eq_some_iff.mp H
 obtain ⟨t533, A110, H⟩ := H
 try dsimp only at H
 have A11 := A_ A110
 clear A110
 by_cases c12 : t533 = true
 subst c12
 rw [if_pos rfl] at H
 replace H := Option.bind_eq_some_iff.mp H
 obtain ⟨t534, A130, H⟩ := H
 try dsimp only at H
 have A13 := A_ A130
 clear A130
 by_cases c14 : t534 = true
 subst c14
 rw [if_pos rfl] at H
 obtain rfl := Option.some.inj H
 rotate_left
 replace c14 := Bool.eq_false_iff.mpr c14
 subst c14
 rw [if_neg (show ¬ (false = true) by decide)] at H
 obtain rfl := Option.some.inj H
 rotate_left
 replace c12 := Bool.eq_false_iff.mpr c12
 subst c12
 rw [if_neg (show ¬ (false = true) by decide)] at H
 obtain rfl := Option.some.inj H
 rotate_left
 rw [if_neg c10] at H
 have c10b0 : (a0_5 == a1_5) = false := by simpa using c10
 (try (have c10b1 : decide (a0_5 = a1_5) = false := by simpa using c10))
 (try (have c10b2 : (a0_5 == a1_5) = false := by simpa using c10))
 (try (have c10b3 : ¬ (a0_5 = a1_5) := by simpa using c10))
 clear c10
 obtain rfl := Option.some.inj H
 rotate_left
 rw [if_neg c9] at H
 have c9b0 : (a0_4 == a1_4) = false := by simpa using c9
 (try (have c9b1 : decide (a0_4 = a1_4) = false := by simpa using c9))
 (try (have c9b2 : (a0_4 == a1_4) = false := by simpa using c9))
 (try (have c9b3 : ¬ (a0_4 = a1_4) := by simpa using c9))
 clear c9
 obtain rfl := Option.some.inj H
 rotate_left
 rw [if_neg c8] at H
 have c8b0 : (a0_3 == a1_3) = false := by simpa using c8
 (try (have c8b1 : decide (a0_3 = a1_3) = false := by simpa using c8))
 (try (have c8b2 : (a0_3 == a1_3) = false := by simpa using c8))
 (try (have c8b3 : ¬ (a0_3 = a1_3) := by simpa using c8))
 clear c8
 obtain rfl := Option.some.inj H
 rotate_left
 rw [if_neg c7] at H
 have c7b0 : (a0_2 == a1_2) = false := by simpa using c7
 (try (have c7b1 : decide (a0_2 = a1_2) = false := by simpa using c7))
 (try (have c7b2 : (a0_2 == a1_2) = false := by simpa using c7))
 (try (have c7b3 : ¬ (a0_2 = a1_2) := by simpa using c7))
 clear c7
 obtain rfl := Option.some.inj H
 rotate_left
 replace c6 := Bool.eq_false_iff.mpr c6
 subst c6
 rw [if_neg (show ¬ (false = true) by decide)] at H
 obtain rfl := Option.some.inj H
 rotate_left
 replace c4 := Bool.eq_false_iff.mpr c4
 subst c4
 rw [if_neg (show ¬ (false = true) by decide)] at H
 obtain rfl := Option.some.inj H
 rotate_left
 all_goals go_enter Try.func42, Try.ntmps42
 all_goals go_wp2_with (first | ((with_reducible refine gate_dst (N := 2) rfl ?_); refine bx_ 2 #[.slice A0_0 l0_0.length c0_0, .slice A0_1 l0_1.length c0_1, .bool a0_2, .bool a0_3, .bool a0_4, .bool a0_5, .slice A0_6 l0_6.length c0_6, .slice A0_7 l0_7.length c0_7, .int .i64 a0_8] 28 ?_; intro gb529 hg w15 hbox hb; have n0_ := A_ (below_step (bw_ HB.out) hb); have n1_ := A_ (hbox); have n2_ := A_ ((d5_ : w.heap.size ≤ gb529)); have n3_ := n2_; clear HB; have HB := n0_; have BK529 := n1_; have GW529 := n2_; have GE529 := n3_; have GI529 := GeI.mk GE529.out; clear n0_ n1_ n2_ n3_; clear hb hbox hg) | ((with_reducible refine gate_dst (N := 3) rfl ?_); refine bx_ 3 #[.slice A1_0 l1_0.length c1_0, .slice A1_1 l1_1.length c1_1, .bool a1_2, .bool a1_3, .bool a1_4, .bool a1_5, .slice A1_6 l1_6.length c1_6, .slice A1_7 l1_7.length c1_7, .int .i64 a1_8] 28 ?_; intro gb530 hg w16 hbox hb; have n0_ := A_ (blk_below (bk_ BK529.out) hb); have n1_ := A_ (below_step (bw_ HB.out) hb); have n2_ := A_ (hbox); have n3_ := A_ ((d5_ : w.heap.size ≤ gb530)); have n4_ := n3_; have n5_ := A_ ((by rw [hg]; exact Nat.ne_of_lt (blk_lt (bk_ BK529.out)) : gb529 ≠ gb530)); have n6_ := A_ n5_.out.symm; clear BK529; clear HB; have BK529 := n0_; have HB := n1_; have BK530 := n2_; have GW530 := n3_; have GE530 := n4_; have GI530 := GeI.mk GE530.out; have NB529_530 := n5_; have NB530_529 := n6_; clear n0_ n1_ n2_ n3_ n4_ n5_ n6_; clear hb hbox hg; have hnb17 := NB529_530.out; have hnc17 := NB530_529.out; obtain ⟨y18_0, y18_1, y18_2, y18_3, y18_4, y18_5, y18_6, y18_7, y18_8, z18_0, z18_1, z18_2, z18_3, z18_4, z18_5, z18_6, z18_7, z18_8⟩ := cz9_ BK529.out; obtain ⟨y19_0, y19_1, y19_2, y19_3, y19_4, y19_5, y19_6, y19_7, y19_8, z19_0, z19_1, z19_2, z19_3, z19_4, z19_5, z19_6, z19_7, z19_8⟩ := cz9_ BK530.out) | ((with_reducible refine gate_callee (f := 55) rfl ?_); refine gL_ (some 9) Try.func55 #[.slice A0_0 l0_0.length c0_0, .slice A1_0 l1_0.length c1_0] ?_; (with_reducible refine (laws_sameInts.calls k _ _ l0_0 _ _ l1_0 false _ ?side1 ?side2 ?side3 ?side4 A3.out).mono ?_); (case side1 => exact Kd.C_below HR0_0.out (bw_ HB.out)); (case side2 => exact HC0_0.out); (case side3 => exact Kd.C_below HR1_0.out (bw_ HB.out)); (case side4 => exact HC1_0.out); rintro e w' ⟨rfl, ⟨nd, rfl⟩⟩; refine ⟨_, rfl, ?_⟩) | ((with_reducible refine gate_callee (f := 55) rfl ?_); refine gL_ (some 9) Try.func55 #[.slice A0_0 l0_0.length c0_0, .slice A1_0 l1_0.length c1_0] ?_; (with_reducible refine (laws_sameInts.calls k _ _ l0_0 _ _ l1_0 true _ ?side1 ?side2 ?side3 ?side4 A3.out).mono ?_); (case side1 => exact Kd.C_below HR0_0.out (bw_ HB.out)); (case side2 => exact HC0_0.out); (case side3 => exact Kd.C_below HR1_0.out (bw_ HB.out)); (case side4 => exact HC1_0.out); rintro e w' ⟨rfl, ⟨nd, rfl⟩⟩; refine ⟨_, rfl, ?_⟩) | (go_at_call 55; (with_reducible refine (laws_sameInts.calls k _ _ l0_7 _ _ l1_7 false _ ?side1 ?side2 ?side3 ?side4 A13.out).mono ?_); (case side1 => exact Kd.C_below HR0_7.out (bw_ HB.out)); (case side2 => exact HC0_7.out); (case side3 => exact Kd.C_below HR1_7.out (bw_ HB.out)); (case side4 => exact HC1_7.out); rintro e w' ⟨rfl, ⟨nd, rfl⟩⟩) | (go_at_call 55; (with_reducible refine (laws_sameInts.calls k _ _ l0_6 _ _ l1_6 false _ ?side1 ?side2 ?side3 ?side4 A11.out).mono ?_); (case side1 => exact Kd.C_below HR0_6.out (bw_ HB.out)); (case side2 => exact HC0_6.out); (case side3 => exact Kd.C_below HR1_6.out (bw_ HB.out)); (case side4 => exact HC1_6.out); rintro e w' ⟨rfl, ⟨nd, rfl⟩⟩) | (go_at_call 55; (with_reducible refine (laws_sameInts.calls k _ _ l0_6 _ _ l1_6 true _ ?side1 ?side2 ?side3 ?side4 A11.out).mono ?_); (case side1 => exact Kd.C_below HR0_6.out (bw_ HB.out)); (case side2 => exact HC0_6.out); (case side3 => exact Kd.C_below HR1_6.out (bw_ HB.out)); (case side4 => exact HC1_6.out); rintro e w' ⟨rfl, ⟨nd, rfl⟩⟩) | (go_at_call 55; (with_reducible refine (laws_sameInts.calls k _ _ l0_7 _ _ l1_7 true _ ?side1 ?side2 ?side3 ?side4 A13.out).mono ?_); (case side1 => exact Kd.C_below HR0_7.out (bw_ HB.out)); (case side2 => exact HC0_7.out); (case side3 => exact Kd.C_below HR1_7.out (bw_ HB.out)); (case side4 => exact HC1_7.out); rintro e w' ⟨rfl, ⟨nd, rfl⟩⟩) | (go_at_call 55; (with_reducible refine (laws_sameInts.calls k _ _ l0_1 _ _ l1_1 false _ ?side1 ?side2 ?side3 ?side4 A5.out).mono ?_); (case side1 => exact Kd.C_below HR0_1.out (bw_ HB.out)); (case side2 => exact HC0_1.out); (case side3 => exact Kd.C_below HR1_1.out (bw_ HB.out)); (case side4 => exact HC1_1.out); rintro e w' ⟨rfl, ⟨nd, rfl⟩⟩) | (go_at_call 55; (with_reducible refine (laws_sameInts.calls k _ _ l0_1 _ _ l1_1 true _ ?side1 ?side2 ?side3 ?side4 A5.out).mono ?_); (case side1 => exact Kd.C_below HR0_1.out (bw_ HB.out)); (case side2 => exact HC0_1.out); (case side3 => exact Kd.C_below HR1_1.out (bw_ HB.out)); (case side4 => exact HC1_1.out); rintro e w' ⟨rfl, ⟨nd, rfl⟩⟩))
 ·go_ret
  exact rt_ (bw_ HB.out)
 ·go_ret
  exact rt_ (bw_ HB.out)
 ·go_ret
  exact rt_ (bw_ HB.out)
 ·go_ret
  exact rt_ (bw_ HB.out)
 ·go_ret
  exact rt_ (bw_ HB.out)
 ·go_ret
  exact rt_ (bw_ HB.out)
 ·go_ret
  exact rt_ (bw_ HB.out)
 ·go_ret
  exact rt_ (bw_ HB.out)
 ·go_ret
  exact rt_ (bw_ HB.out)

/-! ### impl_isReg: function 91 -/
def impl_isReg.f (a0 : Int) : Option (Bool) := (impl_within.f a0 0 7).bind fun t535 => (some t535)
set_option maxHeartbeats 8000000 in
set_option maxRecDepth 100000 in
theorem impl_isReg.calls (a0 : Int) (r : Bool) (w : World) (h : impl_isReg.f a0 = some r) :
  Calls Try.prog 91 #[.int .i64 a0] w fun e w' => e = .returned (.bool r) ∧ Drawn0 w w' := by
 have H : ((impl_within.f a0 0 7).bind fun t535 => (some t535)) = some r := h
 clear h
 replace H := Option.bind_eq_some_iff.mp H
 obtain ⟨t535, A20, H⟩ := H
 try dsimp only at H
 have A2 := A_ A20
 clear A20
 obtain rfl := Option.some.inj H
 go_enter Try.func91, Try.ntmps91
 go_wp2_with (first | ((with_reducible refine gate_callee (f := 61) rfl ?_); refine gL_ (some 4) Try.func61 #[.int .i64 a0, .int .i64 0, .int .i64 7] ?_; (with_reducible refine (impl_within.calls a0 0 7 t535 _ A2.out).mono ?_); rintro e w' ⟨rfl, ⟨nd, rfl⟩⟩; refine ⟨_, rfl, ?_⟩))
 go_ret
 exact ⟨by first | rfl | (simp; done) | (simp [*]; done), by repeat (first | exact Drawn0.refl _ | apply Drawn0.step)⟩

/-! ### impl_HasX: function 92 -/
def impl_HasX.f (a0_0 : Int) (a0_1 : Int) (a0_2 : Int) : Option (Bool) := if a0_0 = 6 then (some true) else (if a0_0 = 7 then (some true) else (if a0_0 = 2 then (some (a0_1 == 7)) else (if a0_0 = 3 then (some (a0_1 == 7)) else (some false))))
set_option maxHeartbeats 8000000 in
set_option maxRecDepth 100000 in
theorem impl_HasX.calls (a0_0 : Int) (a0_1 : Int) (a0_2 : Int) (r : Bool) (w : World) (h : impl_HasX.f a0_0 a0_1 a0_2 = some r) :
  Calls Try.prog 92 #[.agg #[.int .i64 a0_0, .int .i64 a0_1, .int .i64 a0_2]] w fun e w' => e = .returned (.bool r) ∧ Below w.heap.size w w' := by
 have hu63 := Try.underlying63
 have HB := A_ (Below.refl w.heap.size w)
 have H : (if a0_0 = 6 then (some true) else (if a0_0 = 7 then (some true) else (if a0_0 = 2 then (some (a0_1 == 7)) else (if a0_0 = 3 then (some (a0_1 == 7)) else (some false))))) = some r := h
 clear h
 by_cases c2 : a0_0 = 6
 ·rw [if_pos c2] at H
  have c2b0 := beq_iff_eq.mpr c2
  have c2b1 := bne_eq_false_iff_eq.mpr c2
  clear c2
  obtain rfl := Option.some.inj H
  go_enter Try.func92, Try.ntmps92
  go_wp2_with (first | ((with_reducible refine gate_dst (N := 1) rfl ?_); refine bx_ 1 #[.int .i64 a0_0, .int .i64 a0_1, .int .i64 a0_2] 63 ?_; intro gb536 hg w3 hbox hb; have n0_ := A_ (below_step (bw_ HB.out) hb); have n1_ := A_ (hbox); have n2_ := A_ ((d5_ : w.heap.size ≤ gb536)); have n3_ := n2_; clear HB; have HB := n0_; have BK536 := n1_; have GW536 := n2_; have GE536 := n3_; have GI536 := GeI.mk GE536.out; clear n0_ n1_ n2_ n3_; clear hb hbox hg; have y4_0 : w3.cell? ⟨gb536, 0, none⟩ = some (.int .i64 a0_0) := (blk_cell BK536.out 0).trans rfl; have y4_1 : w3.cell? ⟨gb536, 1, none⟩ = some (.int .i64 a0_1) := (blk_cell BK536.out 1).trans rfl; have y4_2 : w3.cell? ⟨gb536, 2, none⟩ = some (.int .i64 a0_2) := (blk_cell BK536.out 2).trans rfl; have z4_0 := blk_frozen BK536.out 0; have z4_1 := blk_frozen BK536.out 1; have z4_2 := blk_frozen BK536.out 2))
  go_ret
  exact rt_ (bw_ HB.out)
 ·rw [if_neg c2] at H
  have c2b0 := beq_eq_false_iff_ne.mpr c2
  have c2b1 := bne_iff_ne.mpr c2
  by_cases c5 : a0_0 = 7
  ·rw [if_pos c5] at H
   have c5b0 := beq_iff_eq.mpr c5
   have c5b1 := bne_eq_false_iff_eq.mpr c5
   clear c5
   obtain rfl := Option.some.inj H
   go_enter Try.func92, Try.ntmps92
   go_wp2_with (first | ((with_reducible refine gate_dst (N := 1) rfl ?_); refine bx_ 1 #[.int .i64 a0_0, .int .i64 a0_1, .int .i64 a0_2] 63 ?_; intro gb536 hg w6 hbox hb; have n0_ := A_ (below_step (bw_ HB.out) hb); have n1_ := A_ (hbox); have n2_ := A_ ((d5_ : w.heap.size ≤ gb536)); have n3_ := n2_; clear HB; have HB := n0_; have BK536 := n1_; have GW536 := n2_; have GE536 := n3_; have GI536 := GeI.mk GE536.out; clear n0_ n1_ n2_ n3_; clear hb hbox hg; have y7_0 : w6.cell? ⟨gb536, 0, none⟩ = some (.int .i64 a0_0) := (blk_cell BK536.out 0).trans rfl; have y7_1 : w6.cell? ⟨gb536, 1, none⟩ = some (.int .i64 a0_1) := (blk_cell BK536.out 1).trans rfl; have y7_2 : w6.cell? ⟨gb536, 2, none⟩ = some (.int .i64 a0_2) := (blk_cell BK536.out 2).trans rfl; have z7_0 := blk_frozen BK536.out 0; have z7_1 := blk_frozen BK536.out 1; have z7_2 := blk_frozen BK536.out 2))
   go_ret
   exact rt_ (bw_ HB.out)
  ·rw [if_neg c5] at H
   have c5b0 := beq_eq_false_iff_ne.mpr c5
   have c5b1 := bne_iff_ne.mpr c5
   by_cases c8 : a0_0 = 2
   ·rw [if_pos c8] at H
    have c8b0 := beq_iff_eq.mpr c8
    have c8b1 := bne_eq_false_iff_eq.mpr c8
    clear c8
    obtain rfl := Option.some.inj H
    go_enter Try.func92, Try.ntmps92
    go_wp2_with (first | ((with_reducible refine gate_dst (N := 1) rfl ?_); refine bx_ 1 #[.int .i64 a0_0, .int .i64 a0_1, .int .i64 a0_2] 63 ?_; intro gb536 hg w9 hbox hb; have n0_ := A_ (below_step (bw_ HB.out) hb); have n1_ := A_ (hbox); have n2_ := A_ ((d5_ : w.heap.size ≤ gb536)); have n3_ := n2_; clear HB; have HB := n0_; have BK536 := n1_; have GW536 := n2_; have GE536 := n3_; have GI536 := GeI.mk GE536.out; clear n0_ n1_ n2_ n3_; clear hb hbox hg; have y10_0 : w9.cell? ⟨gb536, 0, none⟩ = some (.int .i64 a0_0) := (blk_cell BK536.out 0).trans rfl; have y10_1 : w9.cell? ⟨gb536, 1, none⟩ = some (.int .i64 a0_1) := (blk_cell BK536.out 1).trans rfl; have y10_2 : w9.cell? ⟨gb536, 2, none⟩ = some (.int .i64 a0_2) := (blk_cell BK536.out 2).trans rfl; have z10_0 := blk_frozen BK536.out 0; have z10_1 := blk_frozen BK536.out 1; have z10_2 := blk_frozen BK536.out 2))
    go_ret
    exact rt_ (bw_ HB.out)
   ·rw [if_neg c8] at H
    have c8b0 := beq_eq_false_iff_ne.mpr c8
    have c8b1 := bne_iff_ne.mpr c8
    by_cases c11 : a0_0 = 3
    ·rw [if_pos c11] at H
     have c11b0 := beq_iff_eq.mpr c11
     have c11b1 := bne_eq_false_iff_eq.mpr c11
     clear c11
     obtain rfl := Option.some.inj H
     go_enter Try.func92, Try.ntmps92
     go_wp2_with (first | ((with_reducible refine gate_dst (N := 1) rfl ?_); refine bx_ 1 #[.int .i64 a0_0, .int .i64 a0_1, .int .i64 a0_2] 63 ?_; intro gb536 hg w12 hbox hb; have n0_ := A_ (below_step (bw_ HB.out) hb); have n1_ := A_ (hbox); have n2_ := A_ ((d5_ : w.heap.size ≤ gb536)); have n3_ := n2_; clear HB; have HB := n0_; have BK536 := n1_; have GW536 := n2_; have GE536 := n3_; have GI536 := GeI.mk GE536.out; clear n0_ n1_ n2_ n3_; clear hb hbox hg; have y13_0 : w12.cell? ⟨gb536, 0, none⟩ = some (.int .i64 a0_0) := (blk_cell BK536.out 0).trans rfl; have y13_1 : w12.cell? ⟨gb536, 1, none⟩ = some (.int .i64 a0_1) := (blk_cell BK536.out 1).trans rfl; have y13_2 : w12.cell? ⟨gb536, 2, none⟩ = some (.int .i64 a0_2) := (blk_cell BK536.out 2).trans rfl; have z13_0 := blk_frozen BK536.out 0; have z13_1 := blk_frozen BK536.out 1; have z13_2 := blk_frozen BK536.out 2))
     go_ret
     exact rt_ (bw_ HB.out)
    ·rw [if_neg c11] at H
     have c11b0 := beq_eq_false_iff_ne.mpr c11
     have c11b1 := bne_iff_ne.mpr c11
     obtain rfl := Option.some.inj H
     go_enter Try.func92, Try.ntmps92
     go_wp2_with (first | ((with_reducible refine gate_dst (N := 1) rfl ?_); refine bx_ 1 #[.int .i64 a0_0, .int .i64 a0_1, .int .i64 a0_2] 63 ?_; intro gb536 hg w14 hbox hb; have n0_ := A_ (below_step (bw_ HB.out) hb); have n1_ := A_ (hbox); have n2_ := A_ ((d5_ : w.heap.size ≤ gb536)); have n3_ := n2_; clear HB; have HB := n0_; have BK536 := n1_; have GW536 := n2_; have GE536 := n3_; have GI536 := GeI.mk GE536.out; clear n0_ n1_ n2_ n3_; clear hb hbox hg; have y15_0 : w14.cell? ⟨gb536, 0, none⟩ = some (.int .i64 a0_0) := (blk_cell BK536.out 0).trans rfl; have y15_1 : w14.cell? ⟨gb536, 1, none⟩ = some (.int .i64 a0_1) := (blk_cell BK536.out 1).trans rfl; have y15_2 : w14.cell? ⟨gb536, 2, none⟩ = some (.int .i64 a0_2) := (blk_cell BK536.out 2).trans rfl; have z15_0 := blk_frozen BK536.out 0; have z15_1 := blk_frozen BK536.out 1; have z15_2 := blk_frozen BK536.out 2))
     go_ret
     exact rt_ (bw_ HB.out)

/-! ### impl_OpdOk: function 76 -/
def impl_OpdOk.f (a0_0 : Int) (a0_1 : Int) (a0_2 : Int) : Option (Bool) := (impl_within.f a0_0 0 7).bind fun t538 => (if t538 = true then ((impl_isReg.f a0_1).bind fun t539 => (if t539 = true then ((impl_isWord.f a0_2).bind fun t540 => (if t540 = true then (if a0_2 = 0 then (some true) else ((impl_HasX.f a0_0 a0_1 a0_2).bind fun t541 => (some t541))) else (some false))) else (some false))) else (some false))
set_option maxHeartbeats 8000000 in
set_option maxRecDepth 100000 in
theorem impl_OpdOk.calls (a0_0 : Int) (a0_1 : Int) (a0_2 : Int) (r : Bool) (w : World) (h : impl_OpdOk.f a0_0 a0_1 a0_2 = some r) :
  Calls Try.prog 76 #[.agg #[.int .i64 a0_0, .int .i64 a0_1, .int .i64 a0_2]] w fun e w' => e = .returned (.bool r) ∧ Below w.heap.size w w' := by
 have hu63 := Try.underlying63
 have HB := A_ (Below.refl w.heap.size w)
 have H : ((impl_within.f a0_0 0 7).bind fun t538 => (if t538 = true then ((impl_isReg.f a0_1).bind fun t539 => (if t539 = true then ((impl_isWord.f a0_2).bind fun t540 => (if t540 = true then (if a0_2 = 0 then (some true) else ((impl_HasX.f a0_0 a0_1 a0_2).bind fun t541 => (some t541))) else (some false))) else (some false))) else (some false))) = some r := h
 clear h
 replace H := Option.bind_eq_some_iff.mp H
 obtain ⟨t538, A20, H⟩ := H
 try dsimp only at H
 have A2 := A_ A20
 clear A20
 by_cases c3 : t538 = true
 ·subst c3
  rw [if_pos rfl] at H
  replace H := Option.bind_eq_some_iff.mp H
  obtain ⟨t539, A40, H⟩ := H
  try dsimp only at H
  have A4 := A_ A40
  clear A40
  by_cases c5 : t539 = true
  ·subst c5
   rw [if_pos rfl] at H
   replace H := Option.bind_eq_some_iff.mp H
   obtain ⟨t540, A60, H⟩ := H
   try dsimp only at H
   have A6 := A_ A60
   clear A60
   by_cases c7 : t540 = true
   ·subst c7
    rw [if_pos rfl] at H
    by_cases c8 : a0_2 = 0
    ·rw [if_pos c8] at H
     have c8b0 := beq_iff_eq.mpr c8
     have c8b1 := bne_eq_false_iff_eq.mpr c8
     clear c8
     obtain rfl := Option.some.inj H
     go_enter Try.func76, Try.ntmps76
     go_wp2_with (first | ((with_reducible refine gate_dst (N := 1) rfl ?_); refine bx_ 1 #[.int .i64 a0_0, .int .i64 a0_1, .int .i64 a0_2] 63 ?_; intro gb537 hg w9 hbox hb; have n0_ := A_ (below_step (bw_ HB.out) hb); have n1_ := A_ (hbox); have n2_ := A_ ((d5_ : w.heap.size ≤ gb537)); have n3_ := n2_; clear HB; have HB := n0_; have BK537 := n1_; have GW537 := n2_; have GE537 := n3_; have GI537 := GeI.mk GE537.out; clear n0_ n1_ n2_ n3_; clear hb hbox hg; have y10_0 : w9.cell? ⟨gb537, 0, none⟩ = some (.int .i64 a0_0) := (blk_cell BK537.out 0).trans rfl; have y10_1 : w9.cell? ⟨gb537, 1, none⟩ = some (.int .i64 a0_1) := (blk_cell BK537.out 1).trans rfl; have y10_2 : w9.cell? ⟨gb537, 2, none⟩ = some (.int .i64 a0_2) := (blk_cell BK537.out 2).trans rfl; have z10_0 := blk_frozen BK537.out 0; have z10_1 := blk_frozen BK537.out 1; have z10_2 := blk_frozen BK537.out 2) | ((with_reducible refine gate_callee (f := 61) rfl ?_); refine gL_ (some 5) Try.func61 #[.int .i64 a0_0, .int .i64 0, .int .i64 7] ?_; (with_reducible refine (impl_within.calls a0_0 0 7 true _ A2.out).mono ?_); rintro e w' ⟨rfl, ⟨nd, rfl⟩⟩; refine ⟨_, rfl, ?_⟩) | (go_at_call 91; (with_reducible refine (impl_isReg.calls a0_1 true _ A4.out).mono ?_); rintro e w' ⟨rfl, ⟨nd, rfl⟩⟩) | (go_at_call 63; (with_reducible refine (impl_isWord.calls a0_2 true _ A6.out).mono ?_); rintro e w' ⟨rfl, ⟨nd, rfl⟩⟩))
     go_ret
     exact rt_ (bw_ HB.out)
    ·rw [if_neg c8] at H
     have c8b0 := beq_eq_false_iff_ne.mpr c8
     have c8b1 := bne_iff_ne.mpr c8
     replace H := Option.bind_eq_some_iff.mp H
     obtain ⟨t541, A110, H⟩ := H
     try dsimp only at H
     have A11 := A_ A110
     clear A110
     obtain rfl := Option.some.inj H
     go_enter Try.func76, Try.ntmps76
     go_wp2_with (first | ((with_reducible refine gate_dst (N := 1) rfl ?_); refine bx_ 1 #[.int .i64 a0_0, .int .i64 a0_1, .int .i64 a0_2] 63 ?_; intro gb537 hg w12 hbox hb; have n0_ := A_ (below_step (bw_ HB.out) hb); have n1_ := A_ (hbox); have n2_ := A_ ((d5_ : w.heap.size ≤ gb537)); have n3_ := n2_; clear HB; have HB := n0_; have BK537 := n1_; have GW537 := n2_; have GE537 := n3_; have GI537 := GeI.mk GE537.out; clear n0_ n1_ n2_ n3_; clear hb hbox hg; have y13_0 : w12.cell? ⟨gb537, 0, none⟩ = some (.int .i64 a0_0) := (blk_cell BK537.out 0).trans rfl; have y13_1 : w12.cell? ⟨gb537, 1, none⟩ = some (.int .i64 a0_1) := (blk_cell BK537.out 1).trans rfl; have y13_2 : w12.cell? ⟨gb537, 2, none⟩ = some (.int .i64 a0_2) := (blk_cell BK537.out 2).trans rfl; have z13_0 := blk_frozen BK537.out 0; have z13_1 := blk_frozen BK537.out 1; have z13_2 := blk_frozen BK537.out 2) | ((with_reducible refine gate_callee (f := 61) rfl ?_); refine gL_ (some 5) Try.func61 #[.int .i64 a0_0, .int .i64 0, .int .i64 7] ?_; (with_reducible refine (impl_within.calls a0_0 0 7 true _ A2.out).mono ?_); rintro e w' ⟨rfl, ⟨nd, rfl⟩⟩; refine ⟨_, rfl, ?_⟩) | (go_at_call 91; (with_reducible refine (impl_isReg.calls a0_1 true _ A4.out).mono ?_); rintro e w' ⟨rfl, ⟨nd, rfl⟩⟩) | (go_at_call 63; (with_reducible refine (impl_isWord.calls a0_2 true _ A6.out).mono ?_); rintro e w' ⟨rfl, ⟨nd, rfl⟩⟩) | (go_at_call 92; (with_reducible refine (impl_HasX.calls a0_0 a0_1 a0_2 t541 _ A11.out).mono ?_); rintro e w14 ⟨rfl, hb⟩; replace BK537 := A_ (blk_below (bk_ BK537.out) hb); replace HB := A_ (below_step (bw_ HB.out) hb); clear hb))
     go_ret
     exact rt_ (bw_ HB.out)
   ·replace c7 := Bool.eq_false_iff.mpr c7
    subst c7
    rw [if_neg (show ¬ (false = true) by decide)] at H
    obtain rfl := Option.some.inj H
    go_enter Try.func76, Try.ntmps76
    go_wp2_with (first | ((with_reducible refine gate_dst (N := 1) rfl ?_); refine bx_ 1 #[.int .i64 a0_0, .int .i64 a0_1, .int .i64 a0_2] 63 ?_; intro gb537 hg w15 hbox hb; have n0_ := A_ (below_step (bw_ HB.out) hb); have n1_ := A_ (hbox); have n2_ := A_ ((d5_ : w.heap.size ≤ gb537)); have n3_ := n2_; clear HB; have HB := n0_; have BK537 := n1_; have GW537 := n2_; have GE537 := n3_; have GI537 := GeI.mk GE537.out; clear n0_ n1_ n2_ n3_; clear hb hbox hg; have y16_0 : w15.cell? ⟨gb537, 0, none⟩ = some (.int .i64 a0_0) := (blk_cell BK537.out 0).trans rfl; have y16_1 : w15.cell? ⟨gb537, 1, none⟩ = some (.int .i64 a0_1) := (blk_cell BK537.out 1).trans rfl; have y16_2 : w15.cell? ⟨gb537, 2, none⟩ = some (.int .i64 a0_2) := (blk_cell BK537.out 2).trans rfl; have z16_0 := blk_frozen BK537.out 0; have z16_1 := blk_frozen BK537.out 1; have z16_2 := blk_frozen BK537.out 2) | ((with_reducible refine gate_callee (f := 61) rfl ?_); refine gL_ (some 5) Try.func61 #[.int .i64 a0_0, .int .i64 0, .int .i64 7] ?_; (with_reducible refine (impl_within.calls a0_0 0 7 true _ A2.out).mono ?_); rintro e w' ⟨rfl, ⟨nd, rfl⟩⟩; refine ⟨_, rfl, ?_⟩) | (go_at_call 91; (with_reducible refine (impl_isReg.calls a0_1 true _ A4.out).mono ?_); rintro e w' ⟨rfl, ⟨nd, rfl⟩⟩) | (go_at_call 63; (with_reducible refine (impl_isWord.calls a0_2 false _ A6.out).mono ?_); rintro e w' ⟨rfl, ⟨nd, rfl⟩⟩))
    go_ret
    exact rt_ (bw_ HB.out)
  ·replace c5 := Bool.eq_false_iff.mpr c5
   subst c5
   rw [if_neg (show ¬ (false = true) by decide)] at H
   obtain rfl := Option.some.inj H
   go_enter Try.func76, Try.ntmps76
   go_wp2_with (first | ((with_reducible refine gate_dst (N := 1) rfl ?_); refine bx_ 1 #[.int .i64 a0_0, .int .i64 a0_1, .int .i64 a0_2] 63 ?_; intro gb537 hg w17 hbox hb; have n0_ := A_ (below_step (bw_ HB.out) hb); have n1_ := A_ (hbox); have n2_ := A_ ((d5_ : w.heap.size ≤ gb537)); have n3_ := n2_; clear HB; have HB := n0_; have BK537 := n1_; have GW537 := n2_; have GE537 := n3_; have GI537 := GeI.mk GE537.out; clear n0_ n1_ n2_ n3_; clear hb hbox hg; have y18_0 : w17.cell? ⟨gb537, 0, none⟩ = some (.int .i64 a0_0) := (blk_cell BK537.out 0).trans rfl; have y18_1 : w17.cell? ⟨gb537, 1, none⟩ = some (.int .i64 a0_1) := (blk_cell BK537.out 1).trans rfl; have y18_2 : w17.cell? ⟨gb537, 2, none⟩ = some (.int .i64 a0_2) := (blk_cell BK537.out 2).trans rfl; have z18_0 := blk_frozen BK537.out 0; have z18_1 := blk_frozen BK537.out 1; have z18_2 := blk_frozen BK537.out 2) | ((with_reducible refine gate_callee (f := 61) rfl ?_); refine gL_ (some 5) Try.func61 #[.int .i64 a0_0, .int .i64 0, .int .i64 7] ?_; (with_reducible refine (impl_within.calls a0_0 0 7 true _ A2.out).mono ?_); rintro e w' ⟨rfl, ⟨nd, rfl⟩⟩; refine ⟨_, rfl, ?_⟩) | (go_at_call 91; (with_reducible refine (impl_isReg.calls a0_1 false _ A4.out).mono ?_); rintro e w' ⟨rfl, ⟨nd, rfl⟩⟩))
   go_ret
   exact rt_ (bw_ HB.out)
 ·replace c3 := Bool.eq_false_iff.mpr c3
  subst c3
  rw [if_neg (show ¬ (false = true) by decide)] at H
  obtain rfl := Option.some.inj H
  go_enter Try.func76, Try.ntmps76
  go_wp2_with (first | ((with_reducible refine gate_dst (N := 1) rfl ?_); refine bx_ 1 #[.int .i64 a0_0, .int .i64 a0_1, .int .i64 a0_2] 63 ?_; intro gb537 hg w19 hbox hb; have n0_ := A_ (below_step (bw_ HB.out) hb); have n1_ := A_ (hbox); have n2_ := A_ ((d5_ : w.heap.size ≤ gb537)); have n3_ := n2_; clear HB; have HB := n0_; have BK537 := n1_; have GW537 := n2_; have GE537 := n3_; have GI537 := GeI.mk GE537.out; clear n0_ n1_ n2_ n3_; clear hb hbox hg; have y20_0 : w19.cell? ⟨gb537, 0, none⟩ = some (.int .i64 a0_0) := (blk_cell BK537.out 0).trans rfl; have y20_1 : w19.cell? ⟨gb537, 1, none⟩ = some (.int .i64 a0_1) := (blk_cell BK537.out 1).trans rfl; have y20_2 : w19.cell? ⟨gb537, 2, none⟩ = some (.int .i64 a0_2) := (blk_cell BK537.out 2).trans rfl; have z20_0 := blk_frozen BK537.out 0; have z20_1 := blk_frozen BK537.out 1; have z20_2 := blk_frozen BK537.out 2) | ((with_reducible refine gate_callee (f := 61) rfl ?_); refine gL_ (some 5) Try.func61 #[.int .i64 a0_0, .int .i64 0, .int .i64 7] ?_; (with_reducible refine (impl_within.calls a0_0 0 7 false _ A2.out).mono ?_); rintro e w' ⟨rfl, ⟨nd, rfl⟩⟩; refine ⟨_, rfl, ?_⟩))
  go_ret
  exact rt_ (bw_ HB.out)

-- NOT PRINTED: function 93 (impl_Mach_fetch)

-- NOT PRINTED: function 77 (impl_Mach_place)

end Go.Proofs.Ytiagbfilffbljaa.PFnStored
