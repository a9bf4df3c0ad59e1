-- Laid by a program of this session (a changed copy of the kit's printer); Lean checks every line.
import Derived.Test.YtiagbfilffbljaaPFnExactMachNewx0
import Derived.Test.YtiagbfilffbljaaPFnExactMachNewx1
namespace Go.Proofs.Ytiagbfilffbljaa.PFnExactMachNew
open Go.RowKit Go.Proofs.YtiagbfilffbljaaW.PrintWords Go.Proofs.YtiagbfilffbljaaW.PrintLast Go.Proofs.YtiagbfilffbljaaW.PrintMore
attribute [local go_sem] max2_int min2_int max_two min_two max_three min_three max_four min_four   -- for this text's walks alone
set_option linter.unusedVariables false
set_option linter.unusedSimpArgs false

/-! ### spec_MachNew: function 27 -/
mutual
def spec_MachNew.j0 : Nat → List Int → Int → Int → List Int → Bool → Option (List Int × List Int × Bool × Bool × Bool × Bool × List Int × List Int × Int)
 | 0, _, _, _, _, _ => none
 | k + 1, x0, x1, x2, x3, x46 => if x46 = true then (some (([] : List Int), ([] : List Int), false, false, false, false, ([] : List Int), ([] : List Int), 0)) else (if 256 ≤ 35184372088832 then (if 8 ≤ 35184372088832 then ((some (([] : List Int) : List Int)).bind fun y122 => (if y122.length + x3.length < 17592186044416 then (spec_MachNew.l0 k x0 x1 x2 0 (List.replicate 256 0) (List.replicate 8 0) false false false false (y122 ++ x3) 0) else (none))) else (none)) else (none))
def spec_MachNew.l0 : Nat → List Int → Int → Int → Int → List Int → List Int → Bool → Bool → Bool → Bool → List Int → Int → Option (List Int × List Int × Bool × Bool × Bool × Bool × List Int × List Int × Int)
 | 0, _, _, _, _, _, _, _, _, _, _, _, _ => none
 | k + 1, x0, x1, x2, x10, x129000, x129001, x129002, x129003, x129004, x129005, x129006, x129008 => if x10 < (x0.length : Int) then (if 0 ≤ x10 then (if 0 ≤ (wrap64 ((wrap64 (Int.tdiv x1 2)) + x10)) then (if (wrap64 ((wrap64 (Int.tdiv x1 2)) + x10)) < (x129000.length : Int) then (spec_MachNew.l0 k x0 x1 x2 (wrap64 (x10 + 1)) (x129000.set ((wrap64 ((wrap64 (Int.tdiv x1 2)) + x10)) : Int).toNat (rd x0 x10)) x129001 x129002 x129003 x129004 x129005 x129006 x129008) else (none)) else (none)) else (none)) else (if 6 < (x129001.length : Int) then (if 7 < (x129001.length : Int) then (some (x129000, ((x129001.set (6 : Int).toNat 512).set (7 : Int).toNat x2), x129002, x129003, x129004, x129005, x129006, ([] : List Int), x129008)) else (none)) else (none))
end
def spec_MachNew.f (k : Nat) (l0 : List Int) (a1 : Int) (a2 : Int) (l3 : List Int) : Option (List Int × List Int × Bool × Bool × Bool × Bool × List Int × List Int × Int) := (spec_l1In.f a1 0 510).bind fun t112 => (if t112 = true then (if (Int.tmod a1 2) = 0 then (if (l0.length : Int) > (wrap64 (256 - (wrap64 (Int.tdiv a1 2)))) then (spec_MachNew.j0 k l0 a1 a2 l3 true) else ((spec_l5Words.f k l0).bind fun t113 => (if t113 = true then ((spec_l1In.f a2 0 65535).bind fun t114 => (if t114 = true then (if (l3.length : Int) > 50 then (spec_MachNew.j0 k l0 a1 a2 l3 true) else ((spec_l5Words.f k l3).bind fun t115 => (spec_MachNew.j0 k l0 a1 a2 l3 (!t115)))) else (spec_MachNew.j0 k l0 a1 a2 l3 true))) else (spec_MachNew.j0 k l0 a1 a2 l3 true)))) else (spec_MachNew.j0 k l0 a1 a2 l3 true)) else (spec_MachNew.j0 k l0 a1 a2 l3 true))
theorem spec_MachNew.mono_l : ∀ k, (∀ y0 y1 y2 y3 y4, LeO (spec_MachNew.j0 k y0 y1 y2 y3 y4) (spec_MachNew.j0 (k + 1) y0 y1 y2 y3 y4)) ∧ (∀ y0 y1 y2 y3 y4 y5 y6 y7 y8 y9 y10 y11, LeO (spec_MachNew.l0 k y0 y1 y2 y3 y4 y5 y6 y7 y8 y9 y10 y11) (spec_MachNew.l0 (k + 1) y0 y1 y2 y3 y4 y5 y6 y7 y8 y9 y10 y11))
 | 0 => ⟨fun _ _ _ _ _ r h => by simp [spec_MachNew.j0] at h, fun _ _ _ _ _ _ _ _ _ _ _ _ r h => by simp [spec_MachNew.l0] at h⟩
 | k + 1 => by
  obtain ⟨ih0, ih1⟩ := spec_MachNew.mono_l k
  refine ⟨?_, ?_⟩
  ·intro y0 y1 y2 y3 y4
   unfold spec_MachNew.j0
   repeat' first
   | (with_reducible exact ih0 _ _ _ _ _)
   | (with_reducible exact ih1 _ _ _ _ _ _ _ _ _ _ _ _)
   | (with_reducible exact spec_l5Words.mono _ _)
   | (with_reducible exact LeO.refl _)
   | (with_reducible exact LeO.none _)
   | (with_reducible refine LeO.ite ?_ ?_)
   | (with_reducible refine LeO.bind ?_ (fun _ => ?_))
   | exact ih0 _ _ _ _ _
   | exact ih1 _ _ _ _ _ _ _ _ _ _ _ _
   | exact spec_l5Words.mono _ _
   | exact LeO.none _
   | refine LeO.ite ?_ ?_
   | refine LeO.bind ?_ (fun _ => ?_)
  ·intro y0 y1 y2 y3 y4 y5 y6 y7 y8 y9 y10 y11
   unfold spec_MachNew.l0
   repeat' first
   | (with_reducible exact ih0 _ _ _ _ _)
   | (with_reducible exact ih1 _ _ _ _ _ _ _ _ _ _ _ _)
   | (with_reducible exact spec_l5Words.mono _ _)
   | (with_reducible exact LeO.refl _)
   | (with_reducible exact LeO.none _)
   | (with_reducible refine LeO.ite ?_ ?_)
   | (with_reducible refine LeO.bind ?_ (fun _ => ?_))
   | exact ih0 _ _ _ _ _
   | exact ih1 _ _ _ _ _ _ _ _ _ _ _ _
   | exact spec_l5Words.mono _ _
   | exact LeO.none _
   | refine LeO.ite ?_ ?_
   | refine LeO.bind ?_ (fun _ => ?_)
theorem spec_MachNew.mono : ∀ a0 a1 a2 a3 k, LeO (spec_MachNew.f k a0 a1 a2 a3) (spec_MachNew.f (k + 1) a0 a1 a2 a3) := by
 intro a0 a1 a2 a3 k
 obtain ⟨ih0, ih1⟩ := spec_MachNew.mono_l k
 unfold spec_MachNew.f
 repeat' first
   | (with_reducible exact ih0 _ _ _ _ _)
   | (with_reducible exact ih1 _ _ _ _ _ _ _ _ _ _ _ _)
   | (with_reducible exact spec_l5Words.mono _ _)
   | (with_reducible exact LeO.refl _)
   | (with_reducible exact LeO.none _)
   | (with_reducible refine LeO.ite ?_ ?_)
   | (with_reducible refine LeO.bind ?_ (fun _ => ?_))
   | exact ih0 _ _ _ _ _
   | exact ih1 _ _ _ _ _ _ _ _ _ _ _ _
   | exact spec_l5Words.mono _ _
   | exact LeO.none _
   | refine LeO.ite ?_ ?_
   | refine LeO.bind ?_ (fun _ => ?_)
def spec_MachNew.T3 : Bool × List (List Nat × List Nat) := (true, [([], []), ([], []), ([], []), ([], []), ([2, 3], [2, 3]), ([0, 1, 4], [0, 1, 4]), ([], []), ([6, 5, 4, 0, 1, 2, 3, 4, 5, 6], [5, 6])])
def spec_MachNew.B3 : List Nat := [0, 0, 0, 0, 12, 31, 0, 127]
theorem spec_MachNew.tab3 : rtab .any (opsOf Try.f27 3) = spec_MachNew.T3 := by kernel_rfl
theorem spec_MachNew.bits3 : waitsOk spec_MachNew.T3.2 spec_MachNew.B3 = true := by kernel_rfl
def spec_MachNew.T7 : Bool × List (List Nat × List Nat) := (true, [([], []), ([0], [0]), ([], []), ([2], [2]), ([], []), ([3, 4], [3, 4]), ([], []), ([], []), ([6, 7], [6, 7]), ([8], [8]), ([1, 5, 0, 1, 2, 3, 4, 5, 6, 7, 8, 9], [1, 5]), ([10, 9, 0, 1, 2, 3, 4, 5, 6, 7, 8, 9], [9, 10])])
def spec_MachNew.B7 : List Nat := [0, 1, 0, 4, 0, 28, 0, 0, 192, 448, 1023, 2047]
theorem spec_MachNew.tab7 : rtab .any (opsOf Try.f27 7) = spec_MachNew.T7 := by kernel_rfl
theorem spec_MachNew.bits7 : waitsOk spec_MachNew.T7.2 spec_MachNew.B7 = true := by kernel_rfl
set_option maxHeartbeats 8000000 in
set_option maxRecDepth 100000 in
theorem spec_MachNew.calls (k : Nat) (A0 : Option Addr) (c0 : Nat) (l0 : List Int) (a1 : Int) (a2 : Int) (A3 : Option Addr) (c3 : Nat) (l3 : List Int) (r1 : List Int) (r2 : List Int) (r3 : Bool) (r4 : Bool) (r5 : Bool) (r6 : Bool) (r7 : List Int) (r8 : List Int) (r9 : Int) (w : World) (hr0 : Kd.C (Kd.int .i64) w A0 l0.length l0) (hc0 : l0.length ≤ c0) (hr3 : Kd.C (Kd.int .i64) w A3 l3.length l3) (hc3 : l3.length ≤ c3) (h : spec_MachNew.f k l0 a1 a2 l3 = some (r1, r2, r3, r4, r5, r6, r7, r8, r9)) :
  Calls Try.prog 27 #[.slice A0 l0.length c0, .int .i64 a1, .int .i64 a2, .slice A3 l3.length c3] w fun e w' => ∃ v0_ v1_ v6_ v7_ : Value, e = .returned (.agg #[v0_, v1_, .bool r3, .bool r4, .bool r5, .bool r6, v6_, v7_, .int .i64 r9]) ∧ Kd.R (Kd.int .i64) 3 w' w.heap.size (fun k_ => some k_ ≠ (v1_ : Value).ownBlock ∧ some k_ ≠ (v6_ : Value).ownBlock ∧ some k_ ≠ (v7_ : Value).ownBlock) v0_ r1 ∧ Kd.R (Kd.int .i64) 3 w' w.heap.size (fun k_ => some k_ ≠ (v0_ : Value).ownBlock ∧ some k_ ≠ (v6_ : Value).ownBlock ∧ some k_ ≠ (v7_ : Value).ownBlock) v1_ r2 ∧ Kd.R (Kd.int .i64) 3 w' w.heap.size (fun k_ => some k_ ≠ (v0_ : Value).ownBlock ∧ some k_ ≠ (v1_ : Value).ownBlock ∧ some k_ ≠ (v7_ : Value).ownBlock) v6_ r7 ∧ Kd.R (Kd.int .i64) 3 w' w.heap.size (fun k_ => some k_ ≠ (v0_ : Value).ownBlock ∧ some k_ ≠ (v1_ : Value).ownBlock ∧ some k_ ≠ (v6_ : Value).ownBlock) v7_ r8 ∧ Below w.heap.size w w' := by
 have hu28 := Try.underlying28
 have HR0 := A_ hr0
 have HC0 := A_ hc0
 clear hr0 hc0
 have HR3 := A_ hr3
 have HC3 := A_ hc3
 clear hr3 hc3
 have HB := A_ (Below.refl w.heap.size w)
 have H : ((spec_l1In.f a1 0 510).bind fun t112 => (if t112 = true then (if (Int.tmod a1 2) = 0 then (if (l0.length : Int) > (wrap64 (256 - (wrap64 (Int.tdiv a1 2)))) then (spec_MachNew.j0 k l0 a1 a2 l3 true) else ((spec_l5Words.f k l0).bind fun t113 => (if t113 = true then ((spec_l1In.f a2 0 65535).bind fun t114 => (if t114 = true then (if (l3.length : Int) > 50 then (spec_MachNew.j0 k l0 a1 a2 l3 true) else ((spec_l5Words.f k l3).bind fun t115 => (spec_MachNew.j0 k l0 a1 a2 l3 (!t115)))) else (spec_MachNew.j0 k l0 a1 a2 l3 true))) else (spec_MachNew.j0 k l0 a1 a2 l3 true)))) else (spec_MachNew.j0 k l0 a1 a2 l3 true)) else (spec_MachNew.j0 k l0 a1 a2 l3 true))) = some (r1, r2, r3, r4, r5, r6, r7, r8, r9) := h
 clear h
 have HC5 := A_ H
 clear H
 go_enter Try.func27, Try.ntmps27
 go_upto_region 1 with (first | ((with_reducible refine gate_dst (N := 8) rfl ?_); (try (refine gate_guard (by rfl) ?_; dsimp only)); refine box_event ?hg (N := 8) ?hd (cs := #[.slice none 0 0, .slice none 0 0, .bool false, .bool false, .bool false, .bool false, .slice none 0 0, .slice none 0 0, .int .i64 0]) (t := 28) ?hr ?_; (case hd => rfl); (case hg => rfl); (case hr => first | (go_simp; done) | (go_simp; rfl)); intro gb111 hg w6 hbox hb; have n0_ := A_ (below_step (bw_ HB.out) hb); have n1_ := A_ (hbox); have n2_ := A_ ((by rw [hg]; exact (below_size (bw_ HB.out)) : w.heap.size ≤ gb111)); have n3_ := n2_; clear HB; have HB := n0_; have BK111 := n1_; have GW111 := n2_; have GE111 := n3_; have GI111 := GeI.mk GE111.out; clear n0_ n1_ n2_ n3_; clear hb hbox hg))
 (try simp only [Act.put, List.setIfInBounds_toArray, List.set_cons_zero, List.set_cons_succ])
 go_cut [46] (fun v46 wc => ∃ (kq : Nat) (x46_4 : Bool), v46 = .bool x46_4 ∧ Aside0 (spec_MachNew.j0 kq l0 a1 a2 l3 x46_4 = some (r1, r2, r3, r4, r5, r6, r7, r8, r9)) ∧ Aside0 (kq ≤ k) ∧ Aside0 (wc.heap[gb111]? = some (.cells #[(.slice none 0 0), (.slice none 0 0), .bool false, .bool false, .bool false, .bool false, (.slice none 0 0), (.slice none 0 0), .int .i64 0] 28 (0, 0))) ∧ Aside0 (Below w.heap.size w wc))
 case first =>
  have H := HC5.out
  clear HC5
  replace H := Option.bind_eq_some_iff.mp H
  obtain ⟨t112, A70, H⟩ := H
  try dsimp only at H
  have A7 := A_ A70
  clear A70
  by_cases c8 : t112 = true
  ·subst c8
   rw [if_pos rfl] at H
   by_cases c9 : (Int.tmod a1 2) = 0
   ·rw [if_pos c9] at H
    have c9b0 : ((Int.tmod a1 2) == 0) = true := beq_iff_eq.mpr c9
    have c9b1 : ((Int.tmod a1 2) != 0) = false := bne_eq_false_iff_eq.mpr c9
    clear c9
    (first | rw [c9b0] | (simp only [i64_w, i32_w]; rw [c9b0]) | skip)
    by_cases c10 : (l0.length : Int) > (wrap64 (256 - (wrap64 (Int.tdiv a1 2))))
    ·rw [if_pos c10] at H
     have c10b0 : decide ((wrap64 (256 - (wrap64 (Int.tdiv a1 2)))) < (l0.length : Int)) = true := decide_eq_true c10
     clear c10
     have H' := A_ H
     clear H
     go_wp2_with (first | ((with_reducible refine gate_callee (f := 57) rfl ?_); refine gL_ (some 12) Try.func57 #[.int .i64 a1, .int .i64 0, .int .i64 510] ?_; (with_reducible refine (spec_l1In.calls a1 0 510 true _ A7.out).mono ?_); rintro e w' ⟨rfl, ⟨nd, rfl⟩⟩; refine ⟨_, rfl, ?_⟩))
     go_meet
     case rel => exact ⟨_, (true), (by first | rfl | (simp; done) | (simp [*]; done) | (simp [wrap64]; done)), H', ⟨by first | omega | exact Nat.le_refl _⟩, ⟨by refine bk_ ?_; exact BK111.out⟩, ⟨bw_ HB.out⟩⟩
    ·rw [if_neg c10] at H
     have c10b0 : decide ((wrap64 (256 - (wrap64 (Int.tdiv a1 2)))) < (l0.length : Int)) = false := decide_eq_false c10
     clear c10
     replace H := Option.bind_eq_some_iff.mp H
     obtain ⟨t113, A110, H⟩ := H
     try dsimp only at H
     have A11 := A_ A110
     clear A110
     by_cases c12 : t113 = true
     ·subst c12
      rw [if_pos rfl] at H
      replace H := Option.bind_eq_some_iff.mp H
      obtain ⟨t114, A130, H⟩ := H
      try dsimp only at H
      have A13 := A_ A130
      clear A130
      by_cases c14 : t114 = true
      ·subst c14
       rw [if_pos rfl] at H
       by_cases c15 : (l3.length : Int) > 50
       ·rw [if_pos c15] at H
        have c15b0 : decide (50 < (l3.length : Int)) = true := decide_eq_true c15
        have c15b1 : decide (50 < l3.length) = true := decide_eq_true (by omega)
        clear c15
        have H' := A_ H
        clear H
        go_wp2_with (first | ((with_reducible refine gate_callee (f := 57) rfl ?_); refine gL_ (some 12) Try.func57 #[.int .i64 a1, .int .i64 0, .int .i64 510] ?_; (with_reducible refine (spec_l1In.calls a1 0 510 true _ A7.out).mono ?_); rintro e w' ⟨rfl, ⟨nd, rfl⟩⟩; refine ⟨_, rfl, ?_⟩) | (go_at_call 59; (with_reducible refine (spec_l5Words.calls k _ _ l0 true _ ?side1 ?side2 A11.out).mono ?_); (case side1 => repeat (first | exact (Kd.C_below HR0.out (bw_ HB.out)) | (with_reducible refine Kd.C_alloc ?_ _) | (with_reducible refine Kd.C_drewN ?_ _) | (with_reducible refine Kd.C_drew ?_))); (case side2 => exact HC0.out); rintro e w' ⟨rfl, ⟨nd, rfl⟩⟩) | (go_at_call 57; (with_reducible refine (spec_l1In.calls a2 0 65535 true _ A13.out).mono ?_); rintro e w' ⟨rfl, ⟨nd, rfl⟩⟩))
        go_meet
        case rel => exact ⟨_, (true), (by first | rfl | (simp; done) | (simp [*]; done) | (simp [wrap64]; done)), H', ⟨by first | omega | exact Nat.le_refl _⟩, ⟨by refine bk_ ?_; exact BK111.out⟩, ⟨bw_ HB.out⟩⟩
       ·rw [if_neg c15] at H
        have c15b0 : decide (50 < (l3.length : Int)) = false := decide_eq_false c15
        have c15b1 : decide (50 < l3.length) = false := decide_eq_false (by omega)
        clear c15
        replace H := Option.bind_eq_some_iff.mp H
        obtain ⟨t115, A160, H⟩ := H
        try dsimp only at H
        have A16 := A_ A160
        clear A160
        have H' := A_ H
        clear H
        go_wp2_with (first | ((with_reducible refine gate_callee (f := 57) rfl ?_); refine gL_ (some 12) Try.func57 #[.int .i64 a1, .int .i64 0, .int .i64 510] ?_; (with_reducible refine (spec_l1In.calls a1 0 510 true _ A7.out).mono ?_); rintro e w' ⟨rfl, ⟨nd, rfl⟩⟩; refine ⟨_, rfl, ?_⟩) | (go_at_call 59; (with_reducible refine (spec_l5Words.calls k _ _ l0 true _ ?side1 ?side2 A11.out).mono ?_); (case side1 => repeat (first | exact (Kd.C_below HR0.out (bw_ HB.out)) | (with_reducible refine Kd.C_alloc ?_ _) | (with_reducible refine Kd.C_drewN ?_ _) | (with_reducible refine Kd.C_drew ?_))); (case side2 => exact HC0.out); rintro e w' ⟨rfl, ⟨nd, rfl⟩⟩) | (go_at_call 57; (with_reducible refine (spec_l1In.calls a2 0 65535 true _ A13.out).mono ?_); rintro e w' ⟨rfl, ⟨nd, rfl⟩⟩) | (go_at_call 59; (with_reducible refine (spec_l5Words.calls k _ _ l3 t115 _ ?side1 ?side2 A16.out).mono ?_); (case side1 => repeat (first | exact (Kd.C_below HR3.out (bw_ HB.out)) | (with_reducible refine Kd.C_alloc ?_ _) | (with_reducible refine Kd.C_drewN ?_ _) | (with_reducible refine Kd.C_drew ?_))); (case side2 => exact HC3.out); rintro e w' ⟨rfl, ⟨nd, rfl⟩⟩))
        go_meet
        case rel => exact ⟨_, (!t115), (by first | rfl | (simp; done) | (simp [*]; done) | (simp [wrap64]; done)), H', ⟨by first | omega | exact Nat.le_refl _⟩, ⟨by refine bk_ ?_; exact BK111.out⟩, ⟨bw_ HB.out⟩⟩
      ·replace c14 := Bool.eq_false_iff.mpr c14
       subst c14
       rw [if_neg (show ¬ (false = true) by decide)] at H
       have H' := A_ H
       clear H
       go_wp2_with (first | ((with_reducible refine gate_callee (f := 57) rfl ?_); refine gL_ (some 12) Try.func57 #[.int .i64 a1, .int .i64 0, .int .i64 510] ?_; (with_reducible refine (spec_l1In.calls a1 0 510 true _ A7.out).mono ?_); rintro e w' ⟨rfl, ⟨nd, rfl⟩⟩; refine ⟨_, rfl, ?_⟩) | (go_at_call 59; (with_reducible refine (spec_l5Words.calls k _ _ l0 true _ ?side1 ?side2 A11.out).mono ?_); (case side1 => repeat (first | exact (Kd.C_below HR0.out (bw_ HB.out)) | (with_reducible refine Kd.C_alloc ?_ _) | (with_reducible refine Kd.C_drewN ?_ _) | (with_reducible refine Kd.C_drew ?_))); (case side2 => exact HC0.out); rintro e w' ⟨rfl, ⟨nd, rfl⟩⟩) | (go_at_call 57; (with_reducible refine (spec_l1In.calls a2 0 65535 false _ A13.out).mono ?_); rintro e w' ⟨rfl, ⟨nd, rfl⟩⟩))
       go_meet
       case rel => exact ⟨_, (true), (by first | rfl | (simp; done) | (simp [*]; done) | (simp [wrap64]; done)), H', ⟨by first | omega | exact Nat.le_refl _⟩, ⟨by refine bk_ ?_; exact BK111.out⟩, ⟨bw_ HB.out⟩⟩
     ·replace c12 := Bool.eq_false_iff.mpr c12
      subst c12
      rw [if_neg (show ¬ (false = true) by decide)] at H
      have H' := A_ H
      clear H
      go_wp2_with (first | ((with_reducible refine gate_callee (f := 57) rfl ?_); refine gL_ (some 12) Try.func57 #[.int .i64 a1, .int .i64 0, .int .i64 510] ?_; (with_reducible refine (spec_l1In.calls a1 0 510 true _ A7.out).mono ?_); rintro e w' ⟨rfl, ⟨nd, rfl⟩⟩; refine ⟨_, rfl, ?_⟩) | (go_at_call 59; (with_reducible refine (spec_l5Words.calls k _ _ l0 false _ ?side1 ?side2 A11.out).mono ?_); (case side1 => repeat (first | exact (Kd.C_below HR0.out (bw_ HB.out)) | (with_reducible refine Kd.C_alloc ?_ _) | (with_reducible refine Kd.C_drewN ?_ _) | (with_reducible refine Kd.C_drew ?_))); (case side2 => exact HC0.out); rintro e w' ⟨rfl, ⟨nd, rfl⟩⟩))
      go_meet
      case rel => exact ⟨_, (true), (by first | rfl | (simp; done) | (simp [*]; done) | (simp [wrap64]; done)), H', ⟨by first | omega | exact Nat.le_refl _⟩, ⟨by refine bk_ ?_; exact BK111.out⟩, ⟨bw_ HB.out⟩⟩
   ·rw [if_neg c9] at H
    have c9b0 : ((Int.tmod a1 2) == 0) = false := beq_eq_false_iff_ne.mpr c9
    have c9b1 : ((Int.tmod a1 2) != 0) = true := bne_iff_ne.mpr c9
    (first | rw [c9b0] | (simp only [i64_w, i32_w]; rw [c9b0]) | skip)
    have H' := A_ H
    clear H
    go_wp2_with (first | ((with_reducible refine gate_callee (f := 57) rfl ?_); refine gL_ (some 12) Try.func57 #[.int .i64 a1, .int .i64 0, .int .i64 510] ?_; (with_reducible refine (spec_l1In.calls a1 0 510 true _ A7.out).mono ?_); rintro e w' ⟨rfl, ⟨nd, rfl⟩⟩; refine ⟨_, rfl, ?_⟩))
    go_meet
    case rel => exact ⟨_, (true), (by first | rfl | (simp; done) | (simp [*]; done) | (simp [wrap64]; done)), H', ⟨by first | omega | exact Nat.le_refl _⟩, ⟨by refine bk_ ?_; exact BK111.out⟩, ⟨bw_ HB.out⟩⟩
  ·replace c8 := Bool.eq_false_iff.mpr c8
   subst c8
   rw [if_neg (show ¬ (false = true) by decide)] at H
   have H' := A_ H
   clear H
   go_wp2_with (first | ((with_reducible refine gate_callee (f := 57) rfl ?_); refine gL_ (some 12) Try.func57 #[.int .i64 a1, .int .i64 0, .int .i64 510] ?_; (with_reducible refine (spec_l1In.calls a1 0 510 false _ A7.out).mono ?_); rintro e w' ⟨rfl, ⟨nd, rfl⟩⟩; refine ⟨_, rfl, ?_⟩))
   go_meet
   case rel => exact ⟨_, (true), (by first | rfl | (simp; done) | (simp [*]; done) | (simp [wrap64]; done)), H', ⟨by first | omega | exact Nat.le_refl _⟩, ⟨by refine bk_ ?_; exact BK111.out⟩, ⟨bw_ HB.out⟩⟩
 case rest =>
  clear HC5
  try clear c1
  try clear c2
  try clear p2
  try clear c3
  try clear c5
  try clear p6
  try clear c8
  try clear c9
  try clear c9b0
  try clear c9b1
  try clear c10
  try clear c10b0
  try clear c12
  try clear c14
  try clear c15
  try clear c15b0
  try clear c15b1
  obtain ⟨kq, x46_4, rfl, HA, HJ4, BK111, HB⟩ := hcut
  cases kq with
  | zero => exact absurd HA.out (by simp [spec_MachNew.j0])
  | succ kj4 =>
   have H := HA.out
   clear HA
   simp only [spec_MachNew.j0] at H
   by_cases c17 : x46_4 = true
   ·subst c17
    rw [if_pos rfl] at H
    simp only [Option.some.injEq, Prod.mk.injEq] at H
    obtain ⟨rfl, rfl, rfl, rfl, rfl, rfl, rfl, rfl, rfl⟩ := H
    have y18_0 : wc.cell? ⟨gb111, 0, none⟩ = some (.slice none 0 0) := (blk_cell BK111.out 0).trans rfl
    have y18_1 : wc.cell? ⟨gb111, 1, none⟩ = some (.slice none 0 0) := (blk_cell BK111.out 1).trans rfl
    have y18_2 : wc.cell? ⟨gb111, 2, none⟩ = some (.bool false) := (blk_cell BK111.out 2).trans rfl
    have y18_3 : wc.cell? ⟨gb111, 3, none⟩ = some (.bool false) := (blk_cell BK111.out 3).trans rfl
    have y18_4 : wc.cell? ⟨gb111, 4, none⟩ = some (.bool false) := (blk_cell BK111.out 4).trans rfl
    have y18_5 : wc.cell? ⟨gb111, 5, none⟩ = some (.bool false) := (blk_cell BK111.out 5).trans rfl
    have y18_6 : wc.cell? ⟨gb111, 6, none⟩ = some (.slice none 0 0) := (blk_cell BK111.out 6).trans rfl
    have y18_7 : wc.cell? ⟨gb111, 7, none⟩ = some (.slice none 0 0) := (blk_cell BK111.out 7).trans rfl
    have y18_8 : wc.cell? ⟨gb111, 8, none⟩ = some (.int .i64 0) := (blk_cell BK111.out 8).trans rfl
    have z18_0 := blk_frozen BK111.out 0
    have z18_1 := blk_frozen BK111.out 1
    have z18_2 := blk_frozen BK111.out 2
    have z18_3 := blk_frozen BK111.out 3
    have z18_4 := blk_frozen BK111.out 4
    have z18_5 := blk_frozen BK111.out 5
    have z18_6 := blk_frozen BK111.out 6
    have z18_7 := blk_frozen BK111.out 7
    have z18_8 := blk_frozen BK111.out 8
    go_wp2
    refine bodyPost_ret (results_cell_row rfl _ _ gb111 28 #[.slice none 0 0, .slice none 0 0, .bool false, .bool false, .bool false, .bool false, .slice none 0 0, .slice none 0 0, .int .i64 0] (0, 0) _ rfl ?hb_ Try.underlying28 rfl (by kernel_rfl)) rfl ?_
    (case hb_ => refine bk_ ?_; refine blk_put (cs := #[.slice none 0 0, .slice none 0 0, .bool false, .bool false, .bool false, .bool false, .slice none 0 0, .slice none 0 0, .int .i64 0]) ?_ 8 _ rfl; refine bk_ ?_; refine blk_put (cs := #[.slice none 0 0, .slice none 0 0, .bool false, .bool false, .bool false, .bool false, .slice none 0 0, .slice none 0 0, .int .i64 0]) ?_ 7 _ rfl; refine bk_ ?_; refine blk_put (cs := #[.slice none 0 0, .slice none 0 0, .bool false, .bool false, .bool false, .bool false, .slice none 0 0, .slice none 0 0, .int .i64 0]) ?_ 6 _ rfl; refine bk_ ?_; refine blk_put (cs := #[.slice none 0 0, .slice none 0 0, .bool false, .bool false, .bool false, .bool false, .slice none 0 0, .slice none 0 0, .int .i64 0]) ?_ 5 _ rfl; refine bk_ ?_; refine blk_put (cs := #[.slice none 0 0, .slice none 0 0, .bool false, .bool false, .bool false, .bool false, .slice none 0 0, .slice none 0 0, .int .i64 0]) ?_ 4 _ rfl; refine bk_ ?_; refine blk_put (cs := #[.slice none 0 0, .slice none 0 0, .bool false, .bool false, .bool false, .bool false, .slice none 0 0, .slice none 0 0, .int .i64 0]) ?_ 3 _ rfl; refine bk_ ?_; refine blk_put (cs := #[.slice none 0 0, .slice none 0 0, .bool false, .bool false, .bool false, .bool false, .slice none 0 0, .slice none 0 0, .int .i64 0]) ?_ 2 _ rfl; refine bk_ ?_; refine blk_put (cs := #[.slice none 0 0, .slice none 0 0, .bool false, .bool false, .bool false, .bool false, .slice none 0 0, .slice none 0 0, .int .i64 0]) ?_ 1 _ rfl; refine bk_ ?_; refine blk_put (cs := #[.slice none 0 0, .slice none 0 0, .bool false, .bool false, .bool false, .bool false, .slice none 0 0, .slice none 0 0, .int .i64 0]) ?_ 0 _ rfl; refine bk_ ?_; exact BK111.out)
    exact ⟨_, _, _, _, by first | rfl | (simp [errW_none, errW_some] <;> rfl) | (simp [*, errW_none, errW_some] <;> rfl), by first | exact Kd.R_nil _ _ _ _ _ | exact Kd.N_nil _ _ _ _ _ | exact Kd.V_nil _ _ _ _ _ | exact Kd.Q_nil _ _ _ _ _ | exact Kd.S_nil _ _ _ _ _, by first | exact Kd.R_nil _ _ _ _ _ | exact Kd.N_nil _ _ _ _ _ | exact Kd.V_nil _ _ _ _ _ | exact Kd.Q_nil _ _ _ _ _ | exact Kd.S_nil _ _ _ _ _, by first | exact Kd.R_nil _ _ _ _ _ | exact Kd.N_nil _ _ _ _ _ | exact Kd.V_nil _ _ _ _ _ | exact Kd.Q_nil _ _ _ _ _ | exact Kd.S_nil _ _ _ _ _, by first | exact Kd.R_nil _ _ _ _ _ | exact Kd.N_nil _ _ _ _ _ | exact Kd.V_nil _ _ _ _ _ | exact Kd.Q_nil _ _ _ _ _ | exact Kd.S_nil _ _ _ _ _, bw_ HB.out⟩
   ·replace c17 := Bool.eq_false_iff.mpr c17
    subst c17
    rw [if_neg (show ¬ (false = true) by decide)] at H
    by_cases c19 : 256 ≤ 35184372088832
    ·rw [if_pos c19] at H
     have c19b0 := eq_true c19
     have c19b1 : decide (256 ≤ 35184372088832) = true := decide_eq_true c19
     clear c19
     obtain ⟨y116, hy116⟩ : ∃ y_ : List Int, y_ = (List.replicate 256 0) := ⟨_, rfl⟩
     replace H : (if 8 ≤ 35184372088832 then ((some (([] : List Int) : List Int)).bind fun y122 => (if y122.length + l3.length < 17592186044416 then (spec_MachNew.l0 kj4 l0 a1 a2 0 y116 (List.replicate 8 0) false false false false (y122 ++ l3) 0) else (none))) else (none)) = some (r1, r2, r3, r4, r5, r6, r7, r8, r9) := by first | (rw [hy116]; with_reducible exact H) | (have H2_ := (Option.bind_some _ _).symm.trans H; rw [hy116]; with_reducible exact H2_) | (have H2_ := (Option.bind_some _ _).symm.trans H; with_reducible exact H2_) | with_reducible exact H | (rw [hy116]; exact H) | exact H
     have Ny116 := A_ hy116
     clear hy116
     by_cases c20 : 8 ≤ 35184372088832
     ·rw [if_pos c20] at H
      have c20b0 := eq_true c20
      have c20b1 : decide (8 ≤ 35184372088832) = true := decide_eq_true c20
      clear c20
      obtain ⟨y119, hy119⟩ : ∃ y_ : List Int, y_ = (List.replicate 8 0) := ⟨_, rfl⟩
      replace H : ((some (([] : List Int) : List Int)).bind fun y122 => (if y122.length + l3.length < 17592186044416 then (spec_MachNew.l0 kj4 l0 a1 a2 0 y116 y119 false false false false (y122 ++ l3) 0) else (none))) = some (r1, r2, r3, r4, r5, r6, r7, r8, r9) := by first | (rw [hy119]; with_reducible exact H) | (have H2_ := (Option.bind_some _ _).symm.trans H; rw [hy119]; with_reducible exact H2_) | (have H2_ := (Option.bind_some _ _).symm.trans H; with_reducible exact H2_) | with_reducible exact H | (rw [hy119]; exact H) | exact H
      have Ny119 := A_ hy119
      clear hy119
      obtain ⟨y122, hy122⟩ : ∃ y_ : List Int, y_ = (([] : List Int)) := ⟨_, rfl⟩
      replace H : (if y122.length + l3.length < 17592186044416 then (spec_MachNew.l0 kj4 l0 a1 a2 0 y116 y119 false false false false (y122 ++ l3) 0) else (none)) = some (r1, r2, r3, r4, r5, r6, r7, r8, r9) := by first | (rw [hy122]; with_reducible exact H) | (have H2_ := (Option.bind_some _ _).symm.trans H; rw [hy122]; with_reducible exact H2_) | (have H2_ := (Option.bind_some _ _).symm.trans H; with_reducible exact H2_) | with_reducible exact H | (rw [hy122]; exact H) | exact H
      have Ny122 := A_ hy122
      clear hy122
      by_cases c21 : y122.length + l3.length < 17592186044416
      ·rw [if_pos c21] at H
       have LMc21 := A_ c21
       clear c21
       obtain ⟨y125, hy125⟩ : ∃ y_ : List Int, y_ = (y122 ++ l3) := ⟨_, rfl⟩
       replace H : (spec_MachNew.l0 kj4 l0 a1 a2 0 y116 y119 false false false false y125 0) = some (r1, r2, r3, r4, r5, r6, r7, r8, r9) := by first | (rw [hy125]; with_reducible exact H) | (have H2_ := (Option.bind_some _ _).symm.trans H; rw [hy125]; with_reducible exact H2_) | (have H2_ := (Option.bind_some _ _).symm.trans H; with_reducible exact H2_) | with_reducible exact H | (rw [hy125]; exact H) | exact H
       have Ny125 := A_ hy125
       clear hy125
       have H' := A_ H
       clear H
       try go_wp2
       have n0_ := A_ (blk_drew BK111.out)
       have n1_ := A_ (below_drew1 HB.out)
       clear BK111
       clear HB
       have BK111 := n0_
       have HB := n1_
       clear n0_ n1_
       refine start_ (n := 8) (S := fun w' => True) (ds := []) #[false, false, false, false, false, false, false, false] (by kernel_rfl) rfl rfl trivial (fun hHeld => ?_); refine with_tabW spec_MachNew.tab3 spec_MachNew.bits3 (fun HT_ HW_ => ?_)
       generalize wc.drew = w22 at BK111 HB hHeld ⊢
       refine pure_ (i := 3) (N := some 51) (v := ?_) (a' := ?_) #[false, false, false, true, false, false, false, false] rfl rfl (any_of HT_.out (by kernel_rfl)) (fun _ _ _ h => h) (Or.inl ⟨by rfl, ?_⟩) ?_ ?_
       rotate_left
       ·intro w'
        go_simp
        with_reducible rfl
       rotate_left
       ·simp only [Act.put, List.setIfInBounds_toArray, List.set_cons_zero, List.set_cons_succ, i64_w, i32_w]
        rfl
       refine join_ (σ := Value × Value × Value × Value × Nat) 1 #[true, true, true, true, true, true, true, false] (fun s_ => [(48, s_.1), (49, s_.2.1), (50, s_.2.2.1), (52, s_.2.2.2.1), (9, .pointer (some ⟨s_.2.2.2.2, 0, none⟩)), (53, .agg #[s_.1, s_.2.1, .bool false, .bool false, .bool false, .bool false, s_.2.2.2.1, .slice none 0 0, .int .i64 0])]) (fun s_ w' => (Kd.R (Kd.int .i64) 3 w' w.heap.size (fun k_ => some k_ ≠ (s_.2.1 : Value).ownBlock ∧ some k_ ≠ (s_.2.2.2.1 : Value).ownBlock) s_.1 y116) ∧ (Kd.R (Kd.int .i64) 3 w' w.heap.size (fun k_ => some k_ ≠ (s_.1 : Value).ownBlock ∧ some k_ ≠ (s_.2.2.2.1 : Value).ownBlock) s_.2.1 y119) ∧ (Kd.R (Kd.int .i64) 3 w' w.heap.size (fun k_ => some k_ ≠ (s_.1 : Value).ownBlock ∧ some k_ ≠ (s_.2.1 : Value).ownBlock) s_.2.2.2.1 y125) ∧ (w'.heap[gb111]? = some (.cells #[.slice none 0 0, .slice none 0 0, .bool false, .bool false, .bool false, .bool false, .slice none 0 0, .slice none 0 0, .int .i64 0] 28 (0, 0))) ∧ (w'.heap[s_.2.2.2.2]? = some (.cells #[.slice none 0 0, .slice none 0 0, .bool false, .bool false, .bool false, .bool false, .slice none 0 0, .slice none 0 0, .int .i64 0] 28 (0, 0))) ∧ (w.heap.size ≤ s_.2.2.2.2) ∧ (w.heap.size ≤ s_.2.2.2.2) ∧ (gb111 ≠ s_.2.2.2.2) ∧ (s_.2.2.2.2 ≠ gb111) ∧ (Below w.heap.size w w')) ?_ ?_
       rotate_left
       ·intro hJ0_1_2_4_6
        refine join_ (σ := Value × Value × Value × Value) 2 #[true, true, true, true, true, true, false, false] (fun s_ => [(48, s_.1), (49, s_.2.1), (50, s_.2.2.1), (52, s_.2.2.2), (53, .agg #[s_.1, s_.2.1, .bool false, .bool false, .bool false, .bool false, s_.2.2.2, .slice none 0 0, .int .i64 0])]) (fun s_ w' => (Kd.R (Kd.int .i64) 3 w' w.heap.size (fun k_ => some k_ ≠ (s_.2.1 : Value).ownBlock ∧ some k_ ≠ (s_.2.2.2 : Value).ownBlock) s_.1 y116) ∧ (Kd.R (Kd.int .i64) 3 w' w.heap.size (fun k_ => some k_ ≠ (s_.1 : Value).ownBlock ∧ some k_ ≠ (s_.2.2.2 : Value).ownBlock) s_.2.1 y119) ∧ (Kd.R (Kd.int .i64) 3 w' w.heap.size (fun k_ => some k_ ≠ (s_.1 : Value).ownBlock ∧ some k_ ≠ (s_.2.1 : Value).ownBlock) s_.2.2.2 y125) ∧ (w'.heap[gb111]? = some (.cells #[.slice none 0 0, .slice none 0 0, .bool false, .bool false, .bool false, .bool false, .slice none 0 0, .slice none 0 0, .int .i64 0] 28 (0, 0))) ∧ (Below w.heap.size w w')) ?_ ?_
        rotate_left
        ·intro hJ0_1_2_4
         refine join_ (σ := Value × Value × Value × Nat) 3 #[true, true, true, true, false, false, true, false] (fun s_ => [(48, s_.1), (49, s_.2.1), (50, s_.2.2.1), (9, .pointer (some ⟨s_.2.2.2, 0, none⟩))]) (fun s_ w' => (Kd.R (Kd.int .i64) 3 w' w.heap.size (fun k_ => some k_ ≠ (s_.2.1 : Value).ownBlock ∧ some k_ ≠ (s_.2.2.1 : Value).ownBlock) s_.1 y116) ∧ (Kd.R (Kd.int .i64) 3 w' w.heap.size (fun k_ => some k_ ≠ (s_.1 : Value).ownBlock ∧ some k_ ≠ (s_.2.2.1 : Value).ownBlock) s_.2.1 y119) ∧ (Kd.R (Kd.int .i64) 3 w' w.heap.size (fun k_ => some k_ ≠ (s_.1 : Value).ownBlock ∧ some k_ ≠ (s_.2.1 : Value).ownBlock) s_.2.2.1 y122) ∧ (w'.heap[gb111]? = some (.cells #[.slice none 0 0, .slice none 0 0, .bool false, .bool false, .bool false, .bool false, .slice none 0 0, .slice none 0 0, .int .i64 0] 28 (0, 0))) ∧ (w'.heap[s_.2.2.2]? = some (.cells #[.slice none 0 0, .slice none 0 0, .bool false, .bool false, .bool false, .bool false, .slice none 0 0, .slice none 0 0, .int .i64 0] 28 (0, 0))) ∧ (w.heap.size ≤ s_.2.2.2) ∧ (w.heap.size ≤ s_.2.2.2) ∧ (gb111 ≠ s_.2.2.2) ∧ (s_.2.2.2 ≠ gb111) ∧ (Below w.heap.size w w')) ?_ ?_
         rotate_left
         ·intro hJ0_1_2_6
          refine join_ (σ := Value × Value × Value × Nat) 3 #[true, false, true, true, true, false, true, false] (fun s_ => [(48, s_.1), (50, s_.2.1), (52, s_.2.2.1), (9, .pointer (some ⟨s_.2.2.2, 0, none⟩))]) (fun s_ w' => (Kd.R (Kd.int .i64) 3 w' w.heap.size (fun k_ => some k_ ≠ (s_.2.2.1 : Value).ownBlock) s_.1 y116) ∧ (Kd.R (Kd.int .i64) 3 w' w.heap.size (fun k_ => some k_ ≠ (s_.1 : Value).ownBlock) s_.2.2.1 y125) ∧ (w'.heap[gb111]? = some (.cells #[.slice none 0 0, .slice none 0 0, .bool false, .bool false, .bool false, .bool false, .slice none 0 0, .slice none 0 0, .int .i64 0] 28 (0, 0))) ∧ (w'.heap[s_.2.2.2]? = some (.cells #[.slice none 0 0, .slice none 0 0, .bool false, .bool false, .bool false, .bool false, .slice none 0 0, .slice none 0 0, .int .i64 0] 28 (0, 0))) ∧ (w.heap.size ≤ s_.2.2.2) ∧ (w.heap.size ≤ s_.2.2.2) ∧ (gb111 ≠ s_.2.2.2) ∧ (s_.2.2.2 ≠ gb111) ∧ (Below w.heap.size w w')) ?_ ?_
          rotate_left
          ·intro hJ0_2_4_6
           refine join_ (σ := Value × Value × Value × Nat) 3 #[false, true, true, true, true, false, true, false] (fun s_ => [(49, s_.1), (50, s_.2.1), (52, s_.2.2.1), (9, .pointer (some ⟨s_.2.2.2, 0, none⟩))]) (fun s_ w' => (Kd.R (Kd.int .i64) 3 w' w.heap.size (fun k_ => some k_ ≠ (s_.2.2.1 : Value).ownBlock) s_.1 y119) ∧ (Kd.R (Kd.int .i64) 3 w' w.heap.size (fun k_ => some k_ ≠ (s_.1 : Value).ownBlock) s_.2.2.1 y125) ∧ (w'.heap[gb111]? = some (.cells #[.slice none 0 0, .slice none 0 0, .bool false, .bool false, .bool false, .bool false, .slice none 0 0, .slice none 0 0, .int .i64 0] 28 (0, 0))) ∧ (w'.heap[s_.2.2.2]? = some (.cells #[.slice none 0 0, .slice none 0 0, .bool false, .bool false, .bool false, .bool false, .slice none 0 0, .slice none 0 0, .int .i64 0] 28 (0, 0))) ∧ (w.heap.size ≤ s_.2.2.2) ∧ (w.heap.size ≤ s_.2.2.2) ∧ (gb111 ≠ s_.2.2.2) ∧ (s_.2.2.2 ≠ gb111) ∧ (Below w.heap.size w w')) ?_ ?_
           rotate_left
           ·intro hJ1_2_4_6
            refine join_ (σ := Value × Value × Value) 4 #[true, true, true, true, false, false, false, false] (fun s_ => [(48, s_.1), (49, s_.2.1), (50, s_.2.2)]) (fun s_ w' => (Kd.R (Kd.int .i64) 3 w' w.heap.size (fun k_ => some k_ ≠ (s_.2.1 : Value).ownBlock ∧ some k_ ≠ (s_.2.2 : Value).ownBlock) s_.1 y116) ∧ (Kd.R (Kd.int .i64) 3 w' w.heap.size (fun k_ => some k_ ≠ (s_.1 : Value).ownBlock ∧ some k_ ≠ (s_.2.2 : Value).ownBlock) s_.2.1 y119) ∧ (Kd.R (Kd.int .i64) 3 w' w.heap.size (fun k_ => some k_ ≠ (s_.1 : Value).ownBlock ∧ some k_ ≠ (s_.2.1 : Value).ownBlock) s_.2.2 y122) ∧ (w'.heap[gb111]? = some (.cells #[.slice none 0 0, .slice none 0 0, .bool false, .bool false, .bool false, .bool false, .slice none 0 0, .slice none 0 0, .int .i64 0] 28 (0, 0))) ∧ (Below w.heap.size w w')) ?_ ?_
            rotate_left
            ·intro hJ0_1_2
             refine join_ (σ := Value × Value × Nat) 4 #[true, true, false, true, false, false, true, false] (fun s_ => [(48, s_.1), (49, s_.2.1), (9, .pointer (some ⟨s_.2.2, 0, none⟩))]) (fun s_ w' => (Kd.R (Kd.int .i64) 3 w' w.heap.size (fun k_ => some k_ ≠ (s_.2.1 : Value).ownBlock) s_.1 y116) ∧ (Kd.R (Kd.int .i64) 3 w' w.heap.size (fun k_ => some k_ ≠ (s_.1 : Value).ownBlock) s_.2.1 y119) ∧ (w'.heap[gb111]? = some (.cells #[.slice none 0 0, .slice none 0 0, .bool false, .bool false, .bool false, .bool false, .slice none 0 0, .slice none 0 0, .int .i64 0] 28 (0, 0))) ∧ (w'.heap[s_.2.2]? = some (.cells #[.slice none 0 0, .slice none 0 0, .bool false, .bool false, .bool false, .bool false, .slice none 0 0, .slice none 0 0, .int .i64 0] 28 (0, 0))) ∧ (w.heap.size ≤ s_.2.2) ∧ (w.heap.size ≤ s_.2.2) ∧ (gb111 ≠ s_.2.2) ∧ (s_.2.2 ≠ gb111) ∧ (Below w.heap.size w w')) ?_ ?_
             rotate_left
             ·intro hJ0_1_6
              refine join_ (σ := Value × Value × Value) 4 #[true, false, true, true, true, false, false, false] (fun s_ => [(48, s_.1), (50, s_.2.1), (52, s_.2.2)]) (fun s_ w' => (Kd.R (Kd.int .i64) 3 w' w.heap.size (fun k_ => some k_ ≠ (s_.2.2 : Value).ownBlock) s_.1 y116) ∧ (Kd.R (Kd.int .i64) 3 w' w.heap.size (fun k_ => some k_ ≠ (s_.1 : Value).ownBlock) s_.2.2 y125) ∧ (w'.heap[gb111]? = some (.cells #[.slice none 0 0, .slice none 0 0, .bool false, .bool false, .bool false, .bool false, .slice none 0 0, .slice none 0 0, .int .i64 0] 28 (0, 0))) ∧ (Below w.heap.size w w')) ?_ ?_
              rotate_left
              ·intro hJ0_2_4
               refine join_ (σ := Value × Value × Nat) 4 #[true, false, true, true, false, false, true, false] (fun s_ => [(48, s_.1), (50, s_.2.1), (9, .pointer (some ⟨s_.2.2, 0, none⟩))]) (fun s_ w' => (Kd.R (Kd.int .i64) 3 w' w.heap.size (fun k_ => some k_ ≠ (s_.2.1 : Value).ownBlock) s_.1 y116) ∧ (Kd.R (Kd.int .i64) 3 w' w.heap.size (fun k_ => some k_ ≠ (s_.1 : Value).ownBlock) s_.2.1 y122) ∧ (w'.heap[gb111]? = some (.cells #[.slice none 0 0, .slice none 0 0, .bool false, .bool false, .bool false, .bool false, .slice none 0 0, .slice none 0 0, .int .i64 0] 28 (0, 0))) ∧ (w'.heap[s_.2.2]? = some (.cells #[.slice none 0 0, .slice none 0 0, .bool false, .bool false, .bool false, .bool false, .slice none 0 0, .slice none 0 0, .int .i64 0] 28 (0, 0))) ∧ (w.heap.size ≤ s_.2.2) ∧ (w.heap.size ≤ s_.2.2) ∧ (gb111 ≠ s_.2.2) ∧ (s_.2.2 ≠ gb111) ∧ (Below w.heap.size w w')) ?_ ?_
               rotate_left
               ·intro hJ0_2_6
                refine join_ (σ := Value × Value × Value) 4 #[false, true, true, true, true, false, false, false] (fun s_ => [(49, s_.1), (50, s_.2.1), (52, s_.2.2)]) (fun s_ w' => (Kd.R (Kd.int .i64) 3 w' w.heap.size (fun k_ => some k_ ≠ (s_.2.2 : Value).ownBlock) s_.1 y119) ∧ (Kd.R (Kd.int .i64) 3 w' w.heap.size (fun k_ => some k_ ≠ (s_.1 : Value).ownBlock) s_.2.2 y125) ∧ (w'.heap[gb111]? = some (.cells #[.slice none 0 0, .slice none 0 0, .bool false, .bool false, .bool false, .bool false, .slice none 0 0, .slice none 0 0, .int .i64 0] 28 (0, 0))) ∧ (Below w.heap.size w w')) ?_ ?_
                rotate_left
                ·intro hJ1_2_4
                 refine join_ (σ := Value × Value × Nat) 4 #[false, true, true, true, false, false, true, false] (fun s_ => [(49, s_.1), (50, s_.2.1), (9, .pointer (some ⟨s_.2.2, 0, none⟩))]) (fun s_ w' => (Kd.R (Kd.int .i64) 3 w' w.heap.size (fun k_ => some k_ ≠ (s_.2.1 : Value).ownBlock) s_.1 y119) ∧ (Kd.R (Kd.int .i64) 3 w' w.heap.size (fun k_ => some k_ ≠ (s_.1 : Value).ownBlock) s_.2.1 y122) ∧ (w'.heap[gb111]? = some (.cells #[.slice none 0 0, .slice none 0 0, .bool false, .bool false, .bool false, .bool false, .slice none 0 0, .slice none 0 0, .int .i64 0] 28 (0, 0))) ∧ (w'.heap[s_.2.2]? = some (.cells #[.slice none 0 0, .slice none 0 0, .bool false, .bool false, .bool false, .bool false, .slice none 0 0, .slice none 0 0, .int .i64 0] 28 (0, 0))) ∧ (w.heap.size ≤ s_.2.2) ∧ (w.heap.size ≤ s_.2.2) ∧ (gb111 ≠ s_.2.2) ∧ (s_.2.2 ≠ gb111) ∧ (Below w.heap.size w w')) ?_ ?_
                 rotate_left
                 ·intro hJ1_2_6
                  refine join_ (σ := Value × Value × Nat) 4 #[false, false, true, true, true, false, true, false] (fun s_ => [(50, s_.1), (52, s_.2.1), (9, .pointer (some ⟨s_.2.2, 0, none⟩))]) (fun s_ w' => (Kd.R (Kd.int .i64) 3 w' w.heap.size (fun _ => True) s_.2.1 y125) ∧ (w'.heap[gb111]? = some (.cells #[.slice none 0 0, .slice none 0 0, .bool false, .bool false, .bool false, .bool false, .slice none 0 0, .slice none 0 0, .int .i64 0] 28 (0, 0))) ∧ (w'.heap[s_.2.2]? = some (.cells #[.slice none 0 0, .slice none 0 0, .bool false, .bool false, .bool false, .bool false, .slice none 0 0, .slice none 0 0, .int .i64 0] 28 (0, 0))) ∧ (w.heap.size ≤ s_.2.2) ∧ (w.heap.size ≤ s_.2.2) ∧ (gb111 ≠ s_.2.2) ∧ (s_.2.2 ≠ gb111) ∧ (Below w.heap.size w w')) ?_ ?_
                  rotate_left
                  ·intro hJ2_4_6
                   refine join_ (σ := Value × Value) 5 #[true, true, false, true, false, false, false, false] (fun s_ => [(48, s_.1), (49, s_.2)]) (fun s_ w' => (Kd.R (Kd.int .i64) 3 w' w.heap.size (fun k_ => some k_ ≠ (s_.2 : Value).ownBlock) s_.1 y116) ∧ (Kd.R (Kd.int .i64) 3 w' w.heap.size (fun k_ => some k_ ≠ (s_.1 : Value).ownBlock) s_.2 y119) ∧ (w'.heap[gb111]? = some (.cells #[.slice none 0 0, .slice none 0 0, .bool false, .bool false, .bool false, .bool false, .slice none 0 0, .slice none 0 0, .int .i64 0] 28 (0, 0))) ∧ (Below w.heap.size w w')) ?_ ?_
                   rotate_left
                   ·intro hJ0_1
                    refine join_ (σ := Value × Value) 5 #[true, false, true, true, false, false, false, false] (fun s_ => [(48, s_.1), (50, s_.2)]) (fun s_ w' => (Kd.R (Kd.int .i64) 3 w' w.heap.size (fun k_ => some k_ ≠ (s_.2 : Value).ownBlock) s_.1 y116) ∧ (Kd.R (Kd.int .i64) 3 w' w.heap.size (fun k_ => some k_ ≠ (s_.1 : Value).ownBlock) s_.2 y122) ∧ (w'.heap[gb111]? = some (.cells #[.slice none 0 0, .slice none 0 0, .bool false, .bool false, .bool false, .bool false, .slice none 0 0, .slice none 0 0, .int .i64 0] 28 (0, 0))) ∧ (Below w.heap.size w w')) ?_ ?_
                    rotate_left
                    ·intro hJ0_2
                     refine join_ (σ := Value × Nat) 5 #[true, false, false, true, false, false, true, false] (fun s_ => [(48, s_.1), (9, .pointer (some ⟨s_.2, 0, none⟩))]) (fun s_ w' => (Kd.R (Kd.int .i64) 3 w' w.heap.size (fun _ => True) s_.1 y116) ∧ (w'.heap[gb111]? = some (.cells #[.slice none 0 0, .slice none 0 0, .bool false, .bool false, .bool false, .bool false, .slice none 0 0, .slice none 0 0, .int .i64 0] 28 (0, 0))) ∧ (w'.heap[s_.2]? = some (.cells #[.slice none 0 0, .slice none 0 0, .bool false, .bool false, .bool false, .bool false, .slice none 0 0, .slice none 0 0, .int .i64 0] 28 (0, 0))) ∧ (w.heap.size ≤ s_.2) ∧ (w.heap.size ≤ s_.2) ∧ (gb111 ≠ s_.2) ∧ (s_.2 ≠ gb111) ∧ (Below w.heap.size w w')) ?_ ?_
                     rotate_left
                     ·intro hJ0_6
                      refine join_ (σ := Value × Value) 5 #[false, true, true, true, false, false, false, false] (fun s_ => [(49, s_.1), (50, s_.2)]) (fun s_ w' => (Kd.R (Kd.int .i64) 3 w' w.heap.size (fun k_ => some k_ ≠ (s_.2 : Value).ownBlock) s_.1 y119) ∧ (Kd.R (Kd.int .i64) 3 w' w.heap.size (fun k_ => some k_ ≠ (s_.1 : Value).ownBlock) s_.2 y122) ∧ (w'.heap[gb111]? = some (.cells #[.slice none 0 0, .slice none 0 0, .bool false, .bool false, .bool false, .bool false, .slice none 0 0, .slice none 0 0, .int .i64 0] 28 (0, 0))) ∧ (Below w.heap.size w w')) ?_ ?_
                      rotate_left
                      ·intro hJ1_2
                       refine join_ (σ := Value × Nat) 5 #[false, true, false, true, false, false, true, false] (fun s_ => [(49, s_.1), (9, .pointer (some ⟨s_.2, 0, none⟩))]) (fun s_ w' => (Kd.R (Kd.int .i64) 3 w' w.heap.size (fun _ => True) s_.1 y119) ∧ (w'.heap[gb111]? = some (.cells #[.slice none 0 0, .slice none 0 0, .bool false, .bool false, .bool false, .bool false, .slice none 0 0, .slice none 0 0, .int .i64 0] 28 (0, 0))) ∧ (w'.heap[s_.2]? = some (.cells #[.slice none 0 0, .slice none 0 0, .bool false, .bool false, .bool false, .bool false, .slice none 0 0, .slice none 0 0, .int .i64 0] 28 (0, 0))) ∧ (w.heap.size ≤ s_.2) ∧ (w.heap.size ≤ s_.2) ∧ (gb111 ≠ s_.2) ∧ (s_.2 ≠ gb111) ∧ (Below w.heap.size w w')) ?_ ?_
                       rotate_left
                       ·intro hJ1_6
                        refine join_ (σ := Value × Value) 5 #[false, false, true, true, true, false, false, false] (fun s_ => [(50, s_.1), (52, s_.2)]) (fun s_ w' => (Kd.R (Kd.int .i64) 3 w' w.heap.size (fun _ => True) s_.2 y125) ∧ (w'.heap[gb111]? = some (.cells #[.slice none 0 0, .slice none 0 0, .bool false, .bool false, .bool false, .bool false, .slice none 0 0, .slice none 0 0, .int .i64 0] 28 (0, 0))) ∧ (Below w.heap.size w w')) ?_ ?_
                        rotate_left
                        ·intro hJ2_4
                         refine join_ (σ := Value × Nat) 5 #[false, false, true, true, false, false, true, false] (fun s_ => [(50, s_.1), (9, .pointer (some ⟨s_.2, 0, none⟩))]) (fun s_ w' => (Kd.R (Kd.int .i64) 3 w' w.heap.size (fun _ => True) s_.1 y122) ∧ (w'.heap[gb111]? = some (.cells #[.slice none 0 0, .slice none 0 0, .bool false, .bool false, .bool false, .bool false, .slice none 0 0, .slice none 0 0, .int .i64 0] 28 (0, 0))) ∧ (w'.heap[s_.2]? = some (.cells #[.slice none 0 0, .slice none 0 0, .bool false, .bool false, .bool false, .bool false, .slice none 0 0, .slice none 0 0, .int .i64 0] 28 (0, 0))) ∧ (w.heap.size ≤ s_.2) ∧ (w.heap.size ≤ s_.2) ∧ (gb111 ≠ s_.2) ∧ (s_.2 ≠ gb111) ∧ (Below w.heap.size w w')) ?_ ?_
                         rotate_left
                         ·intro hJ2_6
                          refine join_ (σ := Value) 6 #[true, false, false, true, false, false, false, false] (fun s_ => [(48, s_)]) (fun s_ w' => (Kd.R (Kd.int .i64) 3 w' w.heap.size (fun _ => True) s_ y116) ∧ (w'.heap[gb111]? = some (.cells #[.slice none 0 0, .slice none 0 0, .bool false, .bool false, .bool false, .bool false, .slice none 0 0, .slice none 0 0, .int .i64 0] 28 (0, 0))) ∧ (Below w.heap.size w w')) ?_ ?_
                          rotate_left
                          ·intro hJ0
                           refine join_ (σ := Value) 6 #[false, true, false, true, false, false, false, false] (fun s_ => [(49, s_)]) (fun s_ w' => (Kd.R (Kd.int .i64) 3 w' w.heap.size (fun _ => True) s_ y119) ∧ (w'.heap[gb111]? = some (.cells #[.slice none 0 0, .slice none 0 0, .bool false, .bool false, .bool false, .bool false, .slice none 0 0, .slice none 0 0, .int .i64 0] 28 (0, 0))) ∧ (Below w.heap.size w w')) ?_ ?_
                           rotate_left
                           ·intro hJ1
                            refine join_ (σ := Value) 6 #[false, false, true, true, false, false, false, false] (fun s_ => [(50, s_)]) (fun s_ w' => (Kd.R (Kd.int .i64) 3 w' w.heap.size (fun _ => True) s_ y122) ∧ (w'.heap[gb111]? = some (.cells #[.slice none 0 0, .slice none 0 0, .bool false, .bool false, .bool false, .bool false, .slice none 0 0, .slice none 0 0, .int .i64 0] 28 (0, 0))) ∧ (Below w.heap.size w w')) ?_ ?_
                            rotate_left
                            ·intro hJ2
                             refine join_ (σ := Nat) 6 #[false, false, false, true, false, false, true, false] (fun s_ => [(9, .pointer (some ⟨s_, 0, none⟩))]) (fun s_ w' => (w'.heap[gb111]? = some (.cells #[.slice none 0 0, .slice none 0 0, .bool false, .bool false, .bool false, .bool false, .slice none 0 0, .slice none 0 0, .int .i64 0] 28 (0, 0))) ∧ (w'.heap[s_]? = some (.cells #[.slice none 0 0, .slice none 0 0, .bool false, .bool false, .bool false, .bool false, .slice none 0 0, .slice none 0 0, .int .i64 0] 28 (0, 0))) ∧ (w.heap.size ≤ s_) ∧ (w.heap.size ≤ s_) ∧ (gb111 ≠ s_) ∧ (s_ ≠ gb111) ∧ (Below w.heap.size w w')) ?_ ?_
                             rotate_left
                             ·intro hJ6
                              refine four_ (i := 0) (j := 1) (k := 2) (m := 6) (Ni := some 48) (Nj := some 49) (Nk := some 50) (Nm := some 9) #[true, false, false, true, false, false, false, false] #[false, true, false, true, false, false, false, false] #[false, false, true, true, false, false, false, false] #[false, false, false, true, false, false, true, false] rfl rfl rfl rfl rfl rfl rfl rfl (four_of HT_.out (by kernel_rfl)) (by decide) (by decide) (by decide) (by decide) (fun K hK => ?_) (fun K hK => ?_) (fun K hK => ?_) (fun K hK => ?_)
                              ·skip
                               refine Kd.R_make_step (Kd.int .i64) _ 3 (by rfl) (N := 48) rfl 22 _ _ rfl 256 rfl rfl Try.underlying22 (.int .i64 0) 8 info3 rfl (by decide) (by omega) 0 (ok := fun _ => True) (okp := fun _ => True) rfl (fun _ hk => hk) trivial (by omega) (by omega) (Below.refl _ _) (Nat.le_refl _) ?_
                               intro v117 w23 ho24 hb hg_ hnew_
                               clear hg_ hnew_
                               (first | rw [← Ny116.out] at ho24 | (simp only [Int.reduceToNat] at ho24; rw [← Ny116.out] at ho24))
                               have n0_ := A_ (Kd.R_lower ho24 (below_size (bw_ HB.out)))
                               have n1_ := A_ (blk_below (bk_ BK111.out) hb)
                               have n2_ := A_ (below_step (bw_ HB.out) hb)
                               clear BK111
                               clear HB
                               have HO118 := n0_
                               have BK111 := n1_
                               have HB := n2_
                               clear n0_ n1_ n2_
                               clear hb ho24
                               refine hK.out _ _ trivial (fun hHeld => ?_)
                               clear hK K
                               refine norm_ (a' := ?_) ?_ ?_
                               rotate_left
                               ·show Act.put _ (some 48) _ = _
                                simp only [Act.put, List.setIfInBounds_toArray, List.set_cons_zero, List.set_cons_succ, i64_w, i32_w]
                                rfl
                               exact norm_ (by first | (simp only [putAll, Act.put, List.setIfInBounds_toArray, List.set_cons_zero, List.set_cons_succ]; done) | (simp only [putAll, Act.put, List.setIfInBounds_toArray, List.set_cons_zero, List.set_cons_succ]; rfl)) (hJ0 (v117) _ ⟨(by (with_reducible repeat (first | apply Kd.R_alloc | apply Kd.R_drewN | apply Kd.R_drew)); exact HO118.out), (bk_ BK111.out), (bw_ HB.out)⟩)
                              ·skip
                               refine Kd.R_make_step (Kd.int .i64) _ 3 (by rfl) (N := 49) rfl 22 _ _ rfl 8 rfl rfl Try.underlying22 (.int .i64 0) 8 info3 rfl (by decide) (by omega) 0 (ok := fun _ => True) (okp := fun _ => True) rfl (fun _ hk => hk) trivial (by omega) (by omega) (Below.refl _ _) (Nat.le_refl _) ?_
                               intro v120 w23 ho24 hb hg_ hnew_
                               clear hg_ hnew_
                               (first | rw [← Ny119.out] at ho24 | (simp only [Int.reduceToNat] at ho24; rw [← Ny119.out] at ho24))
                               have n0_ := A_ (Kd.R_lower ho24 (below_size (bw_ HB.out)))
                               have n1_ := A_ (blk_below (bk_ BK111.out) hb)
                               have n2_ := A_ (below_step (bw_ HB.out) hb)
                               clear BK111
                               clear HB
                               have HO121 := n0_
                               have BK111 := n1_
                               have HB := n2_
                               clear n0_ n1_ n2_
                               clear hb ho24
                               refine hK.out _ _ trivial (fun hHeld => ?_)
                               clear hK K
                               refine norm_ (a' := ?_) ?_ ?_
                               rotate_left
                               ·show Act.put _ (some 49) _ = _
                                simp only [Act.put, List.setIfInBounds_toArray, List.set_cons_zero, List.set_cons_succ, i64_w, i32_w]
                                rfl
                               exact norm_ (by first | (simp only [putAll, Act.put, List.setIfInBounds_toArray, List.set_cons_zero, List.set_cons_succ]; done) | (simp only [putAll, Act.put, List.setIfInBounds_toArray, List.set_cons_zero, List.set_cons_succ]; rfl)) (hJ1 (v120) _ ⟨(by (with_reducible repeat (first | apply Kd.R_alloc | apply Kd.R_drewN | apply Kd.R_drew)); exact HO121.out), (bk_ BK111.out), (bw_ HB.out)⟩)
                              ·skip
                               refine Kd.R_lit_step (Kd.int .i64) _ 3 ?hg (N := 50) ?hd (xs := ([] : List Int)) (inner := []) (ok := fun _ => True) (okp := fun _ => True) ?hr ?hp (fun _ hk => hk) trivial (Below.refl _ _) (Nat.le_refl _) (by simp) ?_; (case hd => rfl); (case hg => rfl); (case hr => first | (go_simp; done) | (go_simp; rfl)); (case hp => exact (Reps.none _ _))
                               intro v123 w23 ho24 hb hg_ hnew_
                               clear hg_ hnew_
                               (first | rw [← Ny122.out] at ho24 | (simp only [Int.reduceToNat] at ho24; rw [← Ny122.out] at ho24))
                               have n0_ := A_ (Kd.R_lower ho24 (below_size (bw_ HB.out)))
                               have n1_ := A_ (blk_below (bk_ BK111.out) hb)
                               have n2_ := A_ (below_step (bw_ HB.out) hb)
                               clear BK111
                               clear HB
                               have HO124 := n0_
                               have BK111 := n1_
                               have HB := n2_
                               clear n0_ n1_ n2_
                               clear hb ho24
                               refine hK.out _ _ trivial (fun hHeld => ?_)
                               clear hK K
                               refine norm_ (a' := ?_) ?_ ?_
                               rotate_left
                               ·show Act.put _ (some 50) _ = _
                                simp only [Act.put, List.setIfInBounds_toArray, List.set_cons_zero, List.set_cons_succ, i64_w, i32_w]
                                rfl
                               exact norm_ (by first | (simp only [putAll, Act.put, List.setIfInBounds_toArray, List.set_cons_zero, List.set_cons_succ]; done) | (simp only [putAll, Act.put, List.setIfInBounds_toArray, List.set_cons_zero, List.set_cons_succ]; rfl)) (hJ2 (v123) _ ⟨(by (with_reducible repeat (first | apply Kd.R_alloc | apply Kd.R_drewN | apply Kd.R_drew)); exact HO124.out), (bk_ BK111.out), (bw_ HB.out)⟩)
                              ·skip
                               refine box_step ?hg (N := 9) ?hd (cs := #[.slice none 0 0, .slice none 0 0, .bool false, .bool false, .bool false, .bool false, .slice none 0 0, .slice none 0 0, .int .i64 0]) (t := 28) ?hr ?_; (case hd => rfl); (case hg => rfl); (case hr => first | (go_simp; done) | (go_simp; rfl))
                               intro gb128 hg w23 hbox hb
                               have n0_ := A_ (blk_below (bk_ BK111.out) hb)
                               have n1_ := A_ (below_step (bw_ HB.out) hb)
                               have n2_ := A_ (hbox)
                               have n3_ := A_ ((by rw [hg]; exact (below_size (bw_ HB.out)) : w.heap.size ≤ gb128))
                               have n4_ := A_ ((by rw [hg]; exact (below_size (bw_ HB.out)) : w.heap.size ≤ gb128))
                               have n5_ := A_ ((by rw [hg]; exact Nat.ne_of_lt (blk_lt (bk_ BK111.out)) : gb111 ≠ gb128))
                               have n6_ := A_ ((by rw [hg]; exact Nat.ne_of_gt (blk_lt (bk_ BK111.out)) : gb128 ≠ gb111))
                               clear BK111
                               clear HB
                               have BK111 := n0_
                               have HB := n1_
                               have BK128 := n2_
                               have GW128 := n3_
                               have GE128 := n4_
                               have GI128 := GeI.mk GE128.out
                               have NB111_128 := n5_
                               have NB128_111 := n6_
                               clear n0_ n1_ n2_ n3_ n4_ n5_ n6_
                               clear hb hbox hg
                               refine hK.out _ _ trivial (fun hHeld => ?_)
                               clear hK K
                               refine norm_ (a' := ?_) ?_ ?_
                               rotate_left
                               ·show Act.put _ (some 9) _ = _
                                simp only [Act.put, List.setIfInBounds_toArray, List.set_cons_zero, List.set_cons_succ, i64_w, i32_w]
                                rfl
                               exact norm_ (by first | (simp only [putAll, Act.put, List.setIfInBounds_toArray, List.set_cons_zero, List.set_cons_succ]; done) | (simp only [putAll, Act.put, List.setIfInBounds_toArray, List.set_cons_zero, List.set_cons_succ]; rfl)) (hJ6 (gb128) _ ⟨(bk_ BK111.out), (bk_ BK128.out), GW128.out, GE128.out, NB111_128.out, NB128_111.out, (bw_ HB.out)⟩)
                             ·skip
                              rintro gb128 w24 ⟨h0_, h1_, h2_, h3_, h4_, h5_, h6_⟩
                              have n0_ : Aside0 (w24.heap[gb111]? = some (.cells #[.slice none 0 0, .slice none 0 0, .bool false, .bool false, .bool false, .bool false, .slice none 0 0, .slice none 0 0, .int .i64 0] 28 (0, 0))) := ⟨h0_⟩
                              have n1_ : Aside0 (w24.heap[gb128]? = some (.cells #[.slice none 0 0, .slice none 0 0, .bool false, .bool false, .bool false, .bool false, .slice none 0 0, .slice none 0 0, .int .i64 0] 28 (0, 0))) := ⟨h1_⟩
                              have n2_ : Aside0 (w.heap.size ≤ gb128) := ⟨h2_⟩
                              have n3_ : Aside0 (w.heap.size ≤ gb128) := ⟨h3_⟩
                              have n4_ : Aside0 (gb111 ≠ gb128) := ⟨h4_⟩
                              have n5_ : Aside0 (gb128 ≠ gb111) := ⟨h5_⟩
                              have n6_ : Aside0 (Below w.heap.size w w24) := ⟨h6_⟩
                              clear BK111
                              clear HB
                              clear h0_ h1_ h2_ h3_ h4_ h5_ h6_
                              have BK111 := n0_
                              have BK128 := n1_
                              have GW128 := n2_
                              have GE128 := n3_
                              have GI128 := GeI.mk GE128.out
                              have NB111_128 := n4_
                              have NB128_111 := n5_
                              have HB := n6_
                              clear n0_ n1_ n2_ n3_ n4_ n5_ n6_
                              have hHeld := trivial
                              refine norm_ (a' := ?_) ?_ ?_
                              rotate_left
                              ·simp only [putAll, Act.put, List.setIfInBounds_toArray, List.set_cons_zero, List.set_cons_succ]
                               rfl
                              refine three_ (i := 0) (j := 1) (k := 2) (Ni := some 48) (Nj := some 49) (Nk := some 50) #[true, false, false, true, false, false, true, false] #[false, true, false, true, false, false, true, false] #[false, false, true, true, false, false, true, false] rfl rfl rfl rfl rfl rfl (three_of HT_.out (by kernel_rfl)) (by decide) (by decide) (by decide) (fun K hK => ?_) (fun K hK => ?_) (fun K hK => ?_)
                              ·skip
                               refine Kd.R_make_step (Kd.int .i64) _ 3 (by rfl) (N := 48) rfl 22 _ _ rfl 256 rfl rfl Try.underlying22 (.int .i64 0) 8 info3 rfl (by decide) (by omega) 0 (ok := fun _ => True) (okp := fun _ => True) rfl (fun _ hk => hk) trivial (by omega) (by omega) (Below.refl _ _) (Nat.le_refl _) ?_
                               intro v117 w25 ho26 hb hg_ hnew_
                               clear hg_ hnew_
                               (first | rw [← Ny116.out] at ho26 | (simp only [Int.reduceToNat] at ho26; rw [← Ny116.out] at ho26))
                               have n0_ := A_ (Kd.R_lower ho26 (below_size (bw_ HB.out)))
                               have n1_ := A_ (blk_below (bk_ BK111.out) hb)
                               have n2_ := A_ (blk_below (bk_ BK128.out) hb)
                               have n3_ := A_ (below_step (bw_ HB.out) hb)
                               clear BK111
                               clear BK128
                               clear HB
                               have HO118 := n0_
                               have BK111 := n1_
                               have BK128 := n2_
                               have HB := n3_
                               clear n0_ n1_ n2_ n3_
                               clear hb ho26
                               refine hK.out _ _ trivial (fun hHeld => ?_)
                               clear hK K
                               refine norm_ (a' := ?_) ?_ ?_
                               rotate_left
                               ·show Act.put _ (some 48) _ = _
                                simp only [Act.put, List.setIfInBounds_toArray, List.set_cons_zero, List.set_cons_succ, i64_w, i32_w]
                                rfl
                               exact norm_ (by first | (simp only [putAll, Act.put, List.setIfInBounds_toArray, List.set_cons_zero, List.set_cons_succ]; done) | (simp only [putAll, Act.put, List.setIfInBounds_toArray, List.set_cons_zero, List.set_cons_succ]; rfl)) (hJ0_6 (v117, gb128) _ ⟨(by (with_reducible repeat (first | apply Kd.R_alloc | apply Kd.R_drewN | apply Kd.R_drew)); exact HO118.out), (bk_ BK111.out), (bk_ BK128.out), GW128.out, GE128.out, NB111_128.out, NB128_111.out, (bw_ HB.out)⟩)
                              ·skip
                               refine Kd.R_make_step (Kd.int .i64) _ 3 (by rfl) (N := 49) rfl 22 _ _ rfl 8 rfl rfl Try.underlying22 (.int .i64 0) 8 info3 rfl (by decide) (by omega) 0 (ok := fun _ => True) (okp := fun _ => True) rfl (fun _ hk => hk) trivial (by omega) (by omega) (Below.refl _ _) (Nat.le_refl _) ?_
                               intro v120 w25 ho26 hb hg_ hnew_
                               clear hg_ hnew_
                               (first | rw [← Ny119.out] at ho26 | (simp only [Int.reduceToNat] at ho26; rw [← Ny119.out] at ho26))
                               have n0_ := A_ (Kd.R_lower ho26 (below_size (bw_ HB.out)))
                               have n1_ := A_ (blk_below (bk_ BK111.out) hb)
                               have n2_ := A_ (blk_below (bk_ BK128.out) hb)
                               have n3_ := A_ (below_step (bw_ HB.out) hb)
                               clear BK111
                               clear BK128
                               clear HB
                               have HO121 := n0_
                               have BK111 := n1_
                               have BK128 := n2_
                               have HB := n3_
                               clear n0_ n1_ n2_ n3_
                               clear hb ho26
                               refine hK.out _ _ trivial (fun hHeld => ?_)
                               clear hK K
                               refine norm_ (a' := ?_) ?_ ?_
                               rotate_left
                               ·show Act.put _ (some 49) _ = _
                                simp only [Act.put, List.setIfInBounds_toArray, List.set_cons_zero, List.set_cons_succ, i64_w, i32_w]
                                rfl
                               exact norm_ (by first | (simp only [putAll, Act.put, List.setIfInBounds_toArray, List.set_cons_zero, List.set_cons_succ]; done) | (simp only [putAll, Act.put, List.setIfInBounds_toArray, List.set_cons_zero, List.set_cons_succ]; rfl)) (hJ1_6 (v120, gb128) _ ⟨(by (with_reducible repeat (first | apply Kd.R_alloc | apply Kd.R_drewN | apply Kd.R_drew)); exact HO121.out), (bk_ BK111.out), (bk_ BK128.out), GW128.out, GE128.out, NB111_128.out, NB128_111.out, (bw_ HB.out)⟩)
                              ·skip
                               refine Kd.R_lit_step (Kd.int .i64) _ 3 ?hg (N := 50) ?hd (xs := ([] : List Int)) (inner := []) (ok := fun _ => True) (okp := fun _ => True) ?hr ?hp (fun _ hk => hk) trivial (Below.refl _ _) (Nat.le_refl _) (by simp) ?_; (case hd => rfl); (case hg => rfl); (case hr => first | (go_simp; done) | (go_simp; rfl)); (case hp => exact (Reps.none _ _))
                               intro v123 w25 ho26 hb hg_ hnew_
                               clear hg_ hnew_
                               (first | rw [← Ny122.out] at ho26 | (simp only [Int.reduceToNat] at ho26; rw [← Ny122.out] at ho26))
                               have n0_ := A_ (Kd.R_lower ho26 (below_size (bw_ HB.out)))
                               have n1_ := A_ (blk_below (bk_ BK111.out) hb)
                               have n2_ := A_ (blk_below (bk_ BK128.out) hb)
                               have n3_ := A_ (below_step (bw_ HB.out) hb)
                               clear BK111
                               clear BK128
                               clear HB
                               have HO124 := n0_
                               have BK111 := n1_
                               have BK128 := n2_
                               have HB := n3_
                               clear n0_ n1_ n2_ n3_
                               clear hb ho26
                               refine hK.out _ _ trivial (fun hHeld => ?_)
                               clear hK K
                               refine norm_ (a' := ?_) ?_ ?_
                               rotate_left
                               ·show Act.put _ (some 50) _ = _
                                simp only [Act.put, List.setIfInBounds_toArray, List.set_cons_zero, List.set_cons_succ, i64_w, i32_w]
                                rfl
                               exact norm_ (by first | (simp only [putAll, Act.put, List.setIfInBounds_toArray, List.set_cons_zero, List.set_cons_succ]; done) | (simp only [putAll, Act.put, List.setIfInBounds_toArray, List.set_cons_zero, List.set_cons_succ]; rfl)) (hJ2_6 (v123, gb128) _ ⟨(by (with_reducible repeat (first | apply Kd.R_alloc | apply Kd.R_drewN | apply Kd.R_drew)); exact HO124.out), (bk_ BK111.out), (bk_ BK128.out), GW128.out, GE128.out, NB111_128.out, NB128_111.out, (bw_ HB.out)⟩)
                            ·skip
                             rintro v123 w25 ⟨h0_, h1_, h2_⟩
                             have n0_ : Aside0 (Kd.R (Kd.int .i64) 3 w25 w.heap.size (fun _ => True) v123 y122) := ⟨h0_⟩
                             have n1_ : Aside0 (w25.heap[gb111]? = some (.cells #[.slice none 0 0, .slice none 0 0, .bool false, .bool false, .bool false, .bool false, .slice none 0 0, .slice none 0 0, .int .i64 0] 28 (0, 0))) := ⟨h1_⟩
                             have n2_ : Aside0 (Below w.heap.size w w25) := ⟨h2_⟩
                             clear BK111
                             clear HB
                             clear h0_ h1_ h2_
                             have HO124 := n0_
                             have BK111 := n1_
                             have HB := n2_
                             clear n0_ n1_ n2_
                             have hHeld := trivial
                             refine norm_ (a' := ?_) ?_ ?_
                             rotate_left
                             ·simp only [putAll, Act.put, List.setIfInBounds_toArray, List.set_cons_zero, List.set_cons_succ]
                              rfl
                             refine four_ (i := 0) (j := 1) (k := 4) (m := 6) (Ni := some 48) (Nj := some 49) (Nk := some 52) (Nm := some 9) #[true, false, true, true, false, false, false, false] #[false, true, true, true, false, false, false, false] #[false, false, true, true, true, false, false, false] #[false, false, true, true, false, false, true, false] rfl rfl rfl rfl rfl rfl rfl rfl (four_of HT_.out (by kernel_rfl)) (by decide) (by decide) (by decide) (by decide) (fun K hK => ?_) (fun K hK => ?_) (fun K hK => ?_) (fun K hK => ?_)
                             ·skip
                              refine Kd.R_make_step (Kd.int .i64) _ 3 (by rfl) (N := 48) rfl 22 _ _ rfl 256 rfl rfl Try.underlying22 (.int .i64 0) 8 info3 rfl (by decide) (by omega) 0 (ok := fun _ => True) (okp := fun _ => True) rfl (fun _ hk => hk) trivial (by omega) (by omega) (Below.refl _ _) (Nat.le_refl _) ?_
                              intro v117 w26 ho27 hb hg_ hnew_
                              clear hg_ hnew_
                              (first | rw [← Ny116.out] at ho27 | (simp only [Int.reduceToNat] at ho27; rw [← Ny116.out] at ho27))
                              have n0_ := A_ (Kd.R_elder' (by (with_reducible repeat (first | apply Kd.R_alloc | apply Kd.R_drewN | apply Kd.R_drew)); exact HO124.out) (Kd.R_base ho27) hb)
                              have n1_ := A_ (Kd.R_lower (Kd.R_new' ho27 (Kd.R_lt (by (with_reducible repeat (first | apply Kd.R_alloc | apply Kd.R_drewN | apply Kd.R_drew)); exact HO124.out))) (below_size (bw_ HB.out)))
                              have n2_ := A_ (blk_below (bk_ BK111.out) hb)
                              have n3_ := A_ (below_step (bw_ HB.out) hb)
                              clear HO124
                              clear BK111
                              clear HB
                              have HO124 := n0_
                              have HO118 := n1_
                              have BK111 := n2_
                              have HB := n3_
                              clear n0_ n1_ n2_ n3_
                              clear hb ho27
                              refine hK.out _ _ trivial (fun hHeld => ?_)
                              clear hK K
                              refine norm_ (a' := ?_) ?_ ?_
                              rotate_left
                              ·show Act.put _ (some 48) _ = _
                               simp only [Act.put, List.setIfInBounds_toArray, List.set_cons_zero, List.set_cons_succ, i64_w, i32_w]
                               rfl
                              exact norm_ (by first | (simp only [putAll, Act.put, List.setIfInBounds_toArray, List.set_cons_zero, List.set_cons_succ]; done) | (simp only [putAll, Act.put, List.setIfInBounds_toArray, List.set_cons_zero, List.set_cons_succ]; rfl)) (hJ0_2 (v117, v123) _ ⟨(by (with_reducible repeat (first | apply Kd.R_alloc | apply Kd.R_drewN | apply Kd.R_drew)); exact Kd.R_mono HO118.out (fun _ hk => hk.2)), (by (with_reducible repeat (first | apply Kd.R_alloc | apply Kd.R_drewN | apply Kd.R_drew)); exact Kd.R_mono HO124.out (fun _ hk => hk.2)), (bk_ BK111.out), (bw_ HB.out)⟩)
                             ·skip
                              refine Kd.R_make_step (Kd.int .i64) _ 3 (by rfl) (N := 49) rfl 22 _ _ rfl 8 rfl rfl Try.underlying22 (.int .i64 0) 8 info3 rfl (by decide) (by omega) 0 (ok := fun _ => True) (okp := fun _ => True) rfl (fun _ hk => hk) trivial (by omega) (by omega) (Below.refl _ _) (Nat.le_refl _) ?_
                              intro v120 w26 ho27 hb hg_ hnew_
                              clear hg_ hnew_
                              (first | rw [← Ny119.out] at ho27 | (simp only [Int.reduceToNat] at ho27; rw [← Ny119.out] at ho27))
                              have n0_ := A_ (Kd.R_elder' (by (with_reducible repeat (first | apply Kd.R_alloc | apply Kd.R_drewN | apply Kd.R_drew)); exact HO124.out) (Kd.R_base ho27) hb)
                              have n1_ := A_ (Kd.R_lower (Kd.R_new' ho27 (Kd.R_lt (by (with_reducible repeat (first | apply Kd.R_alloc | apply Kd.R_drewN | apply Kd.R_drew)); exact HO124.out))) (below_size (bw_ HB.out)))
                              have n2_ := A_ (blk_below (bk_ BK111.out) hb)
                              have n3_ := A_ (below_step (bw_ HB.out) hb)
                              clear HO124
                              clear BK111
                              clear HB
                              have HO124 := n0_
                              have HO121 := n1_
                              have BK111 := n2_
                              have HB := n3_
                              clear n0_ n1_ n2_ n3_
                              clear hb ho27
                              refine hK.out _ _ trivial (fun hHeld => ?_)
                              clear hK K
                              refine norm_ (a' := ?_) ?_ ?_
                              rotate_left
                              ·show Act.put _ (some 49) _ = _
                               simp only [Act.put, List.setIfInBounds_toArray, List.set_cons_zero, List.set_cons_succ, i64_w, i32_w]
                               rfl
                              exact norm_ (by first | (simp only [putAll, Act.put, List.setIfInBounds_toArray, List.set_cons_zero, List.set_cons_succ]; done) | (simp only [putAll, Act.put, List.setIfInBounds_toArray, List.set_cons_zero, List.set_cons_succ]; rfl)) (hJ1_2 (v120, v123) _ ⟨(by (with_reducible repeat (first | apply Kd.R_alloc | apply Kd.R_drewN | apply Kd.R_drew)); exact Kd.R_mono HO121.out (fun _ hk => hk.2)), (by (with_reducible repeat (first | apply Kd.R_alloc | apply Kd.R_drewN | apply Kd.R_drew)); exact Kd.R_mono HO124.out (fun _ hk => hk.2)), (bk_ BK111.out), (bw_ HB.out)⟩)
                             ·skip
                              refine Kd.R_append_rows_step (Kd.int .i64) (w0 := w) w.heap.size (by rfl) (.tmp 50) (.tmp 51) 22 3 (.int .i64 0) 8 rfl Try.underlying22 info3 rfl (by decide) (by omega) v123 y122 l3 _ _ _ (fun _ => True) (fun _ => False) rfl rfl ?aO ?aR (fun _ _ h => h) (fun _ h => h.elim) ?aF ?aB ?aS ?aL ?_
                              (case aR => repeat (first | exact (Kd.C_below HR3.out HB.out) | (with_reducible refine Kd.C_alloc ?_ _) | (with_reducible refine Kd.C_drewN ?_ _) | (with_reducible refine Kd.C_drew ?_)))
                              (case aB => exact (bw_ HB.out))
                              (case aF => exact (fun _ _ => trivial))
                              (case aO => exact (by (with_reducible repeat (first | apply Kd.R_alloc | apply Kd.R_drewN | apply Kd.R_drew)); exact HO124.out))
                              (case aS => exact (below_size (bw_ HB.out)))
                              (case aL => have := LMc21.out; omega)
                              intro v126 w26 ho hb hg hat
                              rw [← Ny125.out] at ho
                              have n0_ := A_ (blk_grown (bk_ BK111.out) hg (Kd.R_ne HO124.out BK111.out (by decide)))
                              have n1_ := A_ (hb)
                              have n2_ := A_ (ho)
                              clear BK111
                              clear HB
                              clear HO124
                              have BK111 := n0_
                              have HB := n1_
                              have HO127 := n2_
                              clear n0_ n1_ n2_
                              clear ho hb hg hat
                              refine hK.out _ _ trivial (fun hHeld => ?_)
                              clear hK K
                              refine norm_ (a' := ?_) ?_ ?_
                              rotate_left
                              ·show Act.put _ (some 52) _ = _
                               simp only [Act.put, List.setIfInBounds_toArray, List.set_cons_zero, List.set_cons_succ, i64_w, i32_w]
                               rfl
                              exact norm_ (by first | (simp only [putAll, Act.put, List.setIfInBounds_toArray, List.set_cons_zero, List.set_cons_succ]; done) | (simp only [putAll, Act.put, List.setIfInBounds_toArray, List.set_cons_zero, List.set_cons_succ]; rfl)) (hJ2_4 (v123, v126) _ ⟨(by (with_reducible repeat (first | apply Kd.R_alloc | apply Kd.R_drewN | apply Kd.R_drew)); exact HO127.out), (bk_ BK111.out), (bw_ HB.out)⟩)
                             ·skip
                              refine box_step ?hg (N := 9) ?hd (cs := #[.slice none 0 0, .slice none 0 0, .bool false, .bool false, .bool false, .bool false, .slice none 0 0, .slice none 0 0, .int .i64 0]) (t := 28) ?hr ?_; (case hd => rfl); (case hg => rfl); (case hr => first | (go_simp; done) | (go_simp; rfl))
                              intro gb128 hg w26 hbox hb
                              have n0_ := A_ (Kd.R_below (by (with_reducible repeat (first | apply Kd.R_alloc | apply Kd.R_drewN | apply Kd.R_drew)); exact HO124.out) hb)
                              have n1_ := A_ (blk_below (bk_ BK111.out) hb)
                              have n2_ := A_ (below_step (bw_ HB.out) hb)
                              have n3_ := A_ (hbox)
                              have n4_ := A_ ((by rw [hg]; exact (below_size (bw_ HB.out)) : w.heap.size ≤ gb128))
                              have n5_ := A_ ((by rw [hg]; exact (below_size (bw_ HB.out)) : w.heap.size ≤ gb128))
                              have n6_ := A_ ((by rw [hg]; exact Nat.ne_of_lt (blk_lt (bk_ BK111.out)) : gb111 ≠ gb128))
                              have n7_ := A_ ((by rw [hg]; exact Nat.ne_of_gt (blk_lt (bk_ BK111.out)) : gb128 ≠ gb111))
                              clear HO124
                              clear BK111
                              clear HB
                              have HO124 := n0_
                              have BK111 := n1_
                              have HB := n2_
                              have BK128 := n3_
                              have GW128 := n4_
                              have GE128 := n5_
                              have GI128 := GeI.mk GE128.out
                              have NB111_128 := n6_
                              have NB128_111 := n7_
                              clear n0_ n1_ n2_ n3_ n4_ n5_ n6_ n7_
                              clear hb hbox hg
                              refine hK.out _ _ trivial (fun hHeld => ?_)
                              clear hK K
                              refine norm_ (a' := ?_) ?_ ?_
                              rotate_left
                              ·show Act.put _ (some 9) _ = _
                               simp only [Act.put, List.setIfInBounds_toArray, List.set_cons_zero, List.set_cons_succ, i64_w, i32_w]
                               rfl
                              exact norm_ (by first | (simp only [putAll, Act.put, List.setIfInBounds_toArray, List.set_cons_zero, List.set_cons_succ]; done) | (simp only [putAll, Act.put, List.setIfInBounds_toArray, List.set_cons_zero, List.set_cons_succ]; rfl)) (hJ2_6 (v123, gb128) _ ⟨(by (with_reducible repeat (first | apply Kd.R_alloc | apply Kd.R_drewN | apply Kd.R_drew)); exact HO124.out), (bk_ BK111.out), (bk_ BK128.out), GW128.out, GE128.out, NB111_128.out, NB128_111.out, (bw_ HB.out)⟩)
                           ·skip
                            rintro v120 w25 ⟨h0_, h1_, h2_⟩
                            have n0_ : Aside0 (Kd.R (Kd.int .i64) 3 w25 w.heap.size (fun _ => True) v120 y119) := ⟨h0_⟩
                            have n1_ : Aside0 (w25.heap[gb111]? = some (.cells #[.slice none 0 0, .slice none 0 0, .bool false, .bool false, .bool false, .bool false, .slice none 0 0, .slice none 0 0, .int .i64 0] 28 (0, 0))) := ⟨h1_⟩
                            have n2_ : Aside0 (Below w.heap.size w w25) := ⟨h2_⟩
                            clear BK111
                            clear HB
                            clear h0_ h1_ h2_
                            have HO121 := n0_
                            have BK111 := n1_
                            have HB := n2_
                            clear n0_ n1_ n2_
                            have hHeld := trivial
                            refine norm_ (a' := ?_) ?_ ?_
                            rotate_left
                            ·simp only [putAll, Act.put, List.setIfInBounds_toArray, List.set_cons_zero, List.set_cons_succ]
                             rfl
                            refine three_ (i := 0) (j := 2) (k := 6) (Ni := some 48) (Nj := some 50) (Nk := some 9) #[true, true, false, true, false, false, false, false] #[false, true, true, true, false, false, false, false] #[false, true, false, true, false, false, true, false] rfl rfl rfl rfl rfl rfl (three_of HT_.out (by kernel_rfl)) (by decide) (by decide) (by decide) (fun K hK => ?_) (fun K hK => ?_) (fun K hK => ?_)
                            ·skip
                             refine Kd.R_make_step (Kd.int .i64) _ 3 (by rfl) (N := 48) rfl 22 _ _ rfl 256 rfl rfl Try.underlying22 (.int .i64 0) 8 info3 rfl (by decide) (by omega) 0 (ok := fun _ => True) (okp := fun _ => True) rfl (fun _ hk => hk) trivial (by omega) (by omega) (Below.refl _ _) (Nat.le_refl _) ?_
                             intro v117 w26 ho27 hb hg_ hnew_
                             clear hg_ hnew_
                             (first | rw [← Ny116.out] at ho27 | (simp only [Int.reduceToNat] at ho27; rw [← Ny116.out] at ho27))
                             have n0_ := A_ (Kd.R_elder' (by (with_reducible repeat (first | apply Kd.R_alloc | apply Kd.R_drewN | apply Kd.R_drew)); exact HO121.out) (Kd.R_base ho27) hb)
                             have n1_ := A_ (Kd.R_lower (Kd.R_new' ho27 (Kd.R_lt (by (with_reducible repeat (first | apply Kd.R_alloc | apply Kd.R_drewN | apply Kd.R_drew)); exact HO121.out))) (below_size (bw_ HB.out)))
                             have n2_ := A_ (blk_below (bk_ BK111.out) hb)
                             have n3_ := A_ (below_step (bw_ HB.out) hb)
                             clear HO121
                             clear BK111
                             clear HB
                             have HO121 := n0_
                             have HO118 := n1_
                             have BK111 := n2_
                             have HB := n3_
                             clear n0_ n1_ n2_ n3_
                             clear hb ho27
                             refine hK.out _ _ trivial (fun hHeld => ?_)
                             clear hK K
                             refine norm_ (a' := ?_) ?_ ?_
                             rotate_left
                             ·show Act.put _ (some 48) _ = _
                              simp only [Act.put, List.setIfInBounds_toArray, List.set_cons_zero, List.set_cons_succ, i64_w, i32_w]
                              rfl
                             exact norm_ (by first | (simp only [putAll, Act.put, List.setIfInBounds_toArray, List.set_cons_zero, List.set_cons_succ]; done) | (simp only [putAll, Act.put, List.setIfInBounds_toArray, List.set_cons_zero, List.set_cons_succ]; rfl)) (hJ0_1 (v117, v120) _ ⟨(by (with_reducible repeat (first | apply Kd.R_alloc | apply Kd.R_drewN | apply Kd.R_drew)); exact Kd.R_mono HO118.out (fun _ hk => hk.2)), (by (with_reducible repeat (first | apply Kd.R_alloc | apply Kd.R_drewN | apply Kd.R_drew)); exact Kd.R_mono HO121.out (fun _ hk => hk.2)), (bk_ BK111.out), (bw_ HB.out)⟩)
                            ·skip
                             refine Kd.R_lit_step (Kd.int .i64) _ 3 ?hg (N := 50) ?hd (xs := ([] : List Int)) (inner := []) (ok := fun _ => True) (okp := fun _ => True) ?hr ?hp (fun _ hk => hk) trivial (Below.refl _ _) (Nat.le_refl _) (by simp) ?_; (case hd => rfl); (case hg => rfl); (case hr => first | (go_simp; done) | (go_simp; rfl)); (case hp => exact (Reps.none _ _))
                             intro v123 w26 ho27 hb hg_ hnew_
                             clear hg_ hnew_
                             (first | rw [← Ny122.out] at ho27 | (simp only [Int.reduceToNat] at ho27; rw [← Ny122.out] at ho27))
                             have n0_ := A_ (Kd.R_elder' (by (with_reducible repeat (first | apply Kd.R_alloc | apply Kd.R_drewN | apply Kd.R_drew)); exact HO121.out) (Kd.R_base ho27) hb)
                             have n1_ := A_ (Kd.R_lower (Kd.R_new' ho27 (Kd.R_lt (by (with_reducible repeat (first | apply Kd.R_alloc | apply Kd.R_drewN | apply Kd.R_drew)); exact HO121.out))) (below_size (bw_ HB.out)))
                             have n2_ := A_ (blk_below (bk_ BK111.out) hb)
                             have n3_ := A_ (below_step (bw_ HB.out) hb)
                             clear HO121
                             clear BK111
                             clear HB
                             have HO121 := n0_
                             have HO124 := n1_
                             have BK111 := n2_
                             have HB := n3_
                             clear n0_ n1_ n2_ n3_
                             clear hb ho27
                             refine hK.out _ _ trivial (fun hHeld => ?_)
                             clear hK K
                             refine norm_ (a' := ?_) ?_ ?_
                             rotate_left
                             ·show Act.put _ (some 50) _ = _
                              simp only [Act.put, List.setIfInBounds_toArray, List.set_cons_zero, List.set_cons_succ, i64_w, i32_w]
                              rfl
                             exact norm_ (by first | (simp only [putAll, Act.put, List.setIfInBounds_toArray, List.set_cons_zero, List.set_cons_succ]; done) | (simp only [putAll, Act.put, List.setIfInBounds_toArray, List.set_cons_zero, List.set_cons_succ]; rfl)) (hJ1_2 (v120, v123) _ ⟨(by (with_reducible repeat (first | apply Kd.R_alloc | apply Kd.R_drewN | apply Kd.R_drew)); exact Kd.R_mono HO121.out (fun _ hk => hk.2)), (by (with_reducible repeat (first | apply Kd.R_alloc | apply Kd.R_drewN | apply Kd.R_drew)); exact Kd.R_mono HO124.out (fun _ hk => hk.2)), (bk_ BK111.out), (bw_ HB.out)⟩)
                            ·skip
                             refine box_step ?hg (N := 9) ?hd (cs := #[.slice none 0 0, .slice none 0 0, .bool false, .bool false, .bool false, .bool false, .slice none 0 0, .slice none 0 0, .int .i64 0]) (t := 28) ?hr ?_; (case hd => rfl); (case hg => rfl); (case hr => first | (go_simp; done) | (go_simp; rfl))
                             intro gb128 hg w26 hbox hb
                             have n0_ := A_ (Kd.R_below (by (with_reducible repeat (first | apply Kd.R_alloc | apply Kd.R_drewN | apply Kd.R_drew)); exact HO121.out) hb)
                             have n1_ := A_ (blk_below (bk_ BK111.out) hb)
                             have n2_ := A_ (below_step (bw_ HB.out) hb)
                             have n3_ := A_ (hbox)
                             have n4_ := A_ ((by rw [hg]; exact (below_size (bw_ HB.out)) : w.heap.size ≤ gb128))
                             have n5_ := A_ ((by rw [hg]; exact (below_size (bw_ HB.out)) : w.heap.size ≤ gb128))
                             have n6_ := A_ ((by rw [hg]; exact Nat.ne_of_lt (blk_lt (bk_ BK111.out)) : gb111 ≠ gb128))
                             have n7_ := A_ ((by rw [hg]; exact Nat.ne_of_gt (blk_lt (bk_ BK111.out)) : gb128 ≠ gb111))
                             clear HO121
                             clear BK111
                             clear HB
                             have HO121 := n0_
                             have BK111 := n1_
                             have HB := n2_
                             have BK128 := n3_
                             have GW128 := n4_
                             have GE128 := n5_
                             have GI128 := GeI.mk GE128.out
                             have NB111_128 := n6_
                             have NB128_111 := n7_
                             clear n0_ n1_ n2_ n3_ n4_ n5_ n6_ n7_
                             clear hb hbox hg
                             refine hK.out _ _ trivial (fun hHeld => ?_)
                             clear hK K
                             refine norm_ (a' := ?_) ?_ ?_
                             rotate_left
                             ·show Act.put _ (some 9) _ = _
                              simp only [Act.put, List.setIfInBounds_toArray, List.set_cons_zero, List.set_cons_succ, i64_w, i32_w]
                              rfl
                             exact norm_ (by first | (simp only [putAll, Act.put, List.setIfInBounds_toArray, List.set_cons_zero, List.set_cons_succ]; done) | (simp only [putAll, Act.put, List.setIfInBounds_toArray, List.set_cons_zero, List.set_cons_succ]; rfl)) (hJ1_6 (v120, gb128) _ ⟨(by (with_reducible repeat (first | apply Kd.R_alloc | apply Kd.R_drewN | apply Kd.R_drew)); exact HO121.out), (bk_ BK111.out), (bk_ BK128.out), GW128.out, GE128.out, NB111_128.out, NB128_111.out, (bw_ HB.out)⟩)
                          ·skip
                           rintro v117 w25 ⟨h0_, h1_, h2_⟩
                           have n0_ : Aside0 (Kd.R (Kd.int .i64) 3 w25 w.heap.size (fun _ => True) v117 y116) := ⟨h0_⟩
                           have n1_ : Aside0 (w25.heap[gb111]? = some (.cells #[.slice none 0 0, .slice none 0 0, .bool false, .bool false, .bool false, .bool false, .slice none 0 0, .slice none 0 0, .int .i64 0] 28 (0, 0))) := ⟨h1_⟩
                           have n2_ : Aside0 (Below w.heap.size w w25) := ⟨h2_⟩
                           clear BK111
                           clear HB
                           clear h0_ h1_ h2_
                           have HO118 := n0_
                           have BK111 := n1_
                           have HB := n2_
                           clear n0_ n1_ n2_
                           have hHeld := trivial
                           refine norm_ (a' := ?_) ?_ ?_
                           rotate_left
                           ·simp only [putAll, Act.put, List.setIfInBounds_toArray, List.set_cons_zero, List.set_cons_succ]
                            rfl
                           refine three_ (i := 1) (j := 2) (k := 6) (Ni := some 49) (Nj := some 50) (Nk := some 9) #[true, true, false, true, false, false, false, false] #[true, false, true, true, false, false, false, false] #[true, false, false, true, false, false, true, false] rfl rfl rfl rfl rfl rfl (three_of HT_.out (by kernel_rfl)) (by decide) (by decide) (by decide) (fun K hK => ?_) (fun K hK => ?_) (fun K hK => ?_)
                           ·skip
                            refine Kd.R_make_step (Kd.int .i64) _ 3 (by rfl) (N := 49) rfl 22 _ _ rfl 8 rfl rfl Try.underlying22 (.int .i64 0) 8 info3 rfl (by decide) (by omega) 0 (ok := fun _ => True) (okp := fun _ => True) rfl (fun _ hk => hk) trivial (by omega) (by omega) (Below.refl _ _) (Nat.le_refl _) ?_
                            intro v120 w26 ho27 hb hg_ hnew_
                            clear hg_ hnew_
                            (first | rw [← Ny119.out] at ho27 | (simp only [Int.reduceToNat] at ho27; rw [← Ny119.out] at ho27))
                            have n0_ := A_ (Kd.R_elder' (by (with_reducible repeat (first | apply Kd.R_alloc | apply Kd.R_drewN | apply Kd.R_drew)); exact HO118.out) (Kd.R_base ho27) hb)
                            have n1_ := A_ (Kd.R_lower (Kd.R_new' ho27 (Kd.R_lt (by (with_reducible repeat (first | apply Kd.R_alloc | apply Kd.R_drewN | apply Kd.R_drew)); exact HO118.out))) (below_size (bw_ HB.out)))
                            have n2_ := A_ (blk_below (bk_ BK111.out) hb)
                            have n3_ := A_ (below_step (bw_ HB.out) hb)
                            clear HO118
                            clear BK111
                            clear HB
                            have HO118 := n0_
                            have HO121 := n1_
                            have BK111 := n2_
                            have HB := n3_
                            clear n0_ n1_ n2_ n3_
                            clear hb ho27
                            refine hK.out _ _ trivial (fun hHeld => ?_)
                            clear hK K
                            refine norm_ (a' := ?_) ?_ ?_
                            rotate_left
                            ·show Act.put _ (some 49) _ = _
                             simp only [Act.put, List.setIfInBounds_toArray, List.set_cons_zero, List.set_cons_succ, i64_w, i32_w]
                             rfl
                            exact norm_ (by first | (simp only [putAll, Act.put, List.setIfInBounds_toArray, List.set_cons_zero, List.set_cons_succ]; done) | (simp only [putAll, Act.put, List.setIfInBounds_toArray, List.set_cons_zero, List.set_cons_succ]; rfl)) (hJ0_1 (v117, v120) _ ⟨(by (with_reducible repeat (first | apply Kd.R_alloc | apply Kd.R_drewN | apply Kd.R_drew)); exact Kd.R_mono HO118.out (fun _ hk => hk.2)), (by (with_reducible repeat (first | apply Kd.R_alloc | apply Kd.R_drewN | apply Kd.R_drew)); exact Kd.R_mono HO121.out (fun _ hk => hk.2)), (bk_ BK111.out), (bw_ HB.out)⟩)
                           ·skip
                            refine Kd.R_lit_step (Kd.int .i64) _ 3 ?hg (N := 50) ?hd (xs := ([] : List Int)) (inner := []) (ok := fun _ => True) (okp := fun _ => True) ?hr ?hp (fun _ hk => hk) trivial (Below.refl _ _) (Nat.le_refl _) (by simp) ?_; (case hd => rfl); (case hg => rfl); (case hr => first | (go_simp; done) | (go_simp; rfl)); (case hp => exact (Reps.none _ _))
                            intro v123 w26 ho27 hb hg_ hnew_
                            clear hg_ hnew_
                            (first | rw [← Ny122.out] at ho27 | (simp only [Int.reduceToNat] at ho27; rw [← Ny122.out] at ho27))
                            have n0_ := A_ (Kd.R_elder' (by (with_reducible repeat (first | apply Kd.R_alloc | apply Kd.R_drewN | apply Kd.R_drew)); exact HO118.out) (Kd.R_base ho27) hb)
                            have n1_ := A_ (Kd.R_lower (Kd.R_new' ho27 (Kd.R_lt (by (with_reducible repeat (first | apply Kd.R_alloc | apply Kd.R_drewN | apply Kd.R_drew)); exact HO118.out))) (below_size (bw_ HB.out)))
                            have n2_ := A_ (blk_below (bk_ BK111.out) hb)
                            have n3_ := A_ (below_step (bw_ HB.out) hb)
                            clear HO118
                            clear BK111
                            clear HB
                            have HO118 := n0_
                            have HO124 := n1_
                            have BK111 := n2_
                            have HB := n3_
                            clear n0_ n1_ n2_ n3_
                            clear hb ho27
                            refine hK.out _ _ trivial (fun hHeld => ?_)
                            clear hK K
                            refine norm_ (a' := ?_) ?_ ?_
                            rotate_left
                            ·show Act.put _ (some 50) _ = _
                             simp only [Act.put, List.setIfInBounds_toArray, List.set_cons_zero, List.set_cons_succ, i64_w, i32_w]
                             rfl
                            exact norm_ (by first | (simp only [putAll, Act.put, List.setIfInBounds_toArray, List.set_cons_zero, List.set_cons_succ]; done) | (simp only [putAll, Act.put, List.setIfInBounds_toArray, List.set_cons_zero, List.set_cons_succ]; rfl)) (hJ0_2 (v117, v123) _ ⟨(by (with_reducible repeat (first | apply Kd.R_alloc | apply Kd.R_drewN | apply Kd.R_drew)); exact Kd.R_mono HO118.out (fun _ hk => hk.2)), (by (with_reducible repeat (first | apply Kd.R_alloc | apply Kd.R_drewN | apply Kd.R_drew)); exact Kd.R_mono HO124.out (fun _ hk => hk.2)), (bk_ BK111.out), (bw_ HB.out)⟩)
                           ·skip
                            refine box_step ?hg (N := 9) ?hd (cs := #[.slice none 0 0, .slice none 0 0, .bool false, .bool false, .bool false, .bool false, .slice none 0 0, .slice none 0 0, .int .i64 0]) (t := 28) ?hr ?_; (case hd => rfl); (case hg => rfl); (case hr => first | (go_simp; done) | (go_simp; rfl))
                            intro gb128 hg w26 hbox hb
                            have n0_ := A_ (Kd.R_below (by (with_reducible repeat (first | apply Kd.R_alloc | apply Kd.R_drewN | apply Kd.R_drew)); exact HO118.out) hb)
                            have n1_ := A_ (blk_below (bk_ BK111.out) hb)
                            have n2_ := A_ (below_step (bw_ HB.out) hb)
                            have n3_ := A_ (hbox)
                            have n4_ := A_ ((by rw [hg]; exact (below_size (bw_ HB.out)) : w.heap.size ≤ gb128))
                            have n5_ := A_ ((by rw [hg]; exact (below_size (bw_ HB.out)) : w.heap.size ≤ gb128))
                            have n6_ := A_ ((by rw [hg]; exact Nat.ne_of_lt (blk_lt (bk_ BK111.out)) : gb111 ≠ gb128))
                            have n7_ := A_ ((by rw [hg]; exact Nat.ne_of_gt (blk_lt (bk_ BK111.out)) : gb128 ≠ gb111))
                            clear HO118
                            clear BK111
                            clear HB
                            have HO118 := n0_
                            have BK111 := n1_
                            have HB := n2_
                            have BK128 := n3_
                            have GW128 := n4_
                            have GE128 := n5_
                            have GI128 := GeI.mk GE128.out
                            have NB111_128 := n6_
                            have NB128_111 := n7_
                            clear n0_ n1_ n2_ n3_ n4_ n5_ n6_ n7_
                            clear hb hbox hg
                            refine hK.out _ _ trivial (fun hHeld => ?_)
                            clear hK K
                            refine norm_ (a' := ?_) ?_ ?_
                            rotate_left
                            ·show Act.put _ (some 9) _ = _
                             simp only [Act.put, List.setIfInBounds_toArray, List.set_cons_zero, List.set_cons_succ, i64_w, i32_w]
                             rfl
                            exact norm_ (by first | (simp only [putAll, Act.put, List.setIfInBounds_toArray, List.set_cons_zero, List.set_cons_succ]; done) | (simp only [putAll, Act.put, List.setIfInBounds_toArray, List.set_cons_zero, List.set_cons_succ]; rfl)) (hJ0_6 (v117, gb128) _ ⟨(by (with_reducible repeat (first | apply Kd.R_alloc | apply Kd.R_drewN | apply Kd.R_drew)); exact HO118.out), (bk_ BK111.out), (bk_ BK128.out), GW128.out, GE128.out, NB111_128.out, NB128_111.out, (bw_ HB.out)⟩)
                         ·skip
                          rintro ⟨v123, gb128⟩ w26 ⟨h0_, h1_, h2_, h3_, h4_, h5_, h6_, h7_⟩
                          have n0_ : Aside0 (Kd.R (Kd.int .i64) 3 w26 w.heap.size (fun _ => True) v123 y122) := ⟨h0_⟩
                          have n1_ : Aside0 (w26.heap[gb111]? = some (.cells #[.slice none 0 0, .slice none 0 0, .bool false, .bool false, .bool false, .bool false, .slice none 0 0, .slice none 0 0, .int .i64 0] 28 (0, 0))) := ⟨h1_⟩
                          have n2_ : Aside0 (w26.heap[gb128]? = some (.cells #[.slice none 0 0, .slice none 0 0, .bool false, .bool false, .bool false, .bool false, .slice none 0 0, .slice none 0 0, .int .i64 0] 28 (0, 0))) := ⟨h2_⟩
                          have n3_ : Aside0 (w.heap.size ≤ gb128) := ⟨h3_⟩
                          have n4_ : Aside0 (w.heap.size ≤ gb128) := ⟨h4_⟩
                          have n5_ : Aside0 (gb111 ≠ gb128) := ⟨h5_⟩
                          have n6_ : Aside0 (gb128 ≠ gb111) := ⟨h6_⟩
                          have n7_ : Aside0 (Below w.heap.size w w26) := ⟨h7_⟩
                          clear BK111
                          clear HB
                          clear h0_ h1_ h2_ h3_ h4_ h5_ h6_ h7_
                          have HO124 := n0_
                          have BK111 := n1_
                          have BK128 := n2_
                          have GW128 := n3_
                          have GE128 := n4_
                          have GI128 := GeI.mk GE128.out
                          have NB111_128 := n5_
                          have NB128_111 := n6_
                          have HB := n7_
                          clear n0_ n1_ n2_ n3_ n4_ n5_ n6_ n7_
                          have hHeld := trivial
                          refine norm_ (a' := ?_) ?_ ?_
                          rotate_left
                          ·simp only [putAll, Act.put, List.setIfInBounds_toArray, List.set_cons_zero, List.set_cons_succ]
                           rfl
                          refine three_ (i := 0) (j := 1) (k := 4) (Ni := some 48) (Nj := some 49) (Nk := some 52) #[true, false, true, true, false, false, true, false] #[false, true, true, true, false, false, true, false] #[false, false, true, true, true, false, true, false] rfl rfl rfl rfl rfl rfl (three_of HT_.out (by kernel_rfl)) (by decide) (by decide) (by decide) (fun K hK => ?_) (fun K hK => ?_) (fun K hK => ?_)
                          ·skip
                           refine Kd.R_make_step (Kd.int .i64) _ 3 (by rfl) (N := 48) rfl 22 _ _ rfl 256 rfl rfl Try.underlying22 (.int .i64 0) 8 info3 rfl (by decide) (by omega) 0 (ok := fun _ => True) (okp := fun _ => True) rfl (fun _ hk => hk) trivial (by omega) (by omega) (Below.refl _ _) (Nat.le_refl _) ?_
                           intro v117 w27 ho28 hb hg_ hnew_
                           clear hg_ hnew_
                           (first | rw [← Ny116.out] at ho28 | (simp only [Int.reduceToNat] at ho28; rw [← Ny116.out] at ho28))
                           have n0_ := A_ (Kd.R_elder' (by (with_reducible repeat (first | apply Kd.R_alloc | apply Kd.R_drewN | apply Kd.R_drew)); exact HO124.out) (Kd.R_base ho28) hb)
                           have n1_ := A_ (Kd.R_lower (Kd.R_new' ho28 (Kd.R_lt (by (with_reducible repeat (first | apply Kd.R_alloc | apply Kd.R_drewN | apply Kd.R_drew)); exact HO124.out))) (below_size (bw_ HB.out)))
                           have n2_ := A_ (blk_below (bk_ BK111.out) hb)
                           have n3_ := A_ (blk_below (bk_ BK128.out) hb)
                           have n4_ := A_ (below_step (bw_ HB.out) hb)
                           clear HO124
                           clear BK111
                           clear BK128
                           clear HB
                           have HO124 := n0_
                           have HO118 := n1_
                           have BK111 := n2_
                           have BK128 := n3_
                           have HB := n4_
                           clear n0_ n1_ n2_ n3_ n4_
                           clear hb ho28
                           refine hK.out _ _ trivial (fun hHeld => ?_)
                           clear hK K
                           refine norm_ (a' := ?_) ?_ ?_
                           rotate_left
                           ·show Act.put _ (some 48) _ = _
                            simp only [Act.put, List.setIfInBounds_toArray, List.set_cons_zero, List.set_cons_succ, i64_w, i32_w]
                            rfl
                           exact norm_ (by first | (simp only [putAll, Act.put, List.setIfInBounds_toArray, List.set_cons_zero, List.set_cons_succ]; done) | (simp only [putAll, Act.put, List.setIfInBounds_toArray, List.set_cons_zero, List.set_cons_succ]; rfl)) (hJ0_2_6 (v117, v123, gb128) _ ⟨(by (with_reducible repeat (first | apply Kd.R_alloc | apply Kd.R_drewN | apply Kd.R_drew)); exact Kd.R_mono HO118.out (fun _ hk => hk.2)), (by (with_reducible repeat (first | apply Kd.R_alloc | apply Kd.R_drewN | apply Kd.R_drew)); exact Kd.R_mono HO124.out (fun _ hk => hk.2)), (bk_ BK111.out), (bk_ BK128.out), GW128.out, GE128.out, NB111_128.out, NB128_111.out, (bw_ HB.out)⟩)
                          ·skip
                           refine Kd.R_make_step (Kd.int .i64) _ 3 (by rfl) (N := 49) rfl 22 _ _ rfl 8 rfl rfl Try.underlying22 (.int .i64 0) 8 info3 rfl (by decide) (by omega) 0 (ok := fun _ => True) (okp := fun _ => True) rfl (fun _ hk => hk) trivial (by omega) (by omega) (Below.refl _ _) (Nat.le_refl _) ?_
                           intro v120 w27 ho28 hb hg_ hnew_
                           clear hg_ hnew_
                           (first | rw [← Ny119.out] at ho28 | (simp only [Int.reduceToNat] at ho28; rw [← Ny119.out] at ho28))
                           have n0_ := A_ (Kd.R_elder' (by (with_reducible repeat (first | apply Kd.R_alloc | apply Kd.R_drewN | apply Kd.R_drew)); exact HO124.out) (Kd.R_base ho28) hb)
                           have n1_ := A_ (Kd.R_lower (Kd.R_new' ho28 (Kd.R_lt (by (with_reducible repeat (first | apply Kd.R_alloc | apply Kd.R_drewN | apply Kd.R_drew)); exact HO124.out))) (below_size (bw_ HB.out)))
                           have n2_ := A_ (blk_below (bk_ BK111.out) hb)
                           have n3_ := A_ (blk_below (bk_ BK128.out) hb)
                           have n4_ := A_ (below_step (bw_ HB.out) hb)
                           clear HO124
                           clear BK111
                           clear BK128
                           clear HB
                           have HO124 := n0_
                           have HO121 := n1_
                           have BK111 := n2_
                           have BK128 := n3_
                           have HB := n4_
                           clear n0_ n1_ n2_ n3_ n4_
                           clear hb ho28
                           refine hK.out _ _ trivial (fun hHeld => ?_)
                           clear hK K
                           refine norm_ (a' := ?_) ?_ ?_
                           rotate_left
                           ·show Act.put _ (some 49) _ = _
                            simp only [Act.put, List.setIfInBounds_toArray, List.set_cons_zero, List.set_cons_succ, i64_w, i32_w]
                            rfl
                           exact norm_ (by first | (simp only [putAll, Act.put, List.setIfInBounds_toArray, List.set_cons_zero, List.set_cons_succ]; done) | (simp only [putAll, Act.put, List.setIfInBounds_toArray, List.set_cons_zero, List.set_cons_succ]; rfl)) (hJ1_2_6 (v120, v123, gb128) _ ⟨(by (with_reducible repeat (first | apply Kd.R_alloc | apply Kd.R_drewN | apply Kd.R_drew)); exact Kd.R_mono HO121.out (fun _ hk => hk.2)), (by (with_reducible repeat (first | apply Kd.R_alloc | apply Kd.R_drewN | apply Kd.R_drew)); exact Kd.R_mono HO124.out (fun _ hk => hk.2)), (bk_ BK111.out), (bk_ BK128.out), GW128.out, GE128.out, NB111_128.out, NB128_111.out, (bw_ HB.out)⟩)
                          ·skip
                           refine Kd.R_append_rows_step (Kd.int .i64) (w0 := w) w.heap.size (by rfl) (.tmp 50) (.tmp 51) 22 3 (.int .i64 0) 8 rfl Try.underlying22 info3 rfl (by decide) (by omega) v123 y122 l3 _ _ _ (fun _ => True) (fun _ => False) rfl rfl ?aO ?aR (fun _ _ h => h) (fun _ h => h.elim) ?aF ?aB ?aS ?aL ?_
                           (case aR => repeat (first | exact (Kd.C_below HR3.out HB.out) | (with_reducible refine Kd.C_alloc ?_ _) | (with_reducible refine Kd.C_drewN ?_ _) | (with_reducible refine Kd.C_drew ?_)))
                           (case aB => exact (bw_ HB.out))
                           (case aF => exact (fun _ _ => trivial))
                           (case aO => exact (by (with_reducible repeat (first | apply Kd.R_alloc | apply Kd.R_drewN | apply Kd.R_drew)); exact HO124.out))
                           (case aS => exact (below_size (bw_ HB.out)))
                           (case aL => have := LMc21.out; omega)
                           intro v126 w27 ho hb hg hat
                           rw [← Ny125.out] at ho
                           have n0_ := A_ (blk_grown (bk_ BK111.out) hg (Kd.R_ne HO124.out BK111.out (by decide)))
                           have n1_ := A_ (blk_grown (bk_ BK128.out) hg (Kd.R_ne HO124.out BK128.out (by decide)))
                           have n2_ := A_ (hb)
                           have n3_ := A_ (ho)
                           clear BK111
                           clear BK128
                           clear HB
                           clear HO124
                           have BK111 := n0_
                           have BK128 := n1_
                           have HB := n2_
                           have HO127 := n3_
                           clear n0_ n1_ n2_ n3_
                           clear ho hb hg hat
                           refine hK.out _ _ trivial (fun hHeld => ?_)
                           clear hK K
                           refine norm_ (a' := ?_) ?_ ?_
                           rotate_left
                           ·show Act.put _ (some 52) _ = _
                            simp only [Act.put, List.setIfInBounds_toArray, List.set_cons_zero, List.set_cons_succ, i64_w, i32_w]
                            rfl
                           exact norm_ (by first | (simp only [putAll, Act.put, List.setIfInBounds_toArray, List.set_cons_zero, List.set_cons_succ]; done) | (simp only [putAll, Act.put, List.setIfInBounds_toArray, List.set_cons_zero, List.set_cons_succ]; rfl)) (hJ2_4_6 (v123, v126, gb128) _ ⟨(by (with_reducible repeat (first | apply Kd.R_alloc | apply Kd.R_drewN | apply Kd.R_drew)); exact HO127.out), (bk_ BK111.out), (bk_ BK128.out), GW128.out, GE128.out, NB111_128.out, NB128_111.out, (bw_ HB.out)⟩)
                        ·skip
                         rintro ⟨v123, v126⟩ w26 ⟨h0_, h1_, h2_⟩
                         have n0_ : Aside0 (Kd.R (Kd.int .i64) 3 w26 w.heap.size (fun _ => True) v126 y125) := ⟨h0_⟩
                         have n1_ : Aside0 (w26.heap[gb111]? = some (.cells #[.slice none 0 0, .slice none 0 0, .bool false, .bool false, .bool false, .bool false, .slice none 0 0, .slice none 0 0, .int .i64 0] 28 (0, 0))) := ⟨h1_⟩
                         have n2_ : Aside0 (Below w.heap.size w w26) := ⟨h2_⟩
                         clear BK111
                         clear HB
                         clear h0_ h1_ h2_
                         have HO127 := n0_
                         have BK111 := n1_
                         have HB := n2_
                         clear n0_ n1_ n2_
                         have hHeld := trivial
                         refine norm_ (a' := ?_) ?_ ?_
                         rotate_left
                         ·simp only [putAll, Act.put, List.setIfInBounds_toArray, List.set_cons_zero, List.set_cons_succ]
                          rfl
                         refine three_ (i := 0) (j := 1) (k := 6) (Ni := some 48) (Nj := some 49) (Nk := some 9) #[true, false, true, true, true, false, false, false] #[false, true, true, true, true, false, false, false] #[false, false, true, true, true, false, true, false] rfl rfl rfl rfl rfl rfl (three_of HT_.out (by kernel_rfl)) (by decide) (by decide) (by decide) (fun K hK => ?_) (fun K hK => ?_) (fun K hK => ?_)
                         ·skip
                          refine Kd.R_make_step (Kd.int .i64) _ 3 (by rfl) (N := 48) rfl 22 _ _ rfl 256 rfl rfl Try.underlying22 (.int .i64 0) 8 info3 rfl (by decide) (by omega) 0 (ok := fun _ => True) (okp := fun _ => True) rfl (fun _ hk => hk) trivial (by omega) (by omega) (Below.refl _ _) (Nat.le_refl _) ?_
                          intro v117 w27 ho28 hb hg_ hnew_
                          clear hg_ hnew_
                          (first | rw [← Ny116.out] at ho28 | (simp only [Int.reduceToNat] at ho28; rw [← Ny116.out] at ho28))
                          have n0_ := A_ (Kd.R_elder' (by (with_reducible repeat (first | apply Kd.R_alloc | apply Kd.R_drewN | apply Kd.R_drew)); exact HO127.out) (Kd.R_base ho28) hb)
                          have n1_ := A_ (Kd.R_lower (Kd.R_new' ho28 (Kd.R_lt (by (with_reducible repeat (first | apply Kd.R_alloc | apply Kd.R_drewN | apply Kd.R_drew)); exact HO127.out))) (below_size (bw_ HB.out)))
                          have n2_ := A_ (blk_below (bk_ BK111.out) hb)
                          have n3_ := A_ (below_step (bw_ HB.out) hb)
                          clear HO127
                          clear BK111
                          clear HB
                          have HO127 := n0_
                          have HO118 := n1_
                          have BK111 := n2_
                          have HB := n3_
                          clear n0_ n1_ n2_ n3_
                          clear hb ho28
                          refine hK.out _ _ trivial (fun hHeld => ?_)
                          clear hK K
                          refine norm_ (a' := ?_) ?_ ?_
                          rotate_left
                          ·show Act.put _ (some 48) _ = _
                           simp only [Act.put, List.setIfInBounds_toArray, List.set_cons_zero, List.set_cons_succ, i64_w, i32_w]
                           rfl
                          exact norm_ (by first | (simp only [putAll, Act.put, List.setIfInBounds_toArray, List.set_cons_zero, List.set_cons_succ]; done) | (simp only [putAll, Act.put, List.setIfInBounds_toArray, List.set_cons_zero, List.set_cons_succ]; rfl)) (hJ0_2_4 (v117, v123, v126) _ ⟨(by (with_reducible repeat (first | apply Kd.R_alloc | apply Kd.R_drewN | apply Kd.R_drew)); exact Kd.R_mono HO118.out (fun _ hk => hk.2)), (by (with_reducible repeat (first | apply Kd.R_alloc | apply Kd.R_drewN | apply Kd.R_drew)); exact Kd.R_mono HO127.out (fun _ hk => hk.2)), (bk_ BK111.out), (bw_ HB.out)⟩)
                         ·skip
                          refine Kd.R_make_step (Kd.int .i64) _ 3 (by rfl) (N := 49) rfl 22 _ _ rfl 8 rfl rfl Try.underlying22 (.int .i64 0) 8 info3 rfl (by decide) (by omega) 0 (ok := fun _ => True) (okp := fun _ => True) rfl (fun _ hk => hk) trivial (by omega) (by omega) (Below.refl _ _) (Nat.le_refl _) ?_
                          intro v120 w27 ho28 hb hg_ hnew_
                          clear hg_ hnew_
                          (first | rw [← Ny119.out] at ho28 | (simp only [Int.reduceToNat] at ho28; rw [← Ny119.out] at ho28))
                          have n0_ := A_ (Kd.R_elder' (by (with_reducible repeat (first | apply Kd.R_alloc | apply Kd.R_drewN | apply Kd.R_drew)); exact HO127.out) (Kd.R_base ho28) hb)
                          have n1_ := A_ (Kd.R_lower (Kd.R_new' ho28 (Kd.R_lt (by (with_reducible repeat (first | apply Kd.R_alloc | apply Kd.R_drewN | apply Kd.R_drew)); exact HO127.out))) (below_size (bw_ HB.out)))
                          have n2_ := A_ (blk_below (bk_ BK111.out) hb)
                          have n3_ := A_ (below_step (bw_ HB.out) hb)
                          clear HO127
                          clear BK111
                          clear HB
                          have HO127 := n0_
                          have HO121 := n1_
                          have BK111 := n2_
                          have HB := n3_
                          clear n0_ n1_ n2_ n3_
                          clear hb ho28
                          refine hK.out _ _ trivial (fun hHeld => ?_)
                          clear hK K
                          refine norm_ (a' := ?_) ?_ ?_
                          rotate_left
                          ·show Act.put _ (some 49) _ = _
                           simp only [Act.put, List.setIfInBounds_toArray, List.set_cons_zero, List.set_cons_succ, i64_w, i32_w]
                           rfl
                          exact norm_ (by first | (simp only [putAll, Act.put, List.setIfInBounds_toArray, List.set_cons_zero, List.set_cons_succ]; done) | (simp only [putAll, Act.put, List.setIfInBounds_toArray, List.set_cons_zero, List.set_cons_succ]; rfl)) (hJ1_2_4 (v120, v123, v126) _ ⟨(by (with_reducible repeat (first | apply Kd.R_alloc | apply Kd.R_drewN | apply Kd.R_drew)); exact Kd.R_mono HO121.out (fun _ hk => hk.2)), (by (with_reducible repeat (first | apply Kd.R_alloc | apply Kd.R_drewN | apply Kd.R_drew)); exact Kd.R_mono HO127.out (fun _ hk => hk.2)), (bk_ BK111.out), (bw_ HB.out)⟩)
                         ·skip
                          refine box_step ?hg (N := 9) ?hd (cs := #[.slice none 0 0, .slice none 0 0, .bool false, .bool false, .bool false, .bool false, .slice none 0 0, .slice none 0 0, .int .i64 0]) (t := 28) ?hr ?_; (case hd => rfl); (case hg => rfl); (case hr => first | (go_simp; done) | (go_simp; rfl))
                          intro gb128 hg w27 hbox hb
                          have n0_ := A_ (Kd.R_below (by (with_reducible repeat (first | apply Kd.R_alloc | apply Kd.R_drewN | apply Kd.R_drew)); exact HO127.out) hb)
                          have n1_ := A_ (blk_below (bk_ BK111.out) hb)
                          have n2_ := A_ (below_step (bw_ HB.out) hb)
                          have n3_ := A_ (hbox)
                          have n4_ := A_ ((by rw [hg]; exact (below_size (bw_ HB.out)) : w.heap.size ≤ gb128))
                          have n5_ := A_ ((by rw [hg]; exact (below_size (bw_ HB.out)) : w.heap.size ≤ gb128))
                          have n6_ := A_ ((by rw [hg]; exact Nat.ne_of_lt (blk_lt (bk_ BK111.out)) : gb111 ≠ gb128))
                          have n7_ := A_ ((by rw [hg]; exact Nat.ne_of_gt (blk_lt (bk_ BK111.out)) : gb128 ≠ gb111))
                          clear HO127
                          clear BK111
                          clear HB
                          have HO127 := n0_
                          have BK111 := n1_
                          have HB := n2_
                          have BK128 := n3_
                          have GW128 := n4_
                          have GE128 := n5_
                          have GI128 := GeI.mk GE128.out
                          have NB111_128 := n6_
                          have NB128_111 := n7_
                          clear n0_ n1_ n2_ n3_ n4_ n5_ n6_ n7_
                          clear hb hbox hg
                          refine hK.out _ _ trivial (fun hHeld => ?_)
                          clear hK K
                          refine norm_ (a' := ?_) ?_ ?_
                          rotate_left
                          ·show Act.put _ (some 9) _ = _
                           simp only [Act.put, List.setIfInBounds_toArray, List.set_cons_zero, List.set_cons_succ, i64_w, i32_w]
                           rfl
                          exact norm_ (by first | (simp only [putAll, Act.put, List.setIfInBounds_toArray, List.set_cons_zero, List.set_cons_succ]; done) | (simp only [putAll, Act.put, List.setIfInBounds_toArray, List.set_cons_zero, List.set_cons_succ]; rfl)) (hJ2_4_6 (v123, v126, gb128) _ ⟨(by (with_reducible repeat (first | apply Kd.R_alloc | apply Kd.R_drewN | apply Kd.R_drew)); exact HO127.out), (bk_ BK111.out), (bk_ BK128.out), GW128.out, GE128.out, NB111_128.out, NB128_111.out, (bw_ HB.out)⟩)
                       ·skip
                        rintro ⟨v120, gb128⟩ w26 ⟨h0_, h1_, h2_, h3_, h4_, h5_, h6_, h7_⟩
                        have n0_ : Aside0 (Kd.R (Kd.int .i64) 3 w26 w.heap.size (fun _ => True) v120 y119) := ⟨h0_⟩
                        have n1_ : Aside0 (w26.heap[gb111]? = some (.cells #[.slice none 0 0, .slice none 0 0, .bool false, .bool false, .bool false, .bool false, .slice none 0 0, .slice none 0 0, .int .i64 0] 28 (0, 0))) := ⟨h1_⟩
                        have n2_ : Aside0 (w26.heap[gb128]? = some (.cells #[.slice none 0 0, .slice none 0 0, .bool false, .bool false, .bool false, .bool false, .slice none 0 0, .slice none 0 0, .int .i64 0] 28 (0, 0))) := ⟨h2_⟩
                        have n3_ : Aside0 (w.heap.size ≤ gb128) := ⟨h3_⟩
                        have n4_ : Aside0 (w.heap.size ≤ gb128) := ⟨h4_⟩
                        have n5_ : Aside0 (gb111 ≠ gb128) := ⟨h5_⟩
                        have n6_ : Aside0 (gb128 ≠ gb111) := ⟨h6_⟩
                        have n7_ : Aside0 (Below w.heap.size w w26) := ⟨h7_⟩
                        clear BK111
                        clear HB
                        clear h0_ h1_ h2_ h3_ h4_ h5_ h6_ h7_
                        have HO121 := n0_
                        have BK111 := n1_
                        have BK128 := n2_
                        have GW128 := n3_
                        have GE128 := n4_
                        have GI128 := GeI.mk GE128.out
                        have NB111_128 := n5_
                        have NB128_111 := n6_
                        have HB := n7_
                        clear n0_ n1_ n2_ n3_ n4_ n5_ n6_ n7_
                        have hHeld := trivial
                        refine norm_ (a' := ?_) ?_ ?_
                        rotate_left
                        ·simp only [putAll, Act.put, List.setIfInBounds_toArray, List.set_cons_zero, List.set_cons_succ]
                         rfl
                        refine two_ (i := 0) (j := 2) (Ni := some 48) (Nj := some 50) #[true, true, false, true, false, false, true, false] #[false, true, true, true, false, false, true, false] rfl rfl rfl rfl (two_of HT_.out (by kernel_rfl)) (by decide) (by decide) (fun K hK => ?_) (fun K hK => ?_)
                        ·skip
                         refine Kd.R_make_step (Kd.int .i64) _ 3 (by rfl) (N := 48) rfl 22 _ _ rfl 256 rfl rfl Try.underlying22 (.int .i64 0) 8 info3 rfl (by decide) (by omega) 0 (ok := fun _ => True) (okp := fun _ => True) rfl (fun _ hk => hk) trivial (by omega) (by omega) (Below.refl _ _) (Nat.le_refl _) ?_
                         intro v117 w27 ho28 hb hg_ hnew_
                         clear hg_ hnew_
                         (first | rw [← Ny116.out] at ho28 | (simp only [Int.reduceToNat] at ho28; rw [← Ny116.out] at ho28))
                         have n0_ := A_ (Kd.R_elder' (by (with_reducible repeat (first | apply Kd.R_alloc | apply Kd.R_drewN | apply Kd.R_drew)); exact HO121.out) (Kd.R_base ho28) hb)
                         have n1_ := A_ (Kd.R_lower (Kd.R_new' ho28 (Kd.R_lt (by (with_reducible repeat (first | apply Kd.R_alloc | apply Kd.R_drewN | apply Kd.R_drew)); exact HO121.out))) (below_size (bw_ HB.out)))
                         have n2_ := A_ (blk_below (bk_ BK111.out) hb)
                         have n3_ := A_ (blk_below (bk_ BK128.out) hb)
                         have n4_ := A_ (below_step (bw_ HB.out) hb)
                         clear HO121
                         clear BK111
                         clear BK128
                         clear HB
                         have HO121 := n0_
                         have HO118 := n1_
                         have BK111 := n2_
                         have BK128 := n3_
                         have HB := n4_
                         clear n0_ n1_ n2_ n3_ n4_
                         clear hb ho28
                         refine hK.out _ _ trivial (fun hHeld => ?_)
                         clear hK K
                         refine norm_ (a' := ?_) ?_ ?_
                         rotate_left
                         ·show Act.put _ (some 48) _ = _
                          simp only [Act.put, List.setIfInBounds_toArray, List.set_cons_zero, List.set_cons_succ, i64_w, i32_w]
                          rfl
                         exact norm_ (by first | (simp only [putAll, Act.put, List.setIfInBounds_toArray, List.set_cons_zero, List.set_cons_succ]; done) | (simp only [putAll, Act.put, List.setIfInBounds_toArray, List.set_cons_zero, List.set_cons_succ]; rfl)) (hJ0_1_6 (v117, v120, gb128) _ ⟨(by (with_reducible repeat (first | apply Kd.R_alloc | apply Kd.R_drewN | apply Kd.R_drew)); exact Kd.R_mono HO118.out (fun _ hk => hk.2)), (by (with_reducible repeat (first | apply Kd.R_alloc | apply Kd.R_drewN | apply Kd.R_drew)); exact Kd.R_mono HO121.out (fun _ hk => hk.2)), (bk_ BK111.out), (bk_ BK128.out), GW128.out, GE128.out, NB111_128.out, NB128_111.out, (bw_ HB.out)⟩)
                        ·skip
                         refine Kd.R_lit_step (Kd.int .i64) _ 3 ?hg (N := 50) ?hd (xs := ([] : List Int)) (inner := []) (ok := fun _ => True) (okp := fun _ => True) ?hr ?hp (fun _ hk => hk) trivial (Below.refl _ _) (Nat.le_refl _) (by simp) ?_; (case hd => rfl); (case hg => rfl); (case hr => first | (go_simp; done) | (go_simp; rfl)); (case hp => exact (Reps.none _ _))
                         intro v123 w27 ho28 hb hg_ hnew_
                         clear hg_ hnew_
                         (first | rw [← Ny122.out] at ho28 | (simp only [Int.reduceToNat] at ho28; rw [← Ny122.out] at ho28))
                         have n0_ := A_ (Kd.R_elder' (by (with_reducible repeat (first | apply Kd.R_alloc | apply Kd.R_drewN | apply Kd.R_drew)); exact HO121.out) (Kd.R_base ho28) hb)
                         have n1_ := A_ (Kd.R_lower (Kd.R_new' ho28 (Kd.R_lt (by (with_reducible repeat (first | apply Kd.R_alloc | apply Kd.R_drewN | apply Kd.R_drew)); exact HO121.out))) (below_size (bw_ HB.out)))
                         have n2_ := A_ (blk_below (bk_ BK111.out) hb)
                         have n3_ := A_ (blk_below (bk_ BK128.out) hb)
                         have n4_ := A_ (below_step (bw_ HB.out) hb)
                         clear HO121
                         clear BK111
                         clear BK128
                         clear HB
                         have HO121 := n0_
                         have HO124 := n1_
                         have BK111 := n2_
                         have BK128 := n3_
                         have HB := n4_
                         clear n0_ n1_ n2_ n3_ n4_
                         clear hb ho28
                         refine hK.out _ _ trivial (fun hHeld => ?_)
                         clear hK K
                         refine norm_ (a' := ?_) ?_ ?_
                         rotate_left
                         ·show Act.put _ (some 50) _ = _
                          simp only [Act.put, List.setIfInBounds_toArray, List.set_cons_zero, List.set_cons_succ, i64_w, i32_w]
                          rfl
                         exact norm_ (by first | (simp only [putAll, Act.put, List.setIfInBounds_toArray, List.set_cons_zero, List.set_cons_succ]; done) | (simp only [putAll, Act.put, List.setIfInBounds_toArray, List.set_cons_zero, List.set_cons_succ]; rfl)) (hJ1_2_6 (v120, v123, gb128) _ ⟨(by (with_reducible repeat (first | apply Kd.R_alloc | apply Kd.R_drewN | apply Kd.R_drew)); exact Kd.R_mono HO121.out (fun _ hk => hk.2)), (by (with_reducible repeat (first | apply Kd.R_alloc | apply Kd.R_drewN | apply Kd.R_drew)); exact Kd.R_mono HO124.out (fun _ hk => hk.2)), (bk_ BK111.out), (bk_ BK128.out), GW128.out, GE128.out, NB111_128.out, NB128_111.out, (bw_ HB.out)⟩)
                      ·skip
                       rintro ⟨v120, v123⟩ w27 ⟨h0_, h1_, h2_, h3_⟩
                       have n0_ : Aside0 (Kd.R (Kd.int .i64) 3 w27 w.heap.size (fun k_ => some k_ ≠ (v123 : Value).ownBlock) v120 y119) := ⟨h0_⟩
                       have n1_ : Aside0 (Kd.R (Kd.int .i64) 3 w27 w.heap.size (fun k_ => some k_ ≠ (v120 : Value).ownBlock) v123 y122) := ⟨h1_⟩
                       have n2_ : Aside0 (w27.heap[gb111]? = some (.cells #[.slice none 0 0, .slice none 0 0, .bool false, .bool false, .bool false, .bool false, .slice none 0 0, .slice none 0 0, .int .i64 0] 28 (0, 0))) := ⟨h2_⟩
                       have n3_ : Aside0 (Below w.heap.size w w27) := ⟨h3_⟩
                       clear BK111
                       clear HB
                       clear h0_ h1_ h2_ h3_
                       have HO121 := n0_
                       have HO124 := n1_
                       have BK111 := n2_
                       have HB := n3_
                       clear n0_ n1_ n2_ n3_
                       have hHeld := trivial
                       refine norm_ (a' := ?_) ?_ ?_
                       rotate_left
                       ·simp only [putAll, Act.put, List.setIfInBounds_toArray, List.set_cons_zero, List.set_cons_succ]
                        rfl
                       refine three_ (i := 0) (j := 4) (k := 6) (Ni := some 48) (Nj := some 52) (Nk := some 9) #[true, true, true, true, false, false, false, false] #[false, true, true, true, true, false, false, false] #[false, true, true, true, false, false, true, false] rfl rfl rfl rfl rfl rfl (three_of HT_.out (by kernel_rfl)) (by decide) (by decide) (by decide) (fun K hK => ?_) (fun K hK => ?_) (fun K hK => ?_)
                       ·skip
                        refine Kd.R_make_step (Kd.int .i64) _ 3 (by rfl) (N := 48) rfl 22 _ _ rfl 256 rfl rfl Try.underlying22 (.int .i64 0) 8 info3 rfl (by decide) (by omega) 0 (ok := fun _ => True) (okp := fun _ => True) rfl (fun _ hk => hk) trivial (by omega) (by omega) (Below.refl _ _) (Nat.le_refl _) ?_
                        intro v117 w28 ho29 hb hg_ hnew_
                        clear hg_ hnew_
                        (first | rw [← Ny116.out] at ho29 | (simp only [Int.reduceToNat] at ho29; rw [← Ny116.out] at ho29))
                        have n0_ := A_ (Kd.R_elder' (by (with_reducible repeat (first | apply Kd.R_alloc | apply Kd.R_drewN | apply Kd.R_drew)); exact HO121.out) (Kd.R_base ho29) hb)
                        have n1_ := A_ (Kd.R_elder' (by (with_reducible repeat (first | apply Kd.R_alloc | apply Kd.R_drewN | apply Kd.R_drew)); exact HO124.out) (Kd.R_base ho29) hb)
                        have n2_ := A_ (Kd.R_lower (Kd.R_new' (Kd.R_new' ho29 (Kd.R_lt (by (with_reducible repeat (first | apply Kd.R_alloc | apply Kd.R_drewN | apply Kd.R_drew)); exact HO121.out))) (Kd.R_lt (by (with_reducible repeat (first | apply Kd.R_alloc | apply Kd.R_drewN | apply Kd.R_drew)); exact HO124.out))) (below_size (bw_ HB.out)))
                        have n3_ := A_ (blk_below (bk_ BK111.out) hb)
                        have n4_ := A_ (below_step (bw_ HB.out) hb)
                        clear HO121
                        clear HO124
                        clear BK111
                        clear HB
                        have HO121 := n0_
                        have HO124 := n1_
                        have HO118 := n2_
                        have BK111 := n3_
                        have HB := n4_
                        clear n0_ n1_ n2_ n3_ n4_
                        clear hb ho29
                        refine hK.out _ _ trivial (fun hHeld => ?_)
                        clear hK K
                        refine norm_ (a' := ?_) ?_ ?_
                        rotate_left
                        ·show Act.put _ (some 48) _ = _
                         simp only [Act.put, List.setIfInBounds_toArray, List.set_cons_zero, List.set_cons_succ, i64_w, i32_w]
                         rfl
                        exact norm_ (by first | (simp only [putAll, Act.put, List.setIfInBounds_toArray, List.set_cons_zero, List.set_cons_succ]; done) | (simp only [putAll, Act.put, List.setIfInBounds_toArray, List.set_cons_zero, List.set_cons_succ]; rfl)) (hJ0_1_2 (v117, v120, v123) _ ⟨(by (with_reducible repeat (first | apply Kd.R_alloc | apply Kd.R_drewN | apply Kd.R_drew)); exact Kd.R_mono HO118.out (fun _ hk => ⟨hk.1.2, hk.2⟩)), (by (with_reducible repeat (first | apply Kd.R_alloc | apply Kd.R_drewN | apply Kd.R_drew)); exact Kd.R_mono HO121.out (fun _ hk => ⟨hk.2, hk.1⟩)), (by (with_reducible repeat (first | apply Kd.R_alloc | apply Kd.R_drewN | apply Kd.R_drew)); exact Kd.R_mono HO124.out (fun _ hk => ⟨hk.2, hk.1⟩)), (bk_ BK111.out), (bw_ HB.out)⟩)
                       ·skip
                        refine Kd.R_append_rows_step (Kd.int .i64) (w0 := w) w.heap.size (by rfl) (.tmp 50) (.tmp 51) 22 3 (.int .i64 0) 8 rfl Try.underlying22 info3 rfl (by decide) (by omega) v123 y122 l3 _ _ _ (fun k_ => some k_ ≠ (v120 : Value).ownBlock) (fun _ => False) rfl rfl ?aO ?aR (fun _ _ h => h) (fun _ h => h.elim) ?aF ?aB ?aS ?aL ?_
                        (case aR => repeat (first | exact (Kd.C_below HR3.out HB.out) | (with_reducible refine Kd.C_alloc ?_ _) | (with_reducible refine Kd.C_drewN ?_ _) | (with_reducible refine Kd.C_drew ?_)))
                        (case aB => exact (bw_ HB.out))
                        (case aF => exact (fun k_ hk => Kd.fresh' (Kd.R_lt (by (with_reducible repeat (first | apply Kd.R_alloc | apply Kd.R_drewN | apply Kd.R_drew)); exact HO121.out)) k_ hk))
                        (case aO => exact (by (with_reducible repeat (first | apply Kd.R_alloc | apply Kd.R_drewN | apply Kd.R_drew)); exact HO124.out))
                        (case aS => exact (below_size (bw_ HB.out)))
                        (case aL => have := LMc21.out; omega)
                        intro v126 w28 ho hb hg hat
                        rw [← Ny125.out] at ho
                        have n0_ := A_ (blk_grown (bk_ BK111.out) hg (Kd.R_ne HO124.out BK111.out (by decide)))
                        have n1_ := A_ (Kd.R_after (ok := (fun _ => True)) (by (with_reducible repeat (first | apply Kd.R_alloc | apply Kd.R_drewN | apply Kd.R_drew)); exact Kd.R_mono HO121.out (fun _ hk => ⟨trivial, hk⟩)) hg hat)
                        have n2_ := A_ (hb)
                        have n3_ := A_ (ho)
                        clear BK111
                        clear HO121
                        clear HB
                        clear HO124
                        have BK111 := n0_
                        have HO121 := n1_
                        have HB := n2_
                        have HO127 := n3_
                        clear n0_ n1_ n2_ n3_
                        clear ho hb hg hat
                        refine hK.out _ _ trivial (fun hHeld => ?_)
                        clear hK K
                        refine norm_ (a' := ?_) ?_ ?_
                        rotate_left
                        ·show Act.put _ (some 52) _ = _
                         simp only [Act.put, List.setIfInBounds_toArray, List.set_cons_zero, List.set_cons_succ, i64_w, i32_w]
                         rfl
                        exact norm_ (by first | (simp only [putAll, Act.put, List.setIfInBounds_toArray, List.set_cons_zero, List.set_cons_succ]; done) | (simp only [putAll, Act.put, List.setIfInBounds_toArray, List.set_cons_zero, List.set_cons_succ]; rfl)) (hJ1_2_4 (v120, v123, v126) _ ⟨(by (with_reducible repeat (first | apply Kd.R_alloc | apply Kd.R_drewN | apply Kd.R_drew)); exact Kd.R_mono HO121.out (fun _ hk => hk.2)), (by (with_reducible repeat (first | apply Kd.R_alloc | apply Kd.R_drewN | apply Kd.R_drew)); exact HO127.out), (bk_ BK111.out), (bw_ HB.out)⟩)
                       ·skip
                        refine box_step ?hg (N := 9) ?hd (cs := #[.slice none 0 0, .slice none 0 0, .bool false, .bool false, .bool false, .bool false, .slice none 0 0, .slice none 0 0, .int .i64 0]) (t := 28) ?hr ?_; (case hd => rfl); (case hg => rfl); (case hr => first | (go_simp; done) | (go_simp; rfl))
                        intro gb128 hg w28 hbox hb
                        have n0_ := A_ (Kd.R_below (by (with_reducible repeat (first | apply Kd.R_alloc | apply Kd.R_drewN | apply Kd.R_drew)); exact HO121.out) hb)
                        have n1_ := A_ (Kd.R_below (by (with_reducible repeat (first | apply Kd.R_alloc | apply Kd.R_drewN | apply Kd.R_drew)); exact HO124.out) hb)
                        have n2_ := A_ (blk_below (bk_ BK111.out) hb)
                        have n3_ := A_ (below_step (bw_ HB.out) hb)
                        have n4_ := A_ (hbox)
                        have n5_ := A_ ((by rw [hg]; exact (below_size (bw_ HB.out)) : w.heap.size ≤ gb128))
                        have n6_ := A_ ((by rw [hg]; exact (below_size (bw_ HB.out)) : w.heap.size ≤ gb128))
                        have n7_ := A_ ((by rw [hg]; exact Nat.ne_of_lt (blk_lt (bk_ BK111.out)) : gb111 ≠ gb128))
                        have n8_ := A_ ((by rw [hg]; exact Nat.ne_of_gt (blk_lt (bk_ BK111.out)) : gb128 ≠ gb111))
                        clear HO121
                        clear HO124
                        clear BK111
                        clear HB
                        have HO121 := n0_
                        have HO124 := n1_
                        have BK111 := n2_
                        have HB := n3_
                        have BK128 := n4_
                        have GW128 := n5_
                        have GE128 := n6_
                        have GI128 := GeI.mk GE128.out
                        have NB111_128 := n7_
                        have NB128_111 := n8_
                        clear n0_ n1_ n2_ n3_ n4_ n5_ n6_ n7_ n8_
                        clear hb hbox hg
                        refine hK.out _ _ trivial (fun hHeld => ?_)
                        clear hK K
                        refine norm_ (a' := ?_) ?_ ?_
                        rotate_left
                        ·show Act.put _ (some 9) _ = _
                         simp only [Act.put, List.setIfInBounds_toArray, List.set_cons_zero, List.set_cons_succ, i64_w, i32_w]
                         rfl
                        exact norm_ (by first | (simp only [putAll, Act.put, List.setIfInBounds_toArray, List.set_cons_zero, List.set_cons_succ]; done) | (simp only [putAll, Act.put, List.setIfInBounds_toArray, List.set_cons_zero, List.set_cons_succ]; rfl)) (hJ1_2_6 (v120, v123, gb128) _ ⟨(by (with_reducible repeat (first | apply Kd.R_alloc | apply Kd.R_drewN | apply Kd.R_drew)); exact HO121.out), (by (with_reducible repeat (first | apply Kd.R_alloc | apply Kd.R_drewN | apply Kd.R_drew)); exact HO124.out), (bk_ BK111.out), (bk_ BK128.out), GW128.out, GE128.out, NB111_128.out, NB128_111.out, (bw_ HB.out)⟩)
                     ·skip
                      rintro ⟨v117, gb128⟩ w26 ⟨h0_, h1_, h2_, h3_, h4_, h5_, h6_, h7_⟩
                      have n0_ : Aside0 (Kd.R (Kd.int .i64) 3 w26 w.heap.size (fun _ => True) v117 y116) := ⟨h0_⟩
                      have n1_ : Aside0 (w26.heap[gb111]? = some (.cells #[.slice none 0 0, .slice none 0 0, .bool false, .bool false, .bool false, .bool false, .slice none 0 0, .slice none 0 0, .int .i64 0] 28 (0, 0))) := ⟨h1_⟩
                      have n2_ : Aside0 (w26.heap[gb128]? = some (.cells #[.slice none 0 0, .slice none 0 0, .bool false, .bool false, .bool false, .bool false, .slice none 0 0, .slice none 0 0, .int .i64 0] 28 (0, 0))) := ⟨h2_⟩
                      have n3_ : Aside0 (w.heap.size ≤ gb128) := ⟨h3_⟩
                      have n4_ : Aside0 (w.heap.size ≤ gb128) := ⟨h4_⟩
                      have n5_ : Aside0 (gb111 ≠ gb128) := ⟨h5_⟩
                      have n6_ : Aside0 (gb128 ≠ gb111) := ⟨h6_⟩
                      have n7_ : Aside0 (Below w.heap.size w w26) := ⟨h7_⟩
                      clear BK111
                      clear HB
                      clear h0_ h1_ h2_ h3_ h4_ h5_ h6_ h7_
                      have HO118 := n0_
                      have BK111 := n1_
                      have BK128 := n2_
                      have GW128 := n3_
                      have GE128 := n4_
                      have GI128 := GeI.mk GE128.out
                      have NB111_128 := n5_
                      have NB128_111 := n6_
                      have HB := n7_
                      clear n0_ n1_ n2_ n3_ n4_ n5_ n6_ n7_
                      have hHeld := trivial
                      refine norm_ (a' := ?_) ?_ ?_
                      rotate_left
                      ·simp only [putAll, Act.put, List.setIfInBounds_toArray, List.set_cons_zero, List.set_cons_succ]
                       rfl
                      refine two_ (i := 1) (j := 2) (Ni := some 49) (Nj := some 50) #[true, true, false, true, false, false, true, false] #[true, false, true, true, false, false, true, false] rfl rfl rfl rfl (two_of HT_.out (by kernel_rfl)) (by decide) (by decide) (fun K hK => ?_) (fun K hK => ?_)
                      ·skip
                       refine Kd.R_make_step (Kd.int .i64) _ 3 (by rfl) (N := 49) rfl 22 _ _ rfl 8 rfl rfl Try.underlying22 (.int .i64 0) 8 info3 rfl (by decide) (by omega) 0 (ok := fun _ => True) (okp := fun _ => True) rfl (fun _ hk => hk) trivial (by omega) (by omega) (Below.refl _ _) (Nat.le_refl _) ?_
                       intro v120 w27 ho28 hb hg_ hnew_
                       clear hg_ hnew_
                       (first | rw [← Ny119.out] at ho28 | (simp only [Int.reduceToNat] at ho28; rw [← Ny119.out] at ho28))
                       have n0_ := A_ (Kd.R_elder' (by (with_reducible repeat (first | apply Kd.R_alloc | apply Kd.R_drewN | apply Kd.R_drew)); exact HO118.out) (Kd.R_base ho28) hb)
                       have n1_ := A_ (Kd.R_lower (Kd.R_new' ho28 (Kd.R_lt (by (with_reducible repeat (first | apply Kd.R_alloc | apply Kd.R_drewN | apply Kd.R_drew)); exact HO118.out))) (below_size (bw_ HB.out)))
                       have n2_ := A_ (blk_below (bk_ BK111.out) hb)
                       have n3_ := A_ (blk_below (bk_ BK128.out) hb)
                       have n4_ := A_ (below_step (bw_ HB.out) hb)
                       clear HO118
                       clear BK111
                       clear BK128
                       clear HB
                       have HO118 := n0_
                       have HO121 := n1_
                       have BK111 := n2_
                       have BK128 := n3_
                       have HB := n4_
                       clear n0_ n1_ n2_ n3_ n4_
                       clear hb ho28
                       refine hK.out _ _ trivial (fun hHeld => ?_)
                       clear hK K
                       refine norm_ (a' := ?_) ?_ ?_
                       rotate_left
                       ·show Act.put _ (some 49) _ = _
                        simp only [Act.put, List.setIfInBounds_toArray, List.set_cons_zero, List.set_cons_succ, i64_w, i32_w]
                        rfl
                       exact norm_ (by first | (simp only [putAll, Act.put, List.setIfInBounds_toArray, List.set_cons_zero, List.set_cons_succ]; done) | (simp only [putAll, Act.put, List.setIfInBounds_toArray, List.set_cons_zero, List.set_cons_succ]; rfl)) (hJ0_1_6 (v117, v120, gb128) _ ⟨(by (with_reducible repeat (first | apply Kd.R_alloc | apply Kd.R_drewN | apply Kd.R_drew)); exact Kd.R_mono HO118.out (fun _ hk => hk.2)), (by (with_reducible repeat (first | apply Kd.R_alloc | apply Kd.R_drewN | apply Kd.R_drew)); exact Kd.R_mono HO121.out (fun _ hk => hk.2)), (bk_ BK111.out), (bk_ BK128.out), GW128.out, GE128.out, NB111_128.out, NB128_111.out, (bw_ HB.out)⟩)
                      ·skip
                       refine Kd.R_lit_step (Kd.int .i64) _ 3 ?hg (N := 50) ?hd (xs := ([] : List Int)) (inner := []) (ok := fun _ => True) (okp := fun _ => True) ?hr ?hp (fun _ hk => hk) trivial (Below.refl _ _) (Nat.le_refl _) (by simp) ?_; (case hd => rfl); (case hg => rfl); (case hr => first | (go_simp; done) | (go_simp; rfl)); (case hp => exact (Reps.none _ _))
                       intro v123 w27 ho28 hb hg_ hnew_
                       clear hg_ hnew_
                       (first | rw [← Ny122.out] at ho28 | (simp only [Int.reduceToNat] at ho28; rw [← Ny122.out] at ho28))
                       have n0_ := A_ (Kd.R_elder' (by (with_reducible repeat (first | apply Kd.R_alloc | apply Kd.R_drewN | apply Kd.R_drew)); exact HO118.out) (Kd.R_base ho28) hb)
                       have n1_ := A_ (Kd.R_lower (Kd.R_new' ho28 (Kd.R_lt (by (with_reducible repeat (first | apply Kd.R_alloc | apply Kd.R_drewN | apply Kd.R_drew)); exact HO118.out))) (below_size (bw_ HB.out)))
                       have n2_ := A_ (blk_below (bk_ BK111.out) hb)
                       have n3_ := A_ (blk_below (bk_ BK128.out) hb)
                       have n4_ := A_ (below_step (bw_ HB.out) hb)
                       clear HO118
                       clear BK111
                       clear BK128
                       clear HB
                       have HO118 := n0_
                       have HO124 := n1_
                       have BK111 := n2_
                       have BK128 := n3_
                       have HB := n4_
                       clear n0_ n1_ n2_ n3_ n4_
                       clear hb ho28
                       refine hK.out _ _ trivial (fun hHeld => ?_)
                       clear hK K
                       refine norm_ (a' := ?_) ?_ ?_
                       rotate_left
                       ·show Act.put _ (some 50) _ = _
                        simp only [Act.put, List.setIfInBounds_toArray, List.set_cons_zero, List.set_cons_succ, i64_w, i32_w]
                        rfl
                       exact norm_ (by first | (simp only [putAll, Act.put, List.setIfInBounds_toArray, List.set_cons_zero, List.set_cons_succ]; done) | (simp only [putAll, Act.put, List.setIfInBounds_toArray, List.set_cons_zero, List.set_cons_succ]; rfl)) (hJ0_2_6 (v117, v123, gb128) _ ⟨(by (with_reducible repeat (first | apply Kd.R_alloc | apply Kd.R_drewN | apply Kd.R_drew)); exact Kd.R_mono HO118.out (fun _ hk => hk.2)), (by (with_reducible repeat (first | apply Kd.R_alloc | apply Kd.R_drewN | apply Kd.R_drew)); exact Kd.R_mono HO124.out (fun _ hk => hk.2)), (bk_ BK111.out), (bk_ BK128.out), GW128.out, GE128.out, NB111_128.out, NB128_111.out, (bw_ HB.out)⟩)
                    ·skip
                     rintro ⟨v117, v123⟩ w27 ⟨h0_, h1_, h2_, h3_⟩
                     have n0_ : Aside0 (Kd.R (Kd.int .i64) 3 w27 w.heap.size (fun k_ => some k_ ≠ (v123 : Value).ownBlock) v117 y116) := ⟨h0_⟩
                     have n1_ : Aside0 (Kd.R (Kd.int .i64) 3 w27 w.heap.size (fun k_ => some k_ ≠ (v117 : Value).ownBlock) v123 y122) := ⟨h1_⟩
                     have n2_ : Aside0 (w27.heap[gb111]? = some (.cells #[.slice none 0 0, .slice none 0 0, .bool false, .bool false, .bool false, .bool false, .slice none 0 0, .slice none 0 0, .int .i64 0] 28 (0, 0))) := ⟨h2_⟩
                     have n3_ : Aside0 (Below w.heap.size w w27) := ⟨h3_⟩
                     clear BK111
                     clear HB
                     clear h0_ h1_ h2_ h3_
                     have HO118 := n0_
                     have HO124 := n1_
                     have BK111 := n2_
                     have HB := n3_
                     clear n0_ n1_ n2_ n3_
                     have hHeld := trivial
                     refine norm_ (a' := ?_) ?_ ?_
                     rotate_left
                     ·simp only [putAll, Act.put, List.setIfInBounds_toArray, List.set_cons_zero, List.set_cons_succ]
                      rfl
                     refine three_ (i := 1) (j := 4) (k := 6) (Ni := some 49) (Nj := some 52) (Nk := some 9) #[true, true, true, true, false, false, false, false] #[true, false, true, true, true, false, false, false] #[true, false, true, true, false, false, true, false] rfl rfl rfl rfl rfl rfl (three_of HT_.out (by kernel_rfl)) (by decide) (by decide) (by decide) (fun K hK => ?_) (fun K hK => ?_) (fun K hK => ?_)
                     ·skip
                      refine Kd.R_make_step (Kd.int .i64) _ 3 (by rfl) (N := 49) rfl 22 _ _ rfl 8 rfl rfl Try.underlying22 (.int .i64 0) 8 info3 rfl (by decide) (by omega) 0 (ok := fun _ => True) (okp := fun _ => True) rfl (fun _ hk => hk) trivial (by omega) (by omega) (Below.refl _ _) (Nat.le_refl _) ?_
                      intro v120 w28 ho29 hb hg_ hnew_
                      clear hg_ hnew_
                      (first | rw [← Ny119.out] at ho29 | (simp only [Int.reduceToNat] at ho29; rw [← Ny119.out] at ho29))
                      have n0_ := A_ (Kd.R_elder' (by (with_reducible repeat (first | apply Kd.R_alloc | apply Kd.R_drewN | apply Kd.R_drew)); exact HO118.out) (Kd.R_base ho29) hb)
                      have n1_ := A_ (Kd.R_elder' (by (with_reducible repeat (first | apply Kd.R_alloc | apply Kd.R_drewN | apply Kd.R_drew)); exact HO124.out) (Kd.R_base ho29) hb)
                      have n2_ := A_ (Kd.R_lower (Kd.R_new' (Kd.R_new' ho29 (Kd.R_lt (by (with_reducible repeat (first | apply Kd.R_alloc | apply Kd.R_drewN | apply Kd.R_drew)); exact HO118.out))) (Kd.R_lt (by (with_reducible repeat (first | apply Kd.R_alloc | apply Kd.R_drewN | apply Kd.R_drew)); exact HO124.out))) (below_size (bw_ HB.out)))
                      have n3_ := A_ (blk_below (bk_ BK111.out) hb)
                      have n4_ := A_ (below_step (bw_ HB.out) hb)
                      clear HO118
                      clear HO124
                      clear BK111
                      clear HB
                      have HO118 := n0_
                      have HO124 := n1_
                      have HO121 := n2_
                      have BK111 := n3_
                      have HB := n4_
                      clear n0_ n1_ n2_ n3_ n4_
                      clear hb ho29
                      refine hK.out _ _ trivial (fun hHeld => ?_)
                      clear hK K
                      refine norm_ (a' := ?_) ?_ ?_
                      rotate_left
                      ·show Act.put _ (some 49) _ = _
                       simp only [Act.put, List.setIfInBounds_toArray, List.set_cons_zero, List.set_cons_succ, i64_w, i32_w]
                       rfl
                      exact norm_ (by first | (simp only [putAll, Act.put, List.setIfInBounds_toArray, List.set_cons_zero, List.set_cons_succ]; done) | (simp only [putAll, Act.put, List.setIfInBounds_toArray, List.set_cons_zero, List.set_cons_succ]; rfl)) (hJ0_1_2 (v117, v120, v123) _ ⟨(by (with_reducible repeat (first | apply Kd.R_alloc | apply Kd.R_drewN | apply Kd.R_drew)); exact Kd.R_mono HO118.out (fun _ hk => ⟨hk.2, hk.1⟩)), (by (with_reducible repeat (first | apply Kd.R_alloc | apply Kd.R_drewN | apply Kd.R_drew)); exact Kd.R_mono HO121.out (fun _ hk => ⟨hk.1.2, hk.2⟩)), (by (with_reducible repeat (first | apply Kd.R_alloc | apply Kd.R_drewN | apply Kd.R_drew)); exact HO124.out), (bk_ BK111.out), (bw_ HB.out)⟩)
                     ·skip
                      refine Kd.R_append_rows_step (Kd.int .i64) (w0 := w) w.heap.size (by rfl) (.tmp 50) (.tmp 51) 22 3 (.int .i64 0) 8 rfl Try.underlying22 info3 rfl (by decide) (by omega) v123 y122 l3 _ _ _ (fun k_ => some k_ ≠ (v117 : Value).ownBlock) (fun _ => False) rfl rfl ?aO ?aR (fun _ _ h => h) (fun _ h => h.elim) ?aF ?aB ?aS ?aL ?_
                      (case aR => repeat (first | exact (Kd.C_below HR3.out HB.out) | (with_reducible refine Kd.C_alloc ?_ _) | (with_reducible refine Kd.C_drewN ?_ _) | (with_reducible refine Kd.C_drew ?_)))
                      (case aB => exact (bw_ HB.out))
                      (case aF => exact (fun k_ hk => Kd.fresh' (Kd.R_lt (by (with_reducible repeat (first | apply Kd.R_alloc | apply Kd.R_drewN | apply Kd.R_drew)); exact HO118.out)) k_ hk))
                      (case aO => exact (by (with_reducible repeat (first | apply Kd.R_alloc | apply Kd.R_drewN | apply Kd.R_drew)); exact HO124.out))
                      (case aS => exact (below_size (bw_ HB.out)))
                      (case aL => have := LMc21.out; omega)
                      intro v126 w28 ho hb hg hat
                      rw [← Ny125.out] at ho
                      have n0_ := A_ (blk_grown (bk_ BK111.out) hg (Kd.R_ne HO124.out BK111.out (by decide)))
                      have n1_ := A_ (Kd.R_after (ok := (fun _ => True)) (by (with_reducible repeat (first | apply Kd.R_alloc | apply Kd.R_drewN | apply Kd.R_drew)); exact Kd.R_mono HO118.out (fun _ hk => ⟨trivial, hk⟩)) hg hat)
                      have n2_ := A_ (hb)
                      have n3_ := A_ (ho)
                      clear BK111
                      clear HO118
                      clear HB
                      clear HO124
                      have BK111 := n0_
                      have HO118 := n1_
                      have HB := n2_
                      have HO127 := n3_
                      clear n0_ n1_ n2_ n3_
                      clear ho hb hg hat
                      refine hK.out _ _ trivial (fun hHeld => ?_)
                      clear hK K
                      refine norm_ (a' := ?_) ?_ ?_
                      rotate_left
                      ·show Act.put _ (some 52) _ = _
                       simp only [Act.put, List.setIfInBounds_toArray, List.set_cons_zero, List.set_cons_succ, i64_w, i32_w]
                       rfl
                      exact norm_ (by first | (simp only [putAll, Act.put, List.setIfInBounds_toArray, List.set_cons_zero, List.set_cons_succ]; done) | (simp only [putAll, Act.put, List.setIfInBounds_toArray, List.set_cons_zero, List.set_cons_succ]; rfl)) (hJ0_2_4 (v117, v123, v126) _ ⟨(by (with_reducible repeat (first | apply Kd.R_alloc | apply Kd.R_drewN | apply Kd.R_drew)); exact Kd.R_mono HO118.out (fun _ hk => hk.2)), (by (with_reducible repeat (first | apply Kd.R_alloc | apply Kd.R_drewN | apply Kd.R_drew)); exact HO127.out), (bk_ BK111.out), (bw_ HB.out)⟩)
                     ·skip
                      refine box_step ?hg (N := 9) ?hd (cs := #[.slice none 0 0, .slice none 0 0, .bool false, .bool false, .bool false, .bool false, .slice none 0 0, .slice none 0 0, .int .i64 0]) (t := 28) ?hr ?_; (case hd => rfl); (case hg => rfl); (case hr => first | (go_simp; done) | (go_simp; rfl))
                      intro gb128 hg w28 hbox hb
                      have n0_ := A_ (Kd.R_below (by (with_reducible repeat (first | apply Kd.R_alloc | apply Kd.R_drewN | apply Kd.R_drew)); exact HO118.out) hb)
                      have n1_ := A_ (Kd.R_below (by (with_reducible repeat (first | apply Kd.R_alloc | apply Kd.R_drewN | apply Kd.R_drew)); exact HO124.out) hb)
                      have n2_ := A_ (blk_below (bk_ BK111.out) hb)
                      have n3_ := A_ (below_step (bw_ HB.out) hb)
                      have n4_ := A_ (hbox)
                      have n5_ := A_ ((by rw [hg]; exact (below_size (bw_ HB.out)) : w.heap.size ≤ gb128))
                      have n6_ := A_ ((by rw [hg]; exact (below_size (bw_ HB.out)) : w.heap.size ≤ gb128))
                      have n7_ := A_ ((by rw [hg]; exact Nat.ne_of_lt (blk_lt (bk_ BK111.out)) : gb111 ≠ gb128))
                      have n8_ := A_ ((by rw [hg]; exact Nat.ne_of_gt (blk_lt (bk_ BK111.out)) : gb128 ≠ gb111))
                      clear HO118
                      clear HO124
                      clear BK111
                      clear HB
                      have HO118 := n0_
                      have HO124 := n1_
                      have BK111 := n2_
                      have HB := n3_
                      have BK128 := n4_
                      have GW128 := n5_
                      have GE128 := n6_
                      have GI128 := GeI.mk GE128.out
                      have NB111_128 := n7_
                      have NB128_111 := n8_
                      clear n0_ n1_ n2_ n3_ n4_ n5_ n6_ n7_ n8_
                      clear hb hbox hg
                      refine hK.out _ _ trivial (fun hHeld => ?_)
                      clear hK K
                      refine norm_ (a' := ?_) ?_ ?_
                      rotate_left
                      ·show Act.put _ (some 9) _ = _
                       simp only [Act.put, List.setIfInBounds_toArray, List.set_cons_zero, List.set_cons_succ, i64_w, i32_w]
                       rfl
                      exact norm_ (by first | (simp only [putAll, Act.put, List.setIfInBounds_toArray, List.set_cons_zero, List.set_cons_succ]; done) | (simp only [putAll, Act.put, List.setIfInBounds_toArray, List.set_cons_zero, List.set_cons_succ]; rfl)) (hJ0_2_6 (v117, v123, gb128) _ ⟨(by (with_reducible repeat (first | apply Kd.R_alloc | apply Kd.R_drewN | apply Kd.R_drew)); exact HO118.out), (by (with_reducible repeat (first | apply Kd.R_alloc | apply Kd.R_drewN | apply Kd.R_drew)); exact HO124.out), (bk_ BK111.out), (bk_ BK128.out), GW128.out, GE128.out, NB111_128.out, NB128_111.out, (bw_ HB.out)⟩)
                   ·skip
                    rintro ⟨v117, v120⟩ w27 ⟨h0_, h1_, h2_, h3_⟩
                    have n0_ : Aside0 (Kd.R (Kd.int .i64) 3 w27 w.heap.size (fun k_ => some k_ ≠ (v120 : Value).ownBlock) v117 y116) := ⟨h0_⟩
                    have n1_ : Aside0 (Kd.R (Kd.int .i64) 3 w27 w.heap.size (fun k_ => some k_ ≠ (v117 : Value).ownBlock) v120 y119) := ⟨h1_⟩
                    have n2_ : Aside0 (w27.heap[gb111]? = some (.cells #[.slice none 0 0, .slice none 0 0, .bool false, .bool false, .bool false, .bool false, .slice none 0 0, .slice none 0 0, .int .i64 0] 28 (0, 0))) := ⟨h2_⟩
                    have n3_ : Aside0 (Below w.heap.size w w27) := ⟨h3_⟩
                    clear BK111
                    clear HB
                    clear h0_ h1_ h2_ h3_
                    have HO118 := n0_
                    have HO121 := n1_
                    have BK111 := n2_
                    have HB := n3_
                    clear n0_ n1_ n2_ n3_
                    have hHeld := trivial
                    refine norm_ (a' := ?_) ?_ ?_
                    rotate_left
                    ·simp only [putAll, Act.put, List.setIfInBounds_toArray, List.set_cons_zero, List.set_cons_succ]
                     rfl
                    refine two_ (i := 2) (j := 6) (Ni := some 50) (Nj := some 9) #[true, true, true, true, false, false, false, false] #[true, true, false, true, false, false, true, false] rfl rfl rfl rfl (two_of HT_.out (by kernel_rfl)) (by decide) (by decide) (fun K hK => ?_) (fun K hK => ?_)
                    ·skip
                     refine Kd.R_lit_step (Kd.int .i64) _ 3 ?hg (N := 50) ?hd (xs := ([] : List Int)) (inner := []) (ok := fun _ => True) (okp := fun _ => True) ?hr ?hp (fun _ hk => hk) trivial (Below.refl _ _) (Nat.le_refl _) (by simp) ?_; (case hd => rfl); (case hg => rfl); (case hr => first | (go_simp; done) | (go_simp; rfl)); (case hp => exact (Reps.none _ _))
                     intro v123 w28 ho29 hb hg_ hnew_
                     clear hg_ hnew_
                     (first | rw [← Ny122.out] at ho29 | (simp only [Int.reduceToNat] at ho29; rw [← Ny122.out] at ho29))
                     have n0_ := A_ (Kd.R_elder' (by (with_reducible repeat (first | apply Kd.R_alloc | apply Kd.R_drewN | apply Kd.R_drew)); exact HO118.out) (Kd.R_base ho29) hb)
                     have n1_ := A_ (Kd.R_elder' (by (with_reducible repeat (first | apply Kd.R_alloc | apply Kd.R_drewN | apply Kd.R_drew)); exact HO121.out) (Kd.R_base ho29) hb)
                     have n2_ := A_ (Kd.R_lower (Kd.R_new' (Kd.R_new' ho29 (Kd.R_lt (by (with_reducible repeat (first | apply Kd.R_alloc | apply Kd.R_drewN | apply Kd.R_drew)); exact HO118.out))) (Kd.R_lt (by (with_reducible repeat (first | apply Kd.R_alloc | apply Kd.R_drewN | apply Kd.R_drew)); exact HO121.out))) (below_size (bw_ HB.out)))
                     have n3_ := A_ (blk_below (bk_ BK111.out) hb)
                     have n4_ := A_ (below_step (bw_ HB.out) hb)
                     clear HO118
                     clear HO121
                     clear BK111
                     clear HB
                     have HO118 := n0_
                     have HO121 := n1_
                     have HO124 := n2_
                     have BK111 := n3_
                     have HB := n4_
                     clear n0_ n1_ n2_ n3_ n4_
                     clear hb ho29
                     refine hK.out _ _ trivial (fun hHeld => ?_)
                     clear hK K
                     refine norm_ (a' := ?_) ?_ ?_
                     rotate_left
                     ·show Act.put _ (some 50) _ = _
                      simp only [Act.put, List.setIfInBounds_toArray, List.set_cons_zero, List.set_cons_succ, i64_w, i32_w]
                      rfl
                     exact norm_ (by first | (simp only [putAll, Act.put, List.setIfInBounds_toArray, List.set_cons_zero, List.set_cons_succ]; done) | (simp only [putAll, Act.put, List.setIfInBounds_toArray, List.set_cons_zero, List.set_cons_succ]; rfl)) (hJ0_1_2 (v117, v120, v123) _ ⟨(by (with_reducible repeat (first | apply Kd.R_alloc | apply Kd.R_drewN | apply Kd.R_drew)); exact HO118.out), (by (with_reducible repeat (first | apply Kd.R_alloc | apply Kd.R_drewN | apply Kd.R_drew)); exact HO121.out), (by (with_reducible repeat (first | apply Kd.R_alloc | apply Kd.R_drewN | apply Kd.R_drew)); exact Kd.R_mono HO124.out (fun _ hk => ⟨hk.1.2, hk.2⟩)), (bk_ BK111.out), (bw_ HB.out)⟩)
                    ·skip
                     refine box_step ?hg (N := 9) ?hd (cs := #[.slice none 0 0, .slice none 0 0, .bool false, .bool false, .bool false, .bool false, .slice none 0 0, .slice none 0 0, .int .i64 0]) (t := 28) ?hr ?_; (case hd => rfl); (case hg => rfl); (case hr => first | (go_simp; done) | (go_simp; rfl))
                     intro gb128 hg w28 hbox hb
                     have n0_ := A_ (Kd.R_below (by (with_reducible repeat (first | apply Kd.R_alloc | apply Kd.R_drewN | apply Kd.R_drew)); exact HO118.out) hb)
                     have n1_ := A_ (Kd.R_below (by (with_reducible repeat (first | apply Kd.R_alloc | apply Kd.R_drewN | apply Kd.R_drew)); exact HO121.out) hb)
                     have n2_ := A_ (blk_below (bk_ BK111.out) hb)
                     have n3_ := A_ (below_step (bw_ HB.out) hb)
                     have n4_ := A_ (hbox)
                     have n5_ := A_ ((by rw [hg]; exact (below_size (bw_ HB.out)) : w.heap.size ≤ gb128))
                     have n6_ := A_ ((by rw [hg]; exact (below_size (bw_ HB.out)) : w.heap.size ≤ gb128))
                     have n7_ := A_ ((by rw [hg]; exact Nat.ne_of_lt (blk_lt (bk_ BK111.out)) : gb111 ≠ gb128))
                     have n8_ := A_ ((by rw [hg]; exact Nat.ne_of_gt (blk_lt (bk_ BK111.out)) : gb128 ≠ gb111))
                     clear HO118
                     clear HO121
                     clear BK111
                     clear HB
                     have HO118 := n0_
                     have HO121 := n1_
                     have BK111 := n2_
                     have HB := n3_
                     have BK128 := n4_
                     have GW128 := n5_
                     have GE128 := n6_
                     have GI128 := GeI.mk GE128.out
                     have NB111_128 := n7_
                     have NB128_111 := n8_
                     clear n0_ n1_ n2_ n3_ n4_ n5_ n6_ n7_ n8_
                     clear hb hbox hg
                     refine hK.out _ _ trivial (fun hHeld => ?_)
                     clear hK K
                     refine norm_ (a' := ?_) ?_ ?_
                     rotate_left
                     ·show Act.put _ (some 9) _ = _
                      simp only [Act.put, List.setIfInBounds_toArray, List.set_cons_zero, List.set_cons_succ, i64_w, i32_w]
                      rfl
                     exact norm_ (by first | (simp only [putAll, Act.put, List.setIfInBounds_toArray, List.set_cons_zero, List.set_cons_succ]; done) | (simp only [putAll, Act.put, List.setIfInBounds_toArray, List.set_cons_zero, List.set_cons_succ]; rfl)) (hJ0_1_6 (v117, v120, gb128) _ ⟨(by (with_reducible repeat (first | apply Kd.R_alloc | apply Kd.R_drewN | apply Kd.R_drew)); exact HO118.out), (by (with_reducible repeat (first | apply Kd.R_alloc | apply Kd.R_drewN | apply Kd.R_drew)); exact HO121.out), (bk_ BK111.out), (bk_ BK128.out), GW128.out, GE128.out, NB111_128.out, NB128_111.out, (bw_ HB.out)⟩)
                  ·skip
                   rintro ⟨v123, v126, gb128⟩ w27 ⟨h0_, h1_, h2_, h3_, h4_, h5_, h6_, h7_⟩
                   have n0_ : Aside0 (Kd.R (Kd.int .i64) 3 w27 w.heap.size (fun _ => True) v126 y125) := ⟨h0_⟩
                   have n1_ : Aside0 (w27.heap[gb111]? = some (.cells #[.slice none 0 0, .slice none 0 0, .bool false, .bool false, .bool false, .bool false, .slice none 0 0, .slice none 0 0, .int .i64 0] 28 (0, 0))) := ⟨h1_⟩
                   have n2_ : Aside0 (w27.heap[gb128]? = some (.cells #[.slice none 0 0, .slice none 0 0, .bool false, .bool false, .bool false, .bool false, .slice none 0 0, .slice none 0 0, .int .i64 0] 28 (0, 0))) := ⟨h2_⟩
                   have n3_ : Aside0 (w.heap.size ≤ gb128) := ⟨h3_⟩
                   have n4_ : Aside0 (w.heap.size ≤ gb128) := ⟨h4_⟩
                   have n5_ : Aside0 (gb111 ≠ gb128) := ⟨h5_⟩
                   have n6_ : Aside0 (gb128 ≠ gb111) := ⟨h6_⟩
                   have n7_ : Aside0 (Below w.heap.size w w27) := ⟨h7_⟩
                   clear BK111
                   clear HB
                   clear h0_ h1_ h2_ h3_ h4_ h5_ h6_ h7_
                   have HO127 := n0_
                   have BK111 := n1_
                   have BK128 := n2_
                   have GW128 := n3_
                   have GE128 := n4_
                   have GI128 := GeI.mk GE128.out
                   have NB111_128 := n5_
                   have NB128_111 := n6_
                   have HB := n7_
                   clear n0_ n1_ n2_ n3_ n4_ n5_ n6_ n7_
                   have hHeld := trivial
                   refine norm_ (a' := ?_) ?_ ?_
                   rotate_left
                   ·simp only [putAll, Act.put, List.setIfInBounds_toArray, List.set_cons_zero, List.set_cons_succ]
                    rfl
                   refine two_ (i := 0) (j := 1) (Ni := some 48) (Nj := some 49) #[true, false, true, true, true, false, true, false] #[false, true, true, true, true, false, true, false] rfl rfl rfl rfl (two_of HT_.out (by kernel_rfl)) (by decide) (by decide) (fun K hK => ?_) (fun K hK => ?_)
                   ·skip
                    refine Kd.R_make_step (Kd.int .i64) _ 3 (by rfl) (N := 48) rfl 22 _ _ rfl 256 rfl rfl Try.underlying22 (.int .i64 0) 8 info3 rfl (by decide) (by omega) 0 (ok := fun _ => True) (okp := fun _ => True) rfl (fun _ hk => hk) trivial (by omega) (by omega) (Below.refl _ _) (Nat.le_refl _) ?_
                    intro v117 w28 ho29 hb hg_ hnew_
                    clear hg_ hnew_
                    (first | rw [← Ny116.out] at ho29 | (simp only [Int.reduceToNat] at ho29; rw [← Ny116.out] at ho29))
                    have n0_ := A_ (Kd.R_elder' (by (with_reducible repeat (first | apply Kd.R_alloc | apply Kd.R_drewN | apply Kd.R_drew)); exact HO127.out) (Kd.R_base ho29) hb)
                    have n1_ := A_ (Kd.R_lower (Kd.R_new' ho29 (Kd.R_lt (by (with_reducible repeat (first | apply Kd.R_alloc | apply Kd.R_drewN | apply Kd.R_drew)); exact HO127.out))) (below_size (bw_ HB.out)))
                    have n2_ := A_ (blk_below (bk_ BK111.out) hb)
                    have n3_ := A_ (blk_below (bk_ BK128.out) hb)
                    have n4_ := A_ (below_step (bw_ HB.out) hb)
                    clear HO127
                    clear BK111
                    clear BK128
                    clear HB
                    have HO127 := n0_
                    have HO118 := n1_
                    have BK111 := n2_
                    have BK128 := n3_
                    have HB := n4_
                    clear n0_ n1_ n2_ n3_ n4_
                    clear hb ho29
                    refine hK.out _ _ trivial (fun hHeld => ?_)
                    clear hK K
                    refine norm_ (a' := ?_) ?_ ?_
                    rotate_left
                    ·show Act.put _ (some 48) _ = _
                     simp only [Act.put, List.setIfInBounds_toArray, List.set_cons_zero, List.set_cons_succ, i64_w, i32_w]
                     rfl
                    exact norm_ (by first | (simp only [putAll, Act.put, List.setIfInBounds_toArray, List.set_cons_zero, List.set_cons_succ]; done) | (simp only [putAll, Act.put, List.setIfInBounds_toArray, List.set_cons_zero, List.set_cons_succ]; rfl)) (hJ0_2_4_6 (v117, v123, v126, gb128) _ ⟨(by (with_reducible repeat (first | apply Kd.R_alloc | apply Kd.R_drewN | apply Kd.R_drew)); exact Kd.R_mono HO118.out (fun _ hk => hk.2)), (by (with_reducible repeat (first | apply Kd.R_alloc | apply Kd.R_drewN | apply Kd.R_drew)); exact Kd.R_mono HO127.out (fun _ hk => hk.2)), (bk_ BK111.out), (bk_ BK128.out), GW128.out, GE128.out, NB111_128.out, NB128_111.out, (bw_ HB.out)⟩)
                   ·skip
                    refine Kd.R_make_step (Kd.int .i64) _ 3 (by rfl) (N := 49) rfl 22 _ _ rfl 8 rfl rfl Try.underlying22 (.int .i64 0) 8 info3 rfl (by decide) (by omega) 0 (ok := fun _ => True) (okp := fun _ => True) rfl (fun _ hk => hk) trivial (by omega) (by omega) (Below.refl _ _) (Nat.le_refl _) ?_
                    intro v120 w28 ho29 hb hg_ hnew_
                    clear hg_ hnew_
                    (first | rw [← Ny119.out] at ho29 | (simp only [Int.reduceToNat] at ho29; rw [← Ny119.out] at ho29))
                    have n0_ := A_ (Kd.R_elder' (by (with_reducible repeat (first | apply Kd.R_alloc | apply Kd.R_drewN | apply Kd.R_drew)); exact HO127.out) (Kd.R_base ho29) hb)
                    have n1_ := A_ (Kd.R_lower (Kd.R_new' ho29 (Kd.R_lt (by (with_reducible repeat (first | apply Kd.R_alloc | apply Kd.R_drewN | apply Kd.R_drew)); exact HO127.out))) (below_size (bw_ HB.out)))
                    have n2_ := A_ (blk_below (bk_ BK111.out) hb)
                    have n3_ := A_ (blk_below (bk_ BK128.out) hb)
                    have n4_ := A_ (below_step (bw_ HB.out) hb)
                    clear HO127
                    clear BK111
                    clear BK128
                    clear HB
                    have HO127 := n0_
                    have HO121 := n1_
                    have BK111 := n2_
                    have BK128 := n3_
                    have HB := n4_
                    clear n0_ n1_ n2_ n3_ n4_
                    clear hb ho29
                    refine hK.out _ _ trivial (fun hHeld => ?_)
                    clear hK K
                    refine norm_ (a' := ?_) ?_ ?_
                    rotate_left
                    ·show Act.put _ (some 49) _ = _
                     simp only [Act.put, List.setIfInBounds_toArray, List.set_cons_zero, List.set_cons_succ, i64_w, i32_w]
                     rfl
                    exact norm_ (by first | (simp only [putAll, Act.put, List.setIfInBounds_toArray, List.set_cons_zero, List.set_cons_succ]; done) | (simp only [putAll, Act.put, List.setIfInBounds_toArray, List.set_cons_zero, List.set_cons_succ]; rfl)) (hJ1_2_4_6 (v120, v123, v126, gb128) _ ⟨(by (with_reducible repeat (first | apply Kd.R_alloc | apply Kd.R_drewN | apply Kd.R_drew)); exact Kd.R_mono HO121.out (fun _ hk => hk.2)), (by (with_reducible repeat (first | apply Kd.R_alloc | apply Kd.R_drewN | apply Kd.R_drew)); exact Kd.R_mono HO127.out (fun _ hk => hk.2)), (bk_ BK111.out), (bk_ BK128.out), GW128.out, GE128.out, NB111_128.out, NB128_111.out, (bw_ HB.out)⟩)
                 ·skip
                  rintro ⟨v120, v123, gb128⟩ w28 ⟨h0_, h1_, h2_, h3_, h4_, h5_, h6_, h7_, h8_⟩
                  have n0_ : Aside0 (Kd.R (Kd.int .i64) 3 w28 w.heap.size (fun k_ => some k_ ≠ (v123 : Value).ownBlock) v120 y119) := ⟨h0_⟩
                  have n1_ : Aside0 (Kd.R (Kd.int .i64) 3 w28 w.heap.size (fun k_ => some k_ ≠ (v120 : Value).ownBlock) v123 y122) := ⟨h1_⟩
                  have n2_ : Aside0 (w28.heap[gb111]? = some (.cells #[.slice none 0 0, .slice none 0 0, .bool false, .bool false, .bool false, .bool false, .slice none 0 0, .slice none 0 0, .int .i64 0] 28 (0, 0))) := ⟨h2_⟩
                  have n3_ : Aside0 (w28.heap[gb128]? = some (.cells #[.slice none 0 0, .slice none 0 0, .bool false, .bool false, .bool false, .bool false, .slice none 0 0, .slice none 0 0, .int .i64 0] 28 (0, 0))) := ⟨h3_⟩
                  have n4_ : Aside0 (w.heap.size ≤ gb128) := ⟨h4_⟩
                  have n5_ : Aside0 (w.heap.size ≤ gb128) := ⟨h5_⟩
                  have n6_ : Aside0 (gb111 ≠ gb128) := ⟨h6_⟩
                  have n7_ : Aside0 (gb128 ≠ gb111) := ⟨h7_⟩
                  have n8_ : Aside0 (Below w.heap.size w w28) := ⟨h8_⟩
                  clear BK111
                  clear HB
                  clear h0_ h1_ h2_ h3_ h4_ h5_ h6_ h7_ h8_
                  have HO121 := n0_
                  have HO124 := n1_
                  have BK111 := n2_
                  have BK128 := n3_
                  have GW128 := n4_
                  have GE128 := n5_
                  have GI128 := GeI.mk GE128.out
                  have NB111_128 := n6_
                  have NB128_111 := n7_
                  have HB := n8_
                  clear n0_ n1_ n2_ n3_ n4_ n5_ n6_ n7_ n8_
                  have hHeld := trivial
                  refine norm_ (a' := ?_) ?_ ?_
                  rotate_left
                  ·simp only [putAll, Act.put, List.setIfInBounds_toArray, List.set_cons_zero, List.set_cons_succ]
                   rfl
                  refine two_ (i := 0) (j := 4) (Ni := some 48) (Nj := some 52) #[true, true, true, true, false, false, true, false] #[false, true, true, true, true, false, true, false] rfl rfl rfl rfl (two_of HT_.out (by kernel_rfl)) (by decide) (by decide) (fun K hK => ?_) (fun K hK => ?_)
                  ·skip
                   refine Kd.R_make_step (Kd.int .i64) _ 3 (by rfl) (N := 48) rfl 22 _ _ rfl 256 rfl rfl Try.underlying22 (.int .i64 0) 8 info3 rfl (by decide) (by omega) 0 (ok := fun _ => True) (okp := fun _ => True) rfl (fun _ hk => hk) trivial (by omega) (by omega) (Below.refl _ _) (Nat.le_refl _) ?_
                   intro v117 w29 ho30 hb hg_ hnew_
                   clear hg_ hnew_
                   (first | rw [← Ny116.out] at ho30 | (simp only [Int.reduceToNat] at ho30; rw [← Ny116.out] at ho30))
                   have n0_ := A_ (Kd.R_elder' (by (with_reducible repeat (first | apply Kd.R_alloc | apply Kd.R_drewN | apply Kd.R_drew)); exact HO121.out) (Kd.R_base ho30) hb)
                   have n1_ := A_ (Kd.R_elder' (by (with_reducible repeat (first | apply Kd.R_alloc | apply Kd.R_drewN | apply Kd.R_drew)); exact HO124.out) (Kd.R_base ho30) hb)
                   have n2_ := A_ (Kd.R_lower (Kd.R_new' (Kd.R_new' ho30 (Kd.R_lt (by (with_reducible repeat (first | apply Kd.R_alloc | apply Kd.R_drewN | apply Kd.R_drew)); exact HO121.out))) (Kd.R_lt (by (with_reducible repeat (first | apply Kd.R_alloc | apply Kd.R_drewN | apply Kd.R_drew)); exact HO124.out))) (below_size (bw_ HB.out)))
                   have n3_ := A_ (blk_below (bk_ BK111.out) hb)
                   have n4_ := A_ (blk_below (bk_ BK128.out) hb)
                   have n5_ := A_ (below_step (bw_ HB.out) hb)
                   clear HO121
                   clear HO124
                   clear BK111
                   clear BK128
                   clear HB
                   have HO121 := n0_
                   have HO124 := n1_
                   have HO118 := n2_
                   have BK111 := n3_
                   have BK128 := n4_
                   have HB := n5_
                   clear n0_ n1_ n2_ n3_ n4_ n5_
                   clear hb ho30
                   refine hK.out _ _ trivial (fun hHeld => ?_)
                   clear hK K
                   refine norm_ (a' := ?_) ?_ ?_
                   rotate_left
                   ·show Act.put _ (some 48) _ = _
                    simp only [Act.put, List.setIfInBounds_toArray, List.set_cons_zero, List.set_cons_succ, i64_w, i32_w]
                    rfl
                   exact norm_ (by first | (simp only [putAll, Act.put, List.setIfInBounds_toArray, List.set_cons_zero, List.set_cons_succ]; done) | (simp only [putAll, Act.put, List.setIfInBounds_toArray, List.set_cons_zero, List.set_cons_succ]; rfl)) (hJ0_1_2_6 (v117, v120, v123, gb128) _ ⟨(by (with_reducible repeat (first | apply Kd.R_alloc | apply Kd.R_drewN | apply Kd.R_drew)); exact Kd.R_mono HO118.out (fun _ hk => ⟨hk.1.2, hk.2⟩)), (by (with_reducible repeat (first | apply Kd.R_alloc | apply Kd.R_drewN | apply Kd.R_drew)); exact Kd.R_mono HO121.out (fun _ hk => ⟨hk.2, hk.1⟩)), (by (with_reducible repeat (first | apply Kd.R_alloc | apply Kd.R_drewN | apply Kd.R_drew)); exact Kd.R_mono HO124.out (fun _ hk => ⟨hk.2, hk.1⟩)), (bk_ BK111.out), (bk_ BK128.out), GW128.out, GE128.out, NB111_128.out, NB128_111.out, (bw_ HB.out)⟩)
                  ·skip
                   refine Kd.R_append_rows_step (Kd.int .i64) (w0 := w) w.heap.size (by rfl) (.tmp 50) (.tmp 51) 22 3 (.int .i64 0) 8 rfl Try.underlying22 info3 rfl (by decide) (by omega) v123 y122 l3 _ _ _ (fun k_ => some k_ ≠ (v120 : Value).ownBlock) (fun _ => False) rfl rfl ?aO ?aR (fun _ _ h => h) (fun _ h => h.elim) ?aF ?aB ?aS ?aL ?_
                   (case aR => repeat (first | exact (Kd.C_below HR3.out HB.out) | (with_reducible refine Kd.C_alloc ?_ _) | (with_reducible refine Kd.C_drewN ?_ _) | (with_reducible refine Kd.C_drew ?_)))
                   (case aB => exact (bw_ HB.out))
                   (case aF => exact (fun k_ hk => Kd.fresh' (Kd.R_lt (by (with_reducible repeat (first | apply Kd.R_alloc | apply Kd.R_drewN | apply Kd.R_drew)); exact HO121.out)) k_ hk))
                   (case aO => exact (by (with_reducible repeat (first | apply Kd.R_alloc | apply Kd.R_drewN | apply Kd.R_drew)); exact HO124.out))
                   (case aS => exact (below_size (bw_ HB.out)))
                   (case aL => have := LMc21.out; omega)
                   intro v126 w29 ho hb hg hat
                   rw [← Ny125.out] at ho
                   have n0_ := A_ (blk_grown (bk_ BK111.out) hg (Kd.R_ne HO124.out BK111.out (by decide)))
                   have n1_ := A_ (Kd.R_after (ok := (fun _ => True)) (by (with_reducible repeat (first | apply Kd.R_alloc | apply Kd.R_drewN | apply Kd.R_drew)); exact Kd.R_mono HO121.out (fun _ hk => ⟨trivial, hk⟩)) hg hat)
                   have n2_ := A_ (blk_grown (bk_ BK128.out) hg (Kd.R_ne HO124.out BK128.out (by decide)))
                   have n3_ := A_ (hb)
                   have n4_ := A_ (ho)
                   clear BK111
                   clear HO121
                   clear BK128
                   clear HB
                   clear HO124
                   have BK111 := n0_
                   have HO121 := n1_
                   have BK128 := n2_
                   have HB := n3_
                   have HO127 := n4_
                   clear n0_ n1_ n2_ n3_ n4_
                   clear ho hb hg hat
                   refine hK.out _ _ trivial (fun hHeld => ?_)
                   clear hK K
                   refine norm_ (a' := ?_) ?_ ?_
                   rotate_left
                   ·show Act.put _ (some 52) _ = _
                    simp only [Act.put, List.setIfInBounds_toArray, List.set_cons_zero, List.set_cons_succ, i64_w, i32_w]
                    rfl
                   exact norm_ (by first | (simp only [putAll, Act.put, List.setIfInBounds_toArray, List.set_cons_zero, List.set_cons_succ]; done) | (simp only [putAll, Act.put, List.setIfInBounds_toArray, List.set_cons_zero, List.set_cons_succ]; rfl)) (hJ1_2_4_6 (v120, v123, v126, gb128) _ ⟨(by (with_reducible repeat (first | apply Kd.R_alloc | apply Kd.R_drewN | apply Kd.R_drew)); exact Kd.R_mono HO121.out (fun _ hk => hk.2)), (by (with_reducible repeat (first | apply Kd.R_alloc | apply Kd.R_drewN | apply Kd.R_drew)); exact HO127.out), (bk_ BK111.out), (bk_ BK128.out), GW128.out, GE128.out, NB111_128.out, NB128_111.out, (bw_ HB.out)⟩)
                ·skip
                 rintro ⟨v120, v123, v126⟩ w28 ⟨h0_, h1_, h2_, h3_⟩
                 have n0_ : Aside0 (Kd.R (Kd.int .i64) 3 w28 w.heap.size (fun k_ => some k_ ≠ (v126 : Value).ownBlock) v120 y119) := ⟨h0_⟩
                 have n1_ : Aside0 (Kd.R (Kd.int .i64) 3 w28 w.heap.size (fun k_ => some k_ ≠ (v120 : Value).ownBlock) v126 y125) := ⟨h1_⟩
                 have n2_ : Aside0 (w28.heap[gb111]? = some (.cells #[.slice none 0 0, .slice none 0 0, .bool false, .bool false, .bool false, .bool false, .slice none 0 0, .slice none 0 0, .int .i64 0] 28 (0, 0))) := ⟨h2_⟩
                 have n3_ : Aside0 (Below w.heap.size w w28) := ⟨h3_⟩
                 clear BK111
                 clear HB
                 clear h0_ h1_ h2_ h3_
                 have HO121 := n0_
                 have HO127 := n1_
                 have BK111 := n2_
                 have HB := n3_
                 clear n0_ n1_ n2_ n3_
                 have hHeld := trivial
                 refine norm_ (a' := ?_) ?_ ?_
                 rotate_left
                 ·simp only [putAll, Act.put, List.setIfInBounds_toArray, List.set_cons_zero, List.set_cons_succ]
                  rfl
                 refine two_ (i := 0) (j := 6) (Ni := some 48) (Nj := some 9) #[true, true, true, true, true, false, false, false] #[false, true, true, true, true, false, true, false] rfl rfl rfl rfl (two_of HT_.out (by kernel_rfl)) (by decide) (by decide) (fun K hK => ?_) (fun K hK => ?_)
                 ·skip
                  refine Kd.R_make_step (Kd.int .i64) _ 3 (by rfl) (N := 48) rfl 22 _ _ rfl 256 rfl rfl Try.underlying22 (.int .i64 0) 8 info3 rfl (by decide) (by omega) 0 (ok := fun _ => True) (okp := fun _ => True) rfl (fun _ hk => hk) trivial (by omega) (by omega) (Below.refl _ _) (Nat.le_refl _) ?_
                  intro v117 w29 ho30 hb hg_ hnew_
                  clear hg_ hnew_
                  (first | rw [← Ny116.out] at ho30 | (simp only [Int.reduceToNat] at ho30; rw [← Ny116.out] at ho30))
                  have n0_ := A_ (Kd.R_elder' (by (with_reducible repeat (first | apply Kd.R_alloc | apply Kd.R_drewN | apply Kd.R_drew)); exact HO121.out) (Kd.R_base ho30) hb)
                  have n1_ := A_ (Kd.R_elder' (by (with_reducible repeat (first | apply Kd.R_alloc | apply Kd.R_drewN | apply Kd.R_drew)); exact HO127.out) (Kd.R_base ho30) hb)
                  have n2_ := A_ (Kd.R_lower (Kd.R_new' (Kd.R_new' ho30 (Kd.R_lt (by (with_reducible repeat (first | apply Kd.R_alloc | apply Kd.R_drewN | apply Kd.R_drew)); exact HO121.out))) (Kd.R_lt (by (with_reducible repeat (first | apply Kd.R_alloc | apply Kd.R_drewN | apply Kd.R_drew)); exact HO127.out))) (below_size (bw_ HB.out)))
                  have n3_ := A_ (blk_below (bk_ BK111.out) hb)
                  have n4_ := A_ (below_step (bw_ HB.out) hb)
                  clear HO121
                  clear HO127
                  clear BK111
                  clear HB
                  have HO121 := n0_
                  have HO127 := n1_
                  have HO118 := n2_
                  have BK111 := n3_
                  have HB := n4_
                  clear n0_ n1_ n2_ n3_ n4_
                  clear hb ho30
                  obtain ⟨Ao31, co31, eo31⟩ := Kd.R_slice HO127.out
                  (first | subst eo31 | (injection eo31 with f1_ f2_ f3_; have f4_ := f1_.symm; have f5_ := f3_.symm; clear f1_ f2_ f3_; subst f4_; subst f5_))
                  obtain ⟨Ao32, co32, eo32⟩ := Kd.R_slice HO121.out
                  (first | subst eo32 | (injection eo32 with f1_ f2_ f3_; have f4_ := f1_.symm; have f5_ := f3_.symm; clear f1_ f2_ f3_; subst f4_; subst f5_))
                  obtain ⟨Ao33, co33, eo33⟩ := Kd.R_slice HO118.out
                  (first | subst eo33 | (injection eo33 with f1_ f2_ f3_; have f4_ := f1_.symm; have f5_ := f3_.symm; clear f1_ f2_ f3_; subst f4_; subst f5_))
                  refine hK.out _ _ trivial (fun hHeld => ?_)
                  clear hK K
                  refine norm_ (a' := ?_) ?_ ?_
                  rotate_left
                  ·show Act.put _ (some 48) _ = _
                   simp only [Act.put, List.setIfInBounds_toArray, List.set_cons_zero, List.set_cons_succ, i64_w, i32_w]
                   rfl
                  refine pure_ (i := 5) (N := some 53) (v := ?_) (a' := ?_) #[true, true, true, true, true, true, false, false] rfl rfl (any_of HT_.out (by kernel_rfl)) (fun _ _ _ h => h) (Or.inl ⟨by rfl, ?_⟩) ?_ ?_
                  rotate_left
                  ·intro w'
                   go_simp
                   with_reducible rfl
                  rotate_left
                  ·simp only [Act.put, List.setIfInBounds_toArray, List.set_cons_zero, List.set_cons_succ, i64_w, i32_w]
                   rfl
                  exact norm_ (by first | (simp only [putAll, Act.put, List.setIfInBounds_toArray, List.set_cons_zero, List.set_cons_succ]; done) | (simp only [putAll, Act.put, List.setIfInBounds_toArray, List.set_cons_zero, List.set_cons_succ]; rfl)) (hJ0_1_2_4 (.slice Ao33 y116.length co33, .slice Ao32 y119.length co32, v123, .slice Ao31 y125.length co31) _ ⟨(by (with_reducible repeat (first | apply Kd.R_alloc | apply Kd.R_drewN | apply Kd.R_drew)); exact Kd.R_mono HO118.out (fun _ hk => ⟨hk.1.2, hk.2⟩)), (by (with_reducible repeat (first | apply Kd.R_alloc | apply Kd.R_drewN | apply Kd.R_drew)); exact Kd.R_mono HO121.out (fun _ hk => ⟨hk.2, hk.1⟩)), (by (with_reducible repeat (first | apply Kd.R_alloc | apply Kd.R_drewN | apply Kd.R_drew)); exact Kd.R_mono HO127.out (fun _ hk => ⟨hk.2, hk.1⟩)), (bk_ BK111.out), (bw_ HB.out)⟩)
                 ·skip
                  refine box_step ?hg (N := 9) ?hd (cs := #[.slice none 0 0, .slice none 0 0, .bool false, .bool false, .bool false, .bool false, .slice none 0 0, .slice none 0 0, .int .i64 0]) (t := 28) ?hr ?_; (case hd => rfl); (case hg => rfl); (case hr => first | (go_simp; done) | (go_simp; rfl))
                  intro gb128 hg w29 hbox hb
                  have n0_ := A_ (Kd.R_below (by (with_reducible repeat (first | apply Kd.R_alloc | apply Kd.R_drewN | apply Kd.R_drew)); exact HO121.out) hb)
                  have n1_ := A_ (Kd.R_below (by (with_reducible repeat (first | apply Kd.R_alloc | apply Kd.R_drewN | apply Kd.R_drew)); exact HO127.out) hb)
                  have n2_ := A_ (blk_below (bk_ BK111.out) hb)
                  have n3_ := A_ (below_step (bw_ HB.out) hb)
                  have n4_ := A_ (hbox)
                  have n5_ := A_ ((by rw [hg]; exact (below_size (bw_ HB.out)) : w.heap.size ≤ gb128))
                  have n6_ := A_ ((by rw [hg]; exact (below_size (bw_ HB.out)) : w.heap.size ≤ gb128))
                  have n7_ := A_ ((by rw [hg]; exact Nat.ne_of_lt (blk_lt (bk_ BK111.out)) : gb111 ≠ gb128))
                  have n8_ := A_ ((by rw [hg]; exact Nat.ne_of_gt (blk_lt (bk_ BK111.out)) : gb128 ≠ gb111))
                  clear HO121
                  clear HO127
                  clear BK111
                  clear HB
                  have HO121 := n0_
                  have HO127 := n1_
                  have BK111 := n2_
                  have HB := n3_
                  have BK128 := n4_
                  have GW128 := n5_
                  have GE128 := n6_
                  have GI128 := GeI.mk GE128.out
                  have NB111_128 := n7_
                  have NB128_111 := n8_
                  clear n0_ n1_ n2_ n3_ n4_ n5_ n6_ n7_ n8_
                  clear hb hbox hg
                  refine hK.out _ _ trivial (fun hHeld => ?_)
                  clear hK K
                  refine norm_ (a' := ?_) ?_ ?_
                  rotate_left
                  ·show Act.put _ (some 9) _ = _
                   simp only [Act.put, List.setIfInBounds_toArray, List.set_cons_zero, List.set_cons_succ, i64_w, i32_w]
                   rfl
                  exact norm_ (by first | (simp only [putAll, Act.put, List.setIfInBounds_toArray, List.set_cons_zero, List.set_cons_succ]; done) | (simp only [putAll, Act.put, List.setIfInBounds_toArray, List.set_cons_zero, List.set_cons_succ]; rfl)) (hJ1_2_4_6 (v120, v123, v126, gb128) _ ⟨(by (with_reducible repeat (first | apply Kd.R_alloc | apply Kd.R_drewN | apply Kd.R_drew)); exact HO121.out), (by (with_reducible repeat (first | apply Kd.R_alloc | apply Kd.R_drewN | apply Kd.R_drew)); exact HO127.out), (bk_ BK111.out), (bk_ BK128.out), GW128.out, GE128.out, NB111_128.out, NB128_111.out, (bw_ HB.out)⟩)
               ·skip
                rintro ⟨v117, v123, gb128⟩ w28 ⟨h0_, h1_, h2_, h3_, h4_, h5_, h6_, h7_, h8_⟩
                have n0_ : Aside0 (Kd.R (Kd.int .i64) 3 w28 w.heap.size (fun k_ => some k_ ≠ (v123 : Value).ownBlock) v117 y116) := ⟨h0_⟩
                have n1_ : Aside0 (Kd.R (Kd.int .i64) 3 w28 w.heap.size (fun k_ => some k_ ≠ (v117 : Value).ownBlock) v123 y122) := ⟨h1_⟩
                have n2_ : Aside0 (w28.heap[gb111]? = some (.cells #[.slice none 0 0, .slice none 0 0, .bool false, .bool false, .bool false, .bool false, .slice none 0 0, .slice none 0 0, .int .i64 0] 28 (0, 0))) := ⟨h2_⟩
                have n3_ : Aside0 (w28.heap[gb128]? = some (.cells #[.slice none 0 0, .slice none 0 0, .bool false, .bool false, .bool false, .bool false, .slice none 0 0, .slice none 0 0, .int .i64 0] 28 (0, 0))) := ⟨h3_⟩
                have n4_ : Aside0 (w.heap.size ≤ gb128) := ⟨h4_⟩
                have n5_ : Aside0 (w.heap.size ≤ gb128) := ⟨h5_⟩
                have n6_ : Aside0 (gb111 ≠ gb128) := ⟨h6_⟩
                have n7_ : Aside0 (gb128 ≠ gb111) := ⟨h7_⟩
                have n8_ : Aside0 (Below w.heap.size w w28) := ⟨h8_⟩
                clear BK111
                clear HB
                clear h0_ h1_ h2_ h3_ h4_ h5_ h6_ h7_ h8_
                have HO118 := n0_
                have HO124 := n1_
                have BK111 := n2_
                have BK128 := n3_
                have GW128 := n4_
                have GE128 := n5_
                have GI128 := GeI.mk GE128.out
                have NB111_128 := n6_
                have NB128_111 := n7_
                have HB := n8_
                clear n0_ n1_ n2_ n3_ n4_ n5_ n6_ n7_ n8_
                have hHeld := trivial
                refine norm_ (a' := ?_) ?_ ?_
                rotate_left
                ·simp only [putAll, Act.put, List.setIfInBounds_toArray, List.set_cons_zero, List.set_cons_succ]
                 rfl
                refine two_ (i := 1) (j := 4) (Ni := some 49) (Nj := some 52) #[true, true, true, true, false, false, true, false] #[true, false, true, true, true, false, true, false] rfl rfl rfl rfl (two_of HT_.out (by kernel_rfl)) (by decide) (by decide) (fun K hK => ?_) (fun K hK => ?_)
                ·skip
                 refine Kd.R_make_step (Kd.int .i64) _ 3 (by rfl) (N := 49) rfl 22 _ _ rfl 8 rfl rfl Try.underlying22 (.int .i64 0) 8 info3 rfl (by decide) (by omega) 0 (ok := fun _ => True) (okp := fun _ => True) rfl (fun _ hk => hk) trivial (by omega) (by omega) (Below.refl _ _) (Nat.le_refl _) ?_
                 intro v120 w29 ho30 hb hg_ hnew_
                 clear hg_ hnew_
                 (first | rw [← Ny119.out] at ho30 | (simp only [Int.reduceToNat] at ho30; rw [← Ny119.out] at ho30))
                 have n0_ := A_ (Kd.R_elder' (by (with_reducible repeat (first | apply Kd.R_alloc | apply Kd.R_drewN | apply Kd.R_drew)); exact HO118.out) (Kd.R_base ho30) hb)
                 have n1_ := A_ (Kd.R_elder' (by (with_reducible repeat (first | apply Kd.R_alloc | apply Kd.R_drewN | apply Kd.R_drew)); exact HO124.out) (Kd.R_base ho30) hb)
                 have n2_ := A_ (Kd.R_lower (Kd.R_new' (Kd.R_new' ho30 (Kd.R_lt (by (with_reducible repeat (first | apply Kd.R_alloc | apply Kd.R_drewN | apply Kd.R_drew)); exact HO118.out))) (Kd.R_lt (by (with_reducible repeat (first | apply Kd.R_alloc | apply Kd.R_drewN | apply Kd.R_drew)); exact HO124.out))) (below_size (bw_ HB.out)))
                 have n3_ := A_ (blk_below (bk_ BK111.out) hb)
                 have n4_ := A_ (blk_below (bk_ BK128.out) hb)
                 have n5_ := A_ (below_step (bw_ HB.out) hb)
                 clear HO118
                 clear HO124
                 clear BK111
                 clear BK128
                 clear HB
                 have HO118 := n0_
                 have HO124 := n1_
                 have HO121 := n2_
                 have BK111 := n3_
                 have BK128 := n4_
                 have HB := n5_
                 clear n0_ n1_ n2_ n3_ n4_ n5_
                 clear hb ho30
                 refine hK.out _ _ trivial (fun hHeld => ?_)
                 clear hK K
                 refine norm_ (a' := ?_) ?_ ?_
                 rotate_left
                 ·show Act.put _ (some 49) _ = _
                  simp only [Act.put, List.setIfInBounds_toArray, List.set_cons_zero, List.set_cons_succ, i64_w, i32_w]
                  rfl
                 exact norm_ (by first | (simp only [putAll, Act.put, List.setIfInBounds_toArray, List.set_cons_zero, List.set_cons_succ]; done) | (simp only [putAll, Act.put, List.setIfInBounds_toArray, List.set_cons_zero, List.set_cons_succ]; rfl)) (hJ0_1_2_6 (v117, v120, v123, gb128) _ ⟨(by (with_reducible repeat (first | apply Kd.R_alloc | apply Kd.R_drewN | apply Kd.R_drew)); exact Kd.R_mono HO118.out (fun _ hk => ⟨hk.2, hk.1⟩)), (by (with_reducible repeat (first | apply Kd.R_alloc | apply Kd.R_drewN | apply Kd.R_drew)); exact Kd.R_mono HO121.out (fun _ hk => ⟨hk.1.2, hk.2⟩)), (by (with_reducible repeat (first | apply Kd.R_alloc | apply Kd.R_drewN | apply Kd.R_drew)); exact HO124.out), (bk_ BK111.out), (bk_ BK128.out), GW128.out, GE128.out, NB111_128.out, NB128_111.out, (bw_ HB.out)⟩)
                ·skip
                 refine Kd.R_append_rows_step (Kd.int .i64) (w0 := w) w.heap.size (by rfl) (.tmp 50) (.tmp 51) 22 3 (.int .i64 0) 8 rfl Try.underlying22 info3 rfl (by decide) (by omega) v123 y122 l3 _ _ _ (fun k_ => some k_ ≠ (v117 : Value).ownBlock) (fun _ => False) rfl rfl ?aO ?aR (fun _ _ h => h) (fun _ h => h.elim) ?aF ?aB ?aS ?aL ?_
                 (case aR => repeat (first | exact (Kd.C_below HR3.out HB.out) | (with_reducible refine Kd.C_alloc ?_ _) | (with_reducible refine Kd.C_drewN ?_ _) | (with_reducible refine Kd.C_drew ?_)))
                 (case aB => exact (bw_ HB.out))
                 (case aF => exact (fun k_ hk => Kd.fresh' (Kd.R_lt (by (with_reducible repeat (first | apply Kd.R_alloc | apply Kd.R_drewN | apply Kd.R_drew)); exact HO118.out)) k_ hk))
                 (case aO => exact (by (with_reducible repeat (first | apply Kd.R_alloc | apply Kd.R_drewN | apply Kd.R_drew)); exact HO124.out))
                 (case aS => exact (below_size (bw_ HB.out)))
                 (case aL => have := LMc21.out; omega)
                 intro v126 w29 ho hb hg hat
                 rw [← Ny125.out] at ho
                 have n0_ := A_ (blk_grown (bk_ BK111.out) hg (Kd.R_ne HO124.out BK111.out (by decide)))
                 have n1_ := A_ (Kd.R_after (ok := (fun _ => True)) (by (with_reducible repeat (first | apply Kd.R_alloc | apply Kd.R_drewN | apply Kd.R_drew)); exact Kd.R_mono HO118.out (fun _ hk => ⟨trivial, hk⟩)) hg hat)
                 have n2_ := A_ (blk_grown (bk_ BK128.out) hg (Kd.R_ne HO124.out BK128.out (by decide)))
                 have n3_ := A_ (hb)
                 have n4_ := A_ (ho)
                 clear BK111
                 clear HO118
                 clear BK128
                 clear HB
                 clear HO124
                 have BK111 := n0_
                 have HO118 := n1_
                 have BK128 := n2_
                 have HB := n3_
                 have HO127 := n4_
                 clear n0_ n1_ n2_ n3_ n4_
                 clear ho hb hg hat
                 refine hK.out _ _ trivial (fun hHeld => ?_)
                 clear hK K
                 refine norm_ (a' := ?_) ?_ ?_
                 rotate_left
                 ·show Act.put _ (some 52) _ = _
                  simp only [Act.put, List.setIfInBounds_toArray, List.set_cons_zero, List.set_cons_succ, i64_w, i32_w]
                  rfl
                 exact norm_ (by first | (simp only [putAll, Act.put, List.setIfInBounds_toArray, List.set_cons_zero, List.set_cons_succ]; done) | (simp only [putAll, Act.put, List.setIfInBounds_toArray, List.set_cons_zero, List.set_cons_succ]; rfl)) (hJ0_2_4_6 (v117, v123, v126, gb128) _ ⟨(by (with_reducible repeat (first | apply Kd.R_alloc | apply Kd.R_drewN | apply Kd.R_drew)); exact Kd.R_mono HO118.out (fun _ hk => hk.2)), (by (with_reducible repeat (first | apply Kd.R_alloc | apply Kd.R_drewN | apply Kd.R_drew)); exact HO127.out), (bk_ BK111.out), (bk_ BK128.out), GW128.out, GE128.out, NB111_128.out, NB128_111.out, (bw_ HB.out)⟩)
              ·skip
               rintro ⟨v117, v123, v126⟩ w28 ⟨h0_, h1_, h2_, h3_⟩
               have n0_ : Aside0 (Kd.R (Kd.int .i64) 3 w28 w.heap.size (fun k_ => some k_ ≠ (v126 : Value).ownBlock) v117 y116) := ⟨h0_⟩
               have n1_ : Aside0 (Kd.R (Kd.int .i64) 3 w28 w.heap.size (fun k_ => some k_ ≠ (v117 : Value).ownBlock) v126 y125) := ⟨h1_⟩
               have n2_ : Aside0 (w28.heap[gb111]? = some (.cells #[.slice none 0 0, .slice none 0 0, .bool false, .bool false, .bool false, .bool false, .slice none 0 0, .slice none 0 0, .int .i64 0] 28 (0, 0))) := ⟨h2_⟩
               have n3_ : Aside0 (Below w.heap.size w w28) := ⟨h3_⟩
               clear BK111
               clear HB
               clear h0_ h1_ h2_ h3_
               have HO118 := n0_
               have HO127 := n1_
               have BK111 := n2_
               have HB := n3_
               clear n0_ n1_ n2_ n3_
               have hHeld := trivial
               refine norm_ (a' := ?_) ?_ ?_
               rotate_left
               ·simp only [putAll, Act.put, List.setIfInBounds_toArray, List.set_cons_zero, List.set_cons_succ]
                rfl
               refine two_ (i := 1) (j := 6) (Ni := some 49) (Nj := some 9) #[true, true, true, true, true, false, false, false] #[true, false, true, true, true, false, true, false] rfl rfl rfl rfl (two_of HT_.out (by kernel_rfl)) (by decide) (by decide) (fun K hK => ?_) (fun K hK => ?_)
               ·skip
                refine Kd.R_make_step (Kd.int .i64) _ 3 (by rfl) (N := 49) rfl 22 _ _ rfl 8 rfl rfl Try.underlying22 (.int .i64 0) 8 info3 rfl (by decide) (by omega) 0 (ok := fun _ => True) (okp := fun _ => True) rfl (fun _ hk => hk) trivial (by omega) (by omega) (Below.refl _ _) (Nat.le_refl _) ?_
                intro v120 w29 ho30 hb hg_ hnew_
                clear hg_ hnew_
                (first | rw [← Ny119.out] at ho30 | (simp only [Int.reduceToNat] at ho30; rw [← Ny119.out] at ho30))
                have n0_ := A_ (Kd.R_elder' (by (with_reducible repeat (first | apply Kd.R_alloc | apply Kd.R_drewN | apply Kd.R_drew)); exact HO118.out) (Kd.R_base ho30) hb)
                have n1_ := A_ (Kd.R_elder' (by (with_reducible repeat (first | apply Kd.R_alloc | apply Kd.R_drewN | apply Kd.R_drew)); exact HO127.out) (Kd.R_base ho30) hb)
                have n2_ := A_ (Kd.R_lower (Kd.R_new' (Kd.R_new' ho30 (Kd.R_lt (by (with_reducible repeat (first | apply Kd.R_alloc | apply Kd.R_drewN | apply Kd.R_drew)); exact HO118.out))) (Kd.R_lt (by (with_reducible repeat (first | apply Kd.R_alloc | apply Kd.R_drewN | apply Kd.R_drew)); exact HO127.out))) (below_size (bw_ HB.out)))
                have n3_ := A_ (blk_below (bk_ BK111.out) hb)
                have n4_ := A_ (below_step (bw_ HB.out) hb)
                clear HO118
                clear HO127
                clear BK111
                clear HB
                have HO118 := n0_
                have HO127 := n1_
                have HO121 := n2_
                have BK111 := n3_
                have HB := n4_
                clear n0_ n1_ n2_ n3_ n4_
                clear hb ho30
                obtain ⟨Ao31, co31, eo31⟩ := Kd.R_slice HO127.out
                (first | subst eo31 | (injection eo31 with f1_ f2_ f3_; have f4_ := f1_.symm; have f5_ := f3_.symm; clear f1_ f2_ f3_; subst f4_; subst f5_))
                obtain ⟨Ao32, co32, eo32⟩ := Kd.R_slice HO121.out
                (first | subst eo32 | (injection eo32 with f1_ f2_ f3_; have f4_ := f1_.symm; have f5_ := f3_.symm; clear f1_ f2_ f3_; subst f4_; subst f5_))
                obtain ⟨Ao33, co33, eo33⟩ := Kd.R_slice HO118.out
                (first | subst eo33 | (injection eo33 with f1_ f2_ f3_; have f4_ := f1_.symm; have f5_ := f3_.symm; clear f1_ f2_ f3_; subst f4_; subst f5_))
                refine hK.out _ _ trivial (fun hHeld => ?_)
                clear hK K
                refine norm_ (a' := ?_) ?_ ?_
                rotate_left
                ·show Act.put _ (some 49) _ = _
                 simp only [Act.put, List.setIfInBounds_toArray, List.set_cons_zero, List.set_cons_succ, i64_w, i32_w]
                 rfl
                refine pure_ (i := 5) (N := some 53) (v := ?_) (a' := ?_) #[true, true, true, true, true, true, false, false] rfl rfl (any_of HT_.out (by kernel_rfl)) (fun _ _ _ h => h) (Or.inl ⟨by rfl, ?_⟩) ?_ ?_
                rotate_left
                ·intro w'
                 go_simp
                 with_reducible rfl
                rotate_left
                ·simp only [Act.put, List.setIfInBounds_toArray, List.set_cons_zero, List.set_cons_succ, i64_w, i32_w]
                 rfl
                exact norm_ (by first | (simp only [putAll, Act.put, List.setIfInBounds_toArray, List.set_cons_zero, List.set_cons_succ]; done) | (simp only [putAll, Act.put, List.setIfInBounds_toArray, List.set_cons_zero, List.set_cons_succ]; rfl)) (hJ0_1_2_4 (.slice Ao33 y116.length co33, .slice Ao32 y119.length co32, v123, .slice Ao31 y125.length co31) _ ⟨(by (with_reducible repeat (first | apply Kd.R_alloc | apply Kd.R_drewN | apply Kd.R_drew)); exact Kd.R_mono HO118.out (fun _ hk => ⟨hk.2, hk.1⟩)), (by (with_reducible repeat (first | apply Kd.R_alloc | apply Kd.R_drewN | apply Kd.R_drew)); exact Kd.R_mono HO121.out (fun _ hk => ⟨hk.1.2, hk.2⟩)), (by (with_reducible repeat (first | apply Kd.R_alloc | apply Kd.R_drewN | apply Kd.R_drew)); exact HO127.out), (bk_ BK111.out), (bw_ HB.out)⟩)
               ·skip
                refine box_step ?hg (N := 9) ?hd (cs := #[.slice none 0 0, .slice none 0 0, .bool false, .bool false, .bool false, .bool false, .slice none 0 0, .slice none 0 0, .int .i64 0]) (t := 28) ?hr ?_; (case hd => rfl); (case hg => rfl); (case hr => first | (go_simp; done) | (go_simp; rfl))
                intro gb128 hg w29 hbox hb
                have n0_ := A_ (Kd.R_below (by (with_reducible repeat (first | apply Kd.R_alloc | apply Kd.R_drewN | apply Kd.R_drew)); exact HO118.out) hb)
                have n1_ := A_ (Kd.R_below (by (with_reducible repeat (first | apply Kd.R_alloc | apply Kd.R_drewN | apply Kd.R_drew)); exact HO127.out) hb)
                have n2_ := A_ (blk_below (bk_ BK111.out) hb)
                have n3_ := A_ (below_step (bw_ HB.out) hb)
                have n4_ := A_ (hbox)
                have n5_ := A_ ((by rw [hg]; exact (below_size (bw_ HB.out)) : w.heap.size ≤ gb128))
                have n6_ := A_ ((by rw [hg]; exact (below_size (bw_ HB.out)) : w.heap.size ≤ gb128))
                have n7_ := A_ ((by rw [hg]; exact Nat.ne_of_lt (blk_lt (bk_ BK111.out)) : gb111 ≠ gb128))
                have n8_ := A_ ((by rw [hg]; exact Nat.ne_of_gt (blk_lt (bk_ BK111.out)) : gb128 ≠ gb111))
                clear HO118
                clear HO127
                clear BK111
                clear HB
                have HO118 := n0_
                have HO127 := n1_
                have BK111 := n2_
                have HB := n3_
                have BK128 := n4_
                have GW128 := n5_
                have GE128 := n6_
                have GI128 := GeI.mk GE128.out
                have NB111_128 := n7_
                have NB128_111 := n8_
                clear n0_ n1_ n2_ n3_ n4_ n5_ n6_ n7_ n8_
                clear hb hbox hg
                refine hK.out _ _ trivial (fun hHeld => ?_)
                clear hK K
                refine norm_ (a' := ?_) ?_ ?_
                rotate_left
                ·show Act.put _ (some 9) _ = _
                 simp only [Act.put, List.setIfInBounds_toArray, List.set_cons_zero, List.set_cons_succ, i64_w, i32_w]
                 rfl
                exact norm_ (by first | (simp only [putAll, Act.put, List.setIfInBounds_toArray, List.set_cons_zero, List.set_cons_succ]; done) | (simp only [putAll, Act.put, List.setIfInBounds_toArray, List.set_cons_zero, List.set_cons_succ]; rfl)) (hJ0_2_4_6 (v117, v123, v126, gb128) _ ⟨(by (with_reducible repeat (first | apply Kd.R_alloc | apply Kd.R_drewN | apply Kd.R_drew)); exact HO118.out), (by (with_reducible repeat (first | apply Kd.R_alloc | apply Kd.R_drewN | apply Kd.R_drew)); exact HO127.out), (bk_ BK111.out), (bk_ BK128.out), GW128.out, GE128.out, NB111_128.out, NB128_111.out, (bw_ HB.out)⟩)
             ·skip
              rintro ⟨v117, v120, gb128⟩ w28 ⟨h0_, h1_, h2_, h3_, h4_, h5_, h6_, h7_, h8_⟩
              have n0_ : Aside0 (Kd.R (Kd.int .i64) 3 w28 w.heap.size (fun k_ => some k_ ≠ (v120 : Value).ownBlock) v117 y116) := ⟨h0_⟩
              have n1_ : Aside0 (Kd.R (Kd.int .i64) 3 w28 w.heap.size (fun k_ => some k_ ≠ (v117 : Value).ownBlock) v120 y119) := ⟨h1_⟩
              have n2_ : Aside0 (w28.heap[gb111]? = some (.cells #[.slice none 0 0, .slice none 0 0, .bool false, .bool false, .bool false, .bool false, .slice none 0 0, .slice none 0 0, .int .i64 0] 28 (0, 0))) := ⟨h2_⟩
              have n3_ : Aside0 (w28.heap[gb128]? = some (.cells #[.slice none 0 0, .slice none 0 0, .bool false, .bool false, .bool false, .bool false, .slice none 0 0, .slice none 0 0, .int .i64 0] 28 (0, 0))) := ⟨h3_⟩
              have n4_ : Aside0 (w.heap.size ≤ gb128) := ⟨h4_⟩
              have n5_ : Aside0 (w.heap.size ≤ gb128) := ⟨h5_⟩
              have n6_ : Aside0 (gb111 ≠ gb128) := ⟨h6_⟩
              have n7_ : Aside0 (gb128 ≠ gb111) := ⟨h7_⟩
              have n8_ : Aside0 (Below w.heap.size w w28) := ⟨h8_⟩
              clear BK111
              clear HB
              clear h0_ h1_ h2_ h3_ h4_ h5_ h6_ h7_ h8_
              have HO118 := n0_
              have HO121 := n1_
              have BK111 := n2_
              have BK128 := n3_
              have GW128 := n4_
              have GE128 := n5_
              have GI128 := GeI.mk GE128.out
              have NB111_128 := n6_
              have NB128_111 := n7_
              have HB := n8_
              clear n0_ n1_ n2_ n3_ n4_ n5_ n6_ n7_ n8_
              have hHeld := trivial
              refine norm_ (a' := ?_) ?_ ?_
              rotate_left
              ·simp only [putAll, Act.put, List.setIfInBounds_toArray, List.set_cons_zero, List.set_cons_succ]
               rfl
              refine one_ (i := 2) (N := some 50) #[true, true, true, true, false, false, true, false] rfl rfl (one_of HT_.out (by kernel_rfl)) (by decide) (fun K hK => ?_)
              refine Kd.R_lit_step (Kd.int .i64) _ 3 ?hg (N := 50) ?hd (xs := ([] : List Int)) (inner := []) (ok := fun _ => True) (okp := fun _ => True) ?hr ?hp (fun _ hk => hk) trivial (Below.refl _ _) (Nat.le_refl _) (by simp) ?_; (case hd => rfl); (case hg => rfl); (case hr => first | (go_simp; done) | (go_simp; rfl)); (case hp => exact (Reps.none _ _))
              intro v123 w29 ho30 hb hg_ hnew_
              clear hg_ hnew_
              (first | rw [← Ny122.out] at ho30 | (simp only [Int.reduceToNat] at ho30; rw [← Ny122.out] at ho30))
              have n0_ := A_ (Kd.R_elder' (by (with_reducible repeat (first | apply Kd.R_alloc | apply Kd.R_drewN | apply Kd.R_drew)); exact HO118.out) (Kd.R_base ho30) hb)
              have n1_ := A_ (Kd.R_elder' (by (with_reducible repeat (first | apply Kd.R_alloc | apply Kd.R_drewN | apply Kd.R_drew)); exact HO121.out) (Kd.R_base ho30) hb)
              have n2_ := A_ (Kd.R_lower (Kd.R_new' (Kd.R_new' ho30 (Kd.R_lt (by (with_reducible repeat (first | apply Kd.R_alloc | apply Kd.R_drewN | apply Kd.R_drew)); exact HO118.out))) (Kd.R_lt (by (with_reducible repeat (first | apply Kd.R_alloc | apply Kd.R_drewN | apply Kd.R_drew)); exact HO121.out))) (below_size (bw_ HB.out)))
              have n3_ := A_ (blk_below (bk_ BK111.out) hb)
              have n4_ := A_ (blk_below (bk_ BK128.out) hb)
              have n5_ := A_ (below_step (bw_ HB.out) hb)
              clear HO118
              clear HO121
              clear BK111
              clear BK128
              clear HB
              have HO118 := n0_
              have HO121 := n1_
              have HO124 := n2_
              have BK111 := n3_
              have BK128 := n4_
              have HB := n5_
              clear n0_ n1_ n2_ n3_ n4_ n5_
              clear hb ho30
              refine hK.out _ _ trivial (fun hHeld => ?_)
              clear hK K
              refine norm_ (a' := ?_) ?_ ?_
              rotate_left
              ·show Act.put _ (some 50) _ = _
               simp only [Act.put, List.setIfInBounds_toArray, List.set_cons_zero, List.set_cons_succ, i64_w, i32_w]
               rfl
              exact norm_ (by first | (simp only [putAll, Act.put, List.setIfInBounds_toArray, List.set_cons_zero, List.set_cons_succ]; done) | (simp only [putAll, Act.put, List.setIfInBounds_toArray, List.set_cons_zero, List.set_cons_succ]; rfl)) (hJ0_1_2_6 (v117, v120, v123, gb128) _ ⟨(by (with_reducible repeat (first | apply Kd.R_alloc | apply Kd.R_drewN | apply Kd.R_drew)); exact HO118.out), (by (with_reducible repeat (first | apply Kd.R_alloc | apply Kd.R_drewN | apply Kd.R_drew)); exact HO121.out), (by (with_reducible repeat (first | apply Kd.R_alloc | apply Kd.R_drewN | apply Kd.R_drew)); exact Kd.R_mono HO124.out (fun _ hk => ⟨hk.1.2, hk.2⟩)), (bk_ BK111.out), (bk_ BK128.out), GW128.out, GE128.out, NB111_128.out, NB128_111.out, (bw_ HB.out)⟩)
            ·skip
             rintro ⟨v117, v120, v123⟩ w29 ⟨h0_, h1_, h2_, h3_, h4_⟩
             have n0_ : Aside0 (Kd.R (Kd.int .i64) 3 w29 w.heap.size (fun k_ => some k_ ≠ (v120 : Value).ownBlock ∧ some k_ ≠ (v123 : Value).ownBlock) v117 y116) := ⟨h0_⟩
             have n1_ : Aside0 (Kd.R (Kd.int .i64) 3 w29 w.heap.size (fun k_ => some k_ ≠ (v117 : Value).ownBlock ∧ some k_ ≠ (v123 : Value).ownBlock) v120 y119) := ⟨h1_⟩
             have n2_ : Aside0 (Kd.R (Kd.int .i64) 3 w29 w.heap.size (fun k_ => some k_ ≠ (v117 : Value).ownBlock ∧ some k_ ≠ (v120 : Value).ownBlock) v123 y122) := ⟨h2_⟩
             have n3_ : Aside0 (w29.heap[gb111]? = some (.cells #[.slice none 0 0, .slice none 0 0, .bool false, .bool false, .bool false, .bool false, .slice none 0 0, .slice none 0 0, .int .i64 0] 28 (0, 0))) := ⟨h3_⟩
             have n4_ : Aside0 (Below w.heap.size w w29) := ⟨h4_⟩
             clear BK111
             clear HB
             clear h0_ h1_ h2_ h3_ h4_
             have HO118 := n0_
             have HO121 := n1_
             have HO124 := n2_
             have BK111 := n3_
             have HB := n4_
             clear n0_ n1_ n2_ n3_ n4_
             have hHeld := trivial
             refine norm_ (a' := ?_) ?_ ?_
             rotate_left
             ·simp only [putAll, Act.put, List.setIfInBounds_toArray, List.set_cons_zero, List.set_cons_succ]
              rfl
             refine two_ (i := 4) (j := 6) (Ni := some 52) (Nj := some 9) #[true, true, true, true, true, false, false, false] #[true, true, true, true, false, false, true, false] rfl rfl rfl rfl (two_of HT_.out (by kernel_rfl)) (by decide) (by decide) (fun K hK => ?_) (fun K hK => ?_)
             ·skip
              refine Kd.R_append_rows_step (Kd.int .i64) (w0 := w) w.heap.size (by rfl) (.tmp 50) (.tmp 51) 22 3 (.int .i64 0) 8 rfl Try.underlying22 info3 rfl (by decide) (by omega) v123 y122 l3 _ _ _ (fun k_ => some k_ ≠ (v117 : Value).ownBlock ∧ some k_ ≠ (v120 : Value).ownBlock) (fun _ => False) rfl rfl ?aO ?aR (fun _ _ h => h) (fun _ h => h.elim) ?aF ?aB ?aS ?aL ?_
              (case aR => repeat (first | exact (Kd.C_below HR3.out HB.out) | (with_reducible refine Kd.C_alloc ?_ _) | (with_reducible refine Kd.C_drewN ?_ _) | (with_reducible refine Kd.C_drew ?_)))
              (case aB => exact (bw_ HB.out))
              (case aF => exact (fun k_ hk => ⟨Kd.fresh' (Kd.R_lt (by (with_reducible repeat (first | apply Kd.R_alloc | apply Kd.R_drewN | apply Kd.R_drew)); exact HO118.out)) k_ hk, Kd.fresh' (Kd.R_lt (by (with_reducible repeat (first | apply Kd.R_alloc | apply Kd.R_drewN | apply Kd.R_drew)); exact HO121.out)) k_ hk⟩))
              (case aO => exact (by (with_reducible repeat (first | apply Kd.R_alloc | apply Kd.R_drewN | apply Kd.R_drew)); exact HO124.out))
              (case aS => exact (below_size (bw_ HB.out)))
              (case aL => have := LMc21.out; omega)
              intro v126 w30 ho hb hg hat
              rw [← Ny125.out] at ho
              have n0_ := A_ (blk_grown (bk_ BK111.out) hg (Kd.R_ne HO124.out BK111.out (by decide)))
              have n1_ := A_ (Kd.R_after (ok := (fun k_ => some k_ ≠ (v120 : Value).ownBlock)) (by (with_reducible repeat (first | apply Kd.R_alloc | apply Kd.R_drewN | apply Kd.R_drew)); exact HO118.out) hg hat)
              have n2_ := A_ (Kd.R_after (ok := (fun k_ => some k_ ≠ (v117 : Value).ownBlock)) (by (with_reducible repeat (first | apply Kd.R_alloc | apply Kd.R_drewN | apply Kd.R_drew)); exact HO121.out) hg hat)
              have n3_ := A_ (hb)
              have n4_ := A_ (ho)
              clear BK111
              clear HO118
              clear HO121
              clear HB
              clear HO124
              have BK111 := n0_
              have HO118 := n1_
              have HO121 := n2_
              have HB := n3_
              have HO127 := n4_
              clear n0_ n1_ n2_ n3_ n4_
              clear ho hb hg hat
              obtain ⟨Ao31, co31, eo31⟩ := Kd.R_slice HO127.out
              (first | subst eo31 | (injection eo31 with f1_ f2_ f3_; have f4_ := f1_.symm; have f5_ := f3_.symm; clear f1_ f2_ f3_; subst f4_; subst f5_))
              obtain ⟨Ao32, co32, eo32⟩ := Kd.R_slice HO121.out
              (first | subst eo32 | (injection eo32 with f1_ f2_ f3_; have f4_ := f1_.symm; have f5_ := f3_.symm; clear f1_ f2_ f3_; subst f4_; subst f5_))
              obtain ⟨Ao33, co33, eo33⟩ := Kd.R_slice HO118.out
              (first | subst eo33 | (injection eo33 with f1_ f2_ f3_; have f4_ := f1_.symm; have f5_ := f3_.symm; clear f1_ f2_ f3_; subst f4_; subst f5_))
              refine hK.out _ _ trivial (fun hHeld => ?_)
              clear hK K
              refine norm_ (a' := ?_) ?_ ?_
              rotate_left
              ·show Act.put _ (some 52) _ = _
               simp only [Act.put, List.setIfInBounds_toArray, List.set_cons_zero, List.set_cons_succ, i64_w, i32_w]
               rfl
              refine pure_ (i := 5) (N := some 53) (v := ?_) (a' := ?_) #[true, true, true, true, true, true, false, false] rfl rfl (any_of HT_.out (by kernel_rfl)) (fun _ _ _ h => h) (Or.inl ⟨by rfl, ?_⟩) ?_ ?_
              rotate_left
              ·intro w'
               go_simp
               with_reducible rfl
              rotate_left
              ·simp only [Act.put, List.setIfInBounds_toArray, List.set_cons_zero, List.set_cons_succ, i64_w, i32_w]
               rfl
              exact norm_ (by first | (simp only [putAll, Act.put, List.setIfInBounds_toArray, List.set_cons_zero, List.set_cons_succ]; done) | (simp only [putAll, Act.put, List.setIfInBounds_toArray, List.set_cons_zero, List.set_cons_succ]; rfl)) (hJ0_1_2_4 (.slice Ao33 y116.length co33, .slice Ao32 y119.length co32, v123, .slice Ao31 y125.length co31) _ ⟨(by (with_reducible repeat (first | apply Kd.R_alloc | apply Kd.R_drewN | apply Kd.R_drew)); exact HO118.out), (by (with_reducible repeat (first | apply Kd.R_alloc | apply Kd.R_drewN | apply Kd.R_drew)); exact HO121.out), (by (with_reducible repeat (first | apply Kd.R_alloc | apply Kd.R_drewN | apply Kd.R_drew)); exact HO127.out), (bk_ BK111.out), (bw_ HB.out)⟩)
             ·skip
              refine box_step ?hg (N := 9) ?hd (cs := #[.slice none 0 0, .slice none 0 0, .bool false, .bool false, .bool false, .bool false, .slice none 0 0, .slice none 0 0, .int .i64 0]) (t := 28) ?hr ?_; (case hd => rfl); (case hg => rfl); (case hr => first | (go_simp; done) | (go_simp; rfl))
              intro gb128 hg w30 hbox hb
              have n0_ := A_ (Kd.R_below (by (with_reducible repeat (first | apply Kd.R_alloc | apply Kd.R_drewN | apply Kd.R_drew)); exact HO118.out) hb)
              have n1_ := A_ (Kd.R_below (by (with_reducible repeat (first | apply Kd.R_alloc | apply Kd.R_drewN | apply Kd.R_drew)); exact HO121.out) hb)
              have n2_ := A_ (Kd.R_below (by (with_reducible repeat (first | apply Kd.R_alloc | apply Kd.R_drewN | apply Kd.R_drew)); exact HO124.out) hb)
              have n3_ := A_ (blk_below (bk_ BK111.out) hb)
              have n4_ := A_ (below_step (bw_ HB.out) hb)
              have n5_ := A_ (hbox)
              have n6_ := A_ ((by rw [hg]; exact (below_size (bw_ HB.out)) : w.heap.size ≤ gb128))
              have n7_ := A_ ((by rw [hg]; exact (below_size (bw_ HB.out)) : w.heap.size ≤ gb128))
              have n8_ := A_ ((by rw [hg]; exact Nat.ne_of_lt (blk_lt (bk_ BK111.out)) : gb111 ≠ gb128))
              have n9_ := A_ ((by rw [hg]; exact Nat.ne_of_gt (blk_lt (bk_ BK111.out)) : gb128 ≠ gb111))
              clear HO118
              clear HO121
              clear HO124
              clear BK111
              clear HB
              have HO118 := n0_
              have HO121 := n1_
              have HO124 := n2_
              have BK111 := n3_
              have HB := n4_
              have BK128 := n5_
              have GW128 := n6_
              have GE128 := n7_
              have GI128 := GeI.mk GE128.out
              have NB111_128 := n8_
              have NB128_111 := n9_
              clear n0_ n1_ n2_ n3_ n4_ n5_ n6_ n7_ n8_ n9_
              clear hb hbox hg
              refine hK.out _ _ trivial (fun hHeld => ?_)
              clear hK K
              refine norm_ (a' := ?_) ?_ ?_
              rotate_left
              ·show Act.put _ (some 9) _ = _
               simp only [Act.put, List.setIfInBounds_toArray, List.set_cons_zero, List.set_cons_succ, i64_w, i32_w]
               rfl
              exact norm_ (by first | (simp only [putAll, Act.put, List.setIfInBounds_toArray, List.set_cons_zero, List.set_cons_succ]; done) | (simp only [putAll, Act.put, List.setIfInBounds_toArray, List.set_cons_zero, List.set_cons_succ]; rfl)) (hJ0_1_2_6 (v117, v120, v123, gb128) _ ⟨(by (with_reducible repeat (first | apply Kd.R_alloc | apply Kd.R_drewN | apply Kd.R_drew)); exact HO118.out), (by (with_reducible repeat (first | apply Kd.R_alloc | apply Kd.R_drewN | apply Kd.R_drew)); exact HO121.out), (by (with_reducible repeat (first | apply Kd.R_alloc | apply Kd.R_drewN | apply Kd.R_drew)); exact HO124.out), (bk_ BK111.out), (bk_ BK128.out), GW128.out, GE128.out, NB111_128.out, NB128_111.out, (bw_ HB.out)⟩)
           ·skip
            rintro ⟨v120, v123, v126, gb128⟩ w29 ⟨h0_, h1_, h2_, h3_, h4_, h5_, h6_, h7_, h8_⟩
            have n0_ : Aside0 (Kd.R (Kd.int .i64) 3 w29 w.heap.size (fun k_ => some k_ ≠ (v126 : Value).ownBlock) v120 y119) := ⟨h0_⟩
            have n1_ : Aside0 (Kd.R (Kd.int .i64) 3 w29 w.heap.size (fun k_ => some k_ ≠ (v120 : Value).ownBlock) v126 y125) := ⟨h1_⟩
            have n2_ : Aside0 (w29.heap[gb111]? = some (.cells #[.slice none 0 0, .slice none 0 0, .bool false, .bool false, .bool false, .bool false, .slice none 0 0, .slice none 0 0, .int .i64 0] 28 (0, 0))) := ⟨h2_⟩
            have n3_ : Aside0 (w29.heap[gb128]? = some (.cells #[.slice none 0 0, .slice none 0 0, .bool false, .bool false, .bool false, .bool false, .slice none 0 0, .slice none 0 0, .int .i64 0] 28 (0, 0))) := ⟨h3_⟩
            have n4_ : Aside0 (w.heap.size ≤ gb128) := ⟨h4_⟩
            have n5_ : Aside0 (w.heap.size ≤ gb128) := ⟨h5_⟩
            have n6_ : Aside0 (gb111 ≠ gb128) := ⟨h6_⟩
            have n7_ : Aside0 (gb128 ≠ gb111) := ⟨h7_⟩
            have n8_ : Aside0 (Below w.heap.size w w29) := ⟨h8_⟩
            clear BK111
            clear HB
            clear h0_ h1_ h2_ h3_ h4_ h5_ h6_ h7_ h8_
            have HO121 := n0_
            have HO127 := n1_
            have BK111 := n2_
            have BK128 := n3_
            have GW128 := n4_
            have GE128 := n5_
            have GI128 := GeI.mk GE128.out
            have NB111_128 := n6_
            have NB128_111 := n7_
            have HB := n8_
            clear n0_ n1_ n2_ n3_ n4_ n5_ n6_ n7_ n8_
            have hHeld := trivial
            refine norm_ (a' := ?_) ?_ ?_
            rotate_left
            ·simp only [putAll, Act.put, List.setIfInBounds_toArray, List.set_cons_zero, List.set_cons_succ]
             rfl
            refine one_ (i := 0) (N := some 48) #[true, true, true, true, true, false, true, false] rfl rfl (one_of HT_.out (by kernel_rfl)) (by decide) (fun K hK => ?_)
            refine Kd.R_make_step (Kd.int .i64) _ 3 (by rfl) (N := 48) rfl 22 _ _ rfl 256 rfl rfl Try.underlying22 (.int .i64 0) 8 info3 rfl (by decide) (by omega) 0 (ok := fun _ => True) (okp := fun _ => True) rfl (fun _ hk => hk) trivial (by omega) (by omega) (Below.refl _ _) (Nat.le_refl _) ?_
            intro v117 w30 ho31 hb hg_ hnew_
            clear hg_ hnew_
            (first | rw [← Ny116.out] at ho31 | (simp only [Int.reduceToNat] at ho31; rw [← Ny116.out] at ho31))
            have n0_ := A_ (Kd.R_elder' (by (with_reducible repeat (first | apply Kd.R_alloc | apply Kd.R_drewN | apply Kd.R_drew)); exact HO121.out) (Kd.R_base ho31) hb)
            have n1_ := A_ (Kd.R_elder' (by (with_reducible repeat (first | apply Kd.R_alloc | apply Kd.R_drewN | apply Kd.R_drew)); exact HO127.out) (Kd.R_base ho31) hb)
            have n2_ := A_ (Kd.R_lower (Kd.R_new' (Kd.R_new' ho31 (Kd.R_lt (by (with_reducible repeat (first | apply Kd.R_alloc | apply Kd.R_drewN | apply Kd.R_drew)); exact HO121.out))) (Kd.R_lt (by (with_reducible repeat (first | apply Kd.R_alloc | apply Kd.R_drewN | apply Kd.R_drew)); exact HO127.out))) (below_size (bw_ HB.out)))
            have n3_ := A_ (blk_below (bk_ BK111.out) hb)
            have n4_ := A_ (blk_below (bk_ BK128.out) hb)
            have n5_ := A_ (below_step (bw_ HB.out) hb)
            clear HO121
            clear HO127
            clear BK111
            clear BK128
            clear HB
            have HO121 := n0_
            have HO127 := n1_
            have HO118 := n2_
            have BK111 := n3_
            have BK128 := n4_
            have HB := n5_
            clear n0_ n1_ n2_ n3_ n4_ n5_
            clear hb ho31
            obtain ⟨Ao32, co32, eo32⟩ := Kd.R_slice HO127.out
            (first | subst eo32 | (injection eo32 with f1_ f2_ f3_; have f4_ := f1_.symm; have f5_ := f3_.symm; clear f1_ f2_ f3_; subst f4_; subst f5_))
            obtain ⟨Ao33, co33, eo33⟩ := Kd.R_slice HO121.out
            (first | subst eo33 | (injection eo33 with f1_ f2_ f3_; have f4_ := f1_.symm; have f5_ := f3_.symm; clear f1_ f2_ f3_; subst f4_; subst f5_))
            obtain ⟨Ao34, co34, eo34⟩ := Kd.R_slice HO118.out
            (first | subst eo34 | (injection eo34 with f1_ f2_ f3_; have f4_ := f1_.symm; have f5_ := f3_.symm; clear f1_ f2_ f3_; subst f4_; subst f5_))
            refine hK.out _ _ trivial (fun hHeld => ?_)
            clear hK K
            refine norm_ (a' := ?_) ?_ ?_
            rotate_left
            ·show Act.put _ (some 48) _ = _
             simp only [Act.put, List.setIfInBounds_toArray, List.set_cons_zero, List.set_cons_succ, i64_w, i32_w]
             rfl
            refine pure_ (i := 5) (N := some 53) (v := ?_) (a' := ?_) #[true, true, true, true, true, true, true, false] rfl rfl (any_of HT_.out (by kernel_rfl)) (fun _ _ _ h => h) (Or.inl ⟨by rfl, ?_⟩) ?_ ?_
            rotate_left
            ·intro w'
             go_simp
             with_reducible rfl
            rotate_left
            ·simp only [Act.put, List.setIfInBounds_toArray, List.set_cons_zero, List.set_cons_succ, i64_w, i32_w]
             rfl
            exact norm_ (by first | (simp only [putAll, Act.put, List.setIfInBounds_toArray, List.set_cons_zero, List.set_cons_succ]; done) | (simp only [putAll, Act.put, List.setIfInBounds_toArray, List.set_cons_zero, List.set_cons_succ]; rfl)) (hJ0_1_2_4_6 (.slice Ao34 y116.length co34, .slice Ao33 y119.length co33, v123, .slice Ao32 y125.length co32, gb128) _ ⟨(by (with_reducible repeat (first | apply Kd.R_alloc | apply Kd.R_drewN | apply Kd.R_drew)); exact Kd.R_mono HO118.out (fun _ hk => ⟨hk.1.2, hk.2⟩)), (by (with_reducible repeat (first | apply Kd.R_alloc | apply Kd.R_drewN | apply Kd.R_drew)); exact Kd.R_mono HO121.out (fun _ hk => ⟨hk.2, hk.1⟩)), (by (with_reducible repeat (first | apply Kd.R_alloc | apply Kd.R_drewN | apply Kd.R_drew)); exact Kd.R_mono HO127.out (fun _ hk => ⟨hk.2, hk.1⟩)), (bk_ BK111.out), (bk_ BK128.out), GW128.out, GE128.out, NB111_128.out, NB128_111.out, (bw_ HB.out)⟩)
          ·skip
           rintro ⟨v117, v123, v126, gb128⟩ w29 ⟨h0_, h1_, h2_, h3_, h4_, h5_, h6_, h7_, h8_⟩
           have n0_ : Aside0 (Kd.R (Kd.int .i64) 3 w29 w.heap.size (fun k_ => some k_ ≠ (v126 : Value).ownBlock) v117 y116) := ⟨h0_⟩
           have n1_ : Aside0 (Kd.R (Kd.int .i64) 3 w29 w.heap.size (fun k_ => some k_ ≠ (v117 : Value).ownBlock) v126 y125) := ⟨h1_⟩
           have n2_ : Aside0 (w29.heap[gb111]? = some (.cells #[.slice none 0 0, .slice none 0 0, .bool false, .bool false, .bool false, .bool false, .slice none 0 0, .slice none 0 0, .int .i64 0] 28 (0, 0))) := ⟨h2_⟩
           have n3_ : Aside0 (w29.heap[gb128]? = some (.cells #[.slice none 0 0, .slice none 0 0, .bool false, .bool false, .bool false, .bool false, .slice none 0 0, .slice none 0 0, .int .i64 0] 28 (0, 0))) := ⟨h3_⟩
           have n4_ : Aside0 (w.heap.size ≤ gb128) := ⟨h4_⟩
           have n5_ : Aside0 (w.heap.size ≤ gb128) := ⟨h5_⟩
           have n6_ : Aside0 (gb111 ≠ gb128) := ⟨h6_⟩
           have n7_ : Aside0 (gb128 ≠ gb111) := ⟨h7_⟩
           have n8_ : Aside0 (Below w.heap.size w w29) := ⟨h8_⟩
           clear BK111
           clear HB
           clear h0_ h1_ h2_ h3_ h4_ h5_ h6_ h7_ h8_
           have HO118 := n0_
           have HO127 := n1_
           have BK111 := n2_
           have BK128 := n3_
           have GW128 := n4_
           have GE128 := n5_
           have GI128 := GeI.mk GE128.out
           have NB111_128 := n6_
           have NB128_111 := n7_
           have HB := n8_
           clear n0_ n1_ n2_ n3_ n4_ n5_ n6_ n7_ n8_
           have hHeld := trivial
           refine norm_ (a' := ?_) ?_ ?_
           rotate_left
           ·simp only [putAll, Act.put, List.setIfInBounds_toArray, List.set_cons_zero, List.set_cons_succ]
            rfl
           refine one_ (i := 1) (N := some 49) #[true, true, true, true, true, false, true, false] rfl rfl (one_of HT_.out (by kernel_rfl)) (by decide) (fun K hK => ?_)
           refine Kd.R_make_step (Kd.int .i64) _ 3 (by rfl) (N := 49) rfl 22 _ _ rfl 8 rfl rfl Try.underlying22 (.int .i64 0) 8 info3 rfl (by decide) (by omega) 0 (ok := fun _ => True) (okp := fun _ => True) rfl (fun _ hk => hk) trivial (by omega) (by omega) (Below.refl _ _) (Nat.le_refl _) ?_
           intro v120 w30 ho31 hb hg_ hnew_
           clear hg_ hnew_
           (first | rw [← Ny119.out] at ho31 | (simp only [Int.reduceToNat] at ho31; rw [← Ny119.out] at ho31))
           have n0_ := A_ (Kd.R_elder' (by (with_reducible repeat (first | apply Kd.R_alloc | apply Kd.R_drewN | apply Kd.R_drew)); exact HO118.out) (Kd.R_base ho31) hb)
           have n1_ := A_ (Kd.R_elder' (by (with_reducible repeat (first | apply Kd.R_alloc | apply Kd.R_drewN | apply Kd.R_drew)); exact HO127.out) (Kd.R_base ho31) hb)
           have n2_ := A_ (Kd.R_lower (Kd.R_new' (Kd.R_new' ho31 (Kd.R_lt (by (with_reducible repeat (first | apply Kd.R_alloc | apply Kd.R_drewN | apply Kd.R_drew)); exact HO118.out))) (Kd.R_lt (by (with_reducible repeat (first | apply Kd.R_alloc | apply Kd.R_drewN | apply Kd.R_drew)); exact HO127.out))) (below_size (bw_ HB.out)))
           have n3_ := A_ (blk_below (bk_ BK111.out) hb)
           have n4_ := A_ (blk_below (bk_ BK128.out) hb)
           have n5_ := A_ (below_step (bw_ HB.out) hb)
           clear HO118
           clear HO127
           clear BK111
           clear BK128
           clear HB
           have HO118 := n0_
           have HO127 := n1_
           have HO121 := n2_
           have BK111 := n3_
           have BK128 := n4_
           have HB := n5_
           clear n0_ n1_ n2_ n3_ n4_ n5_
           clear hb ho31
           obtain ⟨Ao32, co32, eo32⟩ := Kd.R_slice HO127.out
           (first | subst eo32 | (injection eo32 with f1_ f2_ f3_; have f4_ := f1_.symm; have f5_ := f3_.symm; clear f1_ f2_ f3_; subst f4_; subst f5_))
           obtain ⟨Ao33, co33, eo33⟩ := Kd.R_slice HO121.out
           (first | subst eo33 | (injection eo33 with f1_ f2_ f3_; have f4_ := f1_.symm; have f5_ := f3_.symm; clear f1_ f2_ f3_; subst f4_; subst f5_))
           obtain ⟨Ao34, co34, eo34⟩ := Kd.R_slice HO118.out
           (first | subst eo34 | (injection eo34 with f1_ f2_ f3_; have f4_ := f1_.symm; have f5_ := f3_.symm; clear f1_ f2_ f3_; subst f4_; subst f5_))
           refine hK.out _ _ trivial (fun hHeld => ?_)
           clear hK K
           refine norm_ (a' := ?_) ?_ ?_
           rotate_left
           ·show Act.put _ (some 49) _ = _
            simp only [Act.put, List.setIfInBounds_toArray, List.set_cons_zero, List.set_cons_succ, i64_w, i32_w]
            rfl
           refine pure_ (i := 5) (N := some 53) (v := ?_) (a' := ?_) #[true, true, true, true, true, true, true, false] rfl rfl (any_of HT_.out (by kernel_rfl)) (fun _ _ _ h => h) (Or.inl ⟨by rfl, ?_⟩) ?_ ?_
           rotate_left
           ·intro w'
            go_simp
            with_reducible rfl
           rotate_left
           ·simp only [Act.put, List.setIfInBounds_toArray, List.set_cons_zero, List.set_cons_succ, i64_w, i32_w]
            rfl
           exact norm_ (by first | (simp only [putAll, Act.put, List.setIfInBounds_toArray, List.set_cons_zero, List.set_cons_succ]; done) | (simp only [putAll, Act.put, List.setIfInBounds_toArray, List.set_cons_zero, List.set_cons_succ]; rfl)) (hJ0_1_2_4_6 (.slice Ao34 y116.length co34, .slice Ao33 y119.length co33, v123, .slice Ao32 y125.length co32, gb128) _ ⟨(by (with_reducible repeat (first | apply Kd.R_alloc | apply Kd.R_drewN | apply Kd.R_drew)); exact Kd.R_mono HO118.out (fun _ hk => ⟨hk.2, hk.1⟩)), (by (with_reducible repeat (first | apply Kd.R_alloc | apply Kd.R_drewN | apply Kd.R_drew)); exact Kd.R_mono HO121.out (fun _ hk => ⟨hk.1.2, hk.2⟩)), (by (with_reducible repeat (first | apply Kd.R_alloc | apply Kd.R_drewN | apply Kd.R_drew)); exact HO127.out), (bk_ BK111.out), (bk_ BK128.out), GW128.out, GE128.out, NB111_128.out, NB128_111.out, (bw_ HB.out)⟩)
         ·skip
          rintro ⟨v117, v120, v123, gb128⟩ w30 ⟨h0_, h1_, h2_, h3_, h4_, h5_, h6_, h7_, h8_, h9_⟩
          have n0_ : Aside0 (Kd.R (Kd.int .i64) 3 w30 w.heap.size (fun k_ => some k_ ≠ (v120 : Value).ownBlock ∧ some k_ ≠ (v123 : Value).ownBlock) v117 y116) := ⟨h0_⟩
          have n1_ : Aside0 (Kd.R (Kd.int .i64) 3 w30 w.heap.size (fun k_ => some k_ ≠ (v117 : Value).ownBlock ∧ some k_ ≠ (v123 : Value).ownBlock) v120 y119) := ⟨h1_⟩
          have n2_ : Aside0 (Kd.R (Kd.int .i64) 3 w30 w.heap.size (fun k_ => some k_ ≠ (v117 : Value).ownBlock ∧ some k_ ≠ (v120 : Value).ownBlock) v123 y122) := ⟨h2_⟩
          have n3_ : Aside0 (w30.heap[gb111]? = some (.cells #[.slice none 0 0, .slice none 0 0, .bool false, .bool false, .bool false, .bool false, .slice none 0 0, .slice none 0 0, .int .i64 0] 28 (0, 0))) := ⟨h3_⟩
          have n4_ : Aside0 (w30.heap[gb128]? = some (.cells #[.slice none 0 0, .slice none 0 0, .bool false, .bool false, .bool false, .bool false, .slice none 0 0, .slice none 0 0, .int .i64 0] 28 (0, 0))) := ⟨h4_⟩
          have n5_ : Aside0 (w.heap.size ≤ gb128) := ⟨h5_⟩
          have n6_ : Aside0 (w.heap.size ≤ gb128) := ⟨h6_⟩
          have n7_ : Aside0 (gb111 ≠ gb128) := ⟨h7_⟩
          have n8_ : Aside0 (gb128 ≠ gb111) := ⟨h8_⟩
          have n9_ : Aside0 (Below w.heap.size w w30) := ⟨h9_⟩
          clear BK111
          clear HB
          clear h0_ h1_ h2_ h3_ h4_ h5_ h6_ h7_ h8_ h9_
          have HO118 := n0_
          have HO121 := n1_
          have HO124 := n2_
          have BK111 := n3_
          have BK128 := n4_
          have GW128 := n5_
          have GE128 := n6_
          have GI128 := GeI.mk GE128.out
          have NB111_128 := n7_
          have NB128_111 := n8_
          have HB := n9_
          clear n0_ n1_ n2_ n3_ n4_ n5_ n6_ n7_ n8_ n9_
          have hHeld := trivial
          refine norm_ (a' := ?_) ?_ ?_
          rotate_left
          ·simp only [putAll, Act.put, List.setIfInBounds_toArray, List.set_cons_zero, List.set_cons_succ]
           rfl
          refine one_ (i := 4) (N := some 52) #[true, true, true, true, true, false, true, false] rfl rfl (one_of HT_.out (by kernel_rfl)) (by decide) (fun K hK => ?_)
          refine Kd.R_append_rows_step (Kd.int .i64) (w0 := w) w.heap.size (by rfl) (.tmp 50) (.tmp 51) 22 3 (.int .i64 0) 8 rfl Try.underlying22 info3 rfl (by decide) (by omega) v123 y122 l3 _ _ _ (fun k_ => some k_ ≠ (v117 : Value).ownBlock ∧ some k_ ≠ (v120 : Value).ownBlock) (fun _ => False) rfl rfl ?aO ?aR (fun _ _ h => h) (fun _ h => h.elim) ?aF ?aB ?aS ?aL ?_
          (case aR => repeat (first | exact (Kd.C_below HR3.out HB.out) | (with_reducible refine Kd.C_alloc ?_ _) | (with_reducible refine Kd.C_drewN ?_ _) | (with_reducible refine Kd.C_drew ?_)))
          (case aB => exact (bw_ HB.out))
          (case aF => exact (fun k_ hk => ⟨Kd.fresh' (Kd.R_lt (by (with_reducible repeat (first | apply Kd.R_alloc | apply Kd.R_drewN | apply Kd.R_drew)); exact HO118.out)) k_ hk, Kd.fresh' (Kd.R_lt (by (with_reducible repeat (first | apply Kd.R_alloc | apply Kd.R_drewN | apply Kd.R_drew)); exact HO121.out)) k_ hk⟩))
          (case aO => exact (by (with_reducible repeat (first | apply Kd.R_alloc | apply Kd.R_drewN | apply Kd.R_drew)); exact HO124.out))
          (case aS => exact (below_size (bw_ HB.out)))
          (case aL => have := LMc21.out; omega)
          intro v126 w31 ho hb hg hat
          rw [← Ny125.out] at ho
          have n0_ := A_ (blk_grown (bk_ BK111.out) hg (Kd.R_ne HO124.out BK111.out (by decide)))
          have n1_ := A_ (Kd.R_after (ok := (fun k_ => some k_ ≠ (v120 : Value).ownBlock)) (by (with_reducible repeat (first | apply Kd.R_alloc | apply Kd.R_drewN | apply Kd.R_drew)); exact HO118.out) hg hat)
          have n2_ := A_ (Kd.R_after (ok := (fun k_ => some k_ ≠ (v117 : Value).ownBlock)) (by (with_reducible repeat (first | apply Kd.R_alloc | apply Kd.R_drewN | apply Kd.R_drew)); exact HO121.out) hg hat)
          have n3_ := A_ (blk_grown (bk_ BK128.out) hg (Kd.R_ne HO124.out BK128.out (by decide)))
          have n4_ := A_ (hb)
          have n5_ := A_ (ho)
          clear BK111
          clear HO118
          clear HO121
          clear BK128
          clear HB
          clear HO124
          have BK111 := n0_
          have HO118 := n1_
          have HO121 := n2_
          have BK128 := n3_
          have HB := n4_
          have HO127 := n5_
          clear n0_ n1_ n2_ n3_ n4_ n5_
          clear ho hb hg hat
          obtain ⟨Ao32, co32, eo32⟩ := Kd.R_slice HO127.out
          (first | subst eo32 | (injection eo32 with f1_ f2_ f3_; have f4_ := f1_.symm; have f5_ := f3_.symm; clear f1_ f2_ f3_; subst f4_; subst f5_))
          obtain ⟨Ao33, co33, eo33⟩ := Kd.R_slice HO121.out
          (first | subst eo33 | (injection eo33 with f1_ f2_ f3_; have f4_ := f1_.symm; have f5_ := f3_.symm; clear f1_ f2_ f3_; subst f4_; subst f5_))
          obtain ⟨Ao34, co34, eo34⟩ := Kd.R_slice HO118.out
          (first | subst eo34 | (injection eo34 with f1_ f2_ f3_; have f4_ := f1_.symm; have f5_ := f3_.symm; clear f1_ f2_ f3_; subst f4_; subst f5_))
          refine hK.out _ _ trivial (fun hHeld => ?_)
          clear hK K
          refine norm_ (a' := ?_) ?_ ?_
          rotate_left
          ·show Act.put _ (some 52) _ = _
           simp only [Act.put, List.setIfInBounds_toArray, List.set_cons_zero, List.set_cons_succ, i64_w, i32_w]
           rfl
          refine pure_ (i := 5) (N := some 53) (v := ?_) (a' := ?_) #[true, true, true, true, true, true, true, false] rfl rfl (any_of HT_.out (by kernel_rfl)) (fun _ _ _ h => h) (Or.inl ⟨by rfl, ?_⟩) ?_ ?_
          rotate_left
          ·intro w'
           go_simp
           with_reducible rfl
          rotate_left
          ·simp only [Act.put, List.setIfInBounds_toArray, List.set_cons_zero, List.set_cons_succ, i64_w, i32_w]
           rfl
          exact norm_ (by first | (simp only [putAll, Act.put, List.setIfInBounds_toArray, List.set_cons_zero, List.set_cons_succ]; done) | (simp only [putAll, Act.put, List.setIfInBounds_toArray, List.set_cons_zero, List.set_cons_succ]; rfl)) (hJ0_1_2_4_6 (.slice Ao34 y116.length co34, .slice Ao33 y119.length co33, v123, .slice Ao32 y125.length co32, gb128) _ ⟨(by (with_reducible repeat (first | apply Kd.R_alloc | apply Kd.R_drewN | apply Kd.R_drew)); exact HO118.out), (by (with_reducible repeat (first | apply Kd.R_alloc | apply Kd.R_drewN | apply Kd.R_drew)); exact HO121.out), (by (with_reducible repeat (first | apply Kd.R_alloc | apply Kd.R_drewN | apply Kd.R_drew)); exact HO127.out), (bk_ BK111.out), (bk_ BK128.out), GW128.out, GE128.out, NB111_128.out, NB128_111.out, (bw_ HB.out)⟩)
        ·skip
         rintro ⟨v117, v120, v123, v126⟩ w33 ⟨h0_, h1_, h2_, h3_, h4_⟩
         have n0_ : Aside0 (Kd.R (Kd.int .i64) 3 w33 w.heap.size (fun k_ => some k_ ≠ (v120 : Value).ownBlock ∧ some k_ ≠ (v126 : Value).ownBlock) v117 y116) := ⟨h0_⟩
         have n1_ : Aside0 (Kd.R (Kd.int .i64) 3 w33 w.heap.size (fun k_ => some k_ ≠ (v117 : Value).ownBlock ∧ some k_ ≠ (v126 : Value).ownBlock) v120 y119) := ⟨h1_⟩
         have n2_ : Aside0 (Kd.R (Kd.int .i64) 3 w33 w.heap.size (fun k_ => some k_ ≠ (v117 : Value).ownBlock ∧ some k_ ≠ (v120 : Value).ownBlock) v126 y125) := ⟨h2_⟩
         have n3_ : Aside0 (w33.heap[gb111]? = some (.cells #[.slice none 0 0, .slice none 0 0, .bool false, .bool false, .bool false, .bool false, .slice none 0 0, .slice none 0 0, .int .i64 0] 28 (0, 0))) := ⟨h3_⟩
         have n4_ : Aside0 (Below w.heap.size w w33) := ⟨h4_⟩
         clear BK111
         clear HB
         clear h0_ h1_ h2_ h3_ h4_
         have HO118 := n0_
         have HO121 := n1_
         have HO127 := n2_
         have BK111 := n3_
         have HB := n4_
         clear n0_ n1_ n2_ n3_ n4_
         have hHeld := trivial
         obtain ⟨Ao34, co34, eo34⟩ := Kd.R_slice HO127.out
         (first | subst eo34 | (injection eo34 with f1_ f2_ f3_; have f4_ := f1_.symm; have f5_ := f3_.symm; clear f1_ f2_ f3_; subst f4_; subst f5_))
         obtain ⟨Ao35, co35, eo35⟩ := Kd.R_slice HO121.out
         (first | subst eo35 | (injection eo35 with f1_ f2_ f3_; have f4_ := f1_.symm; have f5_ := f3_.symm; clear f1_ f2_ f3_; subst f4_; subst f5_))
         obtain ⟨Ao36, co36, eo36⟩ := Kd.R_slice HO118.out
         (first | subst eo36 | (injection eo36 with f1_ f2_ f3_; have f4_ := f1_.symm; have f5_ := f3_.symm; clear f1_ f2_ f3_; subst f4_; subst f5_))
         refine norm_ (a' := ?_) ?_ ?_
         rotate_left
         ·simp only [putAll, Act.put, List.setIfInBounds_toArray, List.set_cons_zero, List.set_cons_succ]
          rfl
         refine one_ (i := 6) (N := some 9) #[true, true, true, true, true, true, true, false] rfl rfl (one_of HT_.out (by kernel_rfl)) (by decide) (fun K hK => ?_)
         refine box_step ?hg (N := 9) ?hd (cs := #[.slice none 0 0, .slice none 0 0, .bool false, .bool false, .bool false, .bool false, .slice none 0 0, .slice none 0 0, .int .i64 0]) (t := 28) ?hr ?_; (case hd => rfl); (case hg => rfl); (case hr => first | (go_simp; done) | (go_simp; rfl))
         intro gb128 hg w37 hbox hb
         have n0_ := A_ (Kd.R_below (by (with_reducible repeat (first | apply Kd.R_alloc | apply Kd.R_drewN | apply Kd.R_drew)); exact HO118.out) hb)
         have n1_ := A_ (Kd.R_below (by (with_reducible repeat (first | apply Kd.R_alloc | apply Kd.R_drewN | apply Kd.R_drew)); exact HO121.out) hb)
         have n2_ := A_ (Kd.R_below (by (with_reducible repeat (first | apply Kd.R_alloc | apply Kd.R_drewN | apply Kd.R_drew)); exact HO127.out) hb)
         have n3_ := A_ (blk_below (bk_ BK111.out) hb)
         have n4_ := A_ (below_step (bw_ HB.out) hb)
         have n5_ := A_ (hbox)
         have n6_ := A_ ((by rw [hg]; exact (below_size (bw_ HB.out)) : w.heap.size ≤ gb128))
         have n7_ := A_ ((by rw [hg]; exact (below_size (bw_ HB.out)) : w.heap.size ≤ gb128))
         have n8_ := A_ ((by rw [hg]; exact Nat.ne_of_lt (blk_lt (bk_ BK111.out)) : gb111 ≠ gb128))
         have n9_ := A_ ((by rw [hg]; exact Nat.ne_of_gt (blk_lt (bk_ BK111.out)) : gb128 ≠ gb111))
         clear HO118
         clear HO121
         clear HO127
         clear BK111
         clear HB
         have HO118 := n0_
         have HO121 := n1_
         have HO127 := n2_
         have BK111 := n3_
         have HB := n4_
         have BK128 := n5_
         have GW128 := n6_
         have GE128 := n7_
         have GI128 := GeI.mk GE128.out
         have NB111_128 := n8_
         have NB128_111 := n9_
         clear n0_ n1_ n2_ n3_ n4_ n5_ n6_ n7_ n8_ n9_
         clear hb hbox hg
         refine hK.out _ _ trivial (fun hHeld => ?_)
         clear hK K
         refine norm_ (a' := ?_) ?_ ?_
         rotate_left
         ·show Act.put _ (some 9) _ = _
          simp only [Act.put, List.setIfInBounds_toArray, List.set_cons_zero, List.set_cons_succ, i64_w, i32_w]
          rfl
         exact norm_ (by first | (simp only [putAll, Act.put, List.setIfInBounds_toArray, List.set_cons_zero, List.set_cons_succ]; done) | (simp only [putAll, Act.put, List.setIfInBounds_toArray, List.set_cons_zero, List.set_cons_succ]; rfl)) (hJ0_1_2_4_6 (.slice Ao36 y116.length co36, .slice Ao35 y119.length co35, v123, .slice Ao34 y125.length co34, gb128) _ ⟨(by (with_reducible repeat (first | apply Kd.R_alloc | apply Kd.R_drewN | apply Kd.R_drew)); exact HO118.out), (by (with_reducible repeat (first | apply Kd.R_alloc | apply Kd.R_drewN | apply Kd.R_drew)); exact HO121.out), (by (with_reducible repeat (first | apply Kd.R_alloc | apply Kd.R_drewN | apply Kd.R_drew)); exact HO127.out), (bk_ BK111.out), (bk_ BK128.out), GW128.out, GE128.out, NB111_128.out, NB128_111.out, (bw_ HB.out)⟩)
       rintro ⟨v117, v120, v123, v126, gb128⟩ w34 ⟨h0_, h1_, h2_, h3_, h4_, h5_, h6_, h7_, h8_, h9_⟩
       have n0_ : Aside0 (Kd.R (Kd.int .i64) 3 w34 w.heap.size (fun k_ => some k_ ≠ (v120 : Value).ownBlock ∧ some k_ ≠ (v126 : Value).ownBlock) v117 y116) := ⟨h0_⟩
       have n1_ : Aside0 (Kd.R (Kd.int .i64) 3 w34 w.heap.size (fun k_ => some k_ ≠ (v117 : Value).ownBlock ∧ some k_ ≠ (v126 : Value).ownBlock) v120 y119) := ⟨h1_⟩
       have n2_ : Aside0 (Kd.R (Kd.int .i64) 3 w34 w.heap.size (fun k_ => some k_ ≠ (v117 : Value).ownBlock ∧ some k_ ≠ (v120 : Value).ownBlock) v126 y125) := ⟨h2_⟩
       have n3_ : Aside0 (w34.heap[gb111]? = some (.cells #[.slice none 0 0, .slice none 0 0, .bool false, .bool false, .bool false, .bool false, .slice none 0 0, .slice none 0 0, .int .i64 0] 28 (0, 0))) := ⟨h3_⟩
       have n4_ : Aside0 (w34.heap[gb128]? = some (.cells #[.slice none 0 0, .slice none 0 0, .bool false, .bool false, .bool false, .bool false, .slice none 0 0, .slice none 0 0, .int .i64 0] 28 (0, 0))) := ⟨h4_⟩
       have n5_ : Aside0 (w.heap.size ≤ gb128) := ⟨h5_⟩
       have n6_ : Aside0 (w.heap.size ≤ gb128) := ⟨h6_⟩
       have n7_ : Aside0 (gb111 ≠ gb128) := ⟨h7_⟩
       have n8_ : Aside0 (gb128 ≠ gb111) := ⟨h8_⟩
       have n9_ : Aside0 (Below w.heap.size w w34) := ⟨h9_⟩
       clear BK111
       clear HB
       clear h0_ h1_ h2_ h3_ h4_ h5_ h6_ h7_ h8_ h9_
       have HO118 := n0_
       have HO121 := n1_
       have HO127 := n2_
       have BK111 := n3_
       have BK128 := n4_
       have GW128 := n5_
       have GE128 := n6_
       have GI128 := GeI.mk GE128.out
       have NB111_128 := n7_
       have NB128_111 := n8_
       have HB := n9_
       clear n0_ n1_ n2_ n3_ n4_ n5_ n6_ n7_ n8_ n9_
       have hHeld := trivial
       obtain ⟨Ao35, co35, eo35⟩ := Kd.R_slice HO127.out
       (first | subst eo35 | (injection eo35 with f1_ f2_ f3_; have f4_ := f1_.symm; have f5_ := f3_.symm; clear f1_ f2_ f3_; subst f4_; subst f5_))
       obtain ⟨Ao36, co36, eo36⟩ := Kd.R_slice HO121.out
       (first | subst eo36 | (injection eo36 with f1_ f2_ f3_; have f4_ := f1_.symm; have f5_ := f3_.symm; clear f1_ f2_ f3_; subst f4_; subst f5_))
       obtain ⟨Ao37, co37, eo37⟩ := Kd.R_slice HO118.out
       (first | subst eo37 | (injection eo37 with f1_ f2_ f3_; have f4_ := f1_.symm; have f5_ := f3_.symm; clear f1_ f2_ f3_; subst f4_; subst f5_))
       refine norm_ (a' := ?_) ?_ ?_
       rotate_left
       ·simp only [putAll, Act.put, List.setIfInBounds_toArray, List.set_cons_zero, List.set_cons_succ]
        rfl
       refine one_ (i := 7) (N := none) #[true, true, true, true, true, true, true, true] rfl rfl (one_of HT_.out (by kernel_rfl)) (by decide) (fun K hK => ?_)
       have hs38 : w34.cell? ⟨gb128, 0, none⟩ = some (.slice none 0 0) := (blk_cell BK128.out 0).trans rfl
       have hfs38 := blk_frozen BK128.out 0
       have hns38_0 := NB111_128.out
       have hms38_0 := NB128_111.out
       have hs39 : w34.cell? ⟨gb128, 1, none⟩ = some (.slice none 0 0) := (blk_cell BK128.out 1).trans rfl
       have hfs39 := blk_frozen BK128.out 1
       have hns39_0 := NB111_128.out
       have hms39_0 := NB128_111.out
       have hs40 : w34.cell? ⟨gb128, 2, none⟩ = some (.bool false) := (blk_cell BK128.out 2).trans rfl
       have hfs40 := blk_frozen BK128.out 2
       have hns40_0 := NB111_128.out
       have hms40_0 := NB128_111.out
       have hs41 : w34.cell? ⟨gb128, 3, none⟩ = some (.bool false) := (blk_cell BK128.out 3).trans rfl
       have hfs41 := blk_frozen BK128.out 3
       have hns41_0 := NB111_128.out
       have hms41_0 := NB128_111.out
       have hs42 : w34.cell? ⟨gb128, 4, none⟩ = some (.bool false) := (blk_cell BK128.out 4).trans rfl
       have hfs42 := blk_frozen BK128.out 4
       have hns42_0 := NB111_128.out
       have hms42_0 := NB128_111.out
       have hs43 : w34.cell? ⟨gb128, 5, none⟩ = some (.bool false) := (blk_cell BK128.out 5).trans rfl
       have hfs43 := blk_frozen BK128.out 5
       have hns43_0 := NB111_128.out
       have hms43_0 := NB128_111.out
       have hs44 : w34.cell? ⟨gb128, 6, none⟩ = some (.slice none 0 0) := (blk_cell BK128.out 6).trans rfl
       have hfs44 := blk_frozen BK128.out 6
       have hns44_0 := NB111_128.out
       have hms44_0 := NB128_111.out
       have hs45 : w34.cell? ⟨gb128, 7, none⟩ = some (.slice none 0 0) := (blk_cell BK128.out 7).trans rfl
       have hfs45 := blk_frozen BK128.out 7
       have hns45_0 := NB111_128.out
       have hms45_0 := NB128_111.out
       have hs46 : w34.cell? ⟨gb128, 8, none⟩ = some (.int .i64 0) := (blk_cell BK128.out 8).trans rfl
       have hfs46 := blk_frozen BK128.out 8
       have hns46_0 := NB111_128.out
       have hms46_0 := NB128_111.out
       refine skip_ (w1 := ?_) (by rfl) rfl ?_ ?_
       rotate_left
       ·go_simp
        rfl
       refine hK.out _ _ trivial (fun hHeld => ?_)
       clear hK K
       refine done_ (done_of HT_.out (by kernel_rfl)) ?_
       try go_wp2
       go_loopg [10] kj4 (fun kq v10 w' => ∃ (x10_2 : Int) (x129000_2 : List Int) (x129001_2 : List Int) (x129006_2 : List Int) (u129000 : Value) (u129001 : Value) (u129006 : Value), v10 = .int .i64 x10_2 ∧ Aside0 (spec_MachNew.l0 kq l0 a1 a2 x10_2 x129000_2 x129001_2 false false false false x129006_2 0 = some (r1, r2, r3, r4, r5, r6, r7, r8, r9)) ∧ Aside0 (kq ≤ kj4) ∧ Aside0 (Kd.R (Kd.int .i64) 3 w' w.heap.size (fun k_ => some k_ ≠ (u129001 : Value).ownBlock ∧ some k_ ≠ (u129006 : Value).ownBlock) u129000 x129000_2) ∧ Aside0 (Kd.R (Kd.int .i64) 3 w' w.heap.size (fun k_ => some k_ ≠ (u129000 : Value).ownBlock ∧ some k_ ≠ (u129006 : Value).ownBlock) u129001 x129001_2) ∧ Aside0 (Kd.R (Kd.int .i64) 3 w' w.heap.size (fun k_ => some k_ ≠ (u129000 : Value).ownBlock ∧ some k_ ≠ (u129001 : Value).ownBlock) u129006 x129006_2) ∧ Aside0 (w'.heap[gb111]? = some (.cells #[(.slice none 0 0), (.slice none 0 0), .bool false, .bool false, .bool false, .bool false, (.slice none 0 0), (.slice none 0 0), .int .i64 0] 28 (0, 0))) ∧ Aside0 (w'.heap[gb128]? = some (.cells #[u129000, u129001, .bool false, .bool false, .bool false, .bool false, u129006, (.slice none 0 0), .int .i64 0] 28 (0, 0))) ∧ Aside0 (Below w.heap.size w w'))
       case atStart => exact ⟨(0), (y116), (y119), (y125), (.slice Ao37 y116.length co37), (.slice Ao36 y119.length co36), (.slice Ao35 y125.length co35), (by first | rfl | (simp; done) | (simp [*]; done) | (simp [wrap64]; done)), H', ⟨Nat.le_refl _⟩, ⟨by (with_reducible repeat (first | apply Kd.R_alloc | apply Kd.R_drewN | apply Kd.R_drew)); exact Kd.R_mono (Kd.R_far (p := ⟨gb128, 8, none⟩) (Kd.R_far (p := ⟨gb128, 7, none⟩) (Kd.R_far (p := ⟨gb128, 6, none⟩) (Kd.R_far (p := ⟨gb128, 5, none⟩) (Kd.R_far (p := ⟨gb128, 4, none⟩) (Kd.R_far (p := ⟨gb128, 3, none⟩) (Kd.R_far (p := ⟨gb128, 2, none⟩) (Kd.R_far (p := ⟨gb128, 1, none⟩) (Kd.R_far (p := ⟨gb128, 0, none⟩) (Kd.R_types HO118.out BK128.out (by decide)) (fun _ hk => hk.2) (.slice Ao37 y116.length co37)) (fun _ hk => hk.2) (.slice Ao36 y119.length co36)) (fun _ hk => hk.2) (.bool false)) (fun _ hk => hk.2) (.bool false)) (fun _ hk => hk.2) (.bool false)) (fun _ hk => hk.2) (.bool false)) (fun _ hk => hk.2) (.slice Ao35 y125.length co35)) (fun _ hk => hk.2) (.slice none 0 0)) (fun _ hk => hk.2) (.int .i64 0)) (fun _ hk => ⟨hk.1.1, hk.1.2⟩)⟩, ⟨by (with_reducible repeat (first | apply Kd.R_alloc | apply Kd.R_drewN | apply Kd.R_drew)); exact Kd.R_mono (Kd.R_far (p := ⟨gb128, 8, none⟩) (Kd.R_far (p := ⟨gb128, 7, none⟩) (Kd.R_far (p := ⟨gb128, 6, none⟩) (Kd.R_far (p := ⟨gb128, 5, none⟩) (Kd.R_far (p := ⟨gb128, 4, none⟩) (Kd.R_far (p := ⟨gb128, 3, none⟩) (Kd.R_far (p := ⟨gb128, 2, none⟩) (Kd.R_far (p := ⟨gb128, 1, none⟩) (Kd.R_far (p := ⟨gb128, 0, none⟩) (Kd.R_types HO121.out BK128.out (by decide)) (fun _ hk => hk.2) (.slice Ao37 y116.length co37)) (fun _ hk => hk.2) (.slice Ao36 y119.length co36)) (fun _ hk => hk.2) (.bool false)) (fun _ hk => hk.2) (.bool false)) (fun _ hk => hk.2) (.bool false)) (fun _ hk => hk.2) (.bool false)) (fun _ hk => hk.2) (.slice Ao35 y125.length co35)) (fun _ hk => hk.2) (.slice none 0 0)) (fun _ hk => hk.2) (.int .i64 0)) (fun _ hk => ⟨hk.1.1, hk.1.2⟩)⟩, ⟨by (with_reducible repeat (first | apply Kd.R_alloc | apply Kd.R_drewN | apply Kd.R_drew)); exact Kd.R_mono (Kd.R_far (p := ⟨gb128, 8, none⟩) (Kd.R_far (p := ⟨gb128, 7, none⟩) (Kd.R_far (p := ⟨gb128, 6, none⟩) (Kd.R_far (p := ⟨gb128, 5, none⟩) (Kd.R_far (p := ⟨gb128, 4, none⟩) (Kd.R_far (p := ⟨gb128, 3, none⟩) (Kd.R_far (p := ⟨gb128, 2, none⟩) (Kd.R_far (p := ⟨gb128, 1, none⟩) (Kd.R_far (p := ⟨gb128, 0, none⟩) (Kd.R_types HO127.out BK128.out (by decide)) (fun _ hk => hk.2) (.slice Ao37 y116.length co37)) (fun _ hk => hk.2) (.slice Ao36 y119.length co36)) (fun _ hk => hk.2) (.bool false)) (fun _ hk => hk.2) (.bool false)) (fun _ hk => hk.2) (.bool false)) (fun _ hk => hk.2) (.bool false)) (fun _ hk => hk.2) (.slice Ao35 y125.length co35)) (fun _ hk => hk.2) (.slice none 0 0)) (fun _ hk => hk.2) (.int .i64 0)) (fun _ hk => ⟨hk.1.1, hk.1.2⟩)⟩, ⟨by refine bk_ ?_; refine blk_far ?_ NB111_128.out _; refine bk_ ?_; refine blk_far ?_ NB111_128.out _; refine bk_ ?_; refine blk_far ?_ NB111_128.out _; refine bk_ ?_; refine blk_far ?_ NB111_128.out _; refine bk_ ?_; refine blk_far ?_ NB111_128.out _; refine bk_ ?_; refine blk_far ?_ NB111_128.out _; refine bk_ ?_; refine blk_far ?_ NB111_128.out _; refine bk_ ?_; refine blk_far ?_ NB111_128.out _; refine bk_ ?_; refine blk_far ?_ NB111_128.out _; refine bk_ ?_; exact BK111.out⟩, ⟨by refine bk_ ?_; refine blk_put (cs := #[.slice Ao37 y116.length co37, .slice Ao36 y119.length co36, .bool false, .bool false, .bool false, .bool false, .slice Ao35 y125.length co35, .slice none 0 0, .int .i64 0]) ?_ 8 _ rfl; refine bk_ ?_; refine blk_put (cs := #[.slice Ao37 y116.length co37, .slice Ao36 y119.length co36, .bool false, .bool false, .bool false, .bool false, .slice Ao35 y125.length co35, .slice none 0 0, .int .i64 0]) ?_ 7 _ rfl; refine bk_ ?_; refine blk_put (cs := #[.slice Ao37 y116.length co37, .slice Ao36 y119.length co36, .bool false, .bool false, .bool false, .bool false, .slice none 0 0, .slice none 0 0, .int .i64 0]) ?_ 6 _ rfl; refine bk_ ?_; refine blk_put (cs := #[.slice Ao37 y116.length co37, .slice Ao36 y119.length co36, .bool false, .bool false, .bool false, .bool false, .slice none 0 0, .slice none 0 0, .int .i64 0]) ?_ 5 _ rfl; refine bk_ ?_; refine blk_put (cs := #[.slice Ao37 y116.length co37, .slice Ao36 y119.length co36, .bool false, .bool false, .bool false, .bool false, .slice none 0 0, .slice none 0 0, .int .i64 0]) ?_ 4 _ rfl; refine bk_ ?_; refine blk_put (cs := #[.slice Ao37 y116.length co37, .slice Ao36 y119.length co36, .bool false, .bool false, .bool false, .bool false, .slice none 0 0, .slice none 0 0, .int .i64 0]) ?_ 3 _ rfl; refine bk_ ?_; refine blk_put (cs := #[.slice Ao37 y116.length co37, .slice Ao36 y119.length co36, .bool false, .bool false, .bool false, .bool false, .slice none 0 0, .slice none 0 0, .int .i64 0]) ?_ 2 _ rfl; refine bk_ ?_; refine blk_put (cs := #[.slice Ao37 y116.length co37, .slice none 0 0, .bool false, .bool false, .bool false, .bool false, .slice none 0 0, .slice none 0 0, .int .i64 0]) ?_ 1 _ rfl; refine bk_ ?_; refine blk_put (cs := #[.slice none 0 0, .slice none 0 0, .bool false, .bool false, .bool false, .bool false, .slice none 0 0, .slice none 0 0, .int .i64 0]) ?_ 0 _ rfl; refine bk_ ?_; exact BK128.out⟩, ⟨bw_ HB.out⟩⟩
       case round =>
        clear H'
        try clear c2
        try clear p2
        try clear c21
        obtain ⟨x10_2, x129000_2, x129001_2, x129006_2, u129000, u129001, u129006, rfl, HA, HK2, HO_129000, HO_129001, HO_129006, BK111, BK128, HB⟩ := hrel
        cases gk with
        | zero => exact absurd HA.out (by simp [spec_MachNew.l0])
        | succ k2 =>
         have H := HA.out
         clear HA
         simp only [spec_MachNew.l0] at H
         by_cases c47 : x10_2 < (l0.length : Int)
         ·rw [if_pos c47] at H
          have c47b0 : decide (x10_2 < (l0.length : Int)) = true := decide_eq_true c47
          clear c47
          by_cases c48 : 0 ≤ x10_2
          ·rw [if_pos c48] at H
           have c48b0 : decide (0 ≤ x10_2) = true := decide_eq_true c48
           clear c48
           obtain ⟨ji49, hji49⟩ : ∃ j_ : Int, (wrap64 ((wrap64 (Int.tdiv a1 2)) + x10_2)) = j_ := ⟨_, rfl⟩
           replace H : (if 0 ≤ (ji49) then (if (ji49) < (x129000_2.length : Int) then (spec_MachNew.l0 k2 l0 a1 a2 (wrap64 (x10_2 + 1)) (x129000_2.set ((ji49) : Int).toNat (rd l0 x10_2)) x129001_2 false false false false x129006_2 0) else (none)) else (none)) = some (r1, r2, r3, r4, r5, r6, r7, r8, r9) := by first | (rw [hji49] at H; exact H) | (simp only [hji49] at H ⊢; exact H)
           have hji49w : (IntKind.i64.wrap ((wrap64 (Int.tdiv a1 2)) + x10_2)) = ji49 := (i64_w _).trans hji49
           by_cases c50 : 0 ≤ (ji49)
           ·rw [if_pos c50] at H
            have c50b0 : decide (0 ≤ (ji49)) = true := decide_eq_true c50
            clear c50
            by_cases c51 : (ji49) < (x129000_2.length : Int)
            ·rw [if_pos c51] at H
             have c51b0 : decide ((ji49) < (x129000_2.length : Int)) = true := decide_eq_true c51
             clear c51
             obtain ⟨y130, hy130⟩ : ∃ y_ : List Int, y_ = (x129000_2.set ((ji49) : Int).toNat (rd l0 x10_2)) := ⟨_, rfl⟩
             replace H : (spec_MachNew.l0 k2 l0 a1 a2 (wrap64 (x10_2 + 1)) y130 x129001_2 false false false false x129006_2 0) = some (r1, r2, r3, r4, r5, r6, r7, r8, r9) := by first | (rw [hy130]; with_reducible exact H) | (have H2_ := (Option.bind_some _ _).symm.trans H; rw [hy130]; with_reducible exact H2_) | (have H2_ := (Option.bind_some _ _).symm.trans H; with_reducible exact H2_) | with_reducible exact H | (rw [hy130]; exact H) | exact H
             have Ny130 := A_ hy130
             clear hy130
             have H' := A_ H
             clear H
             try go_wp2
             have n0_ := A_ (Kd.R_drew HO_129000.out)
             have n1_ := A_ (Kd.R_drew HO_129001.out)
             have n2_ := A_ (Kd.R_drew HO_129006.out)
             have n3_ := A_ (blk_drew BK111.out)
             have n4_ := A_ (blk_drew BK128.out)
             have n5_ := A_ (below_drew1 HB.out)
             clear HO_129000
             clear HO_129001
             clear HO_129006
             clear BK111
             clear BK128
             clear HB
             have HO_129000 := n0_
             have HO_129001 := n1_
             have HO_129006 := n2_
             have BK111 := n3_
             have BK128 := n4_
             have HB := n5_
             clear n0_ n1_ n2_ n3_ n4_ n5_
             have p129 : 0 ≤ (x10_2 : Int) := of_decide_eq_true (by first | (with_reducible assumption) | assumption)
             have q129 : x10_2 < (l0.length : Int) := of_decide_eq_true (by first | (with_reducible assumption) | assumption)
             obtain ⟨ad129, e129, hx129_0⟩ := Kd.at_int HR0.out x10_2 p129 q129
             have hw129_0 := hx129_0
             cases e129
             replace hx129_0 := (HB.out.cell (World.block_lt_of_cell? w _ hx129_0)).trans hx129_0
             replace p129 := eq_true p129
             replace q129 := eq_true q129
             have p52 : 0 ≤ ((ji49) : Int) := of_decide_eq_true (by first | (with_reducible assumption) | assumption)
             have q52 : ((ji49) : Int) < ((x129000_2.length : Int) : Int) := of_decide_eq_true (by first | (with_reducible assumption) | assumption)
             obtain ⟨go52, co52, eo52, gb52, gl52, cl52, HG52⟩ := Kd.R_form HO_129000.out (by omega)
             (first | cases eo52 | (injection eo52 with ea_ en_ ec_; (first | subst ea_ | (injection ea_ with ea_; subst ea_)); subst ec_; clear en_))
             have GB52 := A_ gb52
             have GG52 := A_ HG52
             clear gb52 gl52 HG52
             obtain ⟨hx52_0, hf52_0⟩ := Kd.R_celln 0 HO_129000.out ((ji49) : Int) p52 q52
             replace p52 := eq_true p52
             replace q52 := eq_true q52
             have HP54 := Kd.R_putn HO_129000.out ((ji49) : Int) (rd l0 x10_2)
             rw [← Ny130.out] at HP54
             have HQ54 := A_ HP54
             clear HP54
             refine start_ (n := 12) (S := fun w' => w'.cell? ⟨gb128, 0, none⟩ = some (.slice (some ⟨go52, 0, none⟩) x129000_2.length co52) ∧ w'.cell? ⟨gb128, 1, none⟩ = some (u129001) ∧ w'.cell? ⟨gb128, 2, none⟩ = some (.bool false) ∧ w'.cell? ⟨gb128, 3, none⟩ = some (.bool false) ∧ w'.cell? ⟨gb128, 4, none⟩ = some (.bool false) ∧ w'.cell? ⟨gb128, 5, none⟩ = some (.bool false) ∧ w'.cell? ⟨gb128, 6, none⟩ = some (u129006) ∧ w'.cell? ⟨gb128, 7, none⟩ = some (.slice none 0 0) ∧ w'.cell? ⟨gb128, 8, none⟩ = some (.int .i64 0) ∧ w'.cell? (ad129.add (x10_2).toNat) = some (.int .i64 (rd l0 x10_2))) (ds := [11]) #[false, false, false, false, false, false, false, false, false, false, false, false] (by kernel_rfl) rfl rfl ⟨(blk_cell BK128.out 0).trans rfl, (blk_cell BK128.out 1).trans rfl, (blk_cell BK128.out 2).trans rfl, (blk_cell BK128.out 3).trans rfl, (blk_cell BK128.out 4).trans rfl, (blk_cell BK128.out 5).trans rfl, (blk_cell BK128.out 6).trans rfl, (blk_cell BK128.out 7).trans rfl, (blk_cell BK128.out 8).trans rfl, ((HB.out.cell (World.block_lt_of_cell? w _ hw129_0)).trans hw129_0)⟩ (fun hHeld => ?_); refine with_tabW spec_MachNew.tab7 spec_MachNew.bits7 (fun HT_ HW_ => ?_)
             generalize wr.drew = w53 at HO_129000 HO_129001 HO_129006 BK111 BK128 HB GG52 HQ54 hf52_0 hx129_0 hx52_0 hHeld ⊢
             refine pure_ (i := 0) (N := some 60) (v := ?_) (a' := ?_) #[true, false, false, false, false, false, false, false, false, false, false, false] rfl rfl (any_of HT_.out (by kernel_rfl)) (fun _ _ _ h => h) (Or.inl ⟨by rfl, ?_⟩) ?_ ?_
             rotate_left
             ·intro w'
              go_simp
              with_reducible rfl
             rotate_left
             ·simp only [Act.put, List.setIfInBounds_toArray, List.set_cons_zero, List.set_cons_succ, i64_w, i32_w]
              rfl
             refine pure_ (i := 2) (N := some 62) (v := ?_) (a' := ?_) #[true, false, true, false, false, false, false, false, false, false, false, false] rfl rfl (any_of HT_.out (by kernel_rfl)) (fun _ _ _ h => h) (Or.inl ⟨by rfl, ?_⟩) ?_ ?_
             rotate_left
             ·intro w'
              go_simp
              with_reducible rfl
             rotate_left
             ·simp only [Act.put, List.setIfInBounds_toArray, List.set_cons_zero, List.set_cons_succ, i64_w, i32_w]
              rfl
             refine pure_ (i := 3) (N := some 63) (v := ?_) (a' := ?_) #[true, false, true, true, false, false, false, false, false, false, false, false] rfl rfl (any_of HT_.out (by kernel_rfl)) (fun _ _ _ h => h) (Or.inl ⟨by rfl, ?_⟩) ?_ ?_
             rotate_left
             ·intro w'
              go_simp
              with_reducible rfl
             rotate_left
             ·simp only [Act.put, List.setIfInBounds_toArray, List.set_cons_zero, List.set_cons_succ, i64_w, i32_w]
              rfl
             refine pure_ (i := 4) (N := some 64) (v := ?_) (a' := ?_) #[true, false, true, true, true, false, false, false, false, false, false, false] rfl rfl (any_of HT_.out (by kernel_rfl)) (fun _ _ _ h => h) (Or.inl ⟨by rfl, ?_⟩) ?_ ?_
             rotate_left
             ·intro w'
              go_simp
              with_reducible rfl
             rotate_left
             ·simp only [Act.put, List.setIfInBounds_toArray, List.set_cons_zero, List.set_cons_succ, i64_w, i32_w]
              rfl
             refine pure_ (i := 5) (N := some 65) (v := ?_) (a' := ?_) #[true, false, true, true, true, true, false, false, false, false, false, false] rfl rfl (any_of HT_.out (by kernel_rfl)) (fun _ _ _ h => h) (Or.inl ⟨by rfl, ?_⟩) ?_ ?_
             rotate_left
             ·intro w'
              go_simp
              with_reducible rfl
             rotate_left
             ·simp only [Act.put, List.setIfInBounds_toArray, List.set_cons_zero, List.set_cons_succ, i64_w, i32_w]
              rfl
             refine pure_ (i := 6) (N := some 66) (v := ?_) (a' := ?_) #[true, false, true, true, true, true, true, false, false, false, false, false] rfl rfl (any_of HT_.out (by kernel_rfl)) (fun _ _ _ h => h) (Or.inl ⟨by rfl, ?_⟩) ?_ ?_
             rotate_left
             ·intro w'
              go_simp
              with_reducible rfl
             rotate_left
             ·simp only [Act.put, List.setIfInBounds_toArray, List.set_cons_zero, List.set_cons_succ, i64_w, i32_w]
              rfl
             refine pure_ (i := 7) (N := some 67) (v := ?_) (a' := ?_) #[true, false, true, true, true, true, true, true, false, false, false, false] rfl rfl (any_of HT_.out (by kernel_rfl)) (fun _ _ _ h => h) (Or.inl ⟨by rfl, ?_⟩) ?_ ?_
             rotate_left
             ·intro w'
              go_simp
              with_reducible rfl
             rotate_left
             ·simp only [Act.put, List.setIfInBounds_toArray, List.set_cons_zero, List.set_cons_succ, i64_w, i32_w]
              rfl
             refine pure_ (i := 8) (N := some 68) (v := ?_) (a' := ?_) #[true, false, true, true, true, true, true, true, true, false, false, false] rfl rfl (any_of HT_.out (by kernel_rfl)) (fun _ _ _ h => h) (Or.inl ⟨by rfl, ?_⟩) ?_ ?_
             rotate_left
             ·intro w'
              go_simp
              with_reducible rfl
             rotate_left
             ·simp only [Act.put, List.setIfInBounds_toArray, List.set_cons_zero, List.set_cons_succ, i64_w, i32_w]
              rfl
             refine take_ (i := 1) (N := some 61) (v := ?_) (a' := ?_) #[true, true, true, true, true, true, true, true, true, false, false, false] rfl rfl (take_ofW HT_.out HW_.out (by kernel_rfl)) (fun _ _ _ h => h) (Or.inl ⟨by rfl, ?_⟩) hHeld ?_ ?_
             rotate_left
             ·rintro w' ⟨s0, s1, s2, s3, s4, s5, s6, s7, s8, s9⟩
              go_simp
              with_reducible rfl
             rotate_left
             ·simp only [Act.put, List.setIfInBounds_toArray, List.set_cons_zero, List.set_cons_succ, i64_w, i32_w]
              rfl
             refine take_ (i := 9) (N := some 69) (v := ?_) (a' := ?_) #[true, true, true, true, true, true, true, true, true, true, false, false] rfl rfl (take_ofW HT_.out HW_.out (by kernel_rfl)) (fun _ _ _ h => h) (Or.inl ⟨by rfl, ?_⟩) hHeld ?_ ?_
             rotate_left
             ·rintro w' ⟨s0, s1, s2, s3, s4, s5, s6, s7, s8, s9⟩
              go_simp
              with_reducible rfl
             rotate_left
             ·simp only [Act.put, List.setIfInBounds_toArray, List.set_cons_zero, List.set_cons_succ, i64_w, i32_w]
              rfl
             refine pure_ (i := 10) (N := some 70) (v := ?_) (a' := ?_) #[true, true, true, true, true, true, true, true, true, true, true, false] rfl rfl (any_of HT_.out (by kernel_rfl)) (fun _ _ _ h => h) (Or.inl ⟨by rfl, ?_⟩) ?_ ?_
             rotate_left
             ·intro w'
              go_simp
              with_reducible rfl
             rotate_left
             ·simp only [Act.put, List.setIfInBounds_toArray, List.set_cons_zero, List.set_cons_succ, i64_w, i32_w]
              rfl
             refine last_ (i := 11) (N := none) #[true, true, true, true, true, true, true, true, true, true, true, true] rfl rfl (one_of HT_.out (by kernel_rfl)) (by decide) (fun K hK => ?_)
             refine skip_ (w1 := ?_) (by rfl) rfl ?_ ?_
             rotate_left
             ·go_simp
              rfl
             refine hK.out _ _ ?_
             clear hK K
             refine done_ (done_of HT_.out (by kernel_rfl)) ?_
             try go_wp2
             go_roundg k2
             case measure => have := HJ4.out; have := HK2.out; omega
             case rel => exact ⟨(wrap64 (x10_2 + 1)), (y130), (x129001_2), (x129006_2), (.slice (some ⟨go52, 0, none⟩) x129000_2.length co52), (u129001), (u129006), (by first | rfl | (simp; done) | (simp [*]; done) | (simp [wrap64]; done)), H', ⟨by have := HJ4.out; have := HK2.out; omega⟩, ⟨by (with_reducible repeat (first | apply Kd.R_alloc | apply Kd.R_drewN | apply Kd.R_drew)); exact HQ54.out⟩, ⟨by (with_reducible repeat (first | apply Kd.R_alloc | apply Kd.R_drewN | apply Kd.R_drew)); exact Kd.R_mono (Kd.R_far (p := ⟨go52, ((ji49) : Int).toNat, none⟩) (Kd.R_mono HO_129001.out (fun k_ hk => (⟨hk, fun e_ => hk.1 (by rw [e_]; rfl)⟩ : _ ∧ k_ ≠ go52))) (fun _ hk => hk.2) (.int .i64 (rd l0 x10_2))) (fun _ hk => ⟨hk.1.1, hk.1.2⟩)⟩, ⟨by (with_reducible repeat (first | apply Kd.R_alloc | apply Kd.R_drewN | apply Kd.R_drew)); exact Kd.R_mono (Kd.R_far (p := ⟨go52, ((ji49) : Int).toNat, none⟩) (Kd.R_mono HO_129006.out (fun k_ hk => (⟨hk, fun e_ => hk.1 (by rw [e_]; rfl)⟩ : _ ∧ k_ ≠ go52))) (fun _ hk => hk.2) (.int .i64 (rd l0 x10_2))) (fun _ hk => ⟨hk.1.1, hk.1.2⟩)⟩, ⟨by refine bk_ ?_; refine blk_far ?_ (by have h_ := Kd.R_ne HO_129000.out BK111.out (by decide); intro e_; exact h_ (by rw [e_]; rfl)) _; refine bk_ ?_; exact BK111.out⟩, ⟨by refine bk_ ?_; refine blk_far ?_ (by have h_ := Kd.R_ne HO_129000.out BK128.out (by decide); intro e_; exact h_ (by rw [e_]; rfl)) _; refine bk_ ?_; exact BK128.out⟩, ⟨by repeat (first | (with_reducible first | exact HB.out | apply below_alloc | apply pw_below_drewN | apply below_drew1 | refine below_set ?_ GB52.out | refine below_set ?_ GE111.out | refine below_set ?_ GE128.out) | exact HB.out)⟩⟩
            ·rw [if_neg c51] at H
             exact absurd H (by simp)
           ·rw [if_neg c50] at H
            exact absurd H (by simp)
          ·rw [if_neg c48] at H
           exact absurd H (by simp)
         ·rw [if_neg c47] at H
          have c47b0 : decide (x10_2 < (l0.length : Int)) = false := decide_eq_false c47
          clear c47
          by_cases c55 : 6 < (x129001_2.length : Int)
          ·rw [if_pos c55] at H
           have c55b0 : decide (6 < (x129001_2.length : Int)) = true := decide_eq_true c55
           have c55b1 : decide (6 < x129001_2.length) = true := decide_eq_true (by omega)
           clear c55
           obtain ⟨y131, hy131⟩ : ∃ y_ : List Int, y_ = (x129001_2.set (6 : Int).toNat 512) := ⟨_, rfl⟩
           replace H : (if 7 < (x129001_2.length : Int) then (some (x129000_2, (y131.set (7 : Int).toNat a2), false, false, false, false, x129006_2, ([] : List Int), 0)) else (none)) = some (r1, r2, r3, r4, r5, r6, r7, r8, r9) := by first | (rw [hy131]; with_reducible exact H) | (have H2_ := (Option.bind_some _ _).symm.trans H; rw [hy131]; with_reducible exact H2_) | (have H2_ := (Option.bind_some _ _).symm.trans H; with_reducible exact H2_) | with_reducible exact H | (rw [hy131]; exact H) | exact H
           have Ny131 := A_ hy131
           clear hy131
           by_cases c57 : 7 < (x129001_2.length : Int)
           ·rw [if_pos c57] at H
            have c57b0 : decide (7 < (x129001_2.length : Int)) = true := decide_eq_true c57
            have c57b1 : decide (7 < x129001_2.length) = true := decide_eq_true (by omega)
            clear c57
            obtain ⟨y132, hy132⟩ : ∃ y_ : List Int, y_ = (y131.set (7 : Int).toNat a2) := ⟨_, rfl⟩
            replace H : (some (x129000_2, y132, false, false, false, false, x129006_2, ([] : List Int), 0)) = some (r1, r2, r3, r4, r5, r6, r7, r8, r9) := by first | (rw [hy132]; with_reducible exact H) | (have H2_ := (Option.bind_some _ _).symm.trans H; rw [hy132]; with_reducible exact H2_) | (have H2_ := (Option.bind_some _ _).symm.trans H; with_reducible exact H2_) | with_reducible exact H | (rw [hy132]; exact H) | exact H
            have Ny132 := A_ hy132
            clear hy132
            simp only [Option.some.injEq, Prod.mk.injEq] at H
            obtain ⟨rfl, rfl, rfl, rfl, rfl, rfl, rfl, rfl, rfl⟩ := H
            have hnb59 := NB128_111.out
            have hnc59 := NB111_128.out
            have y60_0 : wr.cell? ⟨gb128, 0, none⟩ = some (u129000) := (blk_cell BK128.out 0).trans rfl
            have y60_1 : wr.cell? ⟨gb128, 1, none⟩ = some (u129001) := (blk_cell BK128.out 1).trans rfl
            have y60_2 : wr.cell? ⟨gb128, 2, none⟩ = some (.bool false) := (blk_cell BK128.out 2).trans rfl
            have y60_3 : wr.cell? ⟨gb128, 3, none⟩ = some (.bool false) := (blk_cell BK128.out 3).trans rfl
            have y60_4 : wr.cell? ⟨gb128, 4, none⟩ = some (.bool false) := (blk_cell BK128.out 4).trans rfl
            have y60_5 : wr.cell? ⟨gb128, 5, none⟩ = some (.bool false) := (blk_cell BK128.out 5).trans rfl
            have y60_6 : wr.cell? ⟨gb128, 6, none⟩ = some (u129006) := (blk_cell BK128.out 6).trans rfl
            have y60_7 : wr.cell? ⟨gb128, 7, none⟩ = some (.slice none 0 0) := (blk_cell BK128.out 7).trans rfl
            have y60_8 : wr.cell? ⟨gb128, 8, none⟩ = some (.int .i64 0) := (blk_cell BK128.out 8).trans rfl
            have z60_0 := blk_frozen BK128.out 0
            have z60_1 := blk_frozen BK128.out 1
            have z60_2 := blk_frozen BK128.out 2
            have z60_3 := blk_frozen BK128.out 3
            have z60_4 := blk_frozen BK128.out 4
            have z60_5 := blk_frozen BK128.out 5
            have z60_6 := blk_frozen BK128.out 6
            have z60_7 := blk_frozen BK128.out 7
            have z60_8 := blk_frozen BK128.out 8
            have p56 : 0 ≤ (6 : Int) := (by omega)
            have q56 : (6 : Int) < ((x129001_2.length : Int) : Int) := of_decide_eq_true (by first | (with_reducible assumption) | assumption)
            have qi56 : (6 < x129001_2.length) = True := eq_true (by omega)
            obtain ⟨go56, co56, eo56, gb56, gl56, cl56, HG56⟩ := Kd.R_form HO_129001.out (by omega)
            (first | cases eo56 | (injection eo56 with ea_ en_ ec_; (first | subst ea_ | (injection ea_ with ea_; subst ea_)); subst ec_; clear en_))
            have GB56 := A_ gb56
            have GG56 := A_ HG56
            clear gb56 gl56 HG56
            obtain ⟨hx56_0, hf56_0⟩ := Kd.R_celln 0 HO_129001.out (6 : Int) p56 q56
            (try rw [show ((6 : Int)).toNat = 6 from rfl] at hx56_0)
            (try simp only [Nat.reduceMul, Nat.zero_mul, Nat.zero_add, Nat.reduceAdd] at hx56_0)
            (try rw [show ((6 : Int)).toNat = 6 from rfl] at hf56_0)
            (try simp only [Nat.reduceMul, Nat.zero_mul, Nat.zero_add, Nat.reduceAdd] at hf56_0)
            replace p56 := eq_true p56
            replace q56 := eq_true q56
            have HP61 := Kd.R_putg HO_129001.out (6 : Int) 512
            go_wp2_with (first | ((with_reducible refine gate_store (t := 3) (p := 73) rfl ?_); refine store_event (t := 3) (p := 73) (v := ?vo_w62) (w1 := (wr.setCell ⟨go56, (6 : Int).toNat, none⟩ (.int .i64 512))) ?hg ?ho ?hn ?hr ?_; (case ho => rfl); (case hg => rfl); (case hn => rfl); (case hr => first | (go_simp; done) | (go_simp; rfl)); intro w62 hw; have hg : wr.grownBy w62 (some go56) := (by rw [hw]; exact HP61.2); have hp_ : Kd.R (Kd.int .i64) 3 w62 w.heap.size (fun k_ => some k_ ≠ (u129000 : Value).ownBlock ∧ some k_ ≠ (u129006 : Value).ownBlock) (.slice (some ⟨go56, 0, none⟩) x129001_2.length co56) y131 := (by rw [hw, Ny131.out]; exact HP61.1); clear HP61; have n0_ := A_ (Kd.R_after (v := (.slice (some ⟨go56, 0, none⟩) x129001_2.length co56)) (v1 := (.slice (some ⟨go56, 0, none⟩) x129001_2.length co56)) (ok := (fun k_ => some k_ ≠ (u129006 : Value).ownBlock)) (by (with_reducible repeat (first | apply Kd.R_alloc | apply Kd.R_drewN | apply Kd.R_drew)); exact Kd.R_mono HO_129000.out (fun _ hk => ⟨hk.2, hk.1⟩)) hg (.inl rfl)); have n1_ := A_ (hp_); have n2_ := A_ (Kd.R_after (v := (.slice (some ⟨go56, 0, none⟩) x129001_2.length co56)) (v1 := (.slice (some ⟨go56, 0, none⟩) x129001_2.length co56)) (ok := (fun k_ => some k_ ≠ (u129000 : Value).ownBlock)) (by (with_reducible repeat (first | apply Kd.R_alloc | apply Kd.R_drewN | apply Kd.R_drew)); exact HO_129006.out) hg (.inl rfl)); have n3_ := A_ (blk_grown (bk_ BK111.out) hg (Kd.R_ne HO_129001.out BK111.out (by decide))); have n4_ := A_ (blk_grown (bk_ BK128.out) hg (Kd.R_ne HO_129001.out BK128.out (by decide))); have n5_ := A_ ((by rw [hw]; exact below_set (HB.out) GB56.out : Below w.heap.size w w62)); clear HO_129000; clear HO_129001; clear HO_129006; clear BK111; clear BK128; clear HB; have HO_129000 := n0_; have HO_129001 := n1_; have HO_129006 := n2_; have BK111 := n3_; have BK128 := n4_; have HB := n5_; clear n0_ n1_ n2_ n3_ n4_ n5_; clear hg hw hp_; have y63_0 : w62.cell? ⟨gb128, 0, none⟩ = some (u129000) := (blk_cell BK128.out 0).trans rfl; have y63_1 : w62.cell? ⟨gb128, 1, none⟩ = some (.slice (some ⟨go56, 0, none⟩) x129001_2.length co56) := (blk_cell BK128.out 1).trans rfl; have y63_2 : w62.cell? ⟨gb128, 2, none⟩ = some (.bool false) := (blk_cell BK128.out 2).trans rfl; have y63_3 : w62.cell? ⟨gb128, 3, none⟩ = some (.bool false) := (blk_cell BK128.out 3).trans rfl; have y63_4 : w62.cell? ⟨gb128, 4, none⟩ = some (.bool false) := (blk_cell BK128.out 4).trans rfl; have y63_5 : w62.cell? ⟨gb128, 5, none⟩ = some (.bool false) := (blk_cell BK128.out 5).trans rfl; have y63_6 : w62.cell? ⟨gb128, 6, none⟩ = some (u129006) := (blk_cell BK128.out 6).trans rfl; have y63_7 : w62.cell? ⟨gb128, 7, none⟩ = some (.slice none 0 0) := (blk_cell BK128.out 7).trans rfl; have y63_8 : w62.cell? ⟨gb128, 8, none⟩ = some (.int .i64 0) := (blk_cell BK128.out 8).trans rfl; have z63_0 := blk_frozen BK128.out 0; have z63_1 := blk_frozen BK128.out 1; have z63_2 := blk_frozen BK128.out 2; have z63_3 := blk_frozen BK128.out 3; have z63_4 := blk_frozen BK128.out 4; have z63_5 := blk_frozen BK128.out 5; have z63_6 := blk_frozen BK128.out 6; have z63_7 := blk_frozen BK128.out 7; have z63_8 := blk_frozen BK128.out 8; have p58 : 0 ≤ (7 : Int) := (by omega); have q58 : (7 : Int) < ((x129001_2.length : Int) : Int) := of_decide_eq_true (by first | (with_reducible assumption) | assumption); have qi58 : (7 < x129001_2.length) = True := eq_true (by omega); obtain ⟨hx58_0, hf58_0⟩ := Kd.R_celln 0 HO_129001.out (7 : Int) p58 q58; (try rw [show ((7 : Int)).toNat = 7 from rfl] at hx58_0); (try simp only [Nat.reduceMul, Nat.zero_mul, Nat.zero_add, Nat.reduceAdd] at hx58_0); (try rw [show ((7 : Int)).toNat = 7 from rfl] at hf58_0); (try simp only [Nat.reduceMul, Nat.zero_mul, Nat.zero_add, Nat.reduceAdd] at hf58_0); replace p58 := eq_true p58; replace q58 := eq_true q58; obtain ⟨hy64_, hz64_⟩ := Kd.R_celln 0 HO_129001.out (7 : Int) (by omega) (of_decide_eq_true (by first | (with_reducible assumption) | assumption)); (try simp only [Int.reduceToNat, Int.toNat_zero, Int.toNat_ofNat, Nat.reduceMul, Nat.zero_mul, Nat.zero_add] at hy64_ hz64_); (try rw [show ((7 : Int)).toNat = 7 from rfl] at hy64_); (try rw [show ((7 : Int)).toNat = 7 from rfl] at hz64_); have HP64 := Kd.R_putg HO_129001.out (7 : Int) a2) | ((with_reducible refine gate_store (t := 3) (p := 77) rfl ?_); refine store_event (t := 3) (p := 77) (v := ?vo_w65) (w1 := (w62.setCell ⟨go56, (7 : Int).toNat, none⟩ (.int .i64 a2))) ?hg ?ho ?hn ?hr ?_; (case ho => rfl); (case hg => rfl); (case hn => rfl); (case hr => first | (go_simp; done) | (go_simp; rfl)); intro w65 hw; have hg : w62.grownBy w65 (some go56) := (by rw [hw]; exact HP64.2); have hp_ : Kd.R (Kd.int .i64) 3 w65 w.heap.size (fun k_ => some k_ ≠ (u129000 : Value).ownBlock ∧ some k_ ≠ (u129006 : Value).ownBlock) (.slice (some ⟨go56, 0, none⟩) x129001_2.length co56) y132 := (by rw [hw, Ny132.out]; exact HP64.1); clear HP64; have n0_ := A_ (Kd.R_after (v := (.slice (some ⟨go56, 0, none⟩) x129001_2.length co56)) (v1 := (.slice (some ⟨go56, 0, none⟩) x129001_2.length co56)) (ok := (fun k_ => some k_ ≠ (u129006 : Value).ownBlock)) (by (with_reducible repeat (first | apply Kd.R_alloc | apply Kd.R_drewN | apply Kd.R_drew)); exact HO_129000.out) hg (.inl rfl)); have n1_ := A_ (hp_); have n2_ := A_ (Kd.R_after (v := (.slice (some ⟨go56, 0, none⟩) x129001_2.length co56)) (v1 := (.slice (some ⟨go56, 0, none⟩) x129001_2.length co56)) (ok := (fun k_ => some k_ ≠ (u129000 : Value).ownBlock)) (by (with_reducible repeat (first | apply Kd.R_alloc | apply Kd.R_drewN | apply Kd.R_drew)); exact HO_129006.out) hg (.inl rfl)); have n3_ := A_ (blk_grown (bk_ BK111.out) hg (Kd.R_ne HO_129001.out BK111.out (by decide))); have n4_ := A_ (blk_grown (bk_ BK128.out) hg (Kd.R_ne HO_129001.out BK128.out (by decide))); have n5_ := A_ ((by rw [hw]; exact below_set (HB.out) GB56.out : Below w.heap.size w w65)); clear HO_129000; clear HO_129001; clear HO_129006; clear BK111; clear BK128; clear HB; have HO_129000 := n0_; have HO_129001 := n1_; have HO_129006 := n2_; have BK111 := n3_; have BK128 := n4_; have HB := n5_; clear n0_ n1_ n2_ n3_ n4_ n5_; clear hg hw hp_; have y66_0 : w65.cell? ⟨gb128, 0, none⟩ = some (u129000) := (blk_cell BK128.out 0).trans rfl; have y66_1 : w65.cell? ⟨gb128, 1, none⟩ = some (.slice (some ⟨go56, 0, none⟩) x129001_2.length co56) := (blk_cell BK128.out 1).trans rfl; have y66_2 : w65.cell? ⟨gb128, 2, none⟩ = some (.bool false) := (blk_cell BK128.out 2).trans rfl; have y66_3 : w65.cell? ⟨gb128, 3, none⟩ = some (.bool false) := (blk_cell BK128.out 3).trans rfl; have y66_4 : w65.cell? ⟨gb128, 4, none⟩ = some (.bool false) := (blk_cell BK128.out 4).trans rfl; have y66_5 : w65.cell? ⟨gb128, 5, none⟩ = some (.bool false) := (blk_cell BK128.out 5).trans rfl; have y66_6 : w65.cell? ⟨gb128, 6, none⟩ = some (u129006) := (blk_cell BK128.out 6).trans rfl; have y66_7 : w65.cell? ⟨gb128, 7, none⟩ = some (.slice none 0 0) := (blk_cell BK128.out 7).trans rfl; have y66_8 : w65.cell? ⟨gb128, 8, none⟩ = some (.int .i64 0) := (blk_cell BK128.out 8).trans rfl; have z66_0 := blk_frozen BK128.out 0; have z66_1 := blk_frozen BK128.out 1; have z66_2 := blk_frozen BK128.out 2; have z66_3 := blk_frozen BK128.out 3; have z66_4 := blk_frozen BK128.out 4; have z66_5 := blk_frozen BK128.out 5; have z66_6 := blk_frozen BK128.out 6; have z66_7 := blk_frozen BK128.out 7; have z66_8 := blk_frozen BK128.out 8; obtain ⟨Ao67, co67, eo67⟩ := Kd.R_slice HO_129000.out; subst eo67; have y68_0 : w65.cell? ⟨gb111, 0, none⟩ = some (.slice none 0 0) := (blk_cell BK111.out 0).trans rfl; have y68_1 : w65.cell? ⟨gb111, 1, none⟩ = some (.slice none 0 0) := (blk_cell BK111.out 1).trans rfl; have y68_2 : w65.cell? ⟨gb111, 2, none⟩ = some (.bool false) := (blk_cell BK111.out 2).trans rfl; have y68_3 : w65.cell? ⟨gb111, 3, none⟩ = some (.bool false) := (blk_cell BK111.out 3).trans rfl; have y68_4 : w65.cell? ⟨gb111, 4, none⟩ = some (.bool false) := (blk_cell BK111.out 4).trans rfl; have y68_5 : w65.cell? ⟨gb111, 5, none⟩ = some (.bool false) := (blk_cell BK111.out 5).trans rfl; have y68_6 : w65.cell? ⟨gb111, 6, none⟩ = some (.slice none 0 0) := (blk_cell BK111.out 6).trans rfl; have y68_7 : w65.cell? ⟨gb111, 7, none⟩ = some (.slice none 0 0) := (blk_cell BK111.out 7).trans rfl; have y68_8 : w65.cell? ⟨gb111, 8, none⟩ = some (.int .i64 0) := (blk_cell BK111.out 8).trans rfl; have z68_0 := blk_frozen BK111.out 0; have z68_1 := blk_frozen BK111.out 1; have z68_2 := blk_frozen BK111.out 2; have z68_3 := blk_frozen BK111.out 3; have z68_4 := blk_frozen BK111.out 4; have z68_5 := blk_frozen BK111.out 5; have z68_6 := blk_frozen BK111.out 6; have z68_7 := blk_frozen BK111.out 7; have z68_8 := blk_frozen BK111.out 8; obtain ⟨Ao69, co69, eo69⟩ := Kd.R_slice HO_129006.out; subst eo69))
            refine bodyPost_ret (results_cell_row rfl _ _ gb111 28 #[.slice Ao67 x129000_2.length co67, .slice (some ⟨go56, 0, none⟩) x129001_2.length co56, .bool false, .bool false, .bool false, .bool false, .slice Ao69 x129006_2.length co69, .slice none 0 0, .int .i64 0] (0, 0) _ rfl ?hb_ Try.underlying28 rfl (by kernel_rfl)) rfl ?_
            (case hb_ => refine bk_ ?_; refine blk_put (cs := #[.slice Ao67 x129000_2.length co67, .slice (some ⟨go56, 0, none⟩) x129001_2.length co56, .bool false, .bool false, .bool false, .bool false, .slice Ao69 x129006_2.length co69, .slice none 0 0, .int .i64 0]) ?_ 8 _ rfl; refine bk_ ?_; refine blk_put (cs := #[.slice Ao67 x129000_2.length co67, .slice (some ⟨go56, 0, none⟩) x129001_2.length co56, .bool false, .bool false, .bool false, .bool false, .slice Ao69 x129006_2.length co69, .slice none 0 0, .int .i64 0]) ?_ 7 _ rfl; refine bk_ ?_; refine blk_put (cs := #[.slice Ao67 x129000_2.length co67, .slice (some ⟨go56, 0, none⟩) x129001_2.length co56, .bool false, .bool false, .bool false, .bool false, .slice none 0 0, .slice none 0 0, .int .i64 0]) ?_ 6 _ rfl; refine bk_ ?_; refine blk_put (cs := #[.slice Ao67 x129000_2.length co67, .slice (some ⟨go56, 0, none⟩) x129001_2.length co56, .bool false, .bool false, .bool false, .bool false, .slice none 0 0, .slice none 0 0, .int .i64 0]) ?_ 5 _ rfl; refine bk_ ?_; refine blk_put (cs := #[.slice Ao67 x129000_2.length co67, .slice (some ⟨go56, 0, none⟩) x129001_2.length co56, .bool false, .bool false, .bool false, .bool false, .slice none 0 0, .slice none 0 0, .int .i64 0]) ?_ 4 _ rfl; refine bk_ ?_; refine blk_put (cs := #[.slice Ao67 x129000_2.length co67, .slice (some ⟨go56, 0, none⟩) x129001_2.length co56, .bool false, .bool false, .bool false, .bool false, .slice none 0 0, .slice none 0 0, .int .i64 0]) ?_ 3 _ rfl; refine bk_ ?_; refine blk_put (cs := #[.slice Ao67 x129000_2.length co67, .slice (some ⟨go56, 0, none⟩) x129001_2.length co56, .bool false, .bool false, .bool false, .bool false, .slice none 0 0, .slice none 0 0, .int .i64 0]) ?_ 2 _ rfl; refine bk_ ?_; refine blk_put (cs := #[.slice Ao67 x129000_2.length co67, .slice none 0 0, .bool false, .bool false, .bool false, .bool false, .slice none 0 0, .slice none 0 0, .int .i64 0]) ?_ 1 _ rfl; refine bk_ ?_; refine blk_put (cs := #[.slice none 0 0, .slice none 0 0, .bool false, .bool false, .bool false, .bool false, .slice none 0 0, .slice none 0 0, .int .i64 0]) ?_ 0 _ rfl; refine bk_ ?_; exact BK111.out)
            exact ⟨_, _, _, _, by first | rfl | (simp [errW_none, errW_some] <;> rfl) | (simp [*, errW_none, errW_some] <;> rfl), by (with_reducible repeat (first | apply Kd.R_alloc | apply Kd.R_drewN | apply Kd.R_drew)); exact Kd.R_mono (Kd.R_far (p := ⟨gb111, 8, none⟩) (Kd.R_far (p := ⟨gb111, 7, none⟩) (Kd.R_far (p := ⟨gb111, 6, none⟩) (Kd.R_far (p := ⟨gb111, 5, none⟩) (Kd.R_far (p := ⟨gb111, 4, none⟩) (Kd.R_far (p := ⟨gb111, 3, none⟩) (Kd.R_far (p := ⟨gb111, 2, none⟩) (Kd.R_far (p := ⟨gb111, 1, none⟩) (Kd.R_far (p := ⟨gb111, 0, none⟩) (Kd.R_types HO_129000.out BK111.out (by decide)) (fun _ hk => hk.2) (.slice Ao67 x129000_2.length co67)) (fun _ hk => hk.2) (.slice (some ⟨go56, 0, none⟩) x129001_2.length co56)) (fun _ hk => hk.2) (.bool false)) (fun _ hk => hk.2) (.bool false)) (fun _ hk => hk.2) (.bool false)) (fun _ hk => hk.2) (.bool false)) (fun _ hk => hk.2) (.slice Ao69 x129006_2.length co69)) (fun _ hk => hk.2) (.slice none 0 0)) (fun _ hk => hk.2) (.int .i64 0)) (fun _ hk => ⟨hk.1.2, ⟨hk.1.1, (by simp [Value.ownBlock])⟩⟩), by (with_reducible repeat (first | apply Kd.R_alloc | apply Kd.R_drewN | apply Kd.R_drew)); exact Kd.R_mono (Kd.R_far (p := ⟨gb111, 8, none⟩) (Kd.R_far (p := ⟨gb111, 7, none⟩) (Kd.R_far (p := ⟨gb111, 6, none⟩) (Kd.R_far (p := ⟨gb111, 5, none⟩) (Kd.R_far (p := ⟨gb111, 4, none⟩) (Kd.R_far (p := ⟨gb111, 3, none⟩) (Kd.R_far (p := ⟨gb111, 2, none⟩) (Kd.R_far (p := ⟨gb111, 1, none⟩) (Kd.R_far (p := ⟨gb111, 0, none⟩) (Kd.R_types HO_129001.out BK111.out (by decide)) (fun _ hk => hk.2) (.slice Ao67 x129000_2.length co67)) (fun _ hk => hk.2) (.slice (some ⟨go56, 0, none⟩) x129001_2.length co56)) (fun _ hk => hk.2) (.bool false)) (fun _ hk => hk.2) (.bool false)) (fun _ hk => hk.2) (.bool false)) (fun _ hk => hk.2) (.bool false)) (fun _ hk => hk.2) (.slice Ao69 x129006_2.length co69)) (fun _ hk => hk.2) (.slice none 0 0)) (fun _ hk => hk.2) (.int .i64 0)) (fun _ hk => ⟨hk.1.1, ⟨hk.1.2, (by simp [Value.ownBlock])⟩⟩), by (with_reducible repeat (first | apply Kd.R_alloc | apply Kd.R_drewN | apply Kd.R_drew)); exact Kd.R_mono (Kd.R_far (p := ⟨gb111, 8, none⟩) (Kd.R_far (p := ⟨gb111, 7, none⟩) (Kd.R_far (p := ⟨gb111, 6, none⟩) (Kd.R_far (p := ⟨gb111, 5, none⟩) (Kd.R_far (p := ⟨gb111, 4, none⟩) (Kd.R_far (p := ⟨gb111, 3, none⟩) (Kd.R_far (p := ⟨gb111, 2, none⟩) (Kd.R_far (p := ⟨gb111, 1, none⟩) (Kd.R_far (p := ⟨gb111, 0, none⟩) (Kd.R_types HO_129006.out BK111.out (by decide)) (fun _ hk => hk.2) (.slice Ao67 x129000_2.length co67)) (fun _ hk => hk.2) (.slice (some ⟨go56, 0, none⟩) x129001_2.length co56)) (fun _ hk => hk.2) (.bool false)) (fun _ hk => hk.2) (.bool false)) (fun _ hk => hk.2) (.bool false)) (fun _ hk => hk.2) (.bool false)) (fun _ hk => hk.2) (.slice Ao69 x129006_2.length co69)) (fun _ hk => hk.2) (.slice none 0 0)) (fun _ hk => hk.2) (.int .i64 0)) (fun _ hk => ⟨hk.1.1, ⟨hk.1.2, (by simp [Value.ownBlock])⟩⟩), by first | exact Kd.R_nil _ _ _ _ _ | exact Kd.N_nil _ _ _ _ _ | exact Kd.V_nil _ _ _ _ _ | exact Kd.Q_nil _ _ _ _ _ | exact Kd.S_nil _ _ _ _ _, bw_ HB.out⟩
           ·rw [if_neg c57] at H
            exact absurd H (by simp)
          ·rw [if_neg c55] at H
           exact absurd H (by simp)
      ·rw [if_neg c21] at H
       exact absurd H (by simp)
     ·exact absurd (by decide) c20
    ·exact absurd (by decide) c19
end Go.Proofs.Ytiagbfilffbljaa.PFnExactMachNew
