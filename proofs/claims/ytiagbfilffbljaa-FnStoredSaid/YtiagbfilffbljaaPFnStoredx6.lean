-- Laid by a program of this session (a changed copy of the kit's printer); Lean checks every line.
import Derived.Test.YtiagbfilffbljaaPFnStoredx0
import Derived.Test.YtiagbfilffbljaaPFnStoredx1
import Derived.Test.YtiagbfilffbljaaPFnStoredx2
import Derived.Test.YtiagbfilffbljaaPFnStoredx4
namespace Go.Proofs.Ytiagbfilffbljaa.PFnStored
open Go.RowKit Go.Proofs.YtiagbfilffbljaaW.PrintWords Go.Proofs.YtiagbfilffbljaaW.PrintLast Go.Proofs.YtiagbfilffbljaaW.PrintMore
attribute [local go_sem] max2_int min2_int max_two min_two max_three min_three max_four min_four   -- for this text's walks alone
set_option linter.unusedVariables false
set_option linter.unusedSimpArgs false

attribute [local go_sem high] eqA63
/-! ### spec_l1Byte: function 88 -/
def spec_l1Byte.f (s0_0 : List Int) (s0_1 : Int) (s0_2 : Int) : Option (Int × Int × Int) := if s0_1 < (s0_0.length : Int) then (if 0 ≤ s0_1 then (some (Go.bits .and .i64 (wrap64 ((Go.bits .and .i64 (Go.bits .xor .i64 ((wrap64 ((wrap64 (s0_2 * 6364136223846793005)) + 1442695040888963407)) / 8589934592) ((wrap64 ((wrap64 (s0_2 * 6364136223846793005)) + 1442695040888963407)) / 140737488355328)) 255) + (wrap64 (rd s0_0 s0_1)))) 255, wrap64 (s0_1 + 1), wrap64 ((wrap64 (s0_2 * 6364136223846793005)) + 1442695040888963407))) else (none)) else (some (Go.bits .and .i64 (Go.bits .xor .i64 ((wrap64 ((wrap64 (s0_2 * 6364136223846793005)) + 1442695040888963407)) / 8589934592) ((wrap64 ((wrap64 (s0_2 * 6364136223846793005)) + 1442695040888963407)) / 140737488355328)) 255, s0_1, wrap64 ((wrap64 (s0_2 * 6364136223846793005)) + 1442695040888963407)))
set_option maxHeartbeats 8000000 in
set_option maxRecDepth 100000 in
theorem spec_l1Byte.calls (g : Nat) (s0_0 : List Int) (s0_1 : Int) (s0_2 : Int) (r1 : Int) (r2 : Int) (r3 : Int) (w0 w : World) (hI : IsS102 w0 w g s0_0 s0_1 s0_2) (hB : Below w0.heap.size w0 w) (h : spec_l1Byte.f s0_0 s0_1 s0_2 = some (r1, r2, r3)) :
  Calls Try.prog 88 #[.pointer (some ⟨g, 0, none⟩)] w fun e w' => e = .returned (.int .i64 r1) ∧ IsS102 w0 w' g s0_0 r2 r3 ∧ Below w0.heap.size w0 w' ∧ KeepBut w w' g none := by
 have HI0 := A_ hI
 have HK := A_ (KeepBut.refl w g none)
 have HL := A_ hB.size
 clear hI
 have HW0 := A_ hB.size
 have HB := A_ hB
 clear hB
 have H : (if s0_1 < (s0_0.length : Int) then (if 0 ≤ s0_1 then (some (Go.bits .and .i64 (wrap64 ((Go.bits .and .i64 (Go.bits .xor .i64 ((wrap64 ((wrap64 (s0_2 * 6364136223846793005)) + 1442695040888963407)) / 8589934592) ((wrap64 ((wrap64 (s0_2 * 6364136223846793005)) + 1442695040888963407)) / 140737488355328)) 255) + (wrap64 (rd s0_0 s0_1)))) 255, wrap64 (s0_1 + 1), wrap64 ((wrap64 (s0_2 * 6364136223846793005)) + 1442695040888963407))) else (none)) else (some (Go.bits .and .i64 (Go.bits .xor .i64 ((wrap64 ((wrap64 (s0_2 * 6364136223846793005)) + 1442695040888963407)) / 8589934592) ((wrap64 ((wrap64 (s0_2 * 6364136223846793005)) + 1442695040888963407)) / 140737488355328)) 255, s0_1, wrap64 ((wrap64 (s0_2 * 6364136223846793005)) + 1442695040888963407)))) = some (r1, r2, r3) := h
 clear h
 by_cases c2 : s0_1 < (s0_0.length : Int)
 ·rw [if_pos c2] at H
  have c2b0 := decide_eq_true c2
  clear c2
  by_cases c3 : 0 ≤ s0_1
  ·rw [if_pos c3] at H
   have c3b0 := decide_eq_true c3
   clear c3
   simp only [Option.some.injEq, Prod.mk.injEq] at H
   obtain ⟨rfl, rfl, rfl⟩ := H
   obtain ⟨ASz4_0, cSz4_0, HGz4, hgz4, HSz4_0⟩ := HI0.out
   have y4_0 := cellS102_0 HGz4
   have y4_1 := cellS102_1 HGz4
   have y4_2 := cellS102_2 HGz4
   have z4_1 := blk_frozen HGz4 1
   have z4_2 := blk_frozen HGz4 2
   clear HGz4 hgz4
   have p261 : 0 ≤ (s0_1 : Int) := of_decide_eq_true d8_
   have q261 : s0_1 < (s0_0.length : Int) := of_decide_eq_true d8_
   obtain ⟨ad261, e261, hx261_0⟩ := Kd.at_int HSz4_0 s0_1 p261 q261
   cases e261
   have hn261_0 : ad261.block ≠ g := Nat.ne_of_lt (Nat.lt_of_lt_of_le (by have := World.block_lt_of_cell? _ _ hx261_0; first | rwa [add_block] at this | exact this) (IsS102.ge HI0.out))
   replace hx261_0 := pw_cell_below HB.out hx261_0
   replace hx261_0 := (cell_far (p := ⟨g, 2, none⟩) (by first | (rw [add_block]; exact hn261_0) | (show (Addr.add _ _).block ≠ _; rw [add_block]; exact hn261_0) | exact hn261_0) (.int .i64 (wrap64 ((wrap64 (s0_2 * 6364136223846793005)) + 1442695040888963407)))).trans hx261_0
   (try have hy261_0 := fun (n_ : Nat) => (show (((w.drewN n_).setCell ⟨g, 2, none⟩ (.int .i64 (wrap64 ((wrap64 (s0_2 * 6364136223846793005)) + 1442695040888963407))))).cell? _ = some _ from hx261_0))
   clear hn261_0
   replace p261 := eq_true p261
   replace q261 := eq_true q261
   go_enter Try.func88, Try.ntmps88
   go_wp2
   repeat (go_quiet (fail); try go_wp2)
   go_ret
   exact rt_ ⟨hI0_, (have := GeI.mk (IsS102.ge HI0.out); bw_ HB.out), by repeat (first | (with_reducible first | exact HK.out | apply KeepBut.set_ | apply keep_drewN | apply keep_drew | apply keep_alloc) | exact HK.out)⟩
  ·rw [if_neg c3] at H
   exact absurd H (by simp)
 ·rw [if_neg c2] at H
  have c2b0 := decide_eq_false c2
  clear c2
  simp only [Option.some.injEq, Prod.mk.injEq] at H
  obtain ⟨rfl, rfl, rfl⟩ := H
  obtain ⟨ASz5_0, cSz5_0, HGz5, hgz5, HSz5_0⟩ := HI0.out
  have y5_0 := cellS102_0 HGz5
  have y5_1 := cellS102_1 HGz5
  have y5_2 := cellS102_2 HGz5
  have z5_1 := blk_frozen HGz5 1
  have z5_2 := blk_frozen HGz5 2
  clear HGz5 hgz5
  go_enter Try.func88, Try.ntmps88
  go_wp2
  repeat (go_quiet (fail); try go_wp2)
  go_ret
  exact rt_ ⟨hI0_, (have := GeI.mk (IsS102.ge HI0.out); bw_ HB.out), by repeat (first | (with_reducible first | exact HK.out | apply KeepBut.set_ | apply keep_drewN | apply keep_drew | apply keep_alloc) | exact HK.out)⟩

/-! ### spec_l1Below: function 71 -/
def spec_l1Below.f (s0_0 : List Int) (s0_1 : Int) (s0_2 : Int) (a1 : Int) : Option (Int × Int × Int) := if a1 ≤ 0 then (some (0, s0_1, s0_2)) else (if a1 ≤ 256 then ((spec_l1Byte.f s0_0 s0_1 s0_2).bind fun bt262 => (if a1 = 0 then (none) else (some (Int.tmod bt262.1 a1, bt262.2.1, bt262.2.2)))) else ((spec_l1Byte.f s0_0 s0_1 s0_2).bind fun bt265 => ((spec_l1Byte.f s0_0 bt265.2.1 bt265.2.2).bind fun bt268 => ((spec_l1Byte.f s0_0 bt268.2.1 bt268.2.2).bind fun bt271 => (if a1 = 0 then (none) else (some (Int.tmod (wrap64 ((wrap64 ((wrap64 (bt265.1 * 65536)) + (wrap64 (bt268.1 * 256)))) + bt271.1)) a1, bt271.2.1, bt271.2.2)))))))
set_option maxHeartbeats 8000000 in
set_option maxRecDepth 100000 in
theorem spec_l1Below.calls (g : Nat) (s0_0 : List Int) (s0_1 : Int) (s0_2 : Int) (a1 : Int) (r1 : Int) (r2 : Int) (r3 : Int) (w0 w : World) (hI : IsS102 w0 w g s0_0 s0_1 s0_2) (hB : Below w0.heap.size w0 w) (h : spec_l1Below.f s0_0 s0_1 s0_2 a1 = some (r1, r2, r3)) :
  Calls Try.prog 71 #[.pointer (some ⟨g, 0, none⟩), .int .i64 a1] w fun e w' => e = .returned (.int .i64 r1) ∧ IsS102 w0 w' g s0_0 r2 r3 ∧ Below w0.heap.size w0 w' ∧ KeepBut w w' g none := by
 have HI0 := A_ hI
 have HK := A_ (KeepBut.refl w g none)
 have HL := A_ hB.size
 clear hI
 have HW0 := A_ hB.size
 have HB := A_ hB
 clear hB
 have H : (if a1 ≤ 0 then (some (0, s0_1, s0_2)) else (if a1 ≤ 256 then ((spec_l1Byte.f s0_0 s0_1 s0_2).bind fun bt262 => (if a1 = 0 then (none) else (some (Int.tmod bt262.1 a1, bt262.2.1, bt262.2.2)))) else ((spec_l1Byte.f s0_0 s0_1 s0_2).bind fun bt265 => ((spec_l1Byte.f s0_0 bt265.2.1 bt265.2.2).bind fun bt268 => ((spec_l1Byte.f s0_0 bt268.2.1 bt268.2.2).bind fun bt271 => (if a1 = 0 then (none) else (some (Int.tmod (wrap64 ((wrap64 ((wrap64 (bt265.1 * 65536)) + (wrap64 (bt268.1 * 256)))) + bt271.1)) a1, bt271.2.1, bt271.2.2)))))))) = some (r1, r2, r3) := h
 clear h
 by_cases c3 : a1 ≤ 0
 ·rw [if_pos c3] at H
  have c3b0 := decide_eq_true c3
  clear c3
  simp only [Option.some.injEq, Prod.mk.injEq] at H
  obtain ⟨rfl, rfl, rfl⟩ := H
  go_enter Try.func71, Try.ntmps71
  go_wp2
  go_ret
  exact rt_ ⟨hI0_, (have := GeI.mk (IsS102.ge HI0.out); bw_ HB.out), by repeat (first | (with_reducible first | exact HK.out | apply KeepBut.set_ | apply keep_drewN | apply keep_drew | apply keep_alloc) | exact HK.out)⟩
 ·rw [if_neg c3] at H
  have c3b0 := decide_eq_false c3
  clear c3
  by_cases c4 : a1 ≤ 256
  ·rw [if_pos c4] at H
   have c4b0 := decide_eq_true c4
   clear c4
   replace H := Option.bind_eq_some_iff.mp H
   obtain ⟨⟨t262, t263, t264⟩, A50, H⟩ := H
   try dsimp only at H
   have A5 := A_ A50
   clear A50
   by_cases c6 : a1 = 0
   ·rw [if_pos c6] at H
    exact absurd H (by simp)
   ·rw [if_neg c6] at H
    have c6b0 := beq_eq_false_iff_ne.mpr c6
    have c6b1 := bne_iff_ne.mpr c6
    simp only [Option.some.injEq, Prod.mk.injEq] at H
    obtain ⟨rfl, rfl, rfl⟩ := H
    go_enter Try.func71, Try.ntmps71
    go_wp2_with (first | ((with_reducible refine gate_callee (f := 88) rfl ?_); refine gL_ (some 13) Try.func88 #[.pointer (some ⟨g, 0, none⟩)] ?_; (with_reducible refine (spec_l1Byte.calls g s0_0 s0_1 s0_2 t262 t263 t264 w0 _ ?side1 ?side2 A5.out).mono ?_); (case side1 => exact hI0_); (case side2 => exact (have := GeI.mk (IsS102.ge HI0.out); bw_ HB.out)); rintro e w7 ⟨rfl, hi, hb, hk⟩; refine ⟨_, rfl, ?_⟩; replace HK := A_ (KeepBut.trans d1_ hk (.inl rfl)); replace HB := A_ (hb); replace HI0 := A_ (hi); clear hb hk hi))
    go_ret
    exact rt_ ⟨hI0_, (have := GeI.mk (IsS102.ge HI0.out); bw_ HB.out), by repeat (first | (with_reducible first | exact HK.out | apply KeepBut.set_ | apply keep_drewN | apply keep_drew | apply keep_alloc) | exact HK.out)⟩
  ·rw [if_neg c4] at H
   have c4b0 := decide_eq_false c4
   clear c4
   replace H := Option.bind_eq_some_iff.mp H
   obtain ⟨⟨t265, t266, t267⟩, A80, H⟩ := H
   try dsimp only at H
   have A8 := A_ A80
   clear A80
   replace H := Option.bind_eq_some_iff.mp H
   obtain ⟨⟨t268, t269, t270⟩, A90, H⟩ := H
   try dsimp only at H
   have A9 := A_ A90
   clear A90
   replace H := Option.bind_eq_some_iff.mp H
   obtain ⟨⟨t271, t272, t273⟩, A100, H⟩ := H
   try dsimp only at H
   have A10 := A_ A100
   clear A100
   by_cases c11 : a1 = 0
   ·rw [if_pos c11] at H
    exact absurd H (by simp)
   ·rw [if_neg c11] at H
    have c11b0 := beq_eq_false_iff_ne.mpr c11
    have c11b1 := bne_iff_ne.mpr c11
    simp only [Option.some.injEq, Prod.mk.injEq] at H
    obtain ⟨rfl, rfl, rfl⟩ := H
    go_enter Try.func71, Try.ntmps71
    go_wp2_with (first | ((with_reducible refine gate_callee (f := 88) rfl ?_); refine gL_ (some 17) Try.func88 #[.pointer (some ⟨g, 0, none⟩)] ?_; (with_reducible refine (spec_l1Byte.calls g s0_0 s0_1 s0_2 t265 t266 t267 w0 _ ?side1 ?side2 A8.out).mono ?_); (case side1 => exact hI0_); (case side2 => exact (have := GeI.mk (IsS102.ge HI0.out); bw_ HB.out)); rintro e w12 ⟨rfl, hi, hb, hk⟩; refine ⟨_, rfl, ?_⟩; replace HK := A_ (KeepBut.trans d1_ hk (.inl rfl)); replace HB := A_ (hb); replace HI0 := A_ (hi); clear hb hk hi) | ((with_reducible refine gate_callee (f := 88) rfl ?_); refine gL_ (some 19) Try.func88 #[.pointer (some ⟨g, 0, none⟩)] ?_; (with_reducible refine (spec_l1Byte.calls g s0_0 t266 t267 t268 t269 t270 w0 _ ?side1 ?side2 A9.out).mono ?_); (case side1 => exact hI0_); (case side2 => exact (have := GeI.mk (IsS102.ge HI0.out); bw_ HB.out)); rintro e w13 ⟨rfl, hi, hb, hk⟩; refine ⟨_, rfl, ?_⟩; replace HK := A_ (KeepBut.trans d1_ hk (.inl rfl)); replace HB := A_ (hb); replace HI0 := A_ (hi); clear hb hk hi) | ((with_reducible refine gate_callee (f := 88) rfl ?_); refine gL_ (some 21) Try.func88 #[.pointer (some ⟨g, 0, none⟩)] ?_; (with_reducible refine (spec_l1Byte.calls g s0_0 t269 t270 t271 t272 t273 w0 _ ?side1 ?side2 A10.out).mono ?_); (case side1 => exact hI0_); (case side2 => exact (have := GeI.mk (IsS102.ge HI0.out); bw_ HB.out)); rintro e w14 ⟨rfl, hi, hb, hk⟩; refine ⟨_, rfl, ?_⟩; replace HK := A_ (KeepBut.trans d1_ hk (.inl rfl)); replace HB := A_ (hb); replace HI0 := A_ (hi); clear hb hk hi))
    go_ret
    exact rt_ ⟨hI0_, (have := GeI.mk (IsS102.ge HI0.out); bw_ HB.out), by repeat (first | (with_reducible first | exact HK.out | apply KeepBut.set_ | apply keep_drewN | apply keep_drew | apply keep_alloc) | exact HK.out)⟩

/-! ### spec_l1Once: function 81 -/
def spec_l1Once.f (s0_0 : List Int) (s0_1 : Int) (s0_2 : Int) (a1 : Int) : Option (Bool × Int × Int) := (spec_l1Below.f s0_0 s0_1 s0_2 a1).bind fun bt274 => (some ((bt274.1 == 0), bt274.2.1, bt274.2.2))
set_option maxHeartbeats 8000000 in
set_option maxRecDepth 100000 in
theorem spec_l1Once.calls (g : Nat) (s0_0 : List Int) (s0_1 : Int) (s0_2 : Int) (a1 : Int) (r1 : Bool) (r2 : Int) (r3 : Int) (w0 w : World) (hI : IsS102 w0 w g s0_0 s0_1 s0_2) (hB : Below w0.heap.size w0 w) (h : spec_l1Once.f s0_0 s0_1 s0_2 a1 = some (r1, r2, r3)) :
  Calls Try.prog 81 #[.pointer (some ⟨g, 0, none⟩), .int .i64 a1] w fun e w' => e = .returned (.bool r1) ∧ IsS102 w0 w' g s0_0 r2 r3 ∧ Below w0.heap.size w0 w' ∧ KeepBut w w' g none := by
 have HI0 := A_ hI
 have HK := A_ (KeepBut.refl w g none)
 have HL := A_ hB.size
 clear hI
 have HW0 := A_ hB.size
 have HB := A_ hB
 clear hB
 have H : ((spec_l1Below.f s0_0 s0_1 s0_2 a1).bind fun bt274 => (some ((bt274.1 == 0), bt274.2.1, bt274.2.2))) = some (r1, r2, r3) := h
 clear h
 replace H := Option.bind_eq_some_iff.mp H
 obtain ⟨⟨t274, t275, t276⟩, A30, H⟩ := H
 try dsimp only at H
 have A3 := A_ A30
 clear A30
 simp only [Option.some.injEq, Prod.mk.injEq] at H
 obtain ⟨rfl, rfl, rfl⟩ := H
 go_enter Try.func81, Try.ntmps81
 go_wp2_with (first | ((with_reducible refine gate_callee (f := 71) rfl ?_); refine gL_ (some 7) Try.func71 #[.pointer (some ⟨g, 0, none⟩), .int .i64 a1] ?_; (with_reducible refine (spec_l1Below.calls g s0_0 s0_1 s0_2 a1 t274 t275 t276 w0 _ ?side1 ?side2 A3.out).mono ?_); (case side1 => exact hI0_); (case side2 => exact (have := GeI.mk (IsS102.ge HI0.out); bw_ HB.out)); rintro e w4 ⟨rfl, hi, hb, hk⟩; refine ⟨_, rfl, ?_⟩; replace HK := A_ (KeepBut.trans d1_ hk (.inl rfl)); replace HB := A_ (hb); replace HI0 := A_ (hi); clear hb hk hi))
 go_ret
 exact rt_ ⟨hI0_, (have := GeI.mk (IsS102.ge HI0.out); bw_ HB.out), by repeat (first | (with_reducible first | exact HK.out | apply KeepBut.set_ | apply keep_drewN | apply keep_drew | apply keep_alloc) | exact HK.out)⟩

/-! ### spec_l1Int: function 72 -/
def spec_l1Int.f (s0_0 : List Int) (s0_1 : Int) (s0_2 : Int) (l1 : List Int) : Option (Int × Int × Int) := (spec_l1Below.f s0_0 s0_1 s0_2 (l1.length : Int)).bind fun bt277 => (if 0 ≤ bt277.1 then (if bt277.1 < (l1.length : Int) then (some (rd l1 bt277.1, bt277.2.1, bt277.2.2)) else (none)) else (none))
set_option maxHeartbeats 8000000 in
set_option maxRecDepth 100000 in
theorem spec_l1Int.calls (g : Nat) (s0_0 : List Int) (s0_1 : Int) (s0_2 : Int) (A1 : Option Addr) (c1 : Nat) (l1 : List Int) (r1 : Int) (r2 : Int) (r3 : Int) (w0 w : World) (hI : IsS102 w0 w g s0_0 s0_1 s0_2) (hB : Below w0.heap.size w0 w) (hr1 : Kd.C (Kd.int .i64) w A1 l1.length l1) (hc1 : l1.length ≤ c1) (hf1 : ∀ ad, A1 = some ad → 0 < l1.length → ad.block ≠ g) (h : spec_l1Int.f s0_0 s0_1 s0_2 l1 = some (r1, r2, r3)) :
  Calls Try.prog 72 #[.pointer (some ⟨g, 0, none⟩), .slice A1 l1.length c1] w fun e w' => e = .returned (.int .i64 r1) ∧ IsS102 w0 w' g s0_0 r2 r3 ∧ Below w0.heap.size w0 w' ∧ KeepBut w w' g none := by
 have HR1 := A_ hr1
 have HC1 := A_ hc1
 clear hr1 hc1
 have HI0 := A_ hI
 have HK := A_ (KeepBut.refl w g none)
 have HL := A_ hB.size
 clear hI
 have HW0 := A_ hB.size
 have HB := A_ hB
 clear hB
 have H : ((spec_l1Below.f s0_0 s0_1 s0_2 (l1.length : Int)).bind fun bt277 => (if 0 ≤ bt277.1 then (if bt277.1 < (l1.length : Int) then (some (rd l1 bt277.1, bt277.2.1, bt277.2.2)) else (none)) else (none))) = some (r1, r2, r3) := h
 clear h
 replace H := Option.bind_eq_some_iff.mp H
 obtain ⟨⟨t277, t278, t279⟩, A30, H⟩ := H
 try dsimp only at H
 have A3 := A_ A30
 clear A30
 by_cases c4 : 0 ≤ t277
 ·rw [if_pos c4] at H
  have c4b0 := decide_eq_true c4
  clear c4
  by_cases c5 : t277 < (l1.length : Int)
  ·rw [if_pos c5] at H
   have c5b0 := decide_eq_true c5
   clear c5
   simp only [Option.some.injEq, Prod.mk.injEq] at H
   obtain ⟨rfl, rfl, rfl⟩ := H
   go_enter Try.func72, Try.ntmps72
   go_wp2_with (first | ((with_reducible refine gate_callee (f := 71) rfl ?_); refine gL_ (some 9) Try.func71 #[.pointer (some ⟨g, 0, none⟩), .int .i64 (l1.length : Int)] ?_; (with_reducible refine (spec_l1Below.calls g s0_0 s0_1 s0_2 (l1.length : Int) t277 t278 t279 w0 _ ?side1 ?side2 A3.out).mono ?_); (case side1 => exact hI0_); (case side2 => exact (have := GeI.mk (IsS102.ge HI0.out); bw_ HB.out)); rintro e w6 ⟨rfl, hi, hb, hk⟩; refine ⟨_, rfl, ?_⟩; replace HK := A_ (KeepBut.trans d1_ hk (.inl rfl)); replace HB := A_ (hb); replace HI0 := A_ (hi); clear hb hk hi; have p280 : 0 ≤ (t277 : Int) := of_decide_eq_true d8_; have q280 : t277 < (l1.length : Int) := of_decide_eq_true d8_; obtain ⟨ad280, e280, hx280_0⟩ := Kd.at_int HR1.out t277 p280 q280; cases e280; replace hx280_0 := keep_cell HK.out hx280_0 (by first | (rw [add_block]; exact hf1 _ rfl (by omega)) | exact hf1 _ rfl (by omega) | exact hf1 ad280 rfl (by omega)); replace p280 := eq_true p280; replace q280 := eq_true q280))
   go_ret
   exact rt_ ⟨hI0_, (have := GeI.mk (IsS102.ge HI0.out); bw_ HB.out), by repeat (first | (with_reducible first | exact HK.out | apply KeepBut.set_ | apply keep_drewN | apply keep_drew | apply keep_alloc) | exact HK.out)⟩
  ·rw [if_neg c5] at H
   exact absurd H (by simp)
 ·rw [if_neg c4] at H
  exact absurd H (by simp)

/-! ### spec_l1Word: function 85 -/
def spec_l1Word.f (s0_0 : List Int) (s0_1 : Int) (s0_2 : Int) : Option (Int × Int × Int) := (spec_l1Below.f s0_0 s0_1 s0_2 65536).bind fun bt281 => ((spec_l1Int.f s0_0 bt281.2.1 bt281.2.2 (([0, 1, 2, 3, 5, 8, 255, 32767, 32768, 65535, bt281.1] : List Int))).bind fun bt287 => (some (bt287.1, bt287.2.1, bt287.2.2)))
set_option maxHeartbeats 8000000 in
set_option maxRecDepth 100000 in
theorem spec_l1Word.calls (g : Nat) (s0_0 : List Int) (s0_1 : Int) (s0_2 : Int) (r1 : Int) (r2 : Int) (r3 : Int) (w0 w : World) (hI : IsS102 w0 w g s0_0 s0_1 s0_2) (hB : Below w0.heap.size w0 w) (h : spec_l1Word.f s0_0 s0_1 s0_2 = some (r1, r2, r3)) :
  Calls Try.prog 85 #[.pointer (some ⟨g, 0, none⟩)] w fun e w' => e = .returned (.int .i64 r1) ∧ IsS102 w0 w' g s0_0 r2 r3 ∧ Below w0.heap.size w0 w' ∧ KeepBut w w' g none := by
 have HI0 := A_ hI
 have HK := A_ (KeepBut.refl w g none)
 have HL := A_ hB.size
 clear hI
 have HW0 := A_ hB.size
 have HB := A_ hB
 clear hB
 have H : ((spec_l1Below.f s0_0 s0_1 s0_2 65536).bind fun bt281 => ((spec_l1Int.f s0_0 bt281.2.1 bt281.2.2 (([0, 1, 2, 3, 5, 8, 255, 32767, 32768, 65535, bt281.1] : List Int))).bind fun bt287 => (some (bt287.1, bt287.2.1, bt287.2.2)))) = some (r1, r2, r3) := h
 clear h
 replace H := Option.bind_eq_some_iff.mp H
 obtain ⟨⟨t281, t282, t283⟩, A20, H⟩ := H
 try dsimp only at H
 have A2 := A_ A20
 clear A20
 obtain ⟨y284, hy284⟩ : ∃ y_ : List Int, y_ = (([0, 1, 2, 3, 5, 8, 255, 32767, 32768, 65535, t281] : List Int)) := ⟨_, rfl⟩
 replace H : ((spec_l1Int.f s0_0 t282 t283 y284).bind fun bt287 => (some (bt287.1, bt287.2.1, bt287.2.2))) = some (r1, r2, r3) := by first | (rw [hy284]; with_reducible exact H) | (have H2_ := (Option.bind_some _ _).symm.trans H; rw [hy284]; with_reducible exact H2_) | (have H2_ := (Option.bind_some _ _).symm.trans H; with_reducible exact H2_) | with_reducible exact H | (rw [hy284]; exact H) | exact H
 have Ny284 := A_ hy284
 clear hy284
 replace H := Option.bind_eq_some_iff.mp H
 obtain ⟨⟨t287, t288, t289⟩, A30, H⟩ := H
 try dsimp only at H
 have A3 := A_ A30
 clear A30
 simp only [Option.some.injEq, Prod.mk.injEq] at H
 obtain ⟨rfl, rfl, rfl⟩ := H
 go_enter Try.func85, Try.ntmps85
 go_wp2_with (first | ((with_reducible refine gate_callee (f := 71) rfl ?_); refine gL_ (some 5) Try.func71 #[.pointer (some ⟨g, 0, none⟩), .int .i64 65536] ?_; (with_reducible refine (spec_l1Below.calls g s0_0 s0_1 s0_2 65536 t281 t282 t283 w0 _ ?side1 ?side2 A2.out).mono ?_); (case side1 => exact hI0_); (case side2 => exact (have := GeI.mk (IsS102.ge HI0.out); bw_ HB.out)); rintro e w4 ⟨rfl, hi, hb, hk⟩; refine ⟨_, rfl, ?_⟩; replace HK := A_ (KeepBut.trans d1_ hk (.inl rfl)); replace HB := A_ (hb); replace HI0 := A_ (hi); clear hb hk hi) | ((with_reducible refine gate_dst (N := 6) rfl ?_); refine Kd.R_lit (Kd.int .i64) _ 3 ?hg (N := 6) ?hd (xs := ([0, 1, 2, 3, 5, 8, 255, 32767, 32768, 65535, t281] : List Int)) (inner := [.int .i64 0, .int .i64 1, .int .i64 2, .int .i64 3, .int .i64 5, .int .i64 8, .int .i64 255, .int .i64 32767, .int .i64 32768, .int .i64 65535, .int .i64 t281]) (ok := fun _ => True) (okp := fun _ => True) ?hr ?hp (fun _ hk => hk) trivial (Below.refl _ _) (Nat.le_refl _) (by simp) ?_; (case hd => rfl); (case hg => rfl); (case hr => first | (go_simp; done) | (go_simp; rfl)); (case hp => exact (Reps.one (show Kd.M (Kd.int .i64) _ _ _ 0 [.int .i64 0] from rfl) (Reps.one (show Kd.M (Kd.int .i64) _ _ _ 1 [.int .i64 1] from rfl) (Reps.one (show Kd.M (Kd.int .i64) _ _ _ 2 [.int .i64 2] from rfl) (Reps.one (show Kd.M (Kd.int .i64) _ _ _ 3 [.int .i64 3] from rfl) (Reps.one (show Kd.M (Kd.int .i64) _ _ _ 5 [.int .i64 5] from rfl) (Reps.one (show Kd.M (Kd.int .i64) _ _ _ 8 [.int .i64 8] from rfl) (Reps.one (show Kd.M (Kd.int .i64) _ _ _ 255 [.int .i64 255] from rfl) (Reps.one (show Kd.M (Kd.int .i64) _ _ _ 32767 [.int .i64 32767] from rfl) (Reps.one (show Kd.M (Kd.int .i64) _ _ _ 32768 [.int .i64 32768] from rfl) (Reps.one (show Kd.M (Kd.int .i64) _ _ _ 65535 [.int .i64 65535] from rfl) (Reps.one (show Kd.M (Kd.int .i64) _ _ _ t281 [.int .i64 t281] from rfl) (Reps.none _ _))))))))))))); intro v285 w5 ho6 hb hg_ hnew_; clear hg_ hnew_; (first | rw [← Ny284.out] at ho6 | (simp only [Int.reduceToNat] at ho6; rw [← Ny284.out] at ho6)); have HO286 := A_ (Kd.R_lower ho6 (keep_size (w := w) (g := g) (row := none) d1_)); replace HK := A_ (KeepBut.trans d1_ (KeepBut.of_below hb g none) (.inl rfl)); replace HB := A_ (below_step (have := GeI.mk (IsS102.ge HI0.out); bw_ HB.out) hb); replace HI0 := A_ (IsS102.below d11_ hb); clear hb ho6; obtain ⟨Ao7, co7, eo7⟩ := Kd.R_slice HO286.out; subst eo7) | ((with_reducible refine gate_callee (f := 72) rfl ?_); refine gL_ (some 7) Try.func72 #[.pointer (some ⟨g, 0, none⟩), .slice Ao7 y284.length co7] ?_; (with_reducible refine (spec_l1Int.calls g s0_0 t282 t283 _ _ y284 t287 t288 t289 w0 _ ?side1 ?side2 ?side3 ?side4 ?side5 A3.out).mono ?_); (case side1 => exact hI0_); (case side2 => exact (have := GeI.mk (IsS102.ge HI0.out); bw_ HB.out)); (case side3 => repeat (first | exact (Kd.R_reads' HO286.out).2.2 | (with_reducible refine Kd.C_alloc ?_ _) | (with_reducible refine Kd.C_drewN ?_ _) | (with_reducible refine Kd.C_drew ?_))); (case side4 => exact (Kd.R_reads' HO286.out).2.1); (case side5 => exact far_slice (IsS102.own_ne HI0.out HO286.out (by decide))); rintro e w8 ⟨rfl, hi, hb, hk⟩; refine ⟨_, rfl, ?_⟩; replace HO286 := kI_ (hI0_ : IsS102 w0 _ g s0_0 t282 t283) hk HO286; replace HK := A_ (KeepBut.trans d1_ hk (.inl rfl)); replace HB := A_ (hb); replace HI0 := A_ (hi); clear hb hk hi))
 go_ret
 exact rt_ ⟨hI0_, (have := GeI.mk (IsS102.ge HI0.out); bw_ HB.out), by repeat (first | (with_reducible first | exact HK.out | apply KeepBut.set_ | apply keep_drewN | apply keep_drew | apply keep_alloc) | exact HK.out)⟩

/-! ### spec_HasX: function 89 -/
def spec_HasX.f (a0_0 : Int) (a0_1 : Int) (a0_2 : Int) : Option (Bool) := if a0_0 = 6 then (some true) else (if a0_0 = 7 then (some true) else (if a0_1 = 7 then (if a0_0 = 2 then (some true) else (some (a0_0 == 3))) else (some false)))
set_option maxHeartbeats 8000000 in
set_option maxRecDepth 100000 in
theorem spec_HasX.calls (a0_0 : Int) (a0_1 : Int) (a0_2 : Int) (r : Bool) (w : World) (h : spec_HasX.f a0_0 a0_1 a0_2 = some r) :
  Calls Try.prog 89 #[.agg #[.int .i64 a0_0, .int .i64 a0_1, .int .i64 a0_2]] w fun e w' => e = .returned (.bool r) ∧ Below w.heap.size w w' := by
 have hu63 := Try.underlying63
 have HB := A_ (Below.refl w.heap.size w)
 have H : (if a0_0 = 6 then (some true) else (if a0_0 = 7 then (some true) else (if a0_1 = 7 then (if a0_0 = 2 then (some true) else (some (a0_0 == 3))) else (some false)))) = some r := h
 clear h
 by_cases c2 : a0_0 = 6
 ·rw [if_pos c2] at H
  have c2b0 := beq_iff_eq.mpr c2
  have c2b1 := bne_eq_false_iff_eq.mpr c2
  clear c2
  obtain rfl := Option.some.inj H
  go_enter Try.func89, Try.ntmps89
  go_wp2_with (first | ((with_reducible refine gate_dst (N := 1) rfl ?_); refine bx_ 1 #[.int .i64 a0_0, .int .i64 a0_1, .int .i64 a0_2] 63 ?_; intro gb290 hg w3 hbox hb; have n0_ := A_ (below_step (bw_ HB.out) hb); have n1_ := A_ (hbox); have n2_ := A_ ((d5_ : w.heap.size ≤ gb290)); have n3_ := n2_; clear HB; have HB := n0_; have BK290 := n1_; have GW290 := n2_; have GE290 := n3_; have GI290 := GeI.mk GE290.out; clear n0_ n1_ n2_ n3_; clear hb hbox hg; have y4_0 : w3.cell? ⟨gb290, 0, none⟩ = some (.int .i64 a0_0) := (blk_cell BK290.out 0).trans rfl; have y4_1 : w3.cell? ⟨gb290, 1, none⟩ = some (.int .i64 a0_1) := (blk_cell BK290.out 1).trans rfl; have y4_2 : w3.cell? ⟨gb290, 2, none⟩ = some (.int .i64 a0_2) := (blk_cell BK290.out 2).trans rfl; have z4_0 := blk_frozen BK290.out 0; have z4_1 := blk_frozen BK290.out 1; have z4_2 := blk_frozen BK290.out 2))
  go_ret
  exact rt_ (bw_ HB.out)
 ·rw [if_neg c2] at H
  have c2b0 := beq_eq_false_iff_ne.mpr c2
  have c2b1 := bne_iff_ne.mpr c2
  by_cases c5 : a0_0 = 7
  ·rw [if_pos c5] at H
   have c5b0 := beq_iff_eq.mpr c5
   have c5b1 := bne_eq_false_iff_eq.mpr c5
   clear c5
   obtain rfl := Option.some.inj H
   go_enter Try.func89, Try.ntmps89
   go_wp2_with (first | ((with_reducible refine gate_dst (N := 1) rfl ?_); refine bx_ 1 #[.int .i64 a0_0, .int .i64 a0_1, .int .i64 a0_2] 63 ?_; intro gb290 hg w6 hbox hb; have n0_ := A_ (below_step (bw_ HB.out) hb); have n1_ := A_ (hbox); have n2_ := A_ ((d5_ : w.heap.size ≤ gb290)); have n3_ := n2_; clear HB; have HB := n0_; have BK290 := n1_; have GW290 := n2_; have GE290 := n3_; have GI290 := GeI.mk GE290.out; clear n0_ n1_ n2_ n3_; clear hb hbox hg; have y7_0 : w6.cell? ⟨gb290, 0, none⟩ = some (.int .i64 a0_0) := (blk_cell BK290.out 0).trans rfl; have y7_1 : w6.cell? ⟨gb290, 1, none⟩ = some (.int .i64 a0_1) := (blk_cell BK290.out 1).trans rfl; have y7_2 : w6.cell? ⟨gb290, 2, none⟩ = some (.int .i64 a0_2) := (blk_cell BK290.out 2).trans rfl; have z7_0 := blk_frozen BK290.out 0; have z7_1 := blk_frozen BK290.out 1; have z7_2 := blk_frozen BK290.out 2))
   go_ret
   exact rt_ (bw_ HB.out)
  ·rw [if_neg c5] at H
   have c5b0 := beq_eq_false_iff_ne.mpr c5
   have c5b1 := bne_iff_ne.mpr c5
   by_cases c8 : a0_1 = 7
   ·rw [if_pos c8] at H
    have c8b0 := beq_iff_eq.mpr c8
    have c8b1 := bne_eq_false_iff_eq.mpr c8
    clear c8
    by_cases c9 : a0_0 = 2
    ·rw [if_pos c9] at H
     have c9b0 := beq_iff_eq.mpr c9
     have c9b1 := bne_eq_false_iff_eq.mpr c9
     clear c9
     obtain rfl := Option.some.inj H
     go_enter Try.func89, Try.ntmps89
     go_wp2_with (first | ((with_reducible refine gate_dst (N := 1) rfl ?_); refine bx_ 1 #[.int .i64 a0_0, .int .i64 a0_1, .int .i64 a0_2] 63 ?_; intro gb290 hg w10 hbox hb; have n0_ := A_ (below_step (bw_ HB.out) hb); have n1_ := A_ (hbox); have n2_ := A_ ((d5_ : w.heap.size ≤ gb290)); have n3_ := n2_; clear HB; have HB := n0_; have BK290 := n1_; have GW290 := n2_; have GE290 := n3_; have GI290 := GeI.mk GE290.out; clear n0_ n1_ n2_ n3_; clear hb hbox hg; have y11_0 : w10.cell? ⟨gb290, 0, none⟩ = some (.int .i64 a0_0) := (blk_cell BK290.out 0).trans rfl; have y11_1 : w10.cell? ⟨gb290, 1, none⟩ = some (.int .i64 a0_1) := (blk_cell BK290.out 1).trans rfl; have y11_2 : w10.cell? ⟨gb290, 2, none⟩ = some (.int .i64 a0_2) := (blk_cell BK290.out 2).trans rfl; have z11_0 := blk_frozen BK290.out 0; have z11_1 := blk_frozen BK290.out 1; have z11_2 := blk_frozen BK290.out 2))
     go_ret
     exact rt_ (bw_ HB.out)
    ·rw [if_neg c9] at H
     have c9b0 := beq_eq_false_iff_ne.mpr c9
     have c9b1 := bne_iff_ne.mpr c9
     obtain rfl := Option.some.inj H
     go_enter Try.func89, Try.ntmps89
     go_wp2_with (first | ((with_reducible refine gate_dst (N := 1) rfl ?_); refine bx_ 1 #[.int .i64 a0_0, .int .i64 a0_1, .int .i64 a0_2] 63 ?_; intro gb290 hg w12 hbox hb; have n0_ := A_ (below_step (bw_ HB.out) hb); have n1_ := A_ (hbox); have n2_ := A_ ((d5_ : w.heap.size ≤ gb290)); have n3_ := n2_; clear HB; have HB := n0_; have BK290 := n1_; have GW290 := n2_; have GE290 := n3_; have GI290 := GeI.mk GE290.out; clear n0_ n1_ n2_ n3_; clear hb hbox hg; have y13_0 : w12.cell? ⟨gb290, 0, none⟩ = some (.int .i64 a0_0) := (blk_cell BK290.out 0).trans rfl; have y13_1 : w12.cell? ⟨gb290, 1, none⟩ = some (.int .i64 a0_1) := (blk_cell BK290.out 1).trans rfl; have y13_2 : w12.cell? ⟨gb290, 2, none⟩ = some (.int .i64 a0_2) := (blk_cell BK290.out 2).trans rfl; have z13_0 := blk_frozen BK290.out 0; have z13_1 := blk_frozen BK290.out 1; have z13_2 := blk_frozen BK290.out 2))
     go_ret
     exact rt_ (bw_ HB.out)
   ·rw [if_neg c8] at H
    have c8b0 := beq_eq_false_iff_ne.mpr c8
    have c8b1 := bne_iff_ne.mpr c8
    obtain rfl := Option.some.inj H
    go_enter Try.func89, Try.ntmps89
    go_wp2_with (first | ((with_reducible refine gate_dst (N := 1) rfl ?_); refine bx_ 1 #[.int .i64 a0_0, .int .i64 a0_1, .int .i64 a0_2] 63 ?_; intro gb290 hg w14 hbox hb; have n0_ := A_ (below_step (bw_ HB.out) hb); have n1_ := A_ (hbox); have n2_ := A_ ((d5_ : w.heap.size ≤ gb290)); have n3_ := n2_; clear HB; have HB := n0_; have BK290 := n1_; have GW290 := n2_; have GE290 := n3_; have GI290 := GeI.mk GE290.out; clear n0_ n1_ n2_ n3_; clear hb hbox hg; have y15_0 : w14.cell? ⟨gb290, 0, none⟩ = some (.int .i64 a0_0) := (blk_cell BK290.out 0).trans rfl; have y15_1 : w14.cell? ⟨gb290, 1, none⟩ = some (.int .i64 a0_1) := (blk_cell BK290.out 1).trans rfl; have y15_2 : w14.cell? ⟨gb290, 2, none⟩ = some (.int .i64 a0_2) := (blk_cell BK290.out 2).trans rfl; have z15_0 := blk_frozen BK290.out 0; have z15_1 := blk_frozen BK290.out 1; have z15_2 := blk_frozen BK290.out 2))
    go_ret
    exact rt_ (bw_ HB.out)

/-! ### spec_OpdOk: function 74 -/
def spec_OpdOk.f (a0_0 : Int) (a0_1 : Int) (a0_2 : Int) : Option (Bool) := (spec_l1In.f a0_0 0 7).bind fun t292 => (if t292 = true then ((spec_l1In.f a0_1 0 7).bind fun t293 => (if t293 = true then ((spec_l1In.f a0_2 0 65535).bind fun t294 => (if t294 = true then ((spec_HasX.f a0_0 a0_1 a0_2).bind fun t295 => (if t295 = true then (some true) else (some (a0_2 == 0)))) else (some false))) else (some false))) else (some false))
set_option maxHeartbeats 8000000 in
set_option maxRecDepth 100000 in
theorem spec_OpdOk.calls (a0_0 : Int) (a0_1 : Int) (a0_2 : Int) (r : Bool) (w : World) (h : spec_OpdOk.f a0_0 a0_1 a0_2 = some r) :
  Calls Try.prog 74 #[.agg #[.int .i64 a0_0, .int .i64 a0_1, .int .i64 a0_2]] w fun e w' => e = .returned (.bool r) ∧ Below w.heap.size w w' := by
 have hu63 := Try.underlying63
 have HB := A_ (Below.refl w.heap.size w)
 have H : ((spec_l1In.f a0_0 0 7).bind fun t292 => (if t292 = true then ((spec_l1In.f a0_1 0 7).bind fun t293 => (if t293 = true then ((spec_l1In.f a0_2 0 65535).bind fun t294 => (if t294 = true then ((spec_HasX.f a0_0 a0_1 a0_2).bind fun t295 => (if t295 = true then (some true) else (some (a0_2 == 0)))) else (some false))) else (some false))) else (some false))) = some r := h
 clear h
 replace H := Option.bind_eq_some_iff.mp H
 obtain ⟨t292, A20, H⟩ := H
 try dsimp only at H
 have A2 := A_ A20
 clear A20
 by_cases c3 : t292 = true
 ·subst c3
  rw [if_pos rfl] at H
  replace H := Option.bind_eq_some_iff.mp H
  obtain ⟨t293, A40, H⟩ := H
  try dsimp only at H
  have A4 := A_ A40
  clear A40
  by_cases c5 : t293 = true
  ·subst c5
   rw [if_pos rfl] at H
   replace H := Option.bind_eq_some_iff.mp H
   obtain ⟨t294, A60, H⟩ := H
   try dsimp only at H
   have A6 := A_ A60
   clear A60
   by_cases c7 : t294 = true
   ·subst c7
    rw [if_pos rfl] at H
    replace H := Option.bind_eq_some_iff.mp H
    obtain ⟨t295, A80, H⟩ := H
    try dsimp only at H
    have A8 := A_ A80
    clear A80
    by_cases c9 : t295 = true
    ·subst c9
     rw [if_pos rfl] at H
     obtain rfl := Option.some.inj H
     go_enter Try.func74, Try.ntmps74
     go_wp2_with (first | ((with_reducible refine gate_dst (N := 1) rfl ?_); refine bx_ 1 #[.int .i64 a0_0, .int .i64 a0_1, .int .i64 a0_2] 63 ?_; intro gb291 hg w10 hbox hb; have n0_ := A_ (below_step (bw_ HB.out) hb); have n1_ := A_ (hbox); have n2_ := A_ ((d5_ : w.heap.size ≤ gb291)); have n3_ := n2_; clear HB; have HB := n0_; have BK291 := n1_; have GW291 := n2_; have GE291 := n3_; have GI291 := GeI.mk GE291.out; clear n0_ n1_ n2_ n3_; clear hb hbox hg; have y11_0 : w10.cell? ⟨gb291, 0, none⟩ = some (.int .i64 a0_0) := (blk_cell BK291.out 0).trans rfl; have y11_1 : w10.cell? ⟨gb291, 1, none⟩ = some (.int .i64 a0_1) := (blk_cell BK291.out 1).trans rfl; have y11_2 : w10.cell? ⟨gb291, 2, none⟩ = some (.int .i64 a0_2) := (blk_cell BK291.out 2).trans rfl; have z11_0 := blk_frozen BK291.out 0; have z11_1 := blk_frozen BK291.out 1; have z11_2 := blk_frozen BK291.out 2) | ((with_reducible refine gate_callee (f := 57) rfl ?_); refine gL_ (some 5) Try.func57 #[.int .i64 a0_0, .int .i64 0, .int .i64 7] ?_; (with_reducible refine (spec_l1In.calls a0_0 0 7 true _ A2.out).mono ?_); rintro e w' ⟨rfl, ⟨nd, rfl⟩⟩; refine ⟨_, rfl, ?_⟩) | (go_at_call 57; (with_reducible refine (spec_l1In.calls a0_1 0 7 true _ A4.out).mono ?_); rintro e w' ⟨rfl, ⟨nd, rfl⟩⟩) | (go_at_call 57; (with_reducible refine (spec_l1In.calls a0_2 0 65535 true _ A6.out).mono ?_); rintro e w' ⟨rfl, ⟨nd, rfl⟩⟩) | (go_at_call 89; (with_reducible refine (spec_HasX.calls a0_0 a0_1 a0_2 true _ A8.out).mono ?_); rintro e w12 ⟨rfl, hb⟩; replace BK291 := A_ (blk_below (bk_ BK291.out) hb); replace HB := A_ (below_step (bw_ HB.out) hb); clear hb))
     go_ret
     exact rt_ (bw_ HB.out)
    ·replace c9 := Bool.eq_false_iff.mpr c9
     subst c9
     rw [if_neg (show ¬ (false = true) by decide)] at H
     obtain rfl := Option.some.inj H
     go_enter Try.func74, Try.ntmps74
     go_wp2_with (first | ((with_reducible refine gate_dst (N := 1) rfl ?_); refine bx_ 1 #[.int .i64 a0_0, .int .i64 a0_1, .int .i64 a0_2] 63 ?_; intro gb291 hg w13 hbox hb; have n0_ := A_ (below_step (bw_ HB.out) hb); have n1_ := A_ (hbox); have n2_ := A_ ((d5_ : w.heap.size ≤ gb291)); have n3_ := n2_; clear HB; have HB := n0_; have BK291 := n1_; have GW291 := n2_; have GE291 := n3_; have GI291 := GeI.mk GE291.out; clear n0_ n1_ n2_ n3_; clear hb hbox hg; have y14_0 : w13.cell? ⟨gb291, 0, none⟩ = some (.int .i64 a0_0) := (blk_cell BK291.out 0).trans rfl; have y14_1 : w13.cell? ⟨gb291, 1, none⟩ = some (.int .i64 a0_1) := (blk_cell BK291.out 1).trans rfl; have y14_2 : w13.cell? ⟨gb291, 2, none⟩ = some (.int .i64 a0_2) := (blk_cell BK291.out 2).trans rfl; have z14_0 := blk_frozen BK291.out 0; have z14_1 := blk_frozen BK291.out 1; have z14_2 := blk_frozen BK291.out 2) | ((with_reducible refine gate_callee (f := 57) rfl ?_); refine gL_ (some 5) Try.func57 #[.int .i64 a0_0, .int .i64 0, .int .i64 7] ?_; (with_reducible refine (spec_l1In.calls a0_0 0 7 true _ A2.out).mono ?_); rintro e w' ⟨rfl, ⟨nd, rfl⟩⟩; refine ⟨_, rfl, ?_⟩) | (go_at_call 57; (with_reducible refine (spec_l1In.calls a0_1 0 7 true _ A4.out).mono ?_); rintro e w' ⟨rfl, ⟨nd, rfl⟩⟩) | (go_at_call 57; (with_reducible refine (spec_l1In.calls a0_2 0 65535 true _ A6.out).mono ?_); rintro e w' ⟨rfl, ⟨nd, rfl⟩⟩) | (go_at_call 89; (with_reducible refine (spec_HasX.calls a0_0 a0_1 a0_2 false _ A8.out).mono ?_); rintro e w15 ⟨rfl, hb⟩; replace BK291 := A_ (blk_below (bk_ BK291.out) hb); replace HB := A_ (below_step (bw_ HB.out) hb); clear hb; have y16_0 : w15.cell? ⟨gb291, 0, none⟩ = some (.int .i64 a0_0) := (blk_cell BK291.out 0).trans rfl; have y16_1 : w15.cell? ⟨gb291, 1, none⟩ = some (.int .i64 a0_1) := (blk_cell BK291.out 1).trans rfl; have y16_2 : w15.cell? ⟨gb291, 2, none⟩ = some (.int .i64 a0_2) := (blk_cell BK291.out 2).trans rfl; have z16_0 := blk_frozen BK291.out 0; have z16_1 := blk_frozen BK291.out 1; have z16_2 := blk_frozen BK291.out 2))
     go_ret
     exact rt_ (bw_ HB.out)
   ·replace c7 := Bool.eq_false_iff.mpr c7
    subst c7
    rw [if_neg (show ¬ (false = true) by decide)] at H
    obtain rfl := Option.some.inj H
    go_enter Try.func74, Try.ntmps74
    go_wp2_with (first | ((with_reducible refine gate_dst (N := 1) rfl ?_); refine bx_ 1 #[.int .i64 a0_0, .int .i64 a0_1, .int .i64 a0_2] 63 ?_; intro gb291 hg w17 hbox hb; have n0_ := A_ (below_step (bw_ HB.out) hb); have n1_ := A_ (hbox); have n2_ := A_ ((d5_ : w.heap.size ≤ gb291)); have n3_ := n2_; clear HB; have HB := n0_; have BK291 := n1_; have GW291 := n2_; have GE291 := n3_; have GI291 := GeI.mk GE291.out; clear n0_ n1_ n2_ n3_; clear hb hbox hg; have y18_0 : w17.cell? ⟨gb291, 0, none⟩ = some (.int .i64 a0_0) := (blk_cell BK291.out 0).trans rfl; have y18_1 : w17.cell? ⟨gb291, 1, none⟩ = some (.int .i64 a0_1) := (blk_cell BK291.out 1).trans rfl; have y18_2 : w17.cell? ⟨gb291, 2, none⟩ = some (.int .i64 a0_2) := (blk_cell BK291.out 2).trans rfl; have z18_0 := blk_frozen BK291.out 0; have z18_1 := blk_frozen BK291.out 1; have z18_2 := blk_frozen BK291.out 2) | ((with_reducible refine gate_callee (f := 57) rfl ?_); refine gL_ (some 5) Try.func57 #[.int .i64 a0_0, .int .i64 0, .int .i64 7] ?_; (with_reducible refine (spec_l1In.calls a0_0 0 7 true _ A2.out).mono ?_); rintro e w' ⟨rfl, ⟨nd, rfl⟩⟩; refine ⟨_, rfl, ?_⟩) | (go_at_call 57; (with_reducible refine (spec_l1In.calls a0_1 0 7 true _ A4.out).mono ?_); rintro e w' ⟨rfl, ⟨nd, rfl⟩⟩) | (go_at_call 57; (with_reducible refine (spec_l1In.calls a0_2 0 65535 false _ A6.out).mono ?_); rintro e w' ⟨rfl, ⟨nd, rfl⟩⟩))
    go_ret
    exact rt_ (bw_ HB.out)
  ·replace c5 := Bool.eq_false_iff.mpr c5
   subst c5
   rw [if_neg (show ¬ (false = true) by decide)] at H
   obtain rfl := Option.some.inj H
   go_enter Try.func74, Try.ntmps74
   go_wp2_with (first | ((with_reducible refine gate_dst (N := 1) rfl ?_); refine bx_ 1 #[.int .i64 a0_0, .int .i64 a0_1, .int .i64 a0_2] 63 ?_; intro gb291 hg w19 hbox hb; have n0_ := A_ (below_step (bw_ HB.out) hb); have n1_ := A_ (hbox); have n2_ := A_ ((d5_ : w.heap.size ≤ gb291)); have n3_ := n2_; clear HB; have HB := n0_; have BK291 := n1_; have GW291 := n2_; have GE291 := n3_; have GI291 := GeI.mk GE291.out; clear n0_ n1_ n2_ n3_; clear hb hbox hg; have y20_0 : w19.cell? ⟨gb291, 0, none⟩ = some (.int .i64 a0_0) := (blk_cell BK291.out 0).trans rfl; have y20_1 : w19.cell? ⟨gb291, 1, none⟩ = some (.int .i64 a0_1) := (blk_cell BK291.out 1).trans rfl; have y20_2 : w19.cell? ⟨gb291, 2, none⟩ = some (.int .i64 a0_2) := (blk_cell BK291.out 2).trans rfl; have z20_0 := blk_frozen BK291.out 0; have z20_1 := blk_frozen BK291.out 1; have z20_2 := blk_frozen BK291.out 2) | ((with_reducible refine gate_callee (f := 57) rfl ?_); refine gL_ (some 5) Try.func57 #[.int .i64 a0_0, .int .i64 0, .int .i64 7] ?_; (with_reducible refine (spec_l1In.calls a0_0 0 7 true _ A2.out).mono ?_); rintro e w' ⟨rfl, ⟨nd, rfl⟩⟩; refine ⟨_, rfl, ?_⟩) | (go_at_call 57; (with_reducible refine (spec_l1In.calls a0_1 0 7 false _ A4.out).mono ?_); rintro e w' ⟨rfl, ⟨nd, rfl⟩⟩))
   go_ret
   exact rt_ (bw_ HB.out)
 ·replace c3 := Bool.eq_false_iff.mpr c3
  subst c3
  rw [if_neg (show ¬ (false = true) by decide)] at H
  obtain rfl := Option.some.inj H
  go_enter Try.func74, Try.ntmps74
  go_wp2_with (first | ((with_reducible refine gate_dst (N := 1) rfl ?_); refine bx_ 1 #[.int .i64 a0_0, .int .i64 a0_1, .int .i64 a0_2] 63 ?_; intro gb291 hg w21 hbox hb; have n0_ := A_ (below_step (bw_ HB.out) hb); have n1_ := A_ (hbox); have n2_ := A_ ((d5_ : w.heap.size ≤ gb291)); have n3_ := n2_; clear HB; have HB := n0_; have BK291 := n1_; have GW291 := n2_; have GE291 := n3_; have GI291 := GeI.mk GE291.out; clear n0_ n1_ n2_ n3_; clear hb hbox hg; have y22_0 : w21.cell? ⟨gb291, 0, none⟩ = some (.int .i64 a0_0) := (blk_cell BK291.out 0).trans rfl; have y22_1 : w21.cell? ⟨gb291, 1, none⟩ = some (.int .i64 a0_1) := (blk_cell BK291.out 1).trans rfl; have y22_2 : w21.cell? ⟨gb291, 2, none⟩ = some (.int .i64 a0_2) := (blk_cell BK291.out 2).trans rfl; have z22_0 := blk_frozen BK291.out 0; have z22_1 := blk_frozen BK291.out 1; have z22_2 := blk_frozen BK291.out 2) | ((with_reducible refine gate_callee (f := 57) rfl ?_); refine gL_ (some 5) Try.func57 #[.int .i64 a0_0, .int .i64 0, .int .i64 7] ?_; (with_reducible refine (spec_l1In.calls a0_0 0 7 false _ A2.out).mono ?_); rintro e w' ⟨rfl, ⟨nd, rfl⟩⟩; refine ⟨_, rfl, ?_⟩))
  go_ret
  exact rt_ (bw_ HB.out)

/-! ### spec_l3Zero: function 98 -/
def spec_l3Zero.f (a0_0 : Int) (a0_1 : Int) (a0_2 : Int) : Option (Bool) := some (a0_0 == 0 && (a0_1 == 0 && (a0_2 == 0)))
set_option maxHeartbeats 8000000 in
set_option maxRecDepth 100000 in
theorem spec_l3Zero.calls (a0_0 : Int) (a0_1 : Int) (a0_2 : Int) (r : Bool) (w : World) (h : spec_l3Zero.f a0_0 a0_1 a0_2 = some r) :
  Calls Try.prog 98 #[.agg #[.int .i64 a0_0, .int .i64 a0_1, .int .i64 a0_2]] w fun e w' => e = .returned (.bool r) ∧ Below w.heap.size w w' := by
 have hu63 := Try.underlying63
 have HB := A_ (Below.refl w.heap.size w)
 have H : (some (a0_0 == 0 && (a0_1 == 0 && (a0_2 == 0)))) = some r := h
 clear h
 obtain rfl := Option.some.inj H
 go_enter Try.func98, Try.ntmps98
 go_wp2_with (first | ((with_reducible refine gate_dst (N := 1) rfl ?_); refine bx_ 1 #[.int .i64 a0_0, .int .i64 a0_1, .int .i64 a0_2] 63 ?_; intro gb296 hg w2 hbox hb; have n0_ := A_ (below_step (bw_ HB.out) hb); have n1_ := A_ (hbox); have n2_ := A_ ((d5_ : w.heap.size ≤ gb296)); have n3_ := n2_; clear HB; have HB := n0_; have BK296 := n1_; have GW296 := n2_; have GE296 := n3_; have GI296 := GeI.mk GE296.out; clear n0_ n1_ n2_ n3_; clear hb hbox hg; have y3_0 : w2.cell? ⟨gb296, 0, none⟩ = some (.int .i64 a0_0) := (blk_cell BK296.out 0).trans rfl; have y3_1 : w2.cell? ⟨gb296, 1, none⟩ = some (.int .i64 a0_1) := (blk_cell BK296.out 1).trans rfl; have y3_2 : w2.cell? ⟨gb296, 2, none⟩ = some (.int .i64 a0_2) := (blk_cell BK296.out 2).trans rfl; have z3_0 := blk_frozen BK296.out 0; have z3_1 := blk_frozen BK296.out 1; have z3_2 := blk_frozen BK296.out 2))
 go_ret
 exact rt_ (bw_ HB.out)

/-! ### spec_InsOk: function 94 -/
def spec_InsOk.j0 : Nat → Bool → Int → Int → Int → Int → Int → Int → Int → Int → Option (Bool)
 | 0, _, _, _, _, _, _, _, _, _ => none
 | k + 1, x54, x298000, x298001, x298002, x298003, x298004, x298005, x298006, x298007 => if x54 = true then (some false) else (if x298000 = 16 then ((spec_l1In.f x298007 0 7).bind fun t309 => (some t309)) else ((spec_l1In.f x298000 17 21).bind fun t310 => (if t310 = true then ((spec_l1In.f x298007 (-128) 127).bind fun t311 => (some t311)) else (if x298000 = 22 then (some (x298007 == 0)) else (if x298000 = 23 then ((spec_l1In.f x298007 0 255).bind fun t312 => (some t312)) else (some false))))))
def spec_InsOk.f (k : Nat) (a0_0 : Int) (a0_1 : Int) (a0_2 : Int) (a0_3 : Int) (a0_4 : Int) (a0_5 : Int) (a0_6 : Int) (a0_7 : Int) : Option (Bool) := (spec_l1In.f a0_0 1 6).bind fun t298 => (if t298 = true then ((spec_OpdOk.f a0_1 a0_2 a0_3).bind fun t299 => (if t299 = true then ((spec_OpdOk.f a0_4 a0_5 a0_6).bind fun t300 => (if t300 = true then (some (a0_7 == 0)) else (some false))) else (some false))) else ((spec_l1In.f a0_0 7 14).bind fun t301 => (if t301 = true then ((spec_l3Zero.f a0_1 a0_2 a0_3).bind fun t302 => (if t302 = true then ((spec_OpdOk.f a0_4 a0_5 a0_6).bind fun t303 => (if t303 = true then (some (a0_7 == 0)) else (some false))) else (some false))) else (if a0_0 = 15 then ((spec_l3Zero.f a0_1 a0_2 a0_3).bind fun t304 => (if t304 = true then ((spec_OpdOk.f a0_4 a0_5 a0_6).bind fun t305 => (if t305 = true then ((spec_l1In.f a0_7 0 7).bind fun t306 => (some t306)) else (some false))) else (some false))) else ((spec_l3Zero.f a0_1 a0_2 a0_3).bind fun t307 => (if t307 = true then ((spec_l3Zero.f a0_4 a0_5 a0_6).bind fun t308 => (spec_InsOk.j0 k (!t308) a0_0 a0_1 a0_2 a0_3 a0_4 a0_5 a0_6 a0_7)) else (spec_InsOk.j0 k true a0_0 a0_1 a0_2 a0_3 a0_4 a0_5 a0_6 a0_7)))))))
theorem spec_InsOk.mono_l : ∀ k, (∀ y0 y1 y2 y3 y4 y5 y6 y7 y8, LeO (spec_InsOk.j0 k y0 y1 y2 y3 y4 y5 y6 y7 y8) (spec_InsOk.j0 (k + 1) y0 y1 y2 y3 y4 y5 y6 y7 y8))
 | 0 => fun _ _ _ _ _ _ _ _ _ r h => by simp [spec_InsOk.j0] at h
 | k + 1 => by
  have ih0 := spec_InsOk.mono_l k
  ·intro y0 y1 y2 y3 y4 y5 y6 y7 y8
   unfold spec_InsOk.j0
   repeat' first
   | (with_reducible exact ih0 _ _ _ _ _ _ _ _ _)
   | (with_reducible exact LeO.refl _)
   | (with_reducible exact LeO.none _)
   | (with_reducible refine LeO.ite ?_ ?_)
   | (with_reducible refine LeO.bind ?_ (fun _ => ?_))
   | exact ih0 _ _ _ _ _ _ _ _ _
   | exact LeO.none _
   | refine LeO.ite ?_ ?_
   | refine LeO.bind ?_ (fun _ => ?_)
theorem spec_InsOk.mono : ∀ a0 a1 a2 a3 a4 a5 a6 a7 k, LeO (spec_InsOk.f k a0 a1 a2 a3 a4 a5 a6 a7) (spec_InsOk.f (k + 1) a0 a1 a2 a3 a4 a5 a6 a7) := by
 intro a0 a1 a2 a3 a4 a5 a6 a7 k
 have ih0 := spec_InsOk.mono_l k
 unfold spec_InsOk.f
 repeat' first
   | (with_reducible exact ih0 _ _ _ _ _ _ _ _ _)
   | (with_reducible exact LeO.refl _)
   | (with_reducible exact LeO.none _)
   | (with_reducible refine LeO.ite ?_ ?_)
   | (with_reducible refine LeO.bind ?_ (fun _ => ?_))
   | exact ih0 _ _ _ _ _ _ _ _ _
   | exact LeO.none _
   | refine LeO.ite ?_ ?_
   | refine LeO.bind ?_ (fun _ => ?_)
set_option maxHeartbeats 8000000 in
set_option maxRecDepth 100000 in
theorem spec_InsOk.calls (k : Nat) (a0_0 : Int) (a0_1 : Int) (a0_2 : Int) (a0_3 : Int) (a0_4 : Int) (a0_5 : Int) (a0_6 : Int) (a0_7 : Int) (r : Bool) (w : World) (h : spec_InsOk.f k a0_0 a0_1 a0_2 a0_3 a0_4 a0_5 a0_6 a0_7 = some r) :
  Calls Try.prog 94 #[.agg #[.int .i64 a0_0, .int .i64 a0_1, .int .i64 a0_2, .int .i64 a0_3, .int .i64 a0_4, .int .i64 a0_5, .int .i64 a0_6, .int .i64 a0_7]] w fun e w' => e = .returned (.bool r) ∧ Below w.heap.size w w' := by
 have hu98 := Try.underlying98
 have hu63 := Try.underlying63
 have HB := A_ (Below.refl w.heap.size w)
 have H : ((spec_l1In.f a0_0 1 6).bind fun t298 => (if t298 = true then ((spec_OpdOk.f a0_1 a0_2 a0_3).bind fun t299 => (if t299 = true then ((spec_OpdOk.f a0_4 a0_5 a0_6).bind fun t300 => (if t300 = true then (some (a0_7 == 0)) else (some false))) else (some false))) else ((spec_l1In.f a0_0 7 14).bind fun t301 => (if t301 = true then ((spec_l3Zero.f a0_1 a0_2 a0_3).bind fun t302 => (if t302 = true then ((spec_OpdOk.f a0_4 a0_5 a0_6).bind fun t303 => (if t303 = true then (some (a0_7 == 0)) else (some false))) else (some false))) else (if a0_0 = 15 then ((spec_l3Zero.f a0_1 a0_2 a0_3).bind fun t304 => (if t304 = true then ((spec_OpdOk.f a0_4 a0_5 a0_6).bind fun t305 => (if t305 = true then ((spec_l1In.f a0_7 0 7).bind fun t306 => (some t306)) else (some false))) else (some false))) else ((spec_l3Zero.f a0_1 a0_2 a0_3).bind fun t307 => (if t307 = true then ((spec_l3Zero.f a0_4 a0_5 a0_6).bind fun t308 => (spec_InsOk.j0 k (!t308) a0_0 a0_1 a0_2 a0_3 a0_4 a0_5 a0_6 a0_7)) else (spec_InsOk.j0 k true a0_0 a0_1 a0_2 a0_3 a0_4 a0_5 a0_6 a0_7)))))))) = some r := h
 clear h
 replace H := Option.bind_eq_some_iff.mp H
 obtain ⟨t298, A20, H⟩ := H
 try dsimp only at H
 have A2 := A_ A20
 clear A20
 by_cases c3 : t298 = true
 ·subst c3
  rw [if_pos rfl] at H
  replace H := Option.bind_eq_some_iff.mp H
  obtain ⟨t299, A40, H⟩ := H
  try dsimp only at H
  have A4 := A_ A40
  clear A40
  by_cases c5 : t299 = true
  ·subst c5
   rw [if_pos rfl] at H
   replace H := Option.bind_eq_some_iff.mp H
   obtain ⟨t300, A60, H⟩ := H
   try dsimp only at H
   have A6 := A_ A60
   clear A60
   by_cases c7 : t300 = true
   ·subst c7
    rw [if_pos rfl] at H
    obtain rfl := Option.some.inj H
    go_enter Try.func94, Try.ntmps94
    go_wp2_with (first | ((with_reducible refine gate_dst (N := 1) rfl ?_); refine bx_ 1 #[.int .i64 a0_0, .int .i64 a0_1, .int .i64 a0_2, .int .i64 a0_3, .int .i64 a0_4, .int .i64 a0_5, .int .i64 a0_6, .int .i64 a0_7] 98 ?_; intro gb297 hg w8 hbox hb; have n0_ := A_ (below_step (bw_ HB.out) hb); have n1_ := A_ (hbox); have n2_ := A_ ((d5_ : w.heap.size ≤ gb297)); have n3_ := n2_; clear HB; have HB := n0_; have BK297 := n1_; have GW297 := n2_; have GE297 := n3_; have GI297 := GeI.mk GE297.out; clear n0_ n1_ n2_ n3_; clear hb hbox hg; obtain ⟨y9_0, y9_1, y9_2, y9_3, y9_4, y9_5, y9_6, y9_7, z9_0, z9_1, z9_2, z9_3, z9_4, z9_5, z9_6, z9_7⟩ := cz8_ BK297.out) | ((with_reducible refine gate_callee (f := 57) rfl ?_); refine gL_ (some 6) Try.func57 #[.int .i64 a0_0, .int .i64 1, .int .i64 6] ?_; (with_reducible refine (spec_l1In.calls a0_0 1 6 true _ A2.out).mono ?_); rintro e w' ⟨rfl, ⟨nd, rfl⟩⟩; refine ⟨_, rfl, ?_⟩) | ((with_reducible refine gate_callee (f := 74) rfl ?_); refine gL_ (some 9) Try.func74 #[.agg #[.int .i64 a0_1, .int .i64 a0_2, .int .i64 a0_3]] ?_; (with_reducible refine (spec_OpdOk.calls a0_1 a0_2 a0_3 true _ A4.out).mono ?_); rintro e w10 ⟨rfl, hb⟩; refine ⟨_, rfl, ?_⟩; replace BK297 := A_ (blk_below (bk_ BK297.out) hb); replace HB := A_ (below_step (bw_ HB.out) hb); clear hb; obtain ⟨y11_0, y11_1, y11_2, y11_3, y11_4, y11_5, y11_6, y11_7, z11_0, z11_1, z11_2, z11_3, z11_4, z11_5, z11_6, z11_7⟩ := cz8_ BK297.out) | (go_at_call 74; (with_reducible refine (spec_OpdOk.calls a0_4 a0_5 a0_6 true _ A6.out).mono ?_); rintro e w12 ⟨rfl, hb⟩; replace BK297 := A_ (blk_below (bk_ BK297.out) hb); replace HB := A_ (below_step (bw_ HB.out) hb); clear hb; obtain ⟨y13_0, y13_1, y13_2, y13_3, y13_4, y13_5, y13_6, y13_7, z13_0, z13_1, z13_2, z13_3, z13_4, z13_5, z13_6, z13_7⟩ := cz8_ BK297.out))
    go_ret
    exact rt_ (bw_ HB.out)
   ·replace c7 := Bool.eq_false_iff.mpr c7
    subst c7
    rw [if_neg (show ¬ (false = true) by decide)] at H
    obtain rfl := Option.some.inj H
    go_enter Try.func94, Try.ntmps94
    go_wp2_with (first | ((with_reducible refine gate_dst (N := 1) rfl ?_); refine bx_ 1 #[.int .i64 a0_0, .int .i64 a0_1, .int .i64 a0_2, .int .i64 a0_3, .int .i64 a0_4, .int .i64 a0_5, .int .i64 a0_6, .int .i64 a0_7] 98 ?_; intro gb297 hg w14 hbox hb; have n0_ := A_ (below_step (bw_ HB.out) hb); have n1_ := A_ (hbox); have n2_ := A_ ((d5_ : w.heap.size ≤ gb297)); have n3_ := n2_; clear HB; have HB := n0_; have BK297 := n1_; have GW297 := n2_; have GE297 := n3_; have GI297 := GeI.mk GE297.out; clear n0_ n1_ n2_ n3_; clear hb hbox hg; obtain ⟨y15_0, y15_1, y15_2, y15_3, y15_4, y15_5, y15_6, y15_7, z15_0, z15_1, z15_2, z15_3, z15_4, z15_5, z15_6, z15_7⟩ := cz8_ BK297.out) | ((with_reducible refine gate_callee (f := 57) rfl ?_); refine gL_ (some 6) Try.func57 #[.int .i64 a0_0, .int .i64 1, .int .i64 6] ?_; (with_reducible refine (spec_l1In.calls a0_0 1 6 true _ A2.out).mono ?_); rintro e w' ⟨rfl, ⟨nd, rfl⟩⟩; refine ⟨_, rfl, ?_⟩) | ((with_reducible refine gate_callee (f := 74) rfl ?_); refine gL_ (some 9) Try.func74 #[.agg #[.int .i64 a0_1, .int .i64 a0_2, .int .i64 a0_3]] ?_; (with_reducible refine (spec_OpdOk.calls a0_1 a0_2 a0_3 true _ A4.out).mono ?_); rintro e w16 ⟨rfl, hb⟩; refine ⟨_, rfl, ?_⟩; replace BK297 := A_ (blk_below (bk_ BK297.out) hb); replace HB := A_ (below_step (bw_ HB.out) hb); clear hb; obtain ⟨y17_0, y17_1, y17_2, y17_3, y17_4, y17_5, y17_6, y17_7, z17_0, z17_1, z17_2, z17_3, z17_4, z17_5, z17_6, z17_7⟩ := cz8_ BK297.out) | (go_at_call 74; (with_reducible refine (spec_OpdOk.calls a0_4 a0_5 a0_6 false _ A6.out).mono ?_); rintro e w18 ⟨rfl, hb⟩; replace BK297 := A_ (blk_below (bk_ BK297.out) hb); replace HB := A_ (below_step (bw_ HB.out) hb); clear hb))
    go_ret
    exact rt_ (bw_ HB.out)
  ·replace c5 := Bool.eq_false_iff.mpr c5
   subst c5
   rw [if_neg (show ¬ (false = true) by decide)] at H
   obtain rfl := Option.some.inj H
   go_enter Try.func94, Try.ntmps94
   go_wp2_with (first | ((with_reducible refine gate_dst (N := 1) rfl ?_); refine bx_ 1 #[.int .i64 a0_0, .int .i64 a0_1, .int .i64 a0_2, .int .i64 a0_3, .int .i64 a0_4, .int .i64 a0_5, .int .i64 a0_6, .int .i64 a0_7] 98 ?_; intro gb297 hg w19 hbox hb; have n0_ := A_ (below_step (bw_ HB.out) hb); have n1_ := A_ (hbox); have n2_ := A_ ((d5_ : w.heap.size ≤ gb297)); have n3_ := n2_; clear HB; have HB := n0_; have BK297 := n1_; have GW297 := n2_; have GE297 := n3_; have GI297 := GeI.mk GE297.out; clear n0_ n1_ n2_ n3_; clear hb hbox hg; obtain ⟨y20_0, y20_1, y20_2, y20_3, y20_4, y20_5, y20_6, y20_7, z20_0, z20_1, z20_2, z20_3, z20_4, z20_5, z20_6, z20_7⟩ := cz8_ BK297.out) | ((with_reducible refine gate_callee (f := 57) rfl ?_); refine gL_ (some 6) Try.func57 #[.int .i64 a0_0, .int .i64 1, .int .i64 6] ?_; (with_reducible refine (spec_l1In.calls a0_0 1 6 true _ A2.out).mono ?_); rintro e w' ⟨rfl, ⟨nd, rfl⟩⟩; refine ⟨_, rfl, ?_⟩) | ((with_reducible refine gate_callee (f := 74) rfl ?_); refine gL_ (some 9) Try.func74 #[.agg #[.int .i64 a0_1, .int .i64 a0_2, .int .i64 a0_3]] ?_; (with_reducible refine (spec_OpdOk.calls a0_1 a0_2 a0_3 false _ A4.out).mono ?_); rintro e w21 ⟨rfl, hb⟩; refine ⟨_, rfl, ?_⟩; replace BK297 := A_ (blk_below (bk_ BK297.out) hb); replace HB := A_ (below_step (bw_ HB.out) hb); clear hb))
   go_ret
   exact rt_ (bw_ HB.out)
 ·replace c3 := Bool.eq_false_iff.mpr c3
  subst c3
  rw [if_neg (show ¬ (false = true) by decide)] at H
  replace H := Option.bind_eq_some_iff.mp H
  obtain ⟨t301, A220, H⟩ := H
  try dsimp only at H
  have A22 := A_ A220
  clear A220
  by_cases c23 : t301 = true
  ·subst c23
   rw [if_pos rfl] at H
   replace H := Option.bind_eq_some_iff.mp H
   obtain ⟨t302, A240, H⟩ := H
   try dsimp only at H
   have A24 := A_ A240
   clear A240
   by_cases c25 : t302 = true
   ·subst c25
    rw [if_pos rfl] at H
    replace H := Option.bind_eq_some_iff.mp H
    obtain ⟨t303, A260, H⟩ := H
    try dsimp only at H
    have A26 := A_ A260
    clear A260
    by_cases c27 : t303 = true
    ·subst c27
     rw [if_pos rfl] at H
     obtain rfl := Option.some.inj H
     go_enter Try.func94, Try.ntmps94
     go_wp2_with (first | ((with_reducible refine gate_dst (N := 1) rfl ?_); refine bx_ 1 #[.int .i64 a0_0, .int .i64 a0_1, .int .i64 a0_2, .int .i64 a0_3, .int .i64 a0_4, .int .i64 a0_5, .int .i64 a0_6, .int .i64 a0_7] 98 ?_; intro gb297 hg w28 hbox hb; have n0_ := A_ (below_step (bw_ HB.out) hb); have n1_ := A_ (hbox); have n2_ := A_ ((d5_ : w.heap.size ≤ gb297)); have n3_ := n2_; clear HB; have HB := n0_; have BK297 := n1_; have GW297 := n2_; have GE297 := n3_; have GI297 := GeI.mk GE297.out; clear n0_ n1_ n2_ n3_; clear hb hbox hg; obtain ⟨y29_0, y29_1, y29_2, y29_3, y29_4, y29_5, y29_6, y29_7, z29_0, z29_1, z29_2, z29_3, z29_4, z29_5, z29_6, z29_7⟩ := cz8_ BK297.out) | ((with_reducible refine gate_callee (f := 57) rfl ?_); refine gL_ (some 6) Try.func57 #[.int .i64 a0_0, .int .i64 1, .int .i64 6] ?_; (with_reducible refine (spec_l1In.calls a0_0 1 6 false _ A2.out).mono ?_); rintro e w' ⟨rfl, ⟨nd, rfl⟩⟩; refine ⟨_, rfl, ?_⟩) | ((with_reducible refine gate_callee (f := 57) rfl ?_); refine gL_ (some 23) Try.func57 #[.int .i64 a0_0, .int .i64 7, .int .i64 14] ?_; (with_reducible refine (spec_l1In.calls a0_0 7 14 true _ A22.out).mono ?_); rintro e w' ⟨rfl, ⟨nd, rfl⟩⟩; refine ⟨_, rfl, ?_⟩) | ((with_reducible refine gate_callee (f := 98) rfl ?_); refine gL_ (some 26) Try.func98 #[.agg #[.int .i64 a0_1, .int .i64 a0_2, .int .i64 a0_3]] ?_; (with_reducible refine (spec_l3Zero.calls a0_1 a0_2 a0_3 true _ A24.out).mono ?_); rintro e w30 ⟨rfl, hb⟩; refine ⟨_, rfl, ?_⟩; replace BK297 := A_ (blk_below (bk_ BK297.out) hb); replace HB := A_ (below_step (bw_ HB.out) hb); clear hb; obtain ⟨y31_0, y31_1, y31_2, y31_3, y31_4, y31_5, y31_6, y31_7, z31_0, z31_1, z31_2, z31_3, z31_4, z31_5, z31_6, z31_7⟩ := cz8_ BK297.out) | (go_at_call 74; (with_reducible refine (spec_OpdOk.calls a0_4 a0_5 a0_6 true _ A26.out).mono ?_); rintro e w32 ⟨rfl, hb⟩; replace BK297 := A_ (blk_below (bk_ BK297.out) hb); replace HB := A_ (below_step (bw_ HB.out) hb); clear hb; obtain ⟨y33_0, y33_1, y33_2, y33_3, y33_4, y33_5, y33_6, y33_7, z33_0, z33_1, z33_2, z33_3, z33_4, z33_5, z33_6, z33_7⟩ := cz8_ BK297.out))
     go_ret
     exact rt_ (bw_ HB.out)
    ·replace c27 := Bool.eq_false_iff.mpr c27
     subst c27
     rw [if_neg (show ¬ (false = true) by decide)] at H
     obtain rfl := Option.some.inj H
     go_enter Try.func94, Try.ntmps94
     go_wp2_with (first | ((with_reducible refine gate_dst (N := 1) rfl ?_); refine bx_ 1 #[.int .i64 a0_0, .int .i64 a0_1, .int .i64 a0_2, .int .i64 a0_3, .int .i64 a0_4, .int .i64 a0_5, .int .i64 a0_6, .int .i64 a0_7] 98 ?_; intro gb297 hg w34 hbox hb; have n0_ := A_ (below_step (bw_ HB.out) hb); have n1_ := A_ (hbox); have n2_ := A_ ((d5_ : w.heap.size ≤ gb297)); have n3_ := n2_; clear HB; have HB := n0_; have BK297 := n1_; have GW297 := n2_; have GE297 := n3_; have GI297 := GeI.mk GE297.out; clear n0_ n1_ n2_ n3_; clear hb hbox hg; obtain ⟨y35_0, y35_1, y35_2, y35_3, y35_4, y35_5, y35_6, y35_7, z35_0, z35_1, z35_2, z35_3, z35_4, z35_5, z35_6, z35_7⟩ := cz8_ BK297.out) | ((with_reducible refine gate_callee (f := 57) rfl ?_); refine gL_ (some 6) Try.func57 #[.int .i64 a0_0, .int .i64 1, .int .i64 6] ?_; (with_reducible refine (spec_l1In.calls a0_0 1 6 false _ A2.out).mono ?_); rintro e w' ⟨rfl, ⟨nd, rfl⟩⟩; refine ⟨_, rfl, ?_⟩) | ((with_reducible refine gate_callee (f := 57) rfl ?_); refine gL_ (some 23) Try.func57 #[.int .i64 a0_0, .int .i64 7, .int .i64 14] ?_; (with_reducible refine (spec_l1In.calls a0_0 7 14 true _ A22.out).mono ?_); rintro e w' ⟨rfl, ⟨nd, rfl⟩⟩; refine ⟨_, rfl, ?_⟩) | ((with_reducible refine gate_callee (f := 98) rfl ?_); refine gL_ (some 26) Try.func98 #[.agg #[.int .i64 a0_1, .int .i64 a0_2, .int .i64 a0_3]] ?_; (with_reducible refine (spec_l3Zero.calls a0_1 a0_2 a0_3 true _ A24.out).mono ?_); rintro e w36 ⟨rfl, hb⟩; refine ⟨_, rfl, ?_⟩; replace BK297 := A_ (blk_below (bk_ BK297.out) hb); replace HB := A_ (below_step (bw_ HB.out) hb); clear hb; obtain ⟨y37_0, y37_1, y37_2, y37_3, y37_4, y37_5, y37_6, y37_7, z37_0, z37_1, z37_2, z37_3, z37_4, z37_5, z37_6, z37_7⟩ := cz8_ BK297.out) | (go_at_call 74; (with_reducible refine (spec_OpdOk.calls a0_4 a0_5 a0_6 false _ A26.out).mono ?_); rintro e w38 ⟨rfl, hb⟩; replace BK297 := A_ (blk_below (bk_ BK297.out) hb); replace HB := A_ (below_step (bw_ HB.out) hb); clear hb))
     go_ret
     exact rt_ (bw_ HB.out)
   ·replace c25 := Bool.eq_false_iff.mpr c25
    subst c25
    rw [if_neg (show ¬ (false = true) by decide)] at H
    obtain rfl := Option.some.inj H
    go_enter Try.func94, Try.ntmps94
    go_wp2_with (first | ((with_reducible refine gate_dst (N := 1) rfl ?_); refine bx_ 1 #[.int .i64 a0_0, .int .i64 a0_1, .int .i64 a0_2, .int .i64 a0_3, .int .i64 a0_4, .int .i64 a0_5, .int .i64 a0_6, .int .i64 a0_7] 98 ?_; intro gb297 hg w39 hbox hb; have n0_ := A_ (below_step (bw_ HB.out) hb); have n1_ := A_ (hbox); have n2_ := A_ ((d5_ : w.heap.size ≤ gb297)); have n3_ := n2_; clear HB; have HB := n0_; have BK297 := n1_; have GW297 := n2_; have GE297 := n3_; have GI297 := GeI.mk GE297.out; clear n0_ n1_ n2_ n3_; clear hb hbox hg; obtain ⟨y40_0, y40_1, y40_2, y40_3, y40_4, y40_5, y40_6, y40_7, z40_0, z40_1, z40_2, z40_3, z40_4, z40_5, z40_6, z40_7⟩ := cz8_ BK297.out) | ((with_reducible refine gate_callee (f := 57) rfl ?_); refine gL_ (some 6) Try.func57 #[.int .i64 a0_0, .int .i64 1, .int .i64 6] ?_; (with_reducible refine (spec_l1In.calls a0_0 1 6 false _ A2.out).mono ?_); rintro e w' ⟨rfl, ⟨nd, rfl⟩⟩; refine ⟨_, rfl, ?_⟩) | ((with_reducible refine gate_callee (f := 57) rfl ?_); refine gL_ (some 23) Try.func57 #[.int .i64 a0_0, .int .i64 7, .int .i64 14] ?_; (with_reducible refine (spec_l1In.calls a0_0 7 14 true _ A22.out).mono ?_); rintro e w' ⟨rfl, ⟨nd, rfl⟩⟩; refine ⟨_, rfl, ?_⟩) | ((with_reducible refine gate_callee (f := 98) rfl ?_); refine gL_ (some 26) Try.func98 #[.agg #[.int .i64 a0_1, .int .i64 a0_2, .int .i64 a0_3]] ?_; (with_reducible refine (spec_l3Zero.calls a0_1 a0_2 a0_3 false _ A24.out).mono ?_); rintro e w41 ⟨rfl, hb⟩; refine ⟨_, rfl, ?_⟩; replace BK297 := A_ (blk_below (bk_ BK297.out) hb); replace HB := A_ (below_step (bw_ HB.out) hb); clear hb))
    go_ret
    exact rt_ (bw_ HB.out)
  ·replace c23 := Bool.eq_false_iff.mpr c23
   subst c23
   rw [if_neg (show ¬ (false = true) by decide)] at H
   by_cases c42 : a0_0 = 15
   ·rw [if_pos c42] at H
    have c42b0 := beq_iff_eq.mpr c42
    have c42b1 := bne_eq_false_iff_eq.mpr c42
    clear c42
    replace H := Option.bind_eq_some_iff.mp H
    obtain ⟨t304, A430, H⟩ := H
    try dsimp only at H
    have A43 := A_ A430
    clear A430
    by_cases c44 : t304 = true
    ·subst c44
     rw [if_pos rfl] at H
     replace H := Option.bind_eq_some_iff.mp H
     obtain ⟨t305, A450, H⟩ := H
     try dsimp only at H
     have A45 := A_ A450
     clear A450
     by_cases c46 : t305 = true
     ·subst c46
      rw [if_pos rfl] at H
      replace H := Option.bind_eq_some_iff.mp H
      obtain ⟨t306, A470, H⟩ := H
      try dsimp only at H
      have A47 := A_ A470
      clear A470
      obtain rfl := Option.some.inj H
      go_enter Try.func94, Try.ntmps94
      go_wp2_with (first | ((with_reducible refine gate_dst (N := 1) rfl ?_); refine bx_ 1 #[.int .i64 a0_0, .int .i64 a0_1, .int .i64 a0_2, .int .i64 a0_3, .int .i64 a0_4, .int .i64 a0_5, .int .i64 a0_6, .int .i64 a0_7] 98 ?_; intro gb297 hg w48 hbox hb; have n0_ := A_ (below_step (bw_ HB.out) hb); have n1_ := A_ (hbox); have n2_ := A_ ((d5_ : w.heap.size ≤ gb297)); have n3_ := n2_; clear HB; have HB := n0_; have BK297 := n1_; have GW297 := n2_; have GE297 := n3_; have GI297 := GeI.mk GE297.out; clear n0_ n1_ n2_ n3_; clear hb hbox hg; obtain ⟨y49_0, y49_1, y49_2, y49_3, y49_4, y49_5, y49_6, y49_7, z49_0, z49_1, z49_2, z49_3, z49_4, z49_5, z49_6, z49_7⟩ := cz8_ BK297.out) | ((with_reducible refine gate_callee (f := 57) rfl ?_); refine gL_ (some 6) Try.func57 #[.int .i64 a0_0, .int .i64 1, .int .i64 6] ?_; (with_reducible refine (spec_l1In.calls a0_0 1 6 false _ A2.out).mono ?_); rintro e w' ⟨rfl, ⟨nd, rfl⟩⟩; refine ⟨_, rfl, ?_⟩) | ((with_reducible refine gate_callee (f := 57) rfl ?_); refine gL_ (some 23) Try.func57 #[.int .i64 a0_0, .int .i64 7, .int .i64 14] ?_; (with_reducible refine (spec_l1In.calls a0_0 7 14 false _ A22.out).mono ?_); rintro e w' ⟨rfl, ⟨nd, rfl⟩⟩; refine ⟨_, rfl, ?_⟩) | ((with_reducible refine gate_callee (f := 98) rfl ?_); refine gL_ (some 43) Try.func98 #[.agg #[.int .i64 a0_1, .int .i64 a0_2, .int .i64 a0_3]] ?_; (with_reducible refine (spec_l3Zero.calls a0_1 a0_2 a0_3 true _ A43.out).mono ?_); rintro e w50 ⟨rfl, hb⟩; refine ⟨_, rfl, ?_⟩; replace BK297 := A_ (blk_below (bk_ BK297.out) hb); replace HB := A_ (below_step (bw_ HB.out) hb); clear hb; obtain ⟨y51_0, y51_1, y51_2, y51_3, y51_4, y51_5, y51_6, y51_7, z51_0, z51_1, z51_2, z51_3, z51_4, z51_5, z51_6, z51_7⟩ := cz8_ BK297.out) | (go_at_call 74; (with_reducible refine (spec_OpdOk.calls a0_4 a0_5 a0_6 true _ A45.out).mono ?_); rintro e w52 ⟨rfl, hb⟩; replace BK297 := A_ (blk_below (bk_ BK297.out) hb); replace HB := A_ (below_step (bw_ HB.out) hb); clear hb; obtain ⟨y53_0, y53_1, y53_2, y53_3, y53_4, y53_5, y53_6, y53_7, z53_0, z53_1, z53_2, z53_3, z53_4, z53_5, z53_6, z53_7⟩ := cz8_ BK297.out) | (go_at_call 57; (with_reducible refine (spec_l1In.calls a0_7 0 7 t306 _ A47.out).mono ?_); rintro e w' ⟨rfl, ⟨nd, rfl⟩⟩))
      go_ret
      exact rt_ (bw_ HB.out)
     ·replace c46 := Bool.eq_false_iff.mpr c46
      subst c46
      rw [if_neg (show ¬ (false = true) by decide)] at H
      obtain rfl := Option.some.inj H
      go_enter Try.func94, Try.ntmps94
      go_wp2_with (first | ((with_reducible refine gate_dst (N := 1) rfl ?_); refine bx_ 1 #[.int .i64 a0_0, .int .i64 a0_1, .int .i64 a0_2, .int .i64 a0_3, .int .i64 a0_4, .int .i64 a0_5, .int .i64 a0_6, .int .i64 a0_7] 98 ?_; intro gb297 hg w54 hbox hb; have n0_ := A_ (below_step (bw_ HB.out) hb); have n1_ := A_ (hbox); have n2_ := A_ ((d5_ : w.heap.size ≤ gb297)); have n3_ := n2_; clear HB; have HB := n0_; have BK297 := n1_; have GW297 := n2_; have GE297 := n3_; have GI297 := GeI.mk GE297.out; clear n0_ n1_ n2_ n3_; clear hb hbox hg; obtain ⟨y55_0, y55_1, y55_2, y55_3, y55_4, y55_5, y55_6, y55_7, z55_0, z55_1, z55_2, z55_3, z55_4, z55_5, z55_6, z55_7⟩ := cz8_ BK297.out) | ((with_reducible refine gate_callee (f := 57) rfl ?_); refine gL_ (some 6) Try.func57 #[.int .i64 a0_0, .int .i64 1, .int .i64 6] ?_; (with_reducible refine (spec_l1In.calls a0_0 1 6 false _ A2.out).mono ?_); rintro e w' ⟨rfl, ⟨nd, rfl⟩⟩; refine ⟨_, rfl, ?_⟩) | ((with_reducible refine gate_callee (f := 57) rfl ?_); refine gL_ (some 23) Try.func57 #[.int .i64 a0_0, .int .i64 7, .int .i64 14] ?_; (with_reducible refine (spec_l1In.calls a0_0 7 14 false _ A22.out).mono ?_); rintro e w' ⟨rfl, ⟨nd, rfl⟩⟩; refine ⟨_, rfl, ?_⟩) | ((with_reducible refine gate_callee (f := 98) rfl ?_); refine gL_ (some 43) Try.func98 #[.agg #[.int .i64 a0_1, .int .i64 a0_2, .int .i64 a0_3]] ?_; (with_reducible refine (spec_l3Zero.calls a0_1 a0_2 a0_3 true _ A43.out).mono ?_); rintro e w56 ⟨rfl, hb⟩; refine ⟨_, rfl, ?_⟩; replace BK297 := A_ (blk_below (bk_ BK297.out) hb); replace HB := A_ (below_step (bw_ HB.out) hb); clear hb; obtain ⟨y57_0, y57_1, y57_2, y57_3, y57_4, y57_5, y57_6, y57_7, z57_0, z57_1, z57_2, z57_3, z57_4, z57_5, z57_6, z57_7⟩ := cz8_ BK297.out) | (go_at_call 74; (with_reducible refine (spec_OpdOk.calls a0_4 a0_5 a0_6 false _ A45.out).mono ?_); rintro e w58 ⟨rfl, hb⟩; replace BK297 := A_ (blk_below (bk_ BK297.out) hb); replace HB := A_ (below_step (bw_ HB.out) hb); clear hb))
      go_ret
      exact rt_ (bw_ HB.out)
    ·replace c44 := Bool.eq_false_iff.mpr c44
     subst c44
     rw [if_neg (show ¬ (false = true) by decide)] at H
     obtain rfl := Option.some.inj H
     go_enter Try.func94, Try.ntmps94
     go_wp2_with (first | ((with_reducible refine gate_dst (N := 1) rfl ?_); refine bx_ 1 #[.int .i64 a0_0, .int .i64 a0_1, .int .i64 a0_2, .int .i64 a0_3, .int .i64 a0_4, .int .i64 a0_5, .int .i64 a0_6, .int .i64 a0_7] 98 ?_; intro gb297 hg w59 hbox hb; have n0_ := A_ (below_step (bw_ HB.out) hb); have n1_ := A_ (hbox); have n2_ := A_ ((d5_ : w.heap.size ≤ gb297)); have n3_ := n2_; clear HB; have HB := n0_; have BK297 := n1_; have GW297 := n2_; have GE297 := n3_; have GI297 := GeI.mk GE297.out; clear n0_ n1_ n2_ n3_; clear hb hbox hg; obtain ⟨y60_0, y60_1, y60_2, y60_3, y60_4, y60_5, y60_6, y60_7, z60_0, z60_1, z60_2, z60_3, z60_4, z60_5, z60_6, z60_7⟩ := cz8_ BK297.out) | ((with_reducible refine gate_callee (f := 57) rfl ?_); refine gL_ (some 6) Try.func57 #[.int .i64 a0_0, .int .i64 1, .int .i64 6] ?_; (with_reducible refine (spec_l1In.calls a0_0 1 6 false _ A2.out).mono ?_); rintro e w' ⟨rfl, ⟨nd, rfl⟩⟩; refine ⟨_, rfl, ?_⟩) | ((with_reducible refine gate_callee (f := 57) rfl ?_); refine gL_ (some 23) Try.func57 #[.int .i64 a0_0, .int .i64 7, .int .i64 14] ?_; (with_reducible refine (spec_l1In.calls a0_0 7 14 false _ A22.out).mono ?_); rintro e w' ⟨rfl, ⟨nd, rfl⟩⟩; refine ⟨_, rfl, ?_⟩) | ((with_reducible refine gate_callee (f := 98) rfl ?_); refine gL_ (some 43) Try.func98 #[.agg #[.int .i64 a0_1, .int .i64 a0_2, .int .i64 a0_3]] ?_; (with_reducible refine (spec_l3Zero.calls a0_1 a0_2 a0_3 false _ A43.out).mono ?_); rintro e w61 ⟨rfl, hb⟩; refine ⟨_, rfl, ?_⟩; replace BK297 := A_ (blk_below (bk_ BK297.out) hb); replace HB := A_ (below_step (bw_ HB.out) hb); clear hb))
     go_ret
     exact rt_ (bw_ HB.out)
   ·rw [if_neg c42] at H
    have c42b0 := beq_eq_false_iff_ne.mpr c42
    have c42b1 := bne_iff_ne.mpr c42
    have HC62 := A_ H
    clear H
    go_enter Try.func94, Try.ntmps94
    go_upto_region 7 with (first | ((with_reducible refine gate_dst (N := 1) rfl ?_); refine bx_ 1 #[.int .i64 a0_0, .int .i64 a0_1, .int .i64 a0_2, .int .i64 a0_3, .int .i64 a0_4, .int .i64 a0_5, .int .i64 a0_6, .int .i64 a0_7] 98 ?_; intro gb297 hg w63 hbox hb; have n0_ := A_ (below_step (bw_ HB.out) hb); have n1_ := A_ (hbox); have n2_ := A_ ((d5_ : w.heap.size ≤ gb297)); have n3_ := n2_; clear HB; have HB := n0_; have BK297 := n1_; have GW297 := n2_; have GE297 := n3_; have GI297 := GeI.mk GE297.out; clear n0_ n1_ n2_ n3_; clear hb hbox hg; obtain ⟨y64_0, y64_1, y64_2, y64_3, y64_4, y64_5, y64_6, y64_7, z64_0, z64_1, z64_2, z64_3, z64_4, z64_5, z64_6, z64_7⟩ := cz8_ BK297.out) | ((with_reducible refine gate_callee (f := 57) rfl ?_); refine gL_ (some 6) Try.func57 #[.int .i64 a0_0, .int .i64 1, .int .i64 6] ?_; (with_reducible refine (spec_l1In.calls a0_0 1 6 false _ A2.out).mono ?_); rintro e w' ⟨rfl, ⟨nd, rfl⟩⟩; refine ⟨_, rfl, ?_⟩) | ((with_reducible refine gate_callee (f := 57) rfl ?_); refine gL_ (some 23) Try.func57 #[.int .i64 a0_0, .int .i64 7, .int .i64 14] ?_; (with_reducible refine (spec_l1In.calls a0_0 7 14 false _ A22.out).mono ?_); rintro e w' ⟨rfl, ⟨nd, rfl⟩⟩; refine ⟨_, rfl, ?_⟩))
    (try simp only [Act.put, List.setIfInBounds_toArray, List.set_cons_zero, List.set_cons_succ])
    go_cut [54] (fun v54 wc => ∃ (kq : Nat) (x54_61 : Bool), v54 = .bool x54_61 ∧ Aside0 (spec_InsOk.j0 kq x54_61 a0_0 a0_1 a0_2 a0_3 a0_4 a0_5 a0_6 a0_7 = some r) ∧ Aside0 (kq ≤ k) ∧ Aside0 (wc.heap[gb297]? = some (.cells #[.int .i64 a0_0, .int .i64 a0_1, .int .i64 a0_2, .int .i64 a0_3, .int .i64 a0_4, .int .i64 a0_5, .int .i64 a0_6, .int .i64 a0_7] 98 (0, 0))) ∧ Aside0 (Below w.heap.size w wc))
    case first =>
     have H := HC62.out
     clear HC62
     replace H := Option.bind_eq_some_iff.mp H
     obtain ⟨t307, A650, H⟩ := H
     try dsimp only at H
     have A65 := A_ A650
     clear A650
     by_cases c66 : t307 = true
     ·subst c66
      rw [if_pos rfl] at H
      replace H := Option.bind_eq_some_iff.mp H
      obtain ⟨t308, A670, H⟩ := H
      try dsimp only at H
      have A67 := A_ A670
      clear A670
      have H' := A_ H
      clear H
      obtain ⟨y68_0, y68_1, y68_2, y68_3, y68_4, y68_5, y68_6, y68_7, z68_0, z68_1, z68_2, z68_3, z68_4, z68_5, z68_6, z68_7⟩ := cz8_ BK297.out
      go_wp2_with (first | ((with_reducible refine gate_callee (f := 98) rfl ?_); refine gL_ (some 57) Try.func98 #[.agg #[.int .i64 a0_1, .int .i64 a0_2, .int .i64 a0_3]] ?_; (with_reducible refine (spec_l3Zero.calls a0_1 a0_2 a0_3 true _ A65.out).mono ?_); rintro e w69 ⟨rfl, hb⟩; refine ⟨_, rfl, ?_⟩; replace BK297 := A_ (blk_below (bk_ BK297.out) hb); replace HB := A_ (below_step (bw_ HB.out) hb); clear hb; obtain ⟨y70_0, y70_1, y70_2, y70_3, y70_4, y70_5, y70_6, y70_7, z70_0, z70_1, z70_2, z70_3, z70_4, z70_5, z70_6, z70_7⟩ := cz8_ BK297.out) | (go_at_call 98; (with_reducible refine (spec_l3Zero.calls a0_4 a0_5 a0_6 t308 _ A67.out).mono ?_); rintro e w71 ⟨rfl, hb⟩; replace BK297 := A_ (blk_below (bk_ BK297.out) hb); replace HB := A_ (below_step (bw_ HB.out) hb); clear hb))
      go_meet
      case rel => exact ⟨_, (!t308), d6_, H', ⟨by first | omega | exact Nat.le_refl _⟩, ⟨by refine bk_ ?_; exact BK297.out⟩, ⟨bw_ HB.out⟩⟩
     ·replace c66 := Bool.eq_false_iff.mpr c66
      subst c66
      rw [if_neg (show ¬ (false = true) by decide)] at H
      have H' := A_ H
      clear H
      obtain ⟨y72_0, y72_1, y72_2, y72_3, y72_4, y72_5, y72_6, y72_7, z72_0, z72_1, z72_2, z72_3, z72_4, z72_5, z72_6, z72_7⟩ := cz8_ BK297.out
      go_wp2_with (first | ((with_reducible refine gate_callee (f := 98) rfl ?_); refine gL_ (some 57) Try.func98 #[.agg #[.int .i64 a0_1, .int .i64 a0_2, .int .i64 a0_3]] ?_; (with_reducible refine (spec_l3Zero.calls a0_1 a0_2 a0_3 false _ A65.out).mono ?_); rintro e w73 ⟨rfl, hb⟩; refine ⟨_, rfl, ?_⟩; replace BK297 := A_ (blk_below (bk_ BK297.out) hb); replace HB := A_ (below_step (bw_ HB.out) hb); clear hb))
      go_meet
      case rel => exact ⟨_, (true), d6_, H', ⟨by first | omega | exact Nat.le_refl _⟩, ⟨by refine bk_ ?_; exact BK297.out⟩, ⟨bw_ HB.out⟩⟩
    case rest =>
     clear HC62
     try clear c2
     try clear p2
     try clear c3
     try clear c4
     try clear c5
     try clear c6
     try clear c7
     try clear c9
     try clear c23
     try clear c25
     try clear c27
     try clear c42
     try clear c42b0
     try clear c42b1
     try clear c44
     try clear c46
     try clear c57
     try clear c66
     try clear y11_0 y11_1 y11_2 y11_3 y11_4 y11_5 y11_6 y11_7 z11_0 z11_1 z11_2 z11_3 z11_4 z11_5 z11_6 z11_7
     try clear y13_0 y13_1 y13_2 y13_3 y13_4 y13_5 y13_6 y13_7 z13_0 z13_1 z13_2 z13_3 z13_4 z13_5 z13_6 z13_7
     try clear y15_0 y15_1 y15_2 y15_3 y15_4 y15_5 y15_6 y15_7 z15_0 z15_1 z15_2 z15_3 z15_4 z15_5 z15_6 z15_7
     try clear y17_0 y17_1 y17_2 y17_3 y17_4 y17_5 y17_6 y17_7 z17_0 z17_1 z17_2 z17_3 z17_4 z17_5 z17_6 z17_7
     try clear y20_0 y20_1 y20_2 y20_3 y20_4 y20_5 y20_6 y20_7 z20_0 z20_1 z20_2 z20_3 z20_4 z20_5 z20_6 z20_7
     try clear y29_0 y29_1 y29_2 y29_3 y29_4 y29_5 y29_6 y29_7 z29_0 z29_1 z29_2 z29_3 z29_4 z29_5 z29_6 z29_7
     try clear y31_0 y31_1 y31_2 y31_3 y31_4 y31_5 y31_6 y31_7 z31_0 z31_1 z31_2 z31_3 z31_4 z31_5 z31_6 z31_7
     try clear y33_0 y33_1 y33_2 y33_3 y33_4 y33_5 y33_6 y33_7 z33_0 z33_1 z33_2 z33_3 z33_4 z33_5 z33_6 z33_7
     try clear y35_0 y35_1 y35_2 y35_3 y35_4 y35_5 y35_6 y35_7 z35_0 z35_1 z35_2 z35_3 z35_4 z35_5 z35_6 z35_7
     try clear y37_0 y37_1 y37_2 y37_3 y37_4 y37_5 y37_6 y37_7 z37_0 z37_1 z37_2 z37_3 z37_4 z37_5 z37_6 z37_7
     try clear y40_0 y40_1 y40_2 y40_3 y40_4 y40_5 y40_6 y40_7 z40_0 z40_1 z40_2 z40_3 z40_4 z40_5 z40_6 z40_7
     try clear y49_0 y49_1 y49_2 y49_3 y49_4 y49_5 y49_6 y49_7 z49_0 z49_1 z49_2 z49_3 z49_4 z49_5 z49_6 z49_7
     try clear y51_0 y51_1 y51_2 y51_3 y51_4 y51_5 y51_6 y51_7 z51_0 z51_1 z51_2 z51_3 z51_4 z51_5 z51_6 z51_7
     try clear y53_0 y53_1 y53_2 y53_3 y53_4 y53_5 y53_6 y53_7 z53_0 z53_1 z53_2 z53_3 z53_4 z53_5 z53_6 z53_7
     try clear y55_0 y55_1 y55_2 y55_3 y55_4 y55_5 y55_6 y55_7 z55_0 z55_1 z55_2 z55_3 z55_4 z55_5 z55_6 z55_7
     try clear y57_0 y57_1 y57_2 y57_3 y57_4 y57_5 y57_6 y57_7 z57_0 z57_1 z57_2 z57_3 z57_4 z57_5 z57_6 z57_7
     try clear y60_0 y60_1 y60_2 y60_3 y60_4 y60_5 y60_6 y60_7 z60_0 z60_1 z60_2 z60_3 z60_4 z60_5 z60_6 z60_7
     try clear y64_0 y64_1 y64_2 y64_3 y64_4 y64_5 y64_6 y64_7 z64_0 z64_1 z64_2 z64_3 z64_4 z64_5 z64_6 z64_7
     try clear y68_0 y68_1 y68_2 y68_3 y68_4 y68_5 y68_6 y68_7 z68_0 z68_1 z68_2 z68_3 z68_4 z68_5 z68_6 z68_7
     try clear y70_0 y70_1 y70_2 y70_3 y70_4 y70_5 y70_6 y70_7 z70_0 z70_1 z70_2 z70_3 z70_4 z70_5 z70_6 z70_7
     try clear y72_0 y72_1 y72_2 y72_3 y72_4 y72_5 y72_6 y72_7 z72_0 z72_1 z72_2 z72_3 z72_4 z72_5 z72_6 z72_7
     try clear y9_0 y9_1 y9_2 y9_3 y9_4 y9_5 y9_6 y9_7 z9_0 z9_1 z9_2 z9_3 z9_4 z9_5 z9_6 z9_7
     obtain ⟨kq, x54_61, rfl, HA, HJ61, BK297, HB⟩ := hcut
     cases kq with
     | zero => exact absurd HA.out (by simp [spec_InsOk.j0])
     | succ kj61 =>
      have H := HA.out
      clear HA
      simp only [spec_InsOk.j0] at H
      by_cases c74 : x54_61 = true
      ·subst c74
       rw [if_pos rfl] at H
       obtain rfl := Option.some.inj H
       go_wp2
       go_ret
       exact rt_ (bw_ HB.out)
      ·replace c74 := Bool.eq_false_iff.mpr c74
       subst c74
       rw [if_neg (show ¬ (false = true) by decide)] at H
       by_cases c75 : a0_0 = 16
       ·rw [if_pos c75] at H
        have c75b0 := beq_iff_eq.mpr c75
        have c75b1 := bne_eq_false_iff_eq.mpr c75
        clear c75
        replace H := Option.bind_eq_some_iff.mp H
        obtain ⟨t309, A760, H⟩ := H
        try dsimp only at H
        have A76 := A_ A760
        clear A760
        obtain rfl := Option.some.inj H
        obtain ⟨y77_0, y77_1, y77_2, y77_3, y77_4, y77_5, y77_6, y77_7, z77_0, z77_1, z77_2, z77_3, z77_4, z77_5, z77_6, z77_7⟩ := cz8_ BK297.out
        go_wp2_with (first | ((with_reducible refine gate_callee (f := 57) rfl ?_); refine gL_ (some 71) Try.func57 #[.int .i64 a0_7, .int .i64 0, .int .i64 7] ?_; (with_reducible refine (spec_l1In.calls a0_7 0 7 t309 _ A76.out).mono ?_); rintro e w' ⟨rfl, ⟨nd, rfl⟩⟩; refine ⟨_, rfl, ?_⟩))
        go_ret
        exact rt_ (bw_ HB.out)
       ·rw [if_neg c75] at H
        have c75b0 := beq_eq_false_iff_ne.mpr c75
        have c75b1 := bne_iff_ne.mpr c75
        replace H := Option.bind_eq_some_iff.mp H
        obtain ⟨t310, A780, H⟩ := H
        try dsimp only at H
        have A78 := A_ A780
        clear A780
        by_cases c79 : t310 = true
        ·subst c79
         rw [if_pos rfl] at H
         replace H := Option.bind_eq_some_iff.mp H
         obtain ⟨t311, A800, H⟩ := H
         try dsimp only at H
         have A80 := A_ A800
         clear A800
         obtain rfl := Option.some.inj H
         obtain ⟨y81_0, y81_1, y81_2, y81_3, y81_4, y81_5, y81_6, y81_7, z81_0, z81_1, z81_2, z81_3, z81_4, z81_5, z81_6, z81_7⟩ := cz8_ BK297.out
         go_wp2_with (first | ((with_reducible refine gate_callee (f := 57) rfl ?_); refine gL_ (some 75) Try.func57 #[.int .i64 a0_0, .int .i64 17, .int .i64 21] ?_; (with_reducible refine (spec_l1In.calls a0_0 17 21 true _ A78.out).mono ?_); rintro e w' ⟨rfl, ⟨nd, rfl⟩⟩; refine ⟨_, rfl, ?_⟩) | ((with_reducible refine gate_callee (f := 57) rfl ?_); refine gL_ (some 78) Try.func57 #[.int .i64 a0_7, .int .i64 (-128), .int .i64 127] ?_; (with_reducible refine (spec_l1In.calls a0_7 (-128) 127 t311 _ A80.out).mono ?_); rintro e w' ⟨rfl, ⟨nd, rfl⟩⟩; refine ⟨_, rfl, ?_⟩))
         go_ret
         exact rt_ (bw_ HB.out)
        ·replace c79 := Bool.eq_false_iff.mpr c79
         subst c79
         rw [if_neg (show ¬ (false = true) by decide)] at H
         by_cases c82 : a0_0 = 22
         ·rw [if_pos c82] at H
          have c82b0 := beq_iff_eq.mpr c82
          have c82b1 := bne_eq_false_iff_eq.mpr c82
          clear c82
          obtain rfl := Option.some.inj H
          obtain ⟨y83_0, y83_1, y83_2, y83_3, y83_4, y83_5, y83_6, y83_7, z83_0, z83_1, z83_2, z83_3, z83_4, z83_5, z83_6, z83_7⟩ := cz8_ BK297.out
          go_wp2_with (first | ((with_reducible refine gate_callee (f := 57) rfl ?_); refine gL_ (some 75) Try.func57 #[.int .i64 a0_0, .int .i64 17, .int .i64 21] ?_; (with_reducible refine (spec_l1In.calls a0_0 17 21 false _ A78.out).mono ?_); rintro e w' ⟨rfl, ⟨nd, rfl⟩⟩; refine ⟨_, rfl, ?_⟩))
          go_ret
          exact rt_ (bw_ HB.out)
         ·rw [if_neg c82] at H
          have c82b0 := beq_eq_false_iff_ne.mpr c82
          have c82b1 := bne_iff_ne.mpr c82
          by_cases c84 : a0_0 = 23
          ·rw [if_pos c84] at H
           have c84b0 := beq_iff_eq.mpr c84
           have c84b1 := bne_eq_false_iff_eq.mpr c84
           clear c84
           replace H := Option.bind_eq_some_iff.mp H
           obtain ⟨t312, A850, H⟩ := H
           try dsimp only at H
           have A85 := A_ A850
           clear A850
           obtain rfl := Option.some.inj H
           obtain ⟨y86_0, y86_1, y86_2, y86_3, y86_4, y86_5, y86_6, y86_7, z86_0, z86_1, z86_2, z86_3, z86_4, z86_5, z86_6, z86_7⟩ := cz8_ BK297.out
           go_wp2_with (first | ((with_reducible refine gate_callee (f := 57) rfl ?_); refine gL_ (some 75) Try.func57 #[.int .i64 a0_0, .int .i64 17, .int .i64 21] ?_; (with_reducible refine (spec_l1In.calls a0_0 17 21 false _ A78.out).mono ?_); rintro e w' ⟨rfl, ⟨nd, rfl⟩⟩; refine ⟨_, rfl, ?_⟩) | ((with_reducible refine gate_callee (f := 57) rfl ?_); refine gL_ (some 92) Try.func57 #[.int .i64 a0_7, .int .i64 0, .int .i64 255] ?_; (with_reducible refine (spec_l1In.calls a0_7 0 255 t312 _ A85.out).mono ?_); rintro e w' ⟨rfl, ⟨nd, rfl⟩⟩; refine ⟨_, rfl, ?_⟩))
           go_ret
           exact rt_ (bw_ HB.out)
          ·rw [if_neg c84] at H
           have c84b0 := beq_eq_false_iff_ne.mpr c84
           have c84b1 := bne_iff_ne.mpr c84
           obtain rfl := Option.some.inj H
           obtain ⟨y87_0, y87_1, y87_2, y87_3, y87_4, y87_5, y87_6, y87_7, z87_0, z87_1, z87_2, z87_3, z87_4, z87_5, z87_6, z87_7⟩ := cz8_ BK297.out
           go_wp2_with (first | ((with_reducible refine gate_callee (f := 57) rfl ?_); refine gL_ (some 75) Try.func57 #[.int .i64 a0_0, .int .i64 17, .int .i64 21] ?_; (with_reducible refine (spec_l1In.calls a0_0 17 21 false _ A78.out).mono ?_); rintro e w' ⟨rfl, ⟨nd, rfl⟩⟩; refine ⟨_, rfl, ?_⟩))
           go_ret
           exact rt_ (bw_ HB.out)

/-! ### spec_l4Base: function 95 -/
def spec_l4Base.f (a0 : Int) : Option (Int) := (some (([0, 4096, 8192, 16384, 20480, 24576, 57344, 2560, 2688, 2752, 2816, 3008, 3200, 3264, 64, 2048, 128, 256, 512, 768, 1024, 1280, 0, 34816] : List Int) : List Int)).bind fun y313 => (if 0 ≤ a0 then (if a0 < (y313.length : Int) then (some (rd y313 a0)) else (none)) else (none))
set_option maxHeartbeats 8000000 in
set_option maxRecDepth 100000 in
theorem spec_l4Base.calls (a0 : Int) (r : Int) (w : World) (h : spec_l4Base.f a0 = some r) :
  Calls Try.prog 95 #[.int .i64 a0] w fun e w' => e = .returned (.int .i64 r) ∧ Below w.heap.size w w' := by
 have HB := A_ (Below.refl w.heap.size w)
 have H : ((some (([0, 4096, 8192, 16384, 20480, 24576, 57344, 2560, 2688, 2752, 2816, 3008, 3200, 3264, 64, 2048, 128, 256, 512, 768, 1024, 1280, 0, 34816] : List Int) : List Int)).bind fun y313 => (if 0 ≤ a0 then (if a0 < (y313.length : Int) then (some (rd y313 a0)) else (none)) else (none))) = some r := h
 clear h
 obtain ⟨y313, hy313⟩ : ∃ y_ : List Int, y_ = (([0, 4096, 8192, 16384, 20480, 24576, 57344, 2560, 2688, 2752, 2816, 3008, 3200, 3264, 64, 2048, 128, 256, 512, 768, 1024, 1280, 0, 34816] : List Int)) := ⟨_, rfl⟩
 replace H : (if 0 ≤ a0 then (if a0 < (y313.length : Int) then (some (rd y313 a0)) else (none)) else (none)) = some r := by first | (rw [hy313]; with_reducible exact H) | (have H2_ := (Option.bind_some _ _).symm.trans H; rw [hy313]; with_reducible exact H2_) | (have H2_ := (Option.bind_some _ _).symm.trans H; with_reducible exact H2_) | with_reducible exact H | (rw [hy313]; exact H) | exact H
 have Ny313 := A_ hy313
 clear hy313
 by_cases c2 : 0 ≤ a0
 ·rw [if_pos c2] at H
  have c2b0 := decide_eq_true c2
  clear c2
  by_cases c3 : a0 < (y313.length : Int)
  ·rw [if_pos c3] at H
   have c3b0 := decide_eq_true c3
   clear c3
   obtain rfl := Option.some.inj H
   go_enter Try.func95, Try.ntmps95
   go_wp2_with (first | ((with_reducible refine gate_dst (N := 4) rfl ?_); refine Kd.R_lit (Kd.int .i64) _ 3 ?hg (N := 4) ?hd (xs := ([0, 4096, 8192, 16384, 20480, 24576, 57344, 2560, 2688, 2752, 2816, 3008, 3200, 3264, 64, 2048, 128, 256, 512, 768, 1024, 1280, 0, 34816] : List Int)) (inner := [.int .i64 0, .int .i64 4096, .int .i64 8192, .int .i64 16384, .int .i64 20480, .int .i64 24576, .int .i64 57344, .int .i64 2560, .int .i64 2688, .int .i64 2752, .int .i64 2816, .int .i64 3008, .int .i64 3200, .int .i64 3264, .int .i64 64, .int .i64 2048, .int .i64 128, .int .i64 256, .int .i64 512, .int .i64 768, .int .i64 1024, .int .i64 1280, .int .i64 0, .int .i64 34816]) (ok := fun _ => True) (okp := fun _ => True) ?hr ?hp (fun _ hk => hk) trivial (Below.refl _ _) (Nat.le_refl _) (by simp) ?_; (case hd => rfl); (case hg => rfl); (case hr => first | (go_simp; done) | (go_simp; rfl)); (case hp => exact (Reps.one (show Kd.M (Kd.int .i64) _ _ _ 0 [.int .i64 0] from rfl) (Reps.one (show Kd.M (Kd.int .i64) _ _ _ 4096 [.int .i64 4096] from rfl) (Reps.one (show Kd.M (Kd.int .i64) _ _ _ 8192 [.int .i64 8192] from rfl) (Reps.one (show Kd.M (Kd.int .i64) _ _ _ 16384 [.int .i64 16384] from rfl) (Reps.one (show Kd.M (Kd.int .i64) _ _ _ 20480 [.int .i64 20480] from rfl) (Reps.one (show Kd.M (Kd.int .i64) _ _ _ 24576 [.int .i64 24576] from rfl) (Reps.one (show Kd.M (Kd.int .i64) _ _ _ 57344 [.int .i64 57344] from rfl) (Reps.one (show Kd.M (Kd.int .i64) _ _ _ 2560 [.int .i64 2560] from rfl) (Reps.one (show Kd.M (Kd.int .i64) _ _ _ 2688 [.int .i64 2688] from rfl) (Reps.one (show Kd.M (Kd.int .i64) _ _ _ 2752 [.int .i64 2752] from rfl) (Reps.one (show Kd.M (Kd.int .i64) _ _ _ 2816 [.int .i64 2816] from rfl) (Reps.one (show Kd.M (Kd.int .i64) _ _ _ 3008 [.int .i64 3008] from rfl) (Reps.one (show Kd.M (Kd.int .i64) _ _ _ 3200 [.int .i64 3200] from rfl) (Reps.one (show Kd.M (Kd.int .i64) _ _ _ 3264 [.int .i64 3264] from rfl) (Reps.one (show Kd.M (Kd.int .i64) _ _ _ 64 [.int .i64 64] from rfl) (Reps.one (show Kd.M (Kd.int .i64) _ _ _ 2048 [.int .i64 2048] from rfl) (Reps.one (show Kd.M (Kd.int .i64) _ _ _ 128 [.int .i64 128] from rfl) (Reps.one (show Kd.M (Kd.int .i64) _ _ _ 256 [.int .i64 256] from rfl) (Reps.one (show Kd.M (Kd.int .i64) _ _ _ 512 [.int .i64 512] from rfl) (Reps.one (show Kd.M (Kd.int .i64) _ _ _ 768 [.int .i64 768] from rfl) (Reps.one (show Kd.M (Kd.int .i64) _ _ _ 1024 [.int .i64 1024] from rfl) (Reps.one (show Kd.M (Kd.int .i64) _ _ _ 1280 [.int .i64 1280] from rfl) (Reps.one (show Kd.M (Kd.int .i64) _ _ _ 0 [.int .i64 0] from rfl) (Reps.one (show Kd.M (Kd.int .i64) _ _ _ 34816 [.int .i64 34816] from rfl) (Reps.none _ _)))))))))))))))))))))))))); intro v314 w4 ho5 hb hg_ hnew_; clear hg_ hnew_; (first | rw [← Ny313.out] at ho5 | (simp only [Int.reduceToNat] at ho5; rw [← Ny313.out] at ho5)); have HO315 := A_ (Kd.R_lower ho5 (below_size (bw_ HB.out))); replace HB := A_ (below_step (bw_ HB.out) hb); clear hb ho5; obtain ⟨Ao6, co6, eo6⟩ := Kd.R_slice HO315.out; subst eo6; have p316 : 0 ≤ (a0 : Int) := of_decide_eq_true d8_; have q316 : a0 < (y313.length : Int) := of_decide_eq_true d8_; obtain ⟨ad316, e316, hx316_0⟩ := Kd.at_int (Kd.R_reads' HO315.out).2.2 a0 p316 q316; cases e316; replace p316 := eq_true p316; replace q316 := eq_true q316))
   go_ret
   exact rt_ (bw_ HB.out)
  ·rw [if_neg c3] at H
   exact absurd H (by simp)
 ·rw [if_neg c2] at H
  exact absurd H (by simp)

/-! ### spec_l4Six: function 96 -/
def spec_l4Six.f (a0_0 : Int) (a0_1 : Int) (a0_2 : Int) : Option (Int) := some (wrap64 ((wrap64 (a0_0 * 8)) + a0_1))
set_option maxHeartbeats 8000000 in
set_option maxRecDepth 100000 in
theorem spec_l4Six.calls (a0_0 : Int) (a0_1 : Int) (a0_2 : Int) (r : Int) (w : World) (h : spec_l4Six.f a0_0 a0_1 a0_2 = some r) :
  Calls Try.prog 96 #[.agg #[.int .i64 a0_0, .int .i64 a0_1, .int .i64 a0_2]] w fun e w' => e = .returned (.int .i64 r) ∧ Below w.heap.size w w' := by
 have hu63 := Try.underlying63
 have HB := A_ (Below.refl w.heap.size w)
 have H : (some (wrap64 ((wrap64 (a0_0 * 8)) + a0_1))) = some r := h
 clear h
 obtain rfl := Option.some.inj H
 go_enter Try.func96, Try.ntmps96
 go_wp2_with (first | ((with_reducible refine gate_dst (N := 1) rfl ?_); refine bx_ 1 #[.int .i64 a0_0, .int .i64 a0_1, .int .i64 a0_2] 63 ?_; intro gb317 hg w2 hbox hb; have n0_ := A_ (below_step (bw_ HB.out) hb); have n1_ := A_ (hbox); have n2_ := A_ ((d5_ : w.heap.size ≤ gb317)); have n3_ := n2_; clear HB; have HB := n0_; have BK317 := n1_; have GW317 := n2_; have GE317 := n3_; have GI317 := GeI.mk GE317.out; clear n0_ n1_ n2_ n3_; clear hb hbox hg; have y3_0 : w2.cell? ⟨gb317, 0, none⟩ = some (.int .i64 a0_0) := (blk_cell BK317.out 0).trans rfl; have y3_1 : w2.cell? ⟨gb317, 1, none⟩ = some (.int .i64 a0_1) := (blk_cell BK317.out 1).trans rfl; have y3_2 : w2.cell? ⟨gb317, 2, none⟩ = some (.int .i64 a0_2) := (blk_cell BK317.out 2).trans rfl; have z3_0 := blk_frozen BK317.out 0; have z3_1 := blk_frozen BK317.out 1; have z3_2 := blk_frozen BK317.out 2))
 go_ret
 exact rt_ (bw_ HB.out)

end Go.Proofs.Ytiagbfilffbljaa.PFnStored
