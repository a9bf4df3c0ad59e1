-- Laid by a program of this session (a changed copy of the kit's printer); Lean checks every line.
import Derived.Test.YtiagbfilffbljaaPFnStoredx0
import Derived.Test.YtiagbfilffbljaaPFnStoredx4
import Derived.Test.YtiagbfilffbljaaPFnStoredx6
namespace Go.Proofs.Ytiagbfilffbljaa.PFnStored
open Go.RowKit Go.Proofs.YtiagbfilffbljaaW.PrintWords Go.Proofs.YtiagbfilffbljaaW.PrintLast Go.Proofs.YtiagbfilffbljaaW.PrintMore
attribute [local go_sem] max2_int min2_int max_two min_two max_three min_three max_four min_four   -- for this text's walks alone
set_option linter.unusedVariables false
set_option linter.unusedSimpArgs false

/-! ### spec_Encode: function 86 -/
mutual
def spec_Encode.j1 : Nat → Int → Int → Int → Int → Int → Int → Int → Int → Int → Option (List Int)
 | 0, _, _, _, _, _, _, _, _, _ => none
 | k + 1, x3, x319000, x319001, x319002, x319003, x319004, x319005, x319006, x319007 => (some (([x3] : List Int) : List Int)).bind fun y328 => (if x319000 ≤ 6 then ((spec_HasX.f x319001 x319002 x319003).bind fun t331 => (spec_Encode.j2 k y328 t331 x319000 x319001 x319002 x319003 x319004 x319005 x319006 x319007)) else (spec_Encode.j2 k y328 false x319000 x319001 x319002 x319003 x319004 x319005 x319006 x319007))
def spec_Encode.j2 : Nat → List Int → Bool → Int → Int → Int → Int → Int → Int → Int → Int → Option (List Int)
 | 0, _, _, _, _, _, _, _, _, _, _ => none
 | k + 1, x4, x79, x319000, x319001, x319002, x319003, x319004, x319005, x319006, x319007 => if x79 = true then (if x4.length < 17592186044416 then ((some (x4 ++ [x319003] : List Int)).bind fun y332 => (if x319000 ≤ 15 then ((spec_HasX.f x319004 x319005 x319006).bind fun t335 => (if t335 = true then (if y332.length < 17592186044416 then (some (y332 ++ [x319006])) else (none)) else (some y332))) else (some y332))) else (none)) else (if x319000 ≤ 15 then ((spec_HasX.f x319004 x319005 x319006).bind fun t339 => (if t339 = true then (if x4.length < 17592186044416 then (some (x4 ++ [x319006])) else (none)) else (some x4))) else (some x4))
def spec_Encode.j0 : Nat → Int → Bool → Int → Int → Int → Int → Int → Int → Int → Int → Option (List Int)
 | 0, _, _, _, _, _, _, _, _, _, _ => none
 | k + 1, x3, x48, x319000, x319001, x319002, x319003, x319004, x319005, x319006, x319007 => if x48 = true then (spec_Encode.j1 k (wrap64 (x3 + x319007)) x319000 x319001 x319002 x319003 x319004 x319005 x319006 x319007) else (if x319000 ≤ 21 then (spec_Encode.j1 k (wrap64 (x3 + (Go.bits .and .i64 x319007 255))) x319000 x319001 x319002 x319003 x319004 x319005 x319006 x319007) else (spec_Encode.j1 k x3 x319000 x319001 x319002 x319003 x319004 x319005 x319006 x319007))
end
def spec_Encode.f (k : Nat) (a0_0 : Int) (a0_1 : Int) (a0_2 : Int) (a0_3 : Int) (a0_4 : Int) (a0_5 : Int) (a0_6 : Int) (a0_7 : Int) : Option (List Int) := (spec_InsOk.f k a0_0 a0_1 a0_2 a0_3 a0_4 a0_5 a0_6 a0_7).bind fun t319 => (if t319 = true then ((spec_l4Base.f a0_0).bind fun t323 => (if a0_0 ≤ 6 then ((spec_l4Six.f a0_1 a0_2 a0_3).bind fun t324 => ((spec_l4Six.f a0_4 a0_5 a0_6).bind fun t325 => (spec_Encode.j1 k (wrap64 ((wrap64 (t323 + (wrap64 (t324 * 64)))) + t325)) a0_0 a0_1 a0_2 a0_3 a0_4 a0_5 a0_6 a0_7))) else (if a0_0 ≤ 14 then ((spec_l4Six.f a0_4 a0_5 a0_6).bind fun t326 => (spec_Encode.j1 k (wrap64 (t323 + t326)) a0_0 a0_1 a0_2 a0_3 a0_4 a0_5 a0_6 a0_7)) else (if a0_0 = 15 then ((spec_l4Six.f a0_4 a0_5 a0_6).bind fun t327 => (spec_Encode.j1 k (wrap64 ((wrap64 (t323 + (wrap64 (a0_7 * 64)))) + t327)) a0_0 a0_1 a0_2 a0_3 a0_4 a0_5 a0_6 a0_7)) else (if a0_0 = 16 then (spec_Encode.j0 k t323 true a0_0 a0_1 a0_2 a0_3 a0_4 a0_5 a0_6 a0_7) else (spec_Encode.j0 k t323 (a0_0 == 23) a0_0 a0_1 a0_2 a0_3 a0_4 a0_5 a0_6 a0_7)))))) else (some (([] : List Int))))
theorem spec_Encode.mono_l : ∀ k, (∀ y0 y1 y2 y3 y4 y5 y6 y7 y8, LeO (spec_Encode.j1 k y0 y1 y2 y3 y4 y5 y6 y7 y8) (spec_Encode.j1 (k + 1) y0 y1 y2 y3 y4 y5 y6 y7 y8)) ∧ (∀ y0 y1 y2 y3 y4 y5 y6 y7 y8 y9, LeO (spec_Encode.j2 k y0 y1 y2 y3 y4 y5 y6 y7 y8 y9) (spec_Encode.j2 (k + 1) y0 y1 y2 y3 y4 y5 y6 y7 y8 y9)) ∧ (∀ y0 y1 y2 y3 y4 y5 y6 y7 y8 y9, LeO (spec_Encode.j0 k y0 y1 y2 y3 y4 y5 y6 y7 y8 y9) (spec_Encode.j0 (k + 1) y0 y1 y2 y3 y4 y5 y6 y7 y8 y9))
 | 0 => ⟨fun _ _ _ _ _ _ _ _ _ r h => by simp [spec_Encode.j1] at h, fun _ _ _ _ _ _ _ _ _ _ r h => by simp [spec_Encode.j2] at h, fun _ _ _ _ _ _ _ _ _ _ r h => by simp [spec_Encode.j0] at h⟩
 | k + 1 => by
  obtain ⟨ih0, ih1, ih2⟩ := spec_Encode.mono_l k
  refine ⟨?_, ?_, ?_⟩
  ·intro y0 y1 y2 y3 y4 y5 y6 y7 y8
   unfold spec_Encode.j1
   repeat' first
   | (with_reducible exact ih0 _ _ _ _ _ _ _ _ _)
   | (with_reducible exact ih1 _ _ _ _ _ _ _ _ _ _)
   | (with_reducible exact ih2 _ _ _ _ _ _ _ _ _ _)
   | (with_reducible exact spec_InsOk.mono _ _ _ _ _ _ _ _ _)
   | (with_reducible exact LeO.refl _)
   | (with_reducible exact LeO.none _)
   | (with_reducible refine LeO.ite ?_ ?_)
   | (with_reducible refine LeO.bind ?_ (fun _ => ?_))
   | exact ih0 _ _ _ _ _ _ _ _ _
   | exact ih1 _ _ _ _ _ _ _ _ _ _
   | exact ih2 _ _ _ _ _ _ _ _ _ _
   | exact spec_InsOk.mono _ _ _ _ _ _ _ _ _
   | exact LeO.none _
   | refine LeO.ite ?_ ?_
   | refine LeO.bind ?_ (fun _ => ?_)
  ·intro y0 y1 y2 y3 y4 y5 y6 y7 y8 y9
   unfold spec_Encode.j2
   repeat' first
   | (with_reducible exact ih0 _ _ _ _ _ _ _ _ _)
   | (with_reducible exact ih1 _ _ _ _ _ _ _ _ _ _)
   | (with_reducible exact ih2 _ _ _ _ _ _ _ _ _ _)
   | (with_reducible exact spec_InsOk.mono _ _ _ _ _ _ _ _ _)
   | (with_reducible exact LeO.refl _)
   | (with_reducible exact LeO.none _)
   | (with_reducible refine LeO.ite ?_ ?_)
   | (with_reducible refine LeO.bind ?_ (fun _ => ?_))
   | exact ih0 _ _ _ _ _ _ _ _ _
   | exact ih1 _ _ _ _ _ _ _ _ _ _
   | exact ih2 _ _ _ _ _ _ _ _ _ _
   | exact spec_InsOk.mono _ _ _ _ _ _ _ _ _
   | exact LeO.none _
   | refine LeO.ite ?_ ?_
   | refine LeO.bind ?_ (fun _ => ?_)
  ·intro y0 y1 y2 y3 y4 y5 y6 y7 y8 y9
   unfold spec_Encode.j0
   repeat' first
   | (with_reducible exact ih0 _ _ _ _ _ _ _ _ _)
   | (with_reducible exact ih1 _ _ _ _ _ _ _ _ _ _)
   | (with_reducible exact ih2 _ _ _ _ _ _ _ _ _ _)
   | (with_reducible exact spec_InsOk.mono _ _ _ _ _ _ _ _ _)
   | (with_reducible exact LeO.refl _)
   | (with_reducible exact LeO.none _)
   | (with_reducible refine LeO.ite ?_ ?_)
   | (with_reducible refine LeO.bind ?_ (fun _ => ?_))
   | exact ih0 _ _ _ _ _ _ _ _ _
   | exact ih1 _ _ _ _ _ _ _ _ _ _
   | exact ih2 _ _ _ _ _ _ _ _ _ _
   | exact spec_InsOk.mono _ _ _ _ _ _ _ _ _
   | exact LeO.none _
   | refine LeO.ite ?_ ?_
   | refine LeO.bind ?_ (fun _ => ?_)
theorem spec_Encode.mono : ∀ a0 a1 a2 a3 a4 a5 a6 a7 k, LeO (spec_Encode.f k a0 a1 a2 a3 a4 a5 a6 a7) (spec_Encode.f (k + 1) a0 a1 a2 a3 a4 a5 a6 a7) := by
 intro a0 a1 a2 a3 a4 a5 a6 a7 k
 obtain ⟨ih0, ih1, ih2⟩ := spec_Encode.mono_l k
 unfold spec_Encode.f
 repeat' first
   | (with_reducible exact ih0 _ _ _ _ _ _ _ _ _)
   | (with_reducible exact ih1 _ _ _ _ _ _ _ _ _ _)
   | (with_reducible exact ih2 _ _ _ _ _ _ _ _ _ _)
   | (with_reducible exact spec_InsOk.mono _ _ _ _ _ _ _ _ _)
   | (with_reducible exact LeO.refl _)
   | (with_reducible exact LeO.none _)
   | (with_reducible refine LeO.ite ?_ ?_)
   | (with_reducible refine LeO.bind ?_ (fun _ => ?_))
   | exact ih0 _ _ _ _ _ _ _ _ _
   | exact ih1 _ _ _ _ _ _ _ _ _ _
   | exact ih2 _ _ _ _ _ _ _ _ _ _
   | exact spec_InsOk.mono _ _ _ _ _ _ _ _ _
   | exact LeO.none _
   | refine LeO.ite ?_ ?_
   | refine LeO.bind ?_ (fun _ => ?_)
def spec_Encode.T5 : Bool × List (List Nat × List Nat) := (true, [([], []), ([], []), ([1], [1]), ([2], [2]), ([3], [3]), ([0, 4], [0, 4]), ([], []), ([6], [6]), ([7, 3], [7]), ([5, 8], [5, 8]), ([9, 8, 0, 1, 2, 3, 4, 5, 6, 7, 8, 9], [0, 9])])
def spec_Encode.B5 : List Nat := [0, 0, 2, 6, 14, 31, 0, 64, 206, 511, 1023]
theorem spec_Encode.tab5 : rtab .any (opsOf Try.f86 5) = spec_Encode.T5 := by kernel_rfl
theorem spec_Encode.bits5 : waitsOk spec_Encode.T5.2 spec_Encode.B5 = true := by kernel_rfl
def spec_Encode.T9 : Bool × List (List Nat × List Nat) := (true, [([], []), ([], []), ([1], [1]), ([2], [2]), ([0, 3], [0, 3]), ([], []), ([5], [5]), ([6], [6]), ([4, 7], [4, 7]), ([8, 7, 0, 1, 2, 3, 4, 5, 6, 7, 8], [0, 8])])
def spec_Encode.B9 : List Nat := [0, 0, 2, 6, 15, 0, 32, 96, 255, 511]
theorem spec_Encode.tab9 : rtab .any (opsOf Try.f86 9) = spec_Encode.T9 := by kernel_rfl
theorem spec_Encode.bits9 : waitsOk spec_Encode.T9.2 spec_Encode.B9 = true := by kernel_rfl
set_option maxHeartbeats 8000000 in
set_option maxRecDepth 100000 in
theorem spec_Encode.calls (k : Nat) (a0_0 : Int) (a0_1 : Int) (a0_2 : Int) (a0_3 : Int) (a0_4 : Int) (a0_5 : Int) (a0_6 : Int) (a0_7 : Int) (r : List Int) (w : World) (h : spec_Encode.f k a0_0 a0_1 a0_2 a0_3 a0_4 a0_5 a0_6 a0_7 = some r) :
  Calls Try.prog 86 #[.agg #[.int .i64 a0_0, .int .i64 a0_1, .int .i64 a0_2, .int .i64 a0_3, .int .i64 a0_4, .int .i64 a0_5, .int .i64 a0_6, .int .i64 a0_7]] w fun e w' => ∃ v0_ : Value, e = .returned (v0_) ∧ Kd.R (Kd.int .i64) 3 w' w.heap.size (fun _ => True) v0_ r ∧ Below w.heap.size w w' := by
 have hu98 := Try.underlying98
 have hu63 := Try.underlying63
 have HB := A_ (Below.refl w.heap.size w)
 have H : ((spec_InsOk.f k a0_0 a0_1 a0_2 a0_3 a0_4 a0_5 a0_6 a0_7).bind fun t319 => (if t319 = true then ((spec_l4Base.f a0_0).bind fun t323 => (if a0_0 ≤ 6 then ((spec_l4Six.f a0_1 a0_2 a0_3).bind fun t324 => ((spec_l4Six.f a0_4 a0_5 a0_6).bind fun t325 => (spec_Encode.j1 k (wrap64 ((wrap64 (t323 + (wrap64 (t324 * 64)))) + t325)) a0_0 a0_1 a0_2 a0_3 a0_4 a0_5 a0_6 a0_7))) else (if a0_0 ≤ 14 then ((spec_l4Six.f a0_4 a0_5 a0_6).bind fun t326 => (spec_Encode.j1 k (wrap64 (t323 + t326)) a0_0 a0_1 a0_2 a0_3 a0_4 a0_5 a0_6 a0_7)) else (if a0_0 = 15 then ((spec_l4Six.f a0_4 a0_5 a0_6).bind fun t327 => (spec_Encode.j1 k (wrap64 ((wrap64 (t323 + (wrap64 (a0_7 * 64)))) + t327)) a0_0 a0_1 a0_2 a0_3 a0_4 a0_5 a0_6 a0_7)) else (if a0_0 = 16 then (spec_Encode.j0 k t323 true a0_0 a0_1 a0_2 a0_3 a0_4 a0_5 a0_6 a0_7) else (spec_Encode.j0 k t323 (a0_0 == 23) a0_0 a0_1 a0_2 a0_3 a0_4 a0_5 a0_6 a0_7)))))) else (some (([] : List Int))))) = some r := h
 clear h
 replace H := Option.bind_eq_some_iff.mp H
 obtain ⟨t319, A20, H⟩ := H
 try dsimp only at H
 have A2 := A_ A20
 clear A20
 by_cases c3 : t319 = true
 ·subst c3
  rw [if_pos rfl] at H
  replace H := Option.bind_eq_some_iff.mp H
  obtain ⟨t323, A40, H⟩ := H
  try dsimp only at H
  have A4 := A_ A40
  clear A40
  have HC5 := A_ H
  clear H
  go_enter Try.func86, Try.ntmps86
  go_upto_block 0 with (first | ((with_reducible refine gate_dst (N := 1) rfl ?_); refine bx_ 1 #[.int .i64 a0_0, .int .i64 a0_1, .int .i64 a0_2, .int .i64 a0_3, .int .i64 a0_4, .int .i64 a0_5, .int .i64 a0_6, .int .i64 a0_7] 98 ?_; intro gb318 hg w6 hbox hb; have n0_ := A_ (below_step (bw_ HB.out) hb); have n1_ := A_ (hbox); have n2_ := A_ ((d5_ : w.heap.size ≤ gb318)); have n3_ := n2_; clear HB; have HB := n0_; have BK318 := n1_; have GW318 := n2_; have GE318 := n3_; have GI318 := GeI.mk GE318.out; clear n0_ n1_ n2_ n3_; clear hb hbox hg; obtain ⟨y7_0, y7_1, y7_2, y7_3, y7_4, y7_5, y7_6, y7_7, z7_0, z7_1, z7_2, z7_3, z7_4, z7_5, z7_6, z7_7⟩ := cz8_ BK318.out) | ((with_reducible refine gate_callee (f := 94) rfl ?_); refine gL_ (some 6) Try.func94 #[.agg #[.int .i64 a0_0, .int .i64 a0_1, .int .i64 a0_2, .int .i64 a0_3, .int .i64 a0_4, .int .i64 a0_5, .int .i64 a0_6, .int .i64 a0_7]] ?_; (with_reducible refine (spec_InsOk.calls k a0_0 a0_1 a0_2 a0_3 a0_4 a0_5 a0_6 a0_7 true _ A2.out).mono ?_); rintro e w8 ⟨rfl, hb⟩; refine ⟨_, rfl, ?_⟩; replace BK318 := A_ (blk_below (bk_ BK318.out) hb); replace HB := A_ (below_step (bw_ HB.out) hb); clear hb; obtain ⟨y9_0, y9_1, y9_2, y9_3, y9_4, y9_5, y9_6, y9_7, z9_0, z9_1, z9_2, z9_3, z9_4, z9_5, z9_6, z9_7⟩ := cz8_ BK318.out) | ((with_reducible refine gate_callee (f := 95) rfl ?_); refine gL_ (some 11) Try.func95 #[.int .i64 a0_0] ?_; (with_reducible refine (spec_l4Base.calls a0_0 t323 _ A4.out).mono ?_); rintro e w10 ⟨rfl, hb⟩; refine ⟨_, rfl, ?_⟩; replace BK318 := A_ (blk_below (bk_ BK318.out) hb); replace HB := A_ (below_step (bw_ HB.out) hb); clear hb))
  (try simp only [Act.put, List.setIfInBounds_toArray, List.set_cons_zero, List.set_cons_succ])
  go_cut [3] (fun v3 wc => ∃ (kq : Nat) (x3_4 : Int), v3 = .int .i64 x3_4 ∧ Aside0 (spec_Encode.j1 kq x3_4 a0_0 a0_1 a0_2 a0_3 a0_4 a0_5 a0_6 a0_7 = some r) ∧ Aside0 (kq ≤ k) ∧ Aside0 (wc.heap[gb318]? = some (.cells #[.int .i64 a0_0, .int .i64 a0_1, .int .i64 a0_2, .int .i64 a0_3, .int .i64 a0_4, .int .i64 a0_5, .int .i64 a0_6, .int .i64 a0_7] 98 (0, 0))) ∧ Aside0 (Below w.heap.size w wc))
  case first =>
   have H := HC5.out
   clear HC5
   by_cases c11 : a0_0 ≤ 6
   ·rw [if_pos c11] at H
    have c11b0 := decide_eq_true c11
    clear c11
    (first | rw [c11b0] | (simp only [i64_w, i32_w]; rw [c11b0]) | skip)
    replace H := Option.bind_eq_some_iff.mp H
    obtain ⟨t324, A120, H⟩ := H
    try dsimp only at H
    have A12 := A_ A120
    clear A120
    replace H := Option.bind_eq_some_iff.mp H
    obtain ⟨t325, A130, H⟩ := H
    try dsimp only at H
    have A13 := A_ A130
    clear A130
    have H' := A_ H
    clear H
    obtain ⟨y14_0, y14_1, y14_2, y14_3, y14_4, y14_5, y14_6, y14_7, z14_0, z14_1, z14_2, z14_3, z14_4, z14_5, z14_6, z14_7⟩ := cz8_ BK318.out
    try go_wp2
    replace BK318 := A_ (blk_drew BK318.out)
    replace HB := A_ (below_drew1 HB.out)
    refine start_ (n := 11) (S := fun w' => w'.cell? ⟨gb318, 0, none⟩ = some (.int .i64 a0_0) ∧ w'.cell? ⟨gb318, 1, none⟩ = some (.int .i64 a0_1) ∧ w'.cell? ⟨gb318, 2, none⟩ = some (.int .i64 a0_2) ∧ w'.cell? ⟨gb318, 3, none⟩ = some (.int .i64 a0_3) ∧ w'.cell? ⟨gb318, 4, none⟩ = some (.int .i64 a0_4) ∧ w'.cell? ⟨gb318, 5, none⟩ = some (.int .i64 a0_5) ∧ w'.cell? ⟨gb318, 6, none⟩ = some (.int .i64 a0_6) ∧ w'.cell? ⟨gb318, 7, none⟩ = some (.int .i64 a0_7)) (ds := []) #[false, false, false, false, false, false, false, false, false, false, false] (by kernel_rfl) rfl rfl (c8_ BK318) (fun hHeld => ?_); refine with_tabW spec_Encode.tab5 spec_Encode.bits5 (fun HT_ HW_ => ?_)
    generalize w10.drew = w15 at BK318 HB hHeld ⊢
    refine pu_ 0 (some 16) (bm_ 11 1) (any_of HT_.out (by kernel_rfl)) ?_
    refine pu_ 1 (some 17) (bm_ 11 3) (any_of HT_.out (by kernel_rfl)) ?_
    refine pu_ 6 (some 22) (bm_ 11 67) (any_of HT_.out (by kernel_rfl)) ?_
    refine take_ (i := 2) (N := some 18) (v := ?_) (a' := ?_) (bm_ 11 71) rfl rfl (take_ofW HT_.out HW_.out (by kernel_rfl)) (fun _ _ _ h => h) (Or.inl ⟨by rfl, ?_⟩) hHeld ?_ ?_
    rotate_left
    ·rintro w' ⟨s0, s1, s2, s3, s4, s5, s6, s7⟩
     go_simp
     with_reducible rfl
    rotate_left
    ·simp only [Act.put, List.setIfInBounds_toArray, List.set_cons_zero, List.set_cons_succ, i64_w, i32_w]
     rfl
    refine take_ (i := 7) (N := some 23) (v := ?_) (a' := ?_) (bm_ 11 199) rfl rfl (take_ofW HT_.out HW_.out (by kernel_rfl)) (fun _ _ _ h => h) (Or.inl ⟨by rfl, ?_⟩) hHeld ?_ ?_
    rotate_left
    ·rintro w' ⟨s0, s1, s2, s3, s4, s5, s6, s7⟩
     go_simp
     with_reducible rfl
    rotate_left
    ·simp only [Act.put, List.setIfInBounds_toArray, List.set_cons_zero, List.set_cons_succ, i64_w, i32_w]
     rfl
    refine one_ (i := 3) (N := some 19) (bm_ 11 207) rfl rfl (one_of HT_.out (by kernel_rfl)) (by decide) (fun K hK => ?_)
    refine goes_ Try.func96 (by kernel_rfl) rfl #[.agg #[.int .i64 a0_1, .int .i64 a0_2, .int .i64 a0_3]] (by rfl) rfl rfl d9_ ?_
    with_reducible refine (spec_l4Six.calls a0_1 a0_2 a0_3 t324 _ A12.out).mono ?_
    rintro e w16 ⟨rfl, hb⟩
    refine ⟨_, rfl, ?_⟩
    replace BK318 := A_ (blk_below (bk_ BK318.out) hb)
    replace HB := A_ (below_step (bw_ HB.out) hb)
    (try clear hb)
    (try clear hb2)
    (try clear hk)
    (try clear hi)
    refine hK.out _ _ (c8_ BK318) (fun hHeld => ?_)
    clear hK K
    refine norm_ (a' := ?_) ?_ ?_
    rotate_left
    ·show Act.put _ (some 19) _ = _
     simp only [Act.put, List.setIfInBounds_toArray, List.set_cons_zero, List.set_cons_succ, i64_w, i32_w]
     rfl
    refine pu_ 4 (some 20) (bm_ 11 223) (any_of HT_.out (by kernel_rfl)) ?_
    refine pu_ 5 (some 21) (bm_ 11 255) (any_of HT_.out (by kernel_rfl)) ?_
    refine one_ (i := 8) (N := some 24) (bm_ 11 511) rfl rfl (one_of HT_.out (by kernel_rfl)) (by decide) (fun K hK => ?_)
    refine goes_ Try.func96 (by kernel_rfl) rfl #[.agg #[.int .i64 a0_4, .int .i64 a0_5, .int .i64 a0_6]] (by rfl) rfl rfl d9_ ?_
    with_reducible refine (spec_l4Six.calls a0_4 a0_5 a0_6 t325 _ A13.out).mono ?_
    rintro e w17 ⟨rfl, hb⟩
    refine ⟨_, rfl, ?_⟩
    replace BK318 := A_ (blk_below (bk_ BK318.out) hb)
    replace HB := A_ (below_step (bw_ HB.out) hb)
    (try clear hb)
    (try clear hb2)
    (try clear hk)
    (try clear hi)
    refine hK.out _ _ (c8_ BK318) (fun hHeld => ?_)
    clear hK K
    refine norm_ (a' := ?_) ?_ ?_
    rotate_left
    ·show Act.put _ (some 24) _ = _
     simp only [Act.put, List.setIfInBounds_toArray, List.set_cons_zero, List.set_cons_succ, i64_w, i32_w]
     rfl
    refine pu_ 9 (some 25) (bm_ 11 1023) (any_of HT_.out (by kernel_rfl)) ?_
    refine pu_ 10 (some 3) (bm_ 11 2047) (any_of HT_.out (by kernel_rfl)) ?_
    refine done_ (done_of HT_.out (by kernel_rfl)) ?_
    try go_wp2
    go_meet
    case rel => exact ⟨_, (wrap64 ((wrap64 (t323 + (wrap64 (t324 * 64)))) + t325)), d6_, H', ⟨by first | omega | exact Nat.le_refl _⟩, ⟨by refine bk_ ?_; exact BK318.out⟩, ⟨bw_ HB.out⟩⟩
   ·rw [if_neg c11] at H
    have c11b0 := decide_eq_false c11
    clear c11
    (first | rw [c11b0] | (simp only [i64_w, i32_w]; rw [c11b0]) | skip)
    by_cases c18 : a0_0 ≤ 14
    ·rw [if_pos c18] at H
     have c18b0 := decide_eq_true c18
     clear c18
     replace H := Option.bind_eq_some_iff.mp H
     obtain ⟨t326, A190, H⟩ := H
     try dsimp only at H
     have A19 := A_ A190
     clear A190
     have H' := A_ H
     clear H
     obtain ⟨y20_0, y20_1, y20_2, y20_3, y20_4, y20_5, y20_6, y20_7, z20_0, z20_1, z20_2, z20_3, z20_4, z20_5, z20_6, z20_7⟩ := cz8_ BK318.out
     go_wp2_with (first | ((with_reducible refine gate_callee (f := 96) rfl ?_); refine gL_ (some 33) Try.func96 #[.agg #[.int .i64 a0_4, .int .i64 a0_5, .int .i64 a0_6]] ?_; (with_reducible refine (spec_l4Six.calls a0_4 a0_5 a0_6 t326 _ A19.out).mono ?_); rintro e w21 ⟨rfl, hb⟩; refine ⟨_, rfl, ?_⟩; replace BK318 := A_ (blk_below (bk_ BK318.out) hb); replace HB := A_ (below_step (bw_ HB.out) hb); clear hb))
     go_meet
     case rel => exact ⟨_, (wrap64 (t323 + t326)), d6_, H', ⟨by first | omega | exact Nat.le_refl _⟩, ⟨by refine bk_ ?_; exact BK318.out⟩, ⟨bw_ HB.out⟩⟩
    ·rw [if_neg c18] at H
     have c18b0 := decide_eq_false c18
     clear c18
     by_cases c22 : a0_0 = 15
     ·rw [if_pos c22] at H
      have c22b0 := beq_iff_eq.mpr c22
      have c22b1 := bne_eq_false_iff_eq.mpr c22
      clear c22
      replace H := Option.bind_eq_some_iff.mp H
      obtain ⟨t327, A230, H⟩ := H
      try dsimp only at H
      have A23 := A_ A230
      clear A230
      have H' := A_ H
      clear H
      obtain ⟨y24_0, y24_1, y24_2, y24_3, y24_4, y24_5, y24_6, y24_7, z24_0, z24_1, z24_2, z24_3, z24_4, z24_5, z24_6, z24_7⟩ := cz8_ BK318.out
      try go_wp2
      replace BK318 := A_ (blk_drew BK318.out)
      replace HB := A_ (below_drew1 HB.out)
      refine start_ (n := 10) (S := fun w' => w'.cell? ⟨gb318, 0, none⟩ = some (.int .i64 a0_0) ∧ w'.cell? ⟨gb318, 1, none⟩ = some (.int .i64 a0_1) ∧ w'.cell? ⟨gb318, 2, none⟩ = some (.int .i64 a0_2) ∧ w'.cell? ⟨gb318, 3, none⟩ = some (.int .i64 a0_3) ∧ w'.cell? ⟨gb318, 4, none⟩ = some (.int .i64 a0_4) ∧ w'.cell? ⟨gb318, 5, none⟩ = some (.int .i64 a0_5) ∧ w'.cell? ⟨gb318, 6, none⟩ = some (.int .i64 a0_6) ∧ w'.cell? ⟨gb318, 7, none⟩ = some (.int .i64 a0_7)) (ds := []) #[false, false, false, false, false, false, false, false, false, false] (by kernel_rfl) rfl rfl (c8_ BK318) (fun hHeld => ?_); refine with_tabW spec_Encode.tab9 spec_Encode.bits9 (fun HT_ HW_ => ?_)
      generalize w10.drew = w25 at BK318 HB hHeld ⊢
      refine pu_ 0 (some 39) (bm_ 10 1) (any_of HT_.out (by kernel_rfl)) ?_
      refine pu_ 1 (some 40) (bm_ 10 3) (any_of HT_.out (by kernel_rfl)) ?_
      refine pu_ 5 (some 44) (bm_ 10 35) (any_of HT_.out (by kernel_rfl)) ?_
      refine take_ (i := 2) (N := some 41) (v := ?_) (a' := ?_) (bm_ 10 39) rfl rfl (take_ofW HT_.out HW_.out (by kernel_rfl)) (fun _ _ _ h => h) (Or.inl ⟨by rfl, ?_⟩) hHeld ?_ ?_
      rotate_left
      ·rintro w' ⟨s0, s1, s2, s3, s4, s5, s6, s7⟩
       go_simp
       with_reducible rfl
      rotate_left
      ·simp only [Act.put, List.setIfInBounds_toArray, List.set_cons_zero, List.set_cons_succ, i64_w, i32_w]
       rfl
      refine pu_ 3 (some 42) (bm_ 10 47) (any_of HT_.out (by kernel_rfl)) ?_
      refine pu_ 4 (some 43) (bm_ 10 63) (any_of HT_.out (by kernel_rfl)) ?_
      refine take_ (i := 6) (N := some 45) (v := ?_) (a' := ?_) (bm_ 10 127) rfl rfl (take_ofW HT_.out HW_.out (by kernel_rfl)) (fun _ _ _ h => h) (Or.inl ⟨by rfl, ?_⟩) hHeld ?_ ?_
      rotate_left
      ·rintro w' ⟨s0, s1, s2, s3, s4, s5, s6, s7⟩
       go_simp
       with_reducible rfl
      rotate_left
      ·simp only [Act.put, List.setIfInBounds_toArray, List.set_cons_zero, List.set_cons_succ, i64_w, i32_w]
       rfl
      refine one_ (i := 7) (N := some 46) (bm_ 10 255) rfl rfl (one_of HT_.out (by kernel_rfl)) (by decide) (fun K hK => ?_)
      refine goes_ Try.func96 (by kernel_rfl) rfl #[.agg #[.int .i64 a0_4, .int .i64 a0_5, .int .i64 a0_6]] (by rfl) rfl rfl d9_ ?_
      with_reducible refine (spec_l4Six.calls a0_4 a0_5 a0_6 t327 _ A23.out).mono ?_
      rintro e w26 ⟨rfl, hb⟩
      refine ⟨_, rfl, ?_⟩
      replace BK318 := A_ (blk_below (bk_ BK318.out) hb)
      replace HB := A_ (below_step (bw_ HB.out) hb)
      (try clear hb)
      (try clear hb2)
      (try clear hk)
      (try clear hi)
      refine hK.out _ _ (c8_ BK318) (fun hHeld => ?_)
      clear hK K
      refine norm_ (a' := ?_) ?_ ?_
      rotate_left
      ·show Act.put _ (some 46) _ = _
       simp only [Act.put, List.setIfInBounds_toArray, List.set_cons_zero, List.set_cons_succ, i64_w, i32_w]
       rfl
      refine pu_ 8 (some 47) (bm_ 10 511) (any_of HT_.out (by kernel_rfl)) ?_
      refine pu_ 9 (some 3) (bm_ 10 1023) (any_of HT_.out (by kernel_rfl)) ?_
      refine done_ (done_of HT_.out (by kernel_rfl)) ?_
      try go_wp2
      go_meet
      case rel => exact ⟨_, (wrap64 ((wrap64 (t323 + (wrap64 (a0_7 * 64)))) + t327)), d6_, H', ⟨by first | omega | exact Nat.le_refl _⟩, ⟨by refine bk_ ?_; exact BK318.out⟩, ⟨bw_ HB.out⟩⟩
     ·rw [if_neg c22] at H
      have c22b0 := beq_eq_false_iff_ne.mpr c22
      have c22b1 := bne_iff_ne.mpr c22
      have HC27 := A_ H
      clear H
      obtain ⟨y28_0, y28_1, y28_2, y28_3, y28_4, y28_5, y28_6, y28_7, z28_0, z28_1, z28_2, z28_3, z28_4, z28_5, z28_6, z28_7⟩ := cz8_ BK318.out
      go_upto_region 10 with (fail)
      go_cut [48] (fun v48 wc => ∃ (kq : Nat) (x48_26 : Bool), v48 = .bool x48_26 ∧ Aside0 (spec_Encode.j0 kq t323 x48_26 a0_0 a0_1 a0_2 a0_3 a0_4 a0_5 a0_6 a0_7 = some r) ∧ Aside0 (kq ≤ k) ∧ Aside0 (wc.heap[gb318]? = some (.cells #[.int .i64 a0_0, .int .i64 a0_1, .int .i64 a0_2, .int .i64 a0_3, .int .i64 a0_4, .int .i64 a0_5, .int .i64 a0_6, .int .i64 a0_7] 98 (0, 0))) ∧ Aside0 (Below w.heap.size w wc))
      case first =>
       have H := HC27.out
       clear HC27
       by_cases c29 : a0_0 = 16
       ·rw [if_pos c29] at H
        have c29b0 := beq_iff_eq.mpr c29
        have c29b1 := bne_eq_false_iff_eq.mpr c29
        clear c29
        (first | rw [c29b0] | (simp only [i64_w, i32_w]; rw [c29b0]) | skip)
        have H' := A_ H
        clear H
        obtain ⟨y30_0, y30_1, y30_2, y30_3, y30_4, y30_5, y30_6, y30_7, z30_0, z30_1, z30_2, z30_3, z30_4, z30_5, z30_6, z30_7⟩ := cz8_ BK318.out
        go_wp2
        go_meet
        case rel => exact ⟨_, (true), d6_, H', ⟨by first | omega | exact Nat.le_refl _⟩, ⟨by refine bk_ ?_; exact BK318.out⟩, ⟨bw_ HB.out⟩⟩
       ·rw [if_neg c29] at H
        have c29b0 := beq_eq_false_iff_ne.mpr c29
        have c29b1 := bne_iff_ne.mpr c29
        (first | rw [c29b0] | (simp only [i64_w, i32_w]; rw [c29b0]) | skip)
        have H' := A_ H
        clear H
        obtain ⟨y31_0, y31_1, y31_2, y31_3, y31_4, y31_5, y31_6, y31_7, z31_0, z31_1, z31_2, z31_3, z31_4, z31_5, z31_6, z31_7⟩ := cz8_ BK318.out
        go_wp2
        go_meet
        case rel => exact ⟨_, ((a0_0 == 23)), d6_, H', ⟨by first | omega | exact Nat.le_refl _⟩, ⟨by refine bk_ ?_; exact BK318.out⟩, ⟨bw_ HB.out⟩⟩
      case rest =>
       clear HC27
       try clear c1
       try clear c2
       try clear p2
       try clear c3
       try clear p6
       try clear c8
       try clear c9
       try clear c11
       try clear c11b0
       try clear c18
       try clear c18b0
       try clear c22
       try clear c22b0
       try clear c22b1
       try clear c29
       try clear c29b0
       try clear c29b1
       try clear y14_0 y14_1 y14_2 y14_3 y14_4 y14_5 y14_6 y14_7 z14_0 z14_1 z14_2 z14_3 z14_4 z14_5 z14_6 z14_7
       try clear y20_0 y20_1 y20_2 y20_3 y20_4 y20_5 y20_6 y20_7 z20_0 z20_1 z20_2 z20_3 z20_4 z20_5 z20_6 z20_7
       try clear y24_0 y24_1 y24_2 y24_3 y24_4 y24_5 y24_6 y24_7 z24_0 z24_1 z24_2 z24_3 z24_4 z24_5 z24_6 z24_7
       try clear y28_0 y28_1 y28_2 y28_3 y28_4 y28_5 y28_6 y28_7 z28_0 z28_1 z28_2 z28_3 z28_4 z28_5 z28_6 z28_7
       try clear y30_0 y30_1 y30_2 y30_3 y30_4 y30_5 y30_6 y30_7 z30_0 z30_1 z30_2 z30_3 z30_4 z30_5 z30_6 z30_7
       try clear y31_0 y31_1 y31_2 y31_3 y31_4 y31_5 y31_6 y31_7 z31_0 z31_1 z31_2 z31_3 z31_4 z31_5 z31_6 z31_7
       try clear y7_0 y7_1 y7_2 y7_3 y7_4 y7_5 y7_6 y7_7 z7_0 z7_1 z7_2 z7_3 z7_4 z7_5 z7_6 z7_7
       try clear y9_0 y9_1 y9_2 y9_3 y9_4 y9_5 y9_6 y9_7 z9_0 z9_1 z9_2 z9_3 z9_4 z9_5 z9_6 z9_7
       obtain ⟨kq, x48_26, rfl, HA, HJ26, BK318, HB⟩ := hcut
       cases kq with
       | zero => exact absurd HA.out (by simp [spec_Encode.j0])
       | succ kj26 =>
        have H := HA.out
        clear HA
        simp only [spec_Encode.j0] at H
        by_cases c32 : x48_26 = true
        ·subst c32
         rw [if_pos rfl] at H
         have H' := A_ H
         clear H
         obtain ⟨y33_0, y33_1, y33_2, y33_3, y33_4, y33_5, y33_6, y33_7, z33_0, z33_1, z33_2, z33_3, z33_4, z33_5, z33_6, z33_7⟩ := cz8_ BK318.out
         go_wp2
         go_meet
         case rel => exact ⟨_, (wrap64 (t323 + a0_7)), d6_, H', ⟨by have := HJ26.out; first | omega | exact Nat.le_refl _⟩, ⟨by refine bk_ ?_; exact BK318.out⟩, ⟨bw_ HB.out⟩⟩
        ·replace c32 := Bool.eq_false_iff.mpr c32
         subst c32
         rw [if_neg (show ¬ (false = true) by decide)] at H
         by_cases c34 : a0_0 ≤ 21
         ·rw [if_pos c34] at H
          have c34b0 := decide_eq_true c34
          clear c34
          have H' := A_ H
          clear H
          obtain ⟨y35_0, y35_1, y35_2, y35_3, y35_4, y35_5, y35_6, y35_7, z35_0, z35_1, z35_2, z35_3, z35_4, z35_5, z35_6, z35_7⟩ := cz8_ BK318.out
          go_wp2
          go_meet
          case rel => exact ⟨_, (wrap64 (t323 + (Go.bits .and .i64 a0_7 255))), d6_, H', ⟨by have := HJ26.out; first | omega | exact Nat.le_refl _⟩, ⟨by refine bk_ ?_; exact BK318.out⟩, ⟨bw_ HB.out⟩⟩
         ·rw [if_neg c34] at H
          have c34b0 := decide_eq_false c34
          clear c34
          have H' := A_ H
          clear H
          obtain ⟨y36_0, y36_1, y36_2, y36_3, y36_4, y36_5, y36_6, y36_7, z36_0, z36_1, z36_2, z36_3, z36_4, z36_5, z36_6, z36_7⟩ := cz8_ BK318.out
          go_wp2
          go_meet
          case rel => exact ⟨_, (t323), d6_, H', ⟨by have := HJ26.out; first | omega | exact Nat.le_refl _⟩, ⟨by refine bk_ ?_; exact BK318.out⟩, ⟨bw_ HB.out⟩⟩
  case rest =>
   clear HC5
   try clear c1
   try clear c2
   try clear p2
   try clear c3
   try clear p6
   try clear c8
   try clear c9
   try clear c11
   try clear c11b0
   try clear c18
   try clear c18b0
   try clear c22
   try clear c22b0
   try clear c22b1
   try clear c29
   try clear c29b0
   try clear c29b1
   try clear c32
   try clear c34
   try clear c34b0
   try clear y14_0 y14_1 y14_2 y14_3 y14_4 y14_5 y14_6 y14_7 z14_0 z14_1 z14_2 z14_3 z14_4 z14_5 z14_6 z14_7
   try clear y20_0 y20_1 y20_2 y20_3 y20_4 y20_5 y20_6 y20_7 z20_0 z20_1 z20_2 z20_3 z20_4 z20_5 z20_6 z20_7
   try clear y24_0 y24_1 y24_2 y24_3 y24_4 y24_5 y24_6 y24_7 z24_0 z24_1 z24_2 z24_3 z24_4 z24_5 z24_6 z24_7
   try clear y28_0 y28_1 y28_2 y28_3 y28_4 y28_5 y28_6 y28_7 z28_0 z28_1 z28_2 z28_3 z28_4 z28_5 z28_6 z28_7
   try clear y30_0 y30_1 y30_2 y30_3 y30_4 y30_5 y30_6 y30_7 z30_0 z30_1 z30_2 z30_3 z30_4 z30_5 z30_6 z30_7
   try clear y31_0 y31_1 y31_2 y31_3 y31_4 y31_5 y31_6 y31_7 z31_0 z31_1 z31_2 z31_3 z31_4 z31_5 z31_6 z31_7
   try clear y33_0 y33_1 y33_2 y33_3 y33_4 y33_5 y33_6 y33_7 z33_0 z33_1 z33_2 z33_3 z33_4 z33_5 z33_6 z33_7
   try clear y35_0 y35_1 y35_2 y35_3 y35_4 y35_5 y35_6 y35_7 z35_0 z35_1 z35_2 z35_3 z35_4 z35_5 z35_6 z35_7
   try clear y36_0 y36_1 y36_2 y36_3 y36_4 y36_5 y36_6 y36_7 z36_0 z36_1 z36_2 z36_3 z36_4 z36_5 z36_6 z36_7
   try clear y7_0 y7_1 y7_2 y7_3 y7_4 y7_5 y7_6 y7_7 z7_0 z7_1 z7_2 z7_3 z7_4 z7_5 z7_6 z7_7
   try clear y9_0 y9_1 y9_2 y9_3 y9_4 y9_5 y9_6 y9_7 z9_0 z9_1 z9_2 z9_3 z9_4 z9_5 z9_6 z9_7
   try clear p2
   try clear p6
   obtain ⟨kq, x3_4, rfl, HA, HJ4, BK318, HB⟩ := hcut
   cases kq with
   | zero => exact absurd HA.out (by simp [spec_Encode.j1])
   | succ kj4 =>
    have H := HA.out
    clear HA
    simp only [spec_Encode.j1] at H
    obtain ⟨y328, hy328⟩ : ∃ y_ : List Int, y_ = (([x3_4] : List Int)) := ⟨_, rfl⟩
    replace H : (if a0_0 ≤ 6 then ((spec_HasX.f a0_1 a0_2 a0_3).bind fun t331 => (spec_Encode.j2 kj4 y328 t331 a0_0 a0_1 a0_2 a0_3 a0_4 a0_5 a0_6 a0_7)) else (spec_Encode.j2 kj4 y328 false a0_0 a0_1 a0_2 a0_3 a0_4 a0_5 a0_6 a0_7)) = some r := by first | (rw [hy328]; with_reducible exact H) | (have H2_ := (Option.bind_some _ _).symm.trans H; rw [hy328]; with_reducible exact H2_) | (have H2_ := (Option.bind_some _ _).symm.trans H; with_reducible exact H2_) | with_reducible exact H | (rw [hy328]; exact H) | exact H
    have Ny328 := A_ hy328
    clear hy328
    have HC37 := A_ H
    clear H
    go_upto_region 15 with (first | ((with_reducible refine gate_dst (N := 71) rfl ?_); refine Kd.R_lit (Kd.int .i64) _ 3 ?hg (N := 71) ?hd (xs := ([x3_4] : List Int)) (inner := [.int .i64 x3_4]) (ok := fun _ => True) (okp := fun _ => True) ?hr ?hp (fun _ hk => hk) trivial (Below.refl _ _) (Nat.le_refl _) (by simp) ?_; (case hd => rfl); (case hg => rfl); (case hr => first | (go_simp; done) | (go_simp; rfl)); (case hp => exact (Reps.one (show Kd.M (Kd.int .i64) _ _ _ x3_4 [.int .i64 x3_4] from rfl) (Reps.none _ _))); intro v329 w38 ho39 hb hg_ hnew_; clear hg_ hnew_; (first | rw [← Ny328.out] at ho39 | (simp only [Int.reduceToNat] at ho39; rw [← Ny328.out] at ho39)); have HO330 := A_ (Kd.R_lower ho39 (below_size (bw_ HB.out))); replace BK318 := A_ (blk_below (bk_ BK318.out) hb); replace HB := A_ (below_step (bw_ HB.out) hb); clear hb ho39))
    (try simp only [Act.put, List.setIfInBounds_toArray, List.set_cons_zero, List.set_cons_succ])
    go_cut [79] (fun v79 wc => ∃ (kq : Nat) (x79_36 : Bool), v79 = .bool x79_36 ∧ Aside0 (spec_Encode.j2 kq y328 x79_36 a0_0 a0_1 a0_2 a0_3 a0_4 a0_5 a0_6 a0_7 = some r) ∧ Aside0 (kq ≤ kj4) ∧ Aside0 (Kd.R (Kd.int .i64) 3 wc w.heap.size (fun _ => True) v329 y328) ∧ Aside0 (wc.heap[gb318]? = some (.cells #[.int .i64 a0_0, .int .i64 a0_1, .int .i64 a0_2, .int .i64 a0_3, .int .i64 a0_4, .int .i64 a0_5, .int .i64 a0_6, .int .i64 a0_7] 98 (0, 0))) ∧ Aside0 (Below w.heap.size w wc))
    case first =>
     have H := HC37.out
     clear HC37
     by_cases c40 : a0_0 ≤ 6
     ·rw [if_pos c40] at H
      have c40b0 := decide_eq_true c40
      clear c40
      (first | rw [c40b0] | (simp only [i64_w, i32_w]; rw [c40b0]) | skip)
      replace H := Option.bind_eq_some_iff.mp H
      obtain ⟨t331, A410, H⟩ := H
      try dsimp only at H
      have A41 := A_ A410
      clear A410
      have H' := A_ H
      clear H
      obtain ⟨y42_0, y42_1, y42_2, y42_3, y42_4, y42_5, y42_6, y42_7, z42_0, z42_1, z42_2, z42_3, z42_4, z42_5, z42_6, z42_7⟩ := cz8_ BK318.out
      go_wp2_with (first | (go_at_call 89; (with_reducible refine (spec_HasX.calls a0_1 a0_2 a0_3 t331 _ A41.out).mono ?_); rintro e w43 ⟨rfl, hb⟩; replace HO330 := A_ (Kd.R_below (kr_ HO330.out) hb); replace BK318 := A_ (blk_below (bk_ BK318.out) hb); replace HB := A_ (below_step (bw_ HB.out) hb); clear hb))
      go_meet
      case rel => exact ⟨_, (t331), d6_, H', ⟨by have := HJ4.out; first | omega | exact Nat.le_refl _⟩, ⟨kr_ HO330.out⟩, ⟨by refine bk_ ?_; exact BK318.out⟩, ⟨bw_ HB.out⟩⟩
     ·rw [if_neg c40] at H
      have c40b0 := decide_eq_false c40
      clear c40
      (first | rw [c40b0] | (simp only [i64_w, i32_w]; rw [c40b0]) | skip)
      have H' := A_ H
      clear H
      obtain ⟨y44_0, y44_1, y44_2, y44_3, y44_4, y44_5, y44_6, y44_7, z44_0, z44_1, z44_2, z44_3, z44_4, z44_5, z44_6, z44_7⟩ := cz8_ BK318.out
      go_wp2
      go_meet
      case rel => exact ⟨_, (false), d6_, H', ⟨by have := HJ4.out; first | omega | exact Nat.le_refl _⟩, ⟨kr_ HO330.out⟩, ⟨by refine bk_ ?_; exact BK318.out⟩, ⟨bw_ HB.out⟩⟩
    case rest =>
     clear HC37
     try clear c1
     try clear c2
     try clear p2
     try clear c3
     try clear c4
     try clear p6
     try clear c8
     try clear c9
     try clear c11
     try clear c11b0
     try clear c18
     try clear c18b0
     try clear c22
     try clear c22b0
     try clear c22b1
     try clear c29
     try clear c29b0
     try clear c29b1
     try clear c32
     try clear c34
     try clear c34b0
     try clear c40
     try clear c40b0
     try clear y14_0 y14_1 y14_2 y14_3 y14_4 y14_5 y14_6 y14_7 z14_0 z14_1 z14_2 z14_3 z14_4 z14_5 z14_6 z14_7
     try clear y20_0 y20_1 y20_2 y20_3 y20_4 y20_5 y20_6 y20_7 z20_0 z20_1 z20_2 z20_3 z20_4 z20_5 z20_6 z20_7
     try clear y24_0 y24_1 y24_2 y24_3 y24_4 y24_5 y24_6 y24_7 z24_0 z24_1 z24_2 z24_3 z24_4 z24_5 z24_6 z24_7
     try clear y28_0 y28_1 y28_2 y28_3 y28_4 y28_5 y28_6 y28_7 z28_0 z28_1 z28_2 z28_3 z28_4 z28_5 z28_6 z28_7
     try clear y30_0 y30_1 y30_2 y30_3 y30_4 y30_5 y30_6 y30_7 z30_0 z30_1 z30_2 z30_3 z30_4 z30_5 z30_6 z30_7
     try clear y31_0 y31_1 y31_2 y31_3 y31_4 y31_5 y31_6 y31_7 z31_0 z31_1 z31_2 z31_3 z31_4 z31_5 z31_6 z31_7
     try clear y33_0 y33_1 y33_2 y33_3 y33_4 y33_5 y33_6 y33_7 z33_0 z33_1 z33_2 z33_3 z33_4 z33_5 z33_6 z33_7
     try clear y35_0 y35_1 y35_2 y35_3 y35_4 y35_5 y35_6 y35_7 z35_0 z35_1 z35_2 z35_3 z35_4 z35_5 z35_6 z35_7
     try clear y36_0 y36_1 y36_2 y36_3 y36_4 y36_5 y36_6 y36_7 z36_0 z36_1 z36_2 z36_3 z36_4 z36_5 z36_6 z36_7
     try clear y42_0 y42_1 y42_2 y42_3 y42_4 y42_5 y42_6 y42_7 z42_0 z42_1 z42_2 z42_3 z42_4 z42_5 z42_6 z42_7
     try clear y44_0 y44_1 y44_2 y44_3 y44_4 y44_5 y44_6 y44_7 z44_0 z44_1 z44_2 z44_3 z44_4 z44_5 z44_6 z44_7
     try clear y7_0 y7_1 y7_2 y7_3 y7_4 y7_5 y7_6 y7_7 z7_0 z7_1 z7_2 z7_3 z7_4 z7_5 z7_6 z7_7
     try clear y9_0 y9_1 y9_2 y9_3 y9_4 y9_5 y9_6 y9_7 z9_0 z9_1 z9_2 z9_3 z9_4 z9_5 z9_6 z9_7
     try clear p2
     try clear p6
     obtain ⟨kq, x79_36, rfl, HA, HJ36, HO_4, BK318, HB⟩ := hcut
     cases kq with
     | zero => exact absurd HA.out (by simp [spec_Encode.j2])
     | succ kj36 =>
      have H := HA.out
      clear HA
      simp only [spec_Encode.j2] at H
      by_cases c45 : x79_36 = true
      ·subst c45
       rw [if_pos rfl] at H
       by_cases c46 : y328.length < 17592186044416
       ·rw [if_pos c46] at H
        have LMc46 := A_ c46
        clear c46
        obtain ⟨y332, hy332⟩ : ∃ y_ : List Int, y_ = (y328 ++ [a0_3]) := ⟨_, rfl⟩
        replace H : (if a0_0 ≤ 15 then ((spec_HasX.f a0_4 a0_5 a0_6).bind fun t335 => (if t335 = true then (if y332.length < 17592186044416 then (some (y332 ++ [a0_6])) else (none)) else (some y332))) else (some y332)) = some r := by first | (rw [hy332]; with_reducible exact H) | (have H2_ := (Option.bind_some _ _).symm.trans H; rw [hy332]; with_reducible exact H2_) | (have H2_ := (Option.bind_some _ _).symm.trans H; with_reducible exact H2_) | with_reducible exact H | (rw [hy332]; exact H) | exact H
        have Ny332 := A_ hy332
        clear hy332
        by_cases c47 : a0_0 ≤ 15
        ·rw [if_pos c47] at H
         have c47b0 := decide_eq_true c47
         clear c47
         replace H := Option.bind_eq_some_iff.mp H
         obtain ⟨t335, A480, H⟩ := H
         try dsimp only at H
         have A48 := A_ A480
         clear A480
         by_cases c49 : t335 = true
         ·subst c49
          rw [if_pos rfl] at H
          by_cases c50 : y332.length < 17592186044416
          ·rw [if_pos c50] at H
           have LMc50 := A_ c50
           clear c50
           obtain ⟨y336, hy336⟩ : ∃ y_ : List Int, y_ = (y332 ++ [a0_6]) := ⟨_, rfl⟩
           replace H : (some y336) = some r := by first | (rw [hy336]; with_reducible exact H) | (have H2_ := (Option.bind_some _ _).symm.trans H; rw [hy336]; with_reducible exact H2_) | (have H2_ := (Option.bind_some _ _).symm.trans H; with_reducible exact H2_) | with_reducible exact H | (rw [hy336]; exact H) | exact H
           have Ny336 := A_ hy336
           clear hy336
           obtain rfl := Option.some.inj H
           obtain ⟨y51_0, y51_1, y51_2, y51_3, y51_4, y51_5, y51_6, y51_7, z51_0, z51_1, z51_2, z51_3, z51_4, z51_5, z51_6, z51_7⟩ := cz8_ BK318.out
           go_wp2_with (first | ((with_reducible refine gate_builtin (b := .append) (xs := #[.tmp 80, .tmp 84]) rfl ?_); at_builtin; refine Kd.R_append (Kd.int .i64) (w0 := w) w.heap.size rfl (.tmp 80) (.tmp 84) 22 3 (.int .i64 0) 8 rfl Try.underlying22 info3 rfl (by decide) (by omega) v329 y328 a0_3 [.int .i64 a0_3] (fun _ => True) (fun _ => False) rfl rfl ?aP (fun _ hk => hk.elim) ?aF ?aO ?aB ?aS ?aL ?_; (case aP => exact rfl); (case aB => exact (bw_ HB.out)); (case aF => exact (fun _ _ => trivial)); (case aO => exact (kr_ HO_4.out)); (case aS => exact (below_size (bw_ HB.out))); (case aL => have := LMc46.out; omega); intro v333 w52 ho hb hg hat; rw [← Ny332.out] at ho; have n0_ := A_ (blk_grown (bk_ BK318.out) hg (Kd.R_ne HO_4.out BK318.out (by decide))); have n1_ := A_ (hb); have n2_ := A_ (ho); clear BK318; clear HB; clear HO_4; have BK318 := n0_; have HB := n1_; have HO334 := n2_; clear n0_ n1_ n2_; clear ho hb hg hat; obtain ⟨y53_0, y53_1, y53_2, y53_3, y53_4, y53_5, y53_6, y53_7, z53_0, z53_1, z53_2, z53_3, z53_4, z53_5, z53_6, z53_7⟩ := cz8_ BK318.out) | (go_at_call 89; (with_reducible refine (spec_HasX.calls a0_4 a0_5 a0_6 true _ A48.out).mono ?_); rintro e w54 ⟨rfl, hb⟩; replace HO334 := A_ (Kd.R_below (kr_ HO334.out) hb); replace BK318 := A_ (blk_below (bk_ BK318.out) hb); replace HB := A_ (below_step (bw_ HB.out) hb); clear hb; obtain ⟨y55_0, y55_1, y55_2, y55_3, y55_4, y55_5, y55_6, y55_7, z55_0, z55_1, z55_2, z55_3, z55_4, z55_5, z55_6, z55_7⟩ := cz8_ BK318.out) | ((with_reducible refine gate_builtin (b := .append) (xs := #[.tmp 94, .tmp 98]) rfl ?_); at_builtin; refine Kd.R_append (Kd.int .i64) (w0 := w) w.heap.size rfl (.tmp 94) (.tmp 98) 22 3 (.int .i64 0) 8 rfl Try.underlying22 info3 rfl (by decide) (by omega) v333 y332 a0_6 [.int .i64 a0_6] (fun _ => True) (fun _ => False) rfl rfl ?aP (fun _ hk => hk.elim) ?aF ?aO ?aB ?aS ?aL ?_; (case aP => exact rfl); (case aB => exact (bw_ HB.out)); (case aF => exact (fun _ _ => trivial)); (case aO => exact (kr_ HO334.out)); (case aS => exact (below_size (bw_ HB.out))); (case aL => have := LMc50.out; omega); intro v337 w56 ho hb hg hat; rw [← Ny336.out] at ho; have n0_ := A_ (blk_grown (bk_ BK318.out) hg (Kd.R_ne HO334.out BK318.out (by decide))); have n1_ := A_ (hb); have n2_ := A_ (ho); clear BK318; clear HB; clear HO334; have BK318 := n0_; have HB := n1_; have HO338 := n2_; clear n0_ n1_ n2_; clear ho hb hg hat))
           go_ret
           exact ⟨_, by first | rfl | (simp [errW_none, errW_some] <;> rfl) | (simp [*, errW_none, errW_some] <;> rfl), kr_ HO338.out, bw_ HB.out⟩
          ·rw [if_neg c50] at H
           exact absurd H (by simp)
         ·replace c49 := Bool.eq_false_iff.mpr c49
          subst c49
          rw [if_neg (show ¬ (false = true) by decide)] at H
          obtain rfl := Option.some.inj H
          obtain ⟨y57_0, y57_1, y57_2, y57_3, y57_4, y57_5, y57_6, y57_7, z57_0, z57_1, z57_2, z57_3, z57_4, z57_5, z57_6, z57_7⟩ := cz8_ BK318.out
          go_wp2_with (first | ((with_reducible refine gate_builtin (b := .append) (xs := #[.tmp 80, .tmp 84]) rfl ?_); at_builtin; refine Kd.R_append (Kd.int .i64) (w0 := w) w.heap.size rfl (.tmp 80) (.tmp 84) 22 3 (.int .i64 0) 8 rfl Try.underlying22 info3 rfl (by decide) (by omega) v329 y328 a0_3 [.int .i64 a0_3] (fun _ => True) (fun _ => False) rfl rfl ?aP (fun _ hk => hk.elim) ?aF ?aO ?aB ?aS ?aL ?_; (case aP => exact rfl); (case aB => exact (bw_ HB.out)); (case aF => exact (fun _ _ => trivial)); (case aO => exact (kr_ HO_4.out)); (case aS => exact (below_size (bw_ HB.out))); (case aL => have := LMc46.out; omega); intro v333 w58 ho hb hg hat; rw [← Ny332.out] at ho; have n0_ := A_ (blk_grown (bk_ BK318.out) hg (Kd.R_ne HO_4.out BK318.out (by decide))); have n1_ := A_ (hb); have n2_ := A_ (ho); clear BK318; clear HB; clear HO_4; have BK318 := n0_; have HB := n1_; have HO334 := n2_; clear n0_ n1_ n2_; clear ho hb hg hat; obtain ⟨y59_0, y59_1, y59_2, y59_3, y59_4, y59_5, y59_6, y59_7, z59_0, z59_1, z59_2, z59_3, z59_4, z59_5, z59_6, z59_7⟩ := cz8_ BK318.out) | (go_at_call 89; (with_reducible refine (spec_HasX.calls a0_4 a0_5 a0_6 false _ A48.out).mono ?_); rintro e w60 ⟨rfl, hb⟩; replace HO334 := A_ (Kd.R_below (kr_ HO334.out) hb); replace BK318 := A_ (blk_below (bk_ BK318.out) hb); replace HB := A_ (below_step (bw_ HB.out) hb); clear hb))
          go_ret
          exact ⟨_, by first | rfl | (simp [errW_none, errW_some] <;> rfl) | (simp [*, errW_none, errW_some] <;> rfl), kr_ HO334.out, bw_ HB.out⟩
        ·rw [if_neg c47] at H
         have c47b0 := decide_eq_false c47
         clear c47
         obtain rfl := Option.some.inj H
         obtain ⟨y61_0, y61_1, y61_2, y61_3, y61_4, y61_5, y61_6, y61_7, z61_0, z61_1, z61_2, z61_3, z61_4, z61_5, z61_6, z61_7⟩ := cz8_ BK318.out
         go_wp2_with (first | ((with_reducible refine gate_builtin (b := .append) (xs := #[.tmp 80, .tmp 84]) rfl ?_); at_builtin; refine Kd.R_append (Kd.int .i64) (w0 := w) w.heap.size rfl (.tmp 80) (.tmp 84) 22 3 (.int .i64 0) 8 rfl Try.underlying22 info3 rfl (by decide) (by omega) v329 y328 a0_3 [.int .i64 a0_3] (fun _ => True) (fun _ => False) rfl rfl ?aP (fun _ hk => hk.elim) ?aF ?aO ?aB ?aS ?aL ?_; (case aP => exact rfl); (case aB => exact (bw_ HB.out)); (case aF => exact (fun _ _ => trivial)); (case aO => exact (kr_ HO_4.out)); (case aS => exact (below_size (bw_ HB.out))); (case aL => have := LMc46.out; omega); intro v333 w62 ho hb hg hat; rw [← Ny332.out] at ho; have n0_ := A_ (blk_grown (bk_ BK318.out) hg (Kd.R_ne HO_4.out BK318.out (by decide))); have n1_ := A_ (hb); have n2_ := A_ (ho); clear BK318; clear HB; clear HO_4; have BK318 := n0_; have HB := n1_; have HO334 := n2_; clear n0_ n1_ n2_; clear ho hb hg hat; obtain ⟨y63_0, y63_1, y63_2, y63_3, y63_4, y63_5, y63_6, y63_7, z63_0, z63_1, z63_2, z63_3, z63_4, z63_5, z63_6, z63_7⟩ := cz8_ BK318.out))
         go_ret
         exact ⟨_, by first | rfl | (simp [errW_none, errW_some] <;> rfl) | (simp [*, errW_none, errW_some] <;> rfl), kr_ HO334.out, bw_ HB.out⟩
       ·rw [if_neg c46] at H
        exact absurd H (by simp)
      ·replace c45 := Bool.eq_false_iff.mpr c45
       subst c45
       rw [if_neg (show ¬ (false = true) by decide)] at H
       by_cases c64 : a0_0 ≤ 15
       ·rw [if_pos c64] at H
        have c64b0 := decide_eq_true c64
        clear c64
        replace H := Option.bind_eq_some_iff.mp H
        obtain ⟨t339, A650, H⟩ := H
        try dsimp only at H
        have A65 := A_ A650
        clear A650
        by_cases c66 : t339 = true
        ·subst c66
         rw [if_pos rfl] at H
         by_cases c67 : y328.length < 17592186044416
         ·rw [if_pos c67] at H
          have LMc67 := A_ c67
          clear c67
          obtain ⟨y340, hy340⟩ : ∃ y_ : List Int, y_ = (y328 ++ [a0_6]) := ⟨_, rfl⟩
          replace H : (some y340) = some r := by first | (rw [hy340]; with_reducible exact H) | (have H2_ := (Option.bind_some _ _).symm.trans H; rw [hy340]; with_reducible exact H2_) | (have H2_ := (Option.bind_some _ _).symm.trans H; with_reducible exact H2_) | with_reducible exact H | (rw [hy340]; exact H) | exact H
          have Ny340 := A_ hy340
          clear hy340
          obtain rfl := Option.some.inj H
          obtain ⟨y68_0, y68_1, y68_2, y68_3, y68_4, y68_5, y68_6, y68_7, z68_0, z68_1, z68_2, z68_3, z68_4, z68_5, z68_6, z68_7⟩ := cz8_ BK318.out
          go_wp2_with (first | (go_at_call 89; (with_reducible refine (spec_HasX.calls a0_4 a0_5 a0_6 true _ A65.out).mono ?_); rintro e w69 ⟨rfl, hb⟩; replace HO_4 := A_ (Kd.R_below (kr_ HO_4.out) hb); replace BK318 := A_ (blk_below (bk_ BK318.out) hb); replace HB := A_ (below_step (bw_ HB.out) hb); clear hb; obtain ⟨y70_0, y70_1, y70_2, y70_3, y70_4, y70_5, y70_6, y70_7, z70_0, z70_1, z70_2, z70_3, z70_4, z70_5, z70_6, z70_7⟩ := cz8_ BK318.out) | ((with_reducible refine gate_builtin (b := .append) (xs := #[.tmp 94, .tmp 98]) rfl ?_); at_builtin; refine Kd.R_append (Kd.int .i64) (w0 := w) w.heap.size rfl (.tmp 94) (.tmp 98) 22 3 (.int .i64 0) 8 rfl Try.underlying22 info3 rfl (by decide) (by omega) v329 y328 a0_6 [.int .i64 a0_6] (fun _ => True) (fun _ => False) rfl rfl ?aP (fun _ hk => hk.elim) ?aF ?aO ?aB ?aS ?aL ?_; (case aP => exact rfl); (case aB => exact (bw_ HB.out)); (case aF => exact (fun _ _ => trivial)); (case aO => exact (kr_ HO_4.out)); (case aS => exact (below_size (bw_ HB.out))); (case aL => have := LMc67.out; omega); intro v341 w71 ho hb hg hat; rw [← Ny340.out] at ho; have n0_ := A_ (blk_grown (bk_ BK318.out) hg (Kd.R_ne HO_4.out BK318.out (by decide))); have n1_ := A_ (hb); have n2_ := A_ (ho); clear BK318; clear HB; clear HO_4; have BK318 := n0_; have HB := n1_; have HO342 := n2_; clear n0_ n1_ n2_; clear ho hb hg hat))
          go_ret
          exact ⟨_, by first | rfl | (simp [errW_none, errW_some] <;> rfl) | (simp [*, errW_none, errW_some] <;> rfl), kr_ HO342.out, bw_ HB.out⟩
         ·rw [if_neg c67] at H
          exact absurd H (by simp)
        ·replace c66 := Bool.eq_false_iff.mpr c66
         subst c66
         rw [if_neg (show ¬ (false = true) by decide)] at H
         obtain rfl := Option.some.inj H
         obtain ⟨y72_0, y72_1, y72_2, y72_3, y72_4, y72_5, y72_6, y72_7, z72_0, z72_1, z72_2, z72_3, z72_4, z72_5, z72_6, z72_7⟩ := cz8_ BK318.out
         go_wp2_with (first | (go_at_call 89; (with_reducible refine (spec_HasX.calls a0_4 a0_5 a0_6 false _ A65.out).mono ?_); rintro e w73 ⟨rfl, hb⟩; replace HO_4 := A_ (Kd.R_below (kr_ HO_4.out) hb); replace BK318 := A_ (blk_below (bk_ BK318.out) hb); replace HB := A_ (below_step (bw_ HB.out) hb); clear hb))
         go_ret
         exact ⟨_, by first | rfl | (simp [errW_none, errW_some] <;> rfl) | (simp [*, errW_none, errW_some] <;> rfl), kr_ HO_4.out, bw_ HB.out⟩
       ·rw [if_neg c64] at H
        have c64b0 := decide_eq_false c64
        clear c64
        obtain rfl := Option.some.inj H
        obtain ⟨y74_0, y74_1, y74_2, y74_3, y74_4, y74_5, y74_6, y74_7, z74_0, z74_1, z74_2, z74_3, z74_4, z74_5, z74_6, z74_7⟩ := cz8_ BK318.out
        go_wp2
        go_ret
        exact ⟨_, by first | rfl | (simp [errW_none, errW_some] <;> rfl) | (simp [*, errW_none, errW_some] <;> rfl), kr_ HO_4.out, bw_ HB.out⟩
 ·replace c3 := Bool.eq_false_iff.mpr c3
  subst c3
  rw [if_neg (show ¬ (false = true) by decide)] at H
  obtain ⟨y320, hy320⟩ : ∃ y_ : List Int, y_ = (([] : List Int)) := ⟨_, rfl⟩
  replace H : (some y320) = some r := by first | (rw [hy320]; with_reducible exact H) | (have H2_ := (Option.bind_some _ _).symm.trans H; rw [hy320]; with_reducible exact H2_) | (have H2_ := (Option.bind_some _ _).symm.trans H; with_reducible exact H2_) | with_reducible exact H | (rw [hy320]; exact H) | exact H
  have Ny320 := A_ hy320
  clear hy320
  obtain rfl := Option.some.inj H
  go_enter Try.func86, Try.ntmps86
  go_wp2_with (first | ((with_reducible refine gate_dst (N := 1) rfl ?_); refine bx_ 1 #[.int .i64 a0_0, .int .i64 a0_1, .int .i64 a0_2, .int .i64 a0_3, .int .i64 a0_4, .int .i64 a0_5, .int .i64 a0_6, .int .i64 a0_7] 98 ?_; intro gb318 hg w75 hbox hb; have n0_ := A_ (below_step (bw_ HB.out) hb); have n1_ := A_ (hbox); have n2_ := A_ ((d5_ : w.heap.size ≤ gb318)); have n3_ := n2_; clear HB; have HB := n0_; have BK318 := n1_; have GW318 := n2_; have GE318 := n3_; have GI318 := GeI.mk GE318.out; clear n0_ n1_ n2_ n3_; clear hb hbox hg; obtain ⟨y76_0, y76_1, y76_2, y76_3, y76_4, y76_5, y76_6, y76_7, z76_0, z76_1, z76_2, z76_3, z76_4, z76_5, z76_6, z76_7⟩ := cz8_ BK318.out) | ((with_reducible refine gate_callee (f := 94) rfl ?_); refine gL_ (some 6) Try.func94 #[.agg #[.int .i64 a0_0, .int .i64 a0_1, .int .i64 a0_2, .int .i64 a0_3, .int .i64 a0_4, .int .i64 a0_5, .int .i64 a0_6, .int .i64 a0_7]] ?_; (with_reducible refine (spec_InsOk.calls k a0_0 a0_1 a0_2 a0_3 a0_4 a0_5 a0_6 a0_7 false _ A2.out).mono ?_); rintro e w77 ⟨rfl, hb⟩; refine ⟨_, rfl, ?_⟩; replace BK318 := A_ (blk_below (bk_ BK318.out) hb); replace HB := A_ (below_step (bw_ HB.out) hb); clear hb) | ((with_reducible refine gate_dst (N := 8) rfl ?_); refine Kd.R_lit (Kd.int .i64) _ 3 ?hg (N := 8) ?hd (xs := ([] : List Int)) (inner := []) (ok := fun _ => True) (okp := fun _ => True) ?hr ?hp (fun _ hk => hk) trivial (Below.refl _ _) (Nat.le_refl _) (by simp) ?_; (case hd => rfl); (case hg => rfl); (case hr => first | (go_simp; done) | (go_simp; rfl)); (case hp => exact (Reps.none _ _)); intro v321 w78 ho79 hb hg_ hnew_; clear hg_ hnew_; (first | rw [← Ny320.out] at ho79 | (simp only [Int.reduceToNat] at ho79; rw [← Ny320.out] at ho79)); have HO322 := A_ (Kd.R_lower ho79 (below_size (bw_ HB.out))); replace BK318 := A_ (blk_below (bk_ BK318.out) hb); replace HB := A_ (below_step (bw_ HB.out) hb); clear hb ho79))
  go_ret
  exact ⟨_, by first | rfl | (simp [errW_none, errW_some] <;> rfl) | (simp [*, errW_none, errW_some] <;> rfl), kr_ HO322.out, bw_ HB.out⟩

/-! ### spec_l3Opd: function 82 -/
def spec_l3Opd.f (s0_0 : List Int) (s0_1 : Int) (s0_2 : Int) : Option (Int × Int × Int × Int × Int) := (spec_l1Int.f s0_0 s0_1 s0_2 (([0, 0, 1, 2, 3, 4, 5, 6, 7, 2] : List Int))).bind fun bt347 => ((spec_l1Int.f s0_0 bt347.2.1 bt347.2.2 (([0, 1, 2, 5, 6, 7, 7] : List Int))).bind fun bt353 => ((spec_HasX.f bt347.1 bt353.1 0).bind fun t357 => (if t357 = true then ((spec_l1Word.f s0_0 bt353.2.1 bt353.2.2).bind fun bt358 => (some (bt347.1, bt353.1, bt358.1, bt358.2.1, bt358.2.2))) else (some (bt347.1, bt353.1, 0, bt353.2.1, bt353.2.2)))))
set_option maxHeartbeats 8000000 in
set_option maxRecDepth 100000 in
theorem spec_l3Opd.calls (g : Nat) (s0_0 : List Int) (s0_1 : Int) (s0_2 : Int) (r1 : Int) (r2 : Int) (r3 : Int) (r4 : Int) (r5 : Int) (w0 w : World) (hI : IsS102 w0 w g s0_0 s0_1 s0_2) (hB : Below w0.heap.size w0 w) (h : spec_l3Opd.f s0_0 s0_1 s0_2 = some (r1, r2, r3, r4, r5)) :
  Calls Try.prog 82 #[.pointer (some ⟨g, 0, none⟩)] w fun e w' => e = .returned (.agg #[.int .i64 r1, .int .i64 r2, .int .i64 r3]) ∧ IsS102 w0 w' g s0_0 r4 r5 ∧ Below w0.heap.size w0 w' ∧ KeepBut w w' g none := by
 have hu63 := Try.underlying63
 have HI0 := A_ hI
 have HK := A_ (KeepBut.refl w g none)
 have HL := A_ hB.size
 clear hI
 have HW0 := A_ hB.size
 have HB := A_ hB
 clear hB
 have H : ((spec_l1Int.f s0_0 s0_1 s0_2 (([0, 0, 1, 2, 3, 4, 5, 6, 7, 2] : List Int))).bind fun bt347 => ((spec_l1Int.f s0_0 bt347.2.1 bt347.2.2 (([0, 1, 2, 5, 6, 7, 7] : List Int))).bind fun bt353 => ((spec_HasX.f bt347.1 bt353.1 0).bind fun t357 => (if t357 = true then ((spec_l1Word.f s0_0 bt353.2.1 bt353.2.2).bind fun bt358 => (some (bt347.1, bt353.1, bt358.1, bt358.2.1, bt358.2.2))) else (some (bt347.1, bt353.1, 0, bt353.2.1, bt353.2.2)))))) = some (r1, r2, r3, r4, r5) := h
 clear h
 obtain ⟨y344, hy344⟩ : ∃ y_ : List Int, y_ = (([0, 0, 1, 2, 3, 4, 5, 6, 7, 2] : List Int)) := ⟨_, rfl⟩
 replace H : ((spec_l1Int.f s0_0 s0_1 s0_2 y344).bind fun bt347 => ((spec_l1Int.f s0_0 bt347.2.1 bt347.2.2 (([0, 1, 2, 5, 6, 7, 7] : List Int))).bind fun bt353 => ((spec_HasX.f bt347.1 bt353.1 0).bind fun t357 => (if t357 = true then ((spec_l1Word.f s0_0 bt353.2.1 bt353.2.2).bind fun bt358 => (some (bt347.1, bt353.1, bt358.1, bt358.2.1, bt358.2.2))) else (some (bt347.1, bt353.1, 0, bt353.2.1, bt353.2.2)))))) = some (r1, r2, r3, r4, r5) := by first | (rw [hy344]; with_reducible exact H) | (have H2_ := (Option.bind_some _ _).symm.trans H; rw [hy344]; with_reducible exact H2_) | (have H2_ := (Option.bind_some _ _).symm.trans H; with_reducible exact H2_) | with_reducible exact H | (rw [hy344]; exact H) | exact H
 have Ny344 := A_ hy344
 clear hy344
 replace H := Option.bind_eq_some_iff.mp H
 obtain ⟨⟨t347, t348, t349⟩, A20, H⟩ := H
 try dsimp only at H
 have A2 := A_ A20
 clear A20
 obtain ⟨y350, hy350⟩ : ∃ y_ : List Int, y_ = (([0, 1, 2, 5, 6, 7, 7] : List Int)) := ⟨_, rfl⟩
 replace H : ((spec_l1Int.f s0_0 t348 t349 y350).bind fun bt353 => ((spec_HasX.f t347 bt353.1 0).bind fun t357 => (if t357 = true then ((spec_l1Word.f s0_0 bt353.2.1 bt353.2.2).bind fun bt358 => (some (t347, bt353.1, bt358.1, bt358.2.1, bt358.2.2))) else (some (t347, bt353.1, 0, bt353.2.1, bt353.2.2))))) = some (r1, r2, r3, r4, r5) := by first | (rw [hy350]; with_reducible exact H) | (have H2_ := (Option.bind_some _ _).symm.trans H; rw [hy350]; with_reducible exact H2_) | (have H2_ := (Option.bind_some _ _).symm.trans H; with_reducible exact H2_) | with_reducible exact H | (rw [hy350]; exact H) | exact H
 have Ny350 := A_ hy350
 clear hy350
 replace H := Option.bind_eq_some_iff.mp H
 obtain ⟨⟨t353, t354, t355⟩, A30, H⟩ := H
 try dsimp only at H
 have A3 := A_ A30
 clear A30
 replace H := Option.bind_eq_some_iff.mp H
 obtain ⟨t357, A40, H⟩ := H
 try dsimp only at H
 have A4 := A_ A40
 clear A40
 by_cases c5 : t357 = true
 subst c5
 rw [if_pos rfl] at H
 replace H := Option.bind_eq_some_iff.mp H
 obtain ⟨⟨t358, t359, t360⟩, A60, H⟩ := H
 try dsimp only at H
 have A6 := A_ A60
 clear A60
 simp only [Option.some.injEq, Prod.mk.injEq] at H
 obtain ⟨rfl, rfl, rfl, rfl, rfl⟩ := H
 rotate_left
 replace c5 := Bool.eq_false_iff.mpr c5
 subst c5
 rw [if_neg (show ¬ (false = true) by decide)] at H
 simp only [Option.some.injEq, Prod.mk.injEq] at H
 obtain ⟨rfl, rfl, rfl, rfl, rfl⟩ := H
 rotate_left
 all_goals go_enter Try.func82, Try.ntmps82
 all_goals go_wp2_with (first | ((with_reducible refine gate_dst (N := 2) rfl ?_); refine bx_ 2 #[.int .i64 0, .int .i64 0, .int .i64 0] 63 ?_; intro gb343 hg w7 hbox hb; replace HB := A_ (below_step (have := GeI.mk (IsS102.ge HI0.out); bw_ HB.out) hb); have BK343 := A_ (hbox); have GW343 := A_ ((d49_ : w.heap.size ≤ gb343)); have GE343 := A_ ((Nat.le_trans HW0.out (d49_ : w.heap.size ≤ gb343) : w0.heap.size ≤ gb343)); replace HK := A_ (KeepBut.trans d1_ (KeepBut.of_below hb g none) (.inl rfl)); have NB0_343 := A_ ((d12_ : g ≠ gb343)); have NB343_0 := A_ ((d13_ : gb343 ≠ g)); replace HI0 := A_ (IsS102.below d11_ hb); have GI343 := GeI.mk GE343.out; clear hb hbox hg) | ((with_reducible refine gate_dst (N := 5) rfl ?_); refine Kd.R_lit (Kd.int .i64) _ 3 ?hg (N := 5) ?hd (xs := ([0, 0, 1, 2, 3, 4, 5, 6, 7, 2] : List Int)) (inner := [.int .i64 0, .int .i64 0, .int .i64 1, .int .i64 2, .int .i64 3, .int .i64 4, .int .i64 5, .int .i64 6, .int .i64 7, .int .i64 2]) (ok := fun _ => True) (okp := fun _ => True) ?hr ?hp (fun _ hk => hk) trivial (Below.refl _ _) (Nat.le_refl _) (by simp) ?_; (case hd => rfl); (case hg => rfl); (case hr => first | (go_simp; done) | (go_simp; rfl)); (case hp => exact (Reps.one (show Kd.M (Kd.int .i64) _ _ _ 0 [.int .i64 0] from rfl) (Reps.one (show Kd.M (Kd.int .i64) _ _ _ 0 [.int .i64 0] from rfl) (Reps.one (show Kd.M (Kd.int .i64) _ _ _ 1 [.int .i64 1] from rfl) (Reps.one (show Kd.M (Kd.int .i64) _ _ _ 2 [.int .i64 2] from rfl) (Reps.one (show Kd.M (Kd.int .i64) _ _ _ 3 [.int .i64 3] from rfl) (Reps.one (show Kd.M (Kd.int .i64) _ _ _ 4 [.int .i64 4] from rfl) (Reps.one (show Kd.M (Kd.int .i64) _ _ _ 5 [.int .i64 5] from rfl) (Reps.one (show Kd.M (Kd.int .i64) _ _ _ 6 [.int .i64 6] from rfl) (Reps.one (show Kd.M (Kd.int .i64) _ _ _ 7 [.int .i64 7] from rfl) (Reps.one (show Kd.M (Kd.int .i64) _ _ _ 2 [.int .i64 2] from rfl) (Reps.none _ _)))))))))))); intro v345 w8 ho9 hb hg_ hnew_; clear hg_ hnew_; (first | rw [← Ny344.out] at ho9 | (simp only [Int.reduceToNat] at ho9; rw [← Ny344.out] at ho9)); have HO346 := A_ (Kd.R_lower ho9 (keep_size (w := w) (g := g) (row := none) d19_)); replace BK343 := A_ (blk_below (bk_ BK343.out) hb); replace HK := A_ (KeepBut.trans d19_ (KeepBut.of_below hb g none) (.inl rfl)); replace HB := A_ (below_step (have := GeI.mk (IsS102.ge HI0.out); bw_ HB.out) hb); replace HI0 := A_ (IsS102.below d35_ hb); clear hb ho9; obtain ⟨Ao10, co10, eo10⟩ := Kd.R_slice HO346.out; subst eo10) | ((with_reducible refine gate_callee (f := 72) rfl ?_); refine gL_ (some 6) Try.func72 #[.pointer (some ⟨g, 0, none⟩), .slice Ao10 y344.length co10] ?_; (with_reducible refine (spec_l1Int.calls g s0_0 s0_1 s0_2 _ _ y344 t347 t348 t349 w0 _ ?side1 ?side2 ?side3 ?side4 ?side5 A2.out).mono ?_); (case side1 => exact hI0_); (case side2 => exact (have := GeI.mk (IsS102.ge HI0.out); bw_ HB.out)); (case side3 => repeat (first | exact (Kd.R_reads' HO346.out).2.2 | (with_reducible refine Kd.C_alloc ?_ _) | (with_reducible refine Kd.C_drewN ?_ _) | (with_reducible refine Kd.C_drew ?_))); (case side4 => exact (Kd.R_reads' HO346.out).2.1); (case side5 => exact far_slice (IsS102.own_ne HI0.out HO346.out (by decide))); rintro e w11 ⟨rfl, hi, hb, hk⟩; refine ⟨_, rfl, ?_⟩; replace BK343 := A_ (KeepBut.blk hk (bk_ BK343.out) NB343_0.out (by simp)); replace HO346 := kI_ (hI0_ : IsS102 w0 _ g s0_0 s0_1 s0_2) hk HO346; replace HK := A_ (KeepBut.trans d19_ hk (.inl rfl)); replace HB := A_ (hb); replace HI0 := A_ (hi); clear hb hk hi) | ((with_reducible refine gate_dst (N := 8) rfl ?_); refine Kd.R_lit (Kd.int .i64) _ 3 ?hg (N := 8) ?hd (xs := ([0, 1, 2, 5, 6, 7, 7] : List Int)) (inner := [.int .i64 0, .int .i64 1, .int .i64 2, .int .i64 5, .int .i64 6, .int .i64 7, .int .i64 7]) (ok := fun _ => True) (okp := fun _ => True) ?hr ?hp (fun _ hk => hk) trivial (Below.refl _ _) (Nat.le_refl _) (by simp) ?_; (case hd => rfl); (case hg => rfl); (case hr => first | (go_simp; done) | (go_simp; rfl)); (case hp => exact (Reps.one (show Kd.M (Kd.int .i64) _ _ _ 0 [.int .i64 0] from rfl) (Reps.one (show Kd.M (Kd.int .i64) _ _ _ 1 [.int .i64 1] from rfl) (Reps.one (show Kd.M (Kd.int .i64) _ _ _ 2 [.int .i64 2] from rfl) (Reps.one (show Kd.M (Kd.int .i64) _ _ _ 5 [.int .i64 5] from rfl) (Reps.one (show Kd.M (Kd.int .i64) _ _ _ 6 [.int .i64 6] from rfl) (Reps.one (show Kd.M (Kd.int .i64) _ _ _ 7 [.int .i64 7] from rfl) (Reps.one (show Kd.M (Kd.int .i64) _ _ _ 7 [.int .i64 7] from rfl) (Reps.none _ _))))))))); intro v351 w12 ho13 hb hg_ hnew_; clear hg_ hnew_; (first | rw [← Ny350.out] at ho13 | (simp only [Int.reduceToNat] at ho13; rw [← Ny350.out] at ho13)); have HO352 := A_ (Kd.R_lower (Kd.R_new' ho13 (Kd.R_lt (kr_ HO346.out))) (keep_size (w := w) (g := g) (row := none) d19_)); replace HO346 := A_ (Kd.R_elder' (kr_ HO346.out) (Kd.R_base ho13) hb); replace BK343 := A_ (blk_below (bk_ BK343.out) hb); replace HK := A_ (KeepBut.trans d19_ (KeepBut.of_below hb g none) (.inl rfl)); replace HB := A_ (below_step (have := GeI.mk (IsS102.ge HI0.out); bw_ HB.out) hb); replace HI0 := A_ (IsS102.below d35_ hb); clear hb ho13; obtain ⟨Ao14, co14, eo14⟩ := Kd.R_slice HO352.out; subst eo14) | ((with_reducible refine gate_callee (f := 72) rfl ?_); refine gL_ (some 9) Try.func72 #[.pointer (some ⟨g, 0, none⟩), .slice Ao14 y350.length co14] ?_; (with_reducible refine (spec_l1Int.calls g s0_0 t348 t349 _ _ y350 t353 t354 t355 w0 _ ?side1 ?side2 ?side3 ?side4 ?side5 A3.out).mono ?_); (case side1 => exact hI0_); (case side2 => exact (have := GeI.mk (IsS102.ge HI0.out); bw_ HB.out)); (case side3 => repeat (first | exact (Kd.R_reads' HO352.out).2.2 | (with_reducible refine Kd.C_alloc ?_ _) | (with_reducible refine Kd.C_drewN ?_ _) | (with_reducible refine Kd.C_drew ?_))); (case side4 => exact (Kd.R_reads' HO352.out).2.1); (case side5 => exact far_slice (IsS102.own_ne HI0.out HO352.out (by decide))); rintro e w15 ⟨rfl, hi, hb, hk⟩; refine ⟨_, rfl, ?_⟩; replace BK343 := A_ (KeepBut.blk hk (bk_ BK343.out) NB343_0.out (by simp)); replace HO346 := kI_ (hI0_ : IsS102 w0 _ g s0_0 t348 t349) hk HO346; replace HO352 := kI_ (hI0_ : IsS102 w0 _ g s0_0 t348 t349) hk HO352; replace HK := A_ (KeepBut.trans d19_ hk (.inl rfl)); replace HB := A_ (hb); replace HI0 := A_ (hi); clear hb hk hi) | ((with_reducible refine gate_dst (N := 3) rfl ?_); refine bx_ 3 #[.int .i64 0, .int .i64 0, .int .i64 0] 63 ?_; intro gb356 hg w16 hbox hb; have n0_ := A_ (Kd.R_below (kr_ HO346.out) hb); have n1_ := A_ (Kd.R_below (kr_ HO352.out) hb); have n2_ := A_ (IsS102.below d35_ hb); have n3_ := A_ (blk_below (bk_ BK343.out) hb); have n4_ := A_ (KeepBut.trans d19_ (KeepBut.of_below hb g none) (.inl rfl)); have n5_ := A_ (below_step (have := GeI.mk (IsS102.ge HI0.out); bw_ HB.out) hb); have n6_ := A_ (hbox); have n7_ := A_ ((by rw [hg]; exact (keep_size (w := w) (g := g) (row := none) d19_) : w.heap.size ≤ gb356)); have n8_ := A_ ((Nat.le_trans HW0.out (by rw [hg]; exact (keep_size (w := w) (g := g) (row := none) d19_) : w.heap.size ≤ gb356) : w0.heap.size ≤ gb356)); have n9_ := A_ ((by rw [hg]; exact Nat.ne_of_lt (blk_lt (bk_ BK343.out)) : gb343 ≠ gb356)); have n10_ := A_ n9_.out.symm; have n11_ := A_ ((by rw [hg]; exact Nat.ne_of_lt (IsS102.lt (hI0_ : IsS102 w0 _ g s0_0 t354 t355)) : g ≠ gb356)); have n12_ := A_ ((by rw [hg]; exact Nat.ne_of_gt (IsS102.lt (hI0_ : IsS102 w0 _ g s0_0 t354 t355)) : gb356 ≠ g)); clear HO346; clear HO352; clear HI0; clear BK343; clear HK; clear HB; have HO346 := n0_; have HO352 := n1_; have HI0 := n2_; have BK343 := n3_; have HK := n4_; have HB := n5_; have BK356 := n6_; have GW356 := n7_; have GE356 := n8_; have GI356 := GeI.mk GE356.out; have NB343_356 := n9_; have NB356_343 := n10_; have NB0_356 := n11_; have NB356_0 := n12_; clear n0_ n1_ n2_ n3_ n4_ n5_ n6_ n7_ n8_ n9_ n10_ n11_ n12_; clear hb hbox hg; have hnb17 := NB356_343.out; have hnc17 := NB343_356.out; have hnb18 := NB356_0.out; have hnc18 := NB0_356.out; have y19_0 : w16.cell? ⟨gb356, 0, none⟩ = some (.int .i64 0) := (blk_cell BK356.out 0).trans rfl; have y19_1 : w16.cell? ⟨gb356, 1, none⟩ = some (.int .i64 0) := (blk_cell BK356.out 1).trans rfl; have y19_2 : w16.cell? ⟨gb356, 2, none⟩ = some (.int .i64 0) := (blk_cell BK356.out 2).trans rfl; have z19_0 := blk_frozen BK356.out 0; have z19_1 := blk_frozen BK356.out 1; have z19_2 := blk_frozen BK356.out 2) | ((with_reducible refine gate_callee (f := 89) rfl ?_); refine gL_ (some 12) Try.func89 #[.agg #[.int .i64 t347, .int .i64 t353, .int .i64 0]] ?_; (with_reducible refine (spec_HasX.calls t347 t353 0 false _ A4.out).mono ?_); rintro e w38 ⟨rfl, hb⟩; refine ⟨_, rfl, ?_⟩; replace HO346 := A_ (Kd.R_below (kr_ (Kd.R_mono (Kd.R_far (p := ⟨gb356, 2, none⟩) (Kd.R_far (p := ⟨gb356, 1, none⟩) (Kd.R_far (p := ⟨gb356, 0, none⟩) (Kd.R_types HO346.out BK356.out (by decide)) (fun _ hk => hk.2) (.int .i64 t347)) (fun _ hk => hk.2) (.int .i64 t353)) (fun _ hk => hk.2) (.int .i64 0)) (fun _ h_ => h_.1))) hb); replace HO352 := A_ (Kd.R_below (kr_ (Kd.R_mono (Kd.R_far (p := ⟨gb356, 2, none⟩) (Kd.R_far (p := ⟨gb356, 1, none⟩) (Kd.R_far (p := ⟨gb356, 0, none⟩) (Kd.R_types HO352.out BK356.out (by decide)) (fun _ hk => hk.2) (.int .i64 t347)) (fun _ hk => hk.2) (.int .i64 t353)) (fun _ hk => hk.2) (.int .i64 0)) (fun _ h_ => h_.1))) hb); replace BK343 := A_ (blk_below (g := gb343) (o := .cells #[.int .i64 0, .int .i64 0, .int .i64 0] 63 (0, 0)) (by refine bk_ ?_; refine blk_far ?_ NB343_356.out _; refine bk_ ?_; refine blk_far ?_ NB343_356.out _; refine bk_ ?_; refine blk_far ?_ NB343_356.out _; refine bk_ ?_; exact BK343.out) hb); replace BK356 := A_ (blk_below (g := gb356) (o := .cells #[.int .i64 t347, .int .i64 t353, .int .i64 0] 63 (0, 0)) (by refine bk_ ?_; refine blk_put (cs := #[.int .i64 t347, .int .i64 t353, .int .i64 0]) ?_ 2 _ rfl; refine bk_ ?_; refine blk_put (cs := #[.int .i64 t347, .int .i64 0, .int .i64 0]) ?_ 1 _ rfl; refine bk_ ?_; refine blk_put (cs := #[.int .i64 0, .int .i64 0, .int .i64 0]) ?_ 0 _ rfl; refine bk_ ?_; exact BK356.out) hb); replace HK := A_ (KeepBut.trans d34_ (KeepBut.of_below hb g none) (.inl rfl)); replace HB := A_ (below_step (have := GeI.mk (IsS102.ge HI0.out); bw_ HB.out) hb); replace HI0 := A_ (IsS102.below (hI0_ : IsS102 w0 (((w16.setCell ⟨gb356, 0, none⟩ (.int .i64 t347)).setCell ⟨gb356, 1, none⟩ (.int .i64 t353)).setCell ⟨gb356, 2, none⟩ (.int .i64 0)) g s0_0 t354 t355) hb); clear hb; have y39_0 : w38.cell? ⟨gb356, 0, none⟩ = some (.int .i64 t347) := (blk_cell BK356.out 0).trans rfl; have y39_1 : w38.cell? ⟨gb356, 1, none⟩ = some (.int .i64 t353) := (blk_cell BK356.out 1).trans rfl; have y39_2 : w38.cell? ⟨gb356, 2, none⟩ = some (.int .i64 0) := (blk_cell BK356.out 2).trans rfl; have z39_0 := blk_frozen BK356.out 0; have z39_1 := blk_frozen BK356.out 1; have z39_2 := blk_frozen BK356.out 2; have hnb40 := NB343_0.out; have hnc40 := NB0_343.out; have y41_0 : w38.cell? ⟨gb343, 0, none⟩ = some (.int .i64 0) := (blk_cell BK343.out 0).trans rfl; have y41_1 : w38.cell? ⟨gb343, 1, none⟩ = some (.int .i64 0) := (blk_cell BK343.out 1).trans rfl; have y41_2 : w38.cell? ⟨gb343, 2, none⟩ = some (.int .i64 0) := (blk_cell BK343.out 2).trans rfl; have z41_0 := blk_frozen BK343.out 0; have z41_1 := blk_frozen BK343.out 1; have z41_2 := blk_frozen BK343.out 2) | ((with_reducible refine gate_callee (f := 89) rfl ?_); refine gL_ (some 12) Try.func89 #[.agg #[.int .i64 t347, .int .i64 t353, .int .i64 0]] ?_; (with_reducible refine (spec_HasX.calls t347 t353 0 true _ A4.out).mono ?_); rintro e w20 ⟨rfl, hb⟩; refine ⟨_, rfl, ?_⟩; replace HO346 := A_ (Kd.R_below (kr_ (Kd.R_mono (Kd.R_far (p := ⟨gb356, 2, none⟩) (Kd.R_far (p := ⟨gb356, 1, none⟩) (Kd.R_far (p := ⟨gb356, 0, none⟩) (Kd.R_types HO346.out BK356.out (by decide)) (fun _ hk => hk.2) (.int .i64 t347)) (fun _ hk => hk.2) (.int .i64 t353)) (fun _ hk => hk.2) (.int .i64 0)) (fun _ h_ => h_.1))) hb); replace HO352 := A_ (Kd.R_below (kr_ (Kd.R_mono (Kd.R_far (p := ⟨gb356, 2, none⟩) (Kd.R_far (p := ⟨gb356, 1, none⟩) (Kd.R_far (p := ⟨gb356, 0, none⟩) (Kd.R_types HO352.out BK356.out (by decide)) (fun _ hk => hk.2) (.int .i64 t347)) (fun _ hk => hk.2) (.int .i64 t353)) (fun _ hk => hk.2) (.int .i64 0)) (fun _ h_ => h_.1))) hb); replace BK343 := A_ (blk_below (g := gb343) (o := .cells #[.int .i64 0, .int .i64 0, .int .i64 0] 63 (0, 0)) (by refine bk_ ?_; refine blk_far ?_ NB343_356.out _; refine bk_ ?_; refine blk_far ?_ NB343_356.out _; refine bk_ ?_; refine blk_far ?_ NB343_356.out _; refine bk_ ?_; exact BK343.out) hb); replace BK356 := A_ (blk_below (g := gb356) (o := .cells #[.int .i64 t347, .int .i64 t353, .int .i64 0] 63 (0, 0)) (by refine bk_ ?_; refine blk_put (cs := #[.int .i64 t347, .int .i64 t353, .int .i64 0]) ?_ 2 _ rfl; refine bk_ ?_; refine blk_put (cs := #[.int .i64 t347, .int .i64 0, .int .i64 0]) ?_ 1 _ rfl; refine bk_ ?_; refine blk_put (cs := #[.int .i64 0, .int .i64 0, .int .i64 0]) ?_ 0 _ rfl; refine bk_ ?_; exact BK356.out) hb); replace HK := A_ (KeepBut.trans d34_ (KeepBut.of_below hb g none) (.inl rfl)); replace HB := A_ (below_step (have := GeI.mk (IsS102.ge HI0.out); bw_ HB.out) hb); replace HI0 := A_ (IsS102.below (hI0_ : IsS102 w0 (((w16.setCell ⟨gb356, 0, none⟩ (.int .i64 t347)).setCell ⟨gb356, 1, none⟩ (.int .i64 t353)).setCell ⟨gb356, 2, none⟩ (.int .i64 0)) g s0_0 t354 t355) hb); clear hb) | ((with_reducible refine gate_callee (f := 85) rfl ?_); refine gL_ (some 14) Try.func85 #[.pointer (some ⟨g, 0, none⟩)] ?_; (with_reducible refine (spec_l1Word.calls g s0_0 t354 t355 t358 t359 t360 w0 _ ?side1 ?side2 A6.out).mono ?_); (case side1 => exact hI0_); (case side2 => exact (have := GeI.mk (IsS102.ge HI0.out); bw_ HB.out)); rintro e w21 ⟨rfl, hi, hb, hk⟩; refine ⟨_, rfl, ?_⟩; replace BK343 := A_ (KeepBut.blk hk (bk_ BK343.out) NB343_0.out (by simp)); replace HO346 := kI_ (hI0_ : IsS102 w0 _ g s0_0 t354 t355) hk HO346; replace HO352 := kI_ (hI0_ : IsS102 w0 _ g s0_0 t354 t355) hk HO352; replace BK356 := A_ (KeepBut.blk hk (bk_ BK356.out) NB356_0.out (by simp)); replace HK := A_ (KeepBut.trans d34_ hk (.inl rfl)); replace HB := A_ (hb); replace HI0 := A_ (hi); clear hb hk hi; have y22_0 : w21.cell? ⟨gb356, 0, none⟩ = some (.int .i64 t347) := (blk_cell BK356.out 0).trans rfl; have y22_1 : w21.cell? ⟨gb356, 1, none⟩ = some (.int .i64 t353) := (blk_cell BK356.out 1).trans rfl; have y22_2 : w21.cell? ⟨gb356, 2, none⟩ = some (.int .i64 0) := (blk_cell BK356.out 2).trans rfl; have z22_0 := blk_frozen BK356.out 0; have z22_1 := blk_frozen BK356.out 1; have z22_2 := blk_frozen BK356.out 2; have hnb23 := NB343_0.out; have hnc23 := NB0_343.out; have y24_0 : w21.cell? ⟨gb343, 0, none⟩ = some (.int .i64 0) := (blk_cell BK343.out 0).trans rfl; have y24_1 : w21.cell? ⟨gb343, 1, none⟩ = some (.int .i64 0) := (blk_cell BK343.out 1).trans rfl; have y24_2 : w21.cell? ⟨gb343, 2, none⟩ = some (.int .i64 0) := (blk_cell BK343.out 2).trans rfl; have z24_0 := blk_frozen BK343.out 0; have z24_1 := blk_frozen BK343.out 1; have z24_2 := blk_frozen BK343.out 2))
 ·refine bodyPost_ret (results_cell_row rfl _ _ gb343 63 #[.int .i64 t347, .int .i64 t353, .int .i64 t358] (0, 0) _ rfl ?hb_ Try.underlying63 rfl (by kernel_rfl)) rfl ?_
  (case hb_ => refine bk_ ?_; refine blk_put (cs := #[.int .i64 t347, .int .i64 t353, .int .i64 0]) ?_ 2 _ rfl; refine bk_ ?_; refine blk_put (cs := #[.int .i64 t347, .int .i64 0, .int .i64 0]) ?_ 1 _ rfl; refine bk_ ?_; refine blk_put (cs := #[.int .i64 0, .int .i64 0, .int .i64 0]) ?_ 0 _ rfl; refine bk_ ?_; refine blk_far ?_ NB343_356.out _; refine bk_ ?_; exact BK343.out)
  exact rt_ ⟨hI0_, (have := GeI.mk (IsS102.ge HI0.out); bw_ HB.out), by repeat (first | (with_reducible first | exact HK.out | apply KeepBut.set_ | apply keep_drewN | apply keep_drew | apply keep_alloc | refine keep_far ?_ GW343.out _ | refine keep_far ?_ GW356.out _) | exact HK.out)⟩
 ·refine bodyPost_ret (results_cell_row rfl _ _ gb343 63 #[.int .i64 t347, .int .i64 t353, .int .i64 0] (0, 0) _ rfl ?hb_ Try.underlying63 rfl (by kernel_rfl)) rfl ?_
  (case hb_ => refine bk_ ?_; refine blk_put (cs := #[.int .i64 t347, .int .i64 t353, .int .i64 0]) ?_ 2 _ rfl; refine bk_ ?_; refine blk_put (cs := #[.int .i64 t347, .int .i64 0, .int .i64 0]) ?_ 1 _ rfl; refine bk_ ?_; refine blk_put (cs := #[.int .i64 0, .int .i64 0, .int .i64 0]) ?_ 0 _ rfl; refine bk_ ?_; exact BK343.out)
  exact rt_ ⟨hI0_, (have := GeI.mk (IsS102.ge HI0.out); bw_ HB.out), by repeat (first | (with_reducible first | exact HK.out | apply KeepBut.set_ | apply keep_drewN | apply keep_drew | apply keep_alloc | refine keep_far ?_ GW343.out _ | refine keep_far ?_ GW356.out _) | exact HK.out)⟩

end Go.Proofs.Ytiagbfilffbljaa.PFnStored
