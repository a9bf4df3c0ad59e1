-- Laid by a program of this session (a changed copy of the kit's printer); Lean checks every line.
import Derived.Test.YtiagbfilffbljaaPFnStoredx0
import Derived.Test.YtiagbfilffbljaaPFnStoredx2
import Derived.Test.YtiagbfilffbljaaPFnStoredx4
import Derived.Test.YtiagbfilffbljaaPFnStoredx6
import Derived.Test.YtiagbfilffbljaaPFnStoredx7
namespace Go.Proofs.Ytiagbfilffbljaa.PFnStored
open Go.RowKit Go.Proofs.YtiagbfilffbljaaW.PrintWords Go.Proofs.YtiagbfilffbljaaW.PrintLast Go.Proofs.YtiagbfilffbljaaW.PrintMore
attribute [local go_sem] max2_int min2_int max_two min_two max_three min_three max_four min_four   -- for this text's walks alone
set_option linter.unusedVariables false
set_option linter.unusedSimpArgs false

/-! ### spec_l3Draw: function 87 -/
mutual
def spec_l3Draw.j0 : Nat → List Int → Int → Int → Int → Int → Int → Int → Int → Int → Int → Int → Option (Int × Int × Int × Int × Int × Int × Int × Int × Int × Int)
 | 0, _, _, _, _, _, _, _, _, _, _, _ => none
 | k + 1, x1000, x1001, x1002, x366000, x366001, x366002, x366003, x366004, x366005, x366006, x366007 => if x366000 ≤ 15 then ((spec_l3Opd.f x1000 x1001 x1002).bind fun bt371 => (spec_l3Draw.j1 k x1000 bt371.2.2.2.1 bt371.2.2.2.2 x366000 x366001 x366002 x366003 bt371.1 bt371.2.1 bt371.2.2.1 x366007)) else (spec_l3Draw.j1 k x1000 x1001 x1002 x366000 x366001 x366002 x366003 x366004 x366005 x366006 x366007)
def spec_l3Draw.j1 : Nat → List Int → Int → Int → Int → Int → Int → Int → Int → Int → Int → Int → Option (Int × Int × Int × Int × Int × Int × Int × Int × Int × Int)
 | 0, _, _, _, _, _, _, _, _, _, _, _ => none
 | k + 1, x1000, x1001, x1002, x366000, x366001, x366002, x366003, x366004, x366005, x366006, x366007 => if x366000 = 15 then (spec_l3Draw.j2 k true x1000 x1001 x1002 x366000 x366001 x366002 x366003 x366004 x366005 x366006 x366007) else (spec_l3Draw.j2 k (x366000 == 16) x1000 x1001 x1002 x366000 x366001 x366002 x366003 x366004 x366005 x366006 x366007)
def spec_l3Draw.j2 : Nat → Bool → List Int → Int → Int → Int → Int → Int → Int → Int → Int → Int → Int → Option (Int × Int × Int × Int × Int × Int × Int × Int × Int × Int)
 | 0, _, _, _, _, _, _, _, _, _, _, _, _ => none
 | k + 1, x20, x1000, x1001, x1002, x366000, x366001, x366002, x366003, x366004, x366005, x366006, x366007 => if x20 = true then ((spec_l1Below.f x1000 x1001 x1002 8).bind fun bt376 => (some (x366000, x366001, x366002, x366003, x366004, x366005, x366006, bt376.1, bt376.2.1, bt376.2.2))) else ((spec_l1In.f x366000 17 21).bind fun t379 => (if t379 = true then ((spec_l1Int.f x1000 x1001 x1002 (([(-128), 127, 0, (-1), 1, 2, (-3)] : List Int))).bind fun bt383 => (some (x366000, x366001, x366002, x366003, x366004, x366005, x366006, bt383.1, bt383.2.1, bt383.2.2))) else (if x366000 = 23 then ((spec_l1Int.f x1000 x1001 x1002 (([0, 1, 2, 255] : List Int))).bind fun bt389 => (some (x366000, x366001, x366002, x366003, x366004, x366005, x366006, bt389.1, bt389.2.1, bt389.2.2))) else (some (x366000, x366001, x366002, x366003, x366004, x366005, x366006, x366007, x1001, x1002)))))
end
def spec_l3Draw.f (k : Nat) (s0_0 : List Int) (s0_1 : Int) (s0_2 : Int) : Option (Int × Int × Int × Int × Int × Int × Int × Int × Int × Int) := (spec_l1Below.f s0_0 s0_1 s0_2 23).bind fun bt362 => (if (wrap64 (1 + bt362.1)) ≤ 6 then ((spec_l3Opd.f s0_0 bt362.2.1 bt362.2.2).bind fun bt366 => (spec_l3Draw.j0 k s0_0 bt366.2.2.2.1 bt366.2.2.2.2 (wrap64 (1 + bt362.1)) bt366.1 bt366.2.1 bt366.2.2.1 0 0 0 0)) else (spec_l3Draw.j0 k s0_0 bt362.2.1 bt362.2.2 (wrap64 (1 + bt362.1)) 0 0 0 0 0 0 0))
theorem spec_l3Draw.mono_l : ∀ k, (∀ y0 y1 y2 y3 y4 y5 y6 y7 y8 y9 y10, LeO (spec_l3Draw.j0 k y0 y1 y2 y3 y4 y5 y6 y7 y8 y9 y10) (spec_l3Draw.j0 (k + 1) y0 y1 y2 y3 y4 y5 y6 y7 y8 y9 y10)) ∧ (∀ y0 y1 y2 y3 y4 y5 y6 y7 y8 y9 y10, LeO (spec_l3Draw.j1 k y0 y1 y2 y3 y4 y5 y6 y7 y8 y9 y10) (spec_l3Draw.j1 (k + 1) y0 y1 y2 y3 y4 y5 y6 y7 y8 y9 y10)) ∧ (∀ y0 y1 y2 y3 y4 y5 y6 y7 y8 y9 y10 y11, LeO (spec_l3Draw.j2 k y0 y1 y2 y3 y4 y5 y6 y7 y8 y9 y10 y11) (spec_l3Draw.j2 (k + 1) y0 y1 y2 y3 y4 y5 y6 y7 y8 y9 y10 y11))
 | 0 => ⟨fun _ _ _ _ _ _ _ _ _ _ _ r h => by simp [spec_l3Draw.j0] at h, fun _ _ _ _ _ _ _ _ _ _ _ r h => by simp [spec_l3Draw.j1] at h, fun _ _ _ _ _ _ _ _ _ _ _ _ r h => by simp [spec_l3Draw.j2] at h⟩
 | k + 1 => by
  obtain ⟨ih0, ih1, ih2⟩ := spec_l3Draw.mono_l k
  refine ⟨?_, ?_, ?_⟩
  ·intro y0 y1 y2 y3 y4 y5 y6 y7 y8 y9 y10
   unfold spec_l3Draw.j0
   repeat' first
   | (with_reducible exact ih0 _ _ _ _ _ _ _ _ _ _ _)
   | (with_reducible exact ih1 _ _ _ _ _ _ _ _ _ _ _)
   | (with_reducible exact ih2 _ _ _ _ _ _ _ _ _ _ _ _)
   | (with_reducible exact LeO.refl _)
   | (with_reducible exact LeO.none _)
   | (with_reducible refine LeO.ite ?_ ?_)
   | (with_reducible refine LeO.bind ?_ (fun _ => ?_))
   | exact ih0 _ _ _ _ _ _ _ _ _ _ _
   | exact ih1 _ _ _ _ _ _ _ _ _ _ _
   | exact ih2 _ _ _ _ _ _ _ _ _ _ _ _
   | exact LeO.none _
   | refine LeO.ite ?_ ?_
   | refine LeO.bind ?_ (fun _ => ?_)
  ·intro y0 y1 y2 y3 y4 y5 y6 y7 y8 y9 y10
   unfold spec_l3Draw.j1
   repeat' first
   | (with_reducible exact ih0 _ _ _ _ _ _ _ _ _ _ _)
   | (with_reducible exact ih1 _ _ _ _ _ _ _ _ _ _ _)
   | (with_reducible exact ih2 _ _ _ _ _ _ _ _ _ _ _ _)
   | (with_reducible exact LeO.refl _)
   | (with_reducible exact LeO.none _)
   | (with_reducible refine LeO.ite ?_ ?_)
   | (with_reducible refine LeO.bind ?_ (fun _ => ?_))
   | exact ih0 _ _ _ _ _ _ _ _ _ _ _
   | exact ih1 _ _ _ _ _ _ _ _ _ _ _
   | exact ih2 _ _ _ _ _ _ _ _ _ _ _ _
   | exact LeO.none _
   | refine LeO.ite ?_ ?_
   | refine LeO.bind ?_ (fun _ => ?_)
  ·intro y0 y1 y2 y3 y4 y5 y6 y7 y8 y9 y10 y11
   unfold spec_l3Draw.j2
   repeat' first
   | (with_reducible exact ih0 _ _ _ _ _ _ _ _ _ _ _)
   | (with_reducible exact ih1 _ _ _ _ _ _ _ _ _ _ _)
   | (with_reducible exact ih2 _ _ _ _ _ _ _ _ _ _ _ _)
   | (with_reducible exact LeO.refl _)
   | (with_reducible exact LeO.none _)
   | (with_reducible refine LeO.ite ?_ ?_)
   | (with_reducible refine LeO.bind ?_ (fun _ => ?_))
   | exact ih0 _ _ _ _ _ _ _ _ _ _ _
   | exact ih1 _ _ _ _ _ _ _ _ _ _ _
   | exact ih2 _ _ _ _ _ _ _ _ _ _ _ _
   | exact LeO.none _
   | refine LeO.ite ?_ ?_
   | refine LeO.bind ?_ (fun _ => ?_)
theorem spec_l3Draw.mono : ∀ a0 a1 a2 k, LeO (spec_l3Draw.f k a0 a1 a2) (spec_l3Draw.f (k + 1) a0 a1 a2) := by
 intro a0 a1 a2 k
 obtain ⟨ih0, ih1, ih2⟩ := spec_l3Draw.mono_l k
 unfold spec_l3Draw.f
 repeat' first
   | (with_reducible exact ih0 _ _ _ _ _ _ _ _ _ _ _)
   | (with_reducible exact ih1 _ _ _ _ _ _ _ _ _ _ _)
   | (with_reducible exact ih2 _ _ _ _ _ _ _ _ _ _ _ _)
   | (with_reducible exact LeO.refl _)
   | (with_reducible exact LeO.none _)
   | (with_reducible refine LeO.ite ?_ ?_)
   | (with_reducible refine LeO.bind ?_ (fun _ => ?_))
   | exact ih0 _ _ _ _ _ _ _ _ _ _ _
   | exact ih1 _ _ _ _ _ _ _ _ _ _ _
   | exact ih2 _ _ _ _ _ _ _ _ _ _ _ _
   | exact LeO.none _
   | refine LeO.ite ?_ ?_
   | refine LeO.bind ?_ (fun _ => ?_)
set_option maxHeartbeats 8000000 in
set_option maxRecDepth 100000 in
theorem spec_l3Draw.calls (k : Nat) (g : Nat) (s0_0 : List Int) (s0_1 : Int) (s0_2 : Int) (r1 : Int) (r2 : Int) (r3 : Int) (r4 : Int) (r5 : Int) (r6 : Int) (r7 : Int) (r8 : Int) (r9 : Int) (r10 : Int) (w0 w : World) (hI : IsS102 w0 w g s0_0 s0_1 s0_2) (hB : Below w0.heap.size w0 w) (h : spec_l3Draw.f k s0_0 s0_1 s0_2 = some (r1, r2, r3, r4, r5, r6, r7, r8, r9, r10)) :
  Calls Try.prog 87 #[.pointer (some ⟨g, 0, none⟩)] w fun e w' => e = .returned (.agg #[.int .i64 r1, .int .i64 r2, .int .i64 r3, .int .i64 r4, .int .i64 r5, .int .i64 r6, .int .i64 r7, .int .i64 r8]) ∧ IsS102 w0 w' g s0_0 r9 r10 ∧ Below w0.heap.size w0 w' ∧ KeepBut w w' g none := by
 have hu98 := Try.underlying98
 have hu63 := Try.underlying63
 have HI0 := A_ hI
 have HK := A_ (KeepBut.refl w g none)
 have HL := A_ hB.size
 clear hI
 have HW0 := A_ hB.size
 have HB := A_ hB
 clear hB
 have H : ((spec_l1Below.f s0_0 s0_1 s0_2 23).bind fun bt362 => (if (wrap64 (1 + bt362.1)) ≤ 6 then ((spec_l3Opd.f s0_0 bt362.2.1 bt362.2.2).bind fun bt366 => (spec_l3Draw.j0 k s0_0 bt366.2.2.2.1 bt366.2.2.2.2 (wrap64 (1 + bt362.1)) bt366.1 bt366.2.1 bt366.2.2.1 0 0 0 0)) else (spec_l3Draw.j0 k s0_0 bt362.2.1 bt362.2.2 (wrap64 (1 + bt362.1)) 0 0 0 0 0 0 0))) = some (r1, r2, r3, r4, r5, r6, r7, r8, r9, r10) := h
 clear h
 replace H := Option.bind_eq_some_iff.mp H
 obtain ⟨⟨t362, t363, t364⟩, A20, H⟩ := H
 try dsimp only at H
 have A2 := A_ A20
 clear A20
 have HC3 := A_ H
 clear H
 go_enter Try.func87, Try.ntmps87
 go_upto_if 10 with (first | ((with_reducible refine gate_dst (N := 2) rfl ?_); refine bx_ 2 #[.int .i64 0, .int .i64 0, .int .i64 0, .int .i64 0, .int .i64 0, .int .i64 0, .int .i64 0, .int .i64 0] 98 ?_; intro gb361 hg w4 hbox hb; replace HB := A_ (below_step (have := GeI.mk (IsS102.ge HI0.out); bw_ HB.out) hb); have BK361 := A_ (hbox); have GW361 := A_ ((d49_ : w.heap.size ≤ gb361)); have GE361 := A_ ((Nat.le_trans HW0.out (d49_ : w.heap.size ≤ gb361) : w0.heap.size ≤ gb361)); replace HK := A_ (KeepBut.trans d1_ (KeepBut.of_below hb g none) (.inl rfl)); have NB0_361 := A_ ((d12_ : g ≠ gb361)); have NB361_0 := A_ ((d13_ : gb361 ≠ g)); replace HI0 := A_ (IsS102.below d11_ hb); have GI361 := GeI.mk GE361.out; clear hb hbox hg) | ((with_reducible refine gate_callee (f := 71) rfl ?_); refine gL_ (some 5) Try.func71 #[.pointer (some ⟨g, 0, none⟩), .int .i64 23] ?_; (with_reducible refine (spec_l1Below.calls g s0_0 s0_1 s0_2 23 t362 t363 t364 w0 _ ?side1 ?side2 A2.out).mono ?_); (case side1 => exact hI0_); (case side2 => exact (have := GeI.mk (IsS102.ge HI0.out); bw_ HB.out)); rintro e w5 ⟨rfl, hi, hb, hk⟩; refine ⟨_, rfl, ?_⟩; replace BK361 := A_ (KeepBut.blk hk (bk_ BK361.out) NB361_0.out (by simp)); replace HK := A_ (KeepBut.trans d32_ hk (.inl rfl)); replace HB := A_ (hb); replace HI0 := A_ (hi); clear hb hk hi) | ((with_reducible refine gate_dst (N := 3) rfl ?_); refine bx_ 3 #[.int .i64 0, .int .i64 0, .int .i64 0, .int .i64 0, .int .i64 0, .int .i64 0, .int .i64 0, .int .i64 0] 98 ?_; intro gb365 hg w6 hbox hb; have n0_ := A_ (IsS102.below (hI0_) hb); have n1_ := A_ (blk_below (bk_ BK361.out) hb); have n2_ := A_ (KeepBut.trans d32_ (KeepBut.of_below hb g none) (.inl rfl)); have n3_ := A_ (below_step (have := GeI.mk (IsS102.ge HI0.out); bw_ HB.out) hb); have n4_ := A_ (hbox); have n5_ := A_ ((by rw [hg]; exact (keep_size (w := w) (g := g) (row := none) d32_) : w.heap.size ≤ gb365)); have n6_ := A_ ((Nat.le_trans HW0.out (by rw [hg]; exact (keep_size (w := w) (g := g) (row := none) d32_) : w.heap.size ≤ gb365) : w0.heap.size ≤ gb365)); have n7_ := A_ ((by rw [hg]; exact Nat.ne_of_lt (blk_lt (bk_ BK361.out)) : gb361 ≠ gb365)); have n8_ := A_ n7_.out.symm; have n9_ := A_ ((by rw [hg]; exact Nat.ne_of_lt (IsS102.lt (hI0_ : IsS102 w0 _ g s0_0 t363 t364)) : g ≠ gb365)); have n10_ := A_ ((by rw [hg]; exact Nat.ne_of_gt (IsS102.lt (hI0_ : IsS102 w0 _ g s0_0 t363 t364)) : gb365 ≠ g)); clear HI0; clear BK361; clear HK; clear HB; have HI0 := n0_; have BK361 := n1_; have HK := n2_; have HB := n3_; have BK365 := n4_; have GW365 := n5_; have GE365 := n6_; have GI365 := GeI.mk GE365.out; have NB361_365 := n7_; have NB365_361 := n8_; have NB0_365 := n9_; have NB365_0 := n10_; clear n0_ n1_ n2_ n3_ n4_ n5_ n6_ n7_ n8_ n9_ n10_; clear hb hbox hg; have hnb7 := NB365_361.out; have hnc7 := NB361_365.out; have hnb8 := NB365_0.out; have hnc8 := NB0_365.out; obtain ⟨y9_0, y9_1, y9_2, y9_3, y9_4, y9_5, y9_6, y9_7, z9_0, z9_1, z9_2, z9_3, z9_4, z9_5, z9_6, z9_7⟩ := cz8_ BK365.out))
 (try simp only [Act.put, List.setIfInBounds_toArray, List.set_cons_zero, List.set_cons_succ])
 go_cut [] (fun wc => ∃ (kq : Nat) (x1001_2 : Int) (x1002_2 : Int) (x366001_2 : Int) (x366002_2 : Int) (x366003_2 : Int), Aside0 (spec_l3Draw.j0 kq s0_0 x1001_2 x1002_2 (wrap64 (1 + t362)) x366001_2 x366002_2 x366003_2 0 0 0 0 = some (r1, r2, r3, r4, r5, r6, r7, r8, r9, r10)) ∧ Aside0 (kq ≤ k) ∧ Aside0 (wc.heap[gb361]? = some (.cells #[.int .i64 0, .int .i64 0, .int .i64 0, .int .i64 0, .int .i64 0, .int .i64 0, .int .i64 0, .int .i64 0] 98 (0, 0))) ∧ Aside0 (wc.heap[gb365]? = some (.cells #[.int .i64 (wrap64 (1 + t362)), .int .i64 x366001_2, .int .i64 x366002_2, .int .i64 x366003_2, .int .i64 0, .int .i64 0, .int .i64 0, .int .i64 0] 98 (0, 0))) ∧ Aside0 (IsS102 w0 wc g s0_0 x1001_2 x1002_2) ∧ Aside0 (KeepBut w wc g none) ∧ Aside0 (Below w0.heap.size w0 wc))
 case first =>
  have H := HC3.out
  clear HC3
  by_cases c10 : (wrap64 (1 + t362)) ≤ 6
  ·rw [if_pos c10] at H
   have c10b0 := decide_eq_true c10
   clear c10
   (first | rw [c10b0] | (simp only [i64_w, i32_w]; rw [c10b0]) | skip)
   replace H := Option.bind_eq_some_iff.mp H
   obtain ⟨⟨t366, t367, t368, t369, t370⟩, A110, H⟩ := H
   try dsimp only at H
   have A11 := A_ A110
   clear A110
   have H' := A_ H
   clear H
   go_wp2_with (first | ((with_reducible refine gate_callee (f := 82) rfl ?_); refine gL_ (some 12) Try.func82 #[.pointer (some ⟨g, 0, none⟩)] ?_; (with_reducible refine (spec_l3Opd.calls g s0_0 t363 t364 t366 t367 t368 t369 t370 w0 _ ?side1 ?side2 A11.out).mono ?_); (case side1 => exact hI0_); (case side2 => exact (have := GeI.mk (IsS102.ge HI0.out); bw_ HB.out)); rintro e w12 ⟨rfl, hi, hb, hk⟩; refine ⟨_, rfl, ?_⟩; replace BK361 := A_ (KeepBut.blk hk (g' := gb361) (o := .cells #[.int .i64 0, .int .i64 0, .int .i64 0, .int .i64 0, .int .i64 0, .int .i64 0, .int .i64 0, .int .i64 0] 98 (0, 0)) (by refine bk_ ?_; refine blk_far ?_ NB361_365.out _; refine bk_ ?_; refine blk_far ?_ NB361_365.out _; refine bk_ ?_; refine blk_far ?_ NB361_365.out _; refine bk_ ?_; refine blk_far ?_ NB361_365.out _; refine bk_ ?_; refine blk_far ?_ NB361_365.out _; refine bk_ ?_; refine blk_far ?_ NB361_365.out _; refine bk_ ?_; refine blk_far ?_ NB361_365.out _; refine bk_ ?_; refine blk_far ?_ NB361_365.out _; refine bk_ ?_; exact BK361.out) NB361_0.out (by simp)); replace BK365 := A_ (KeepBut.blk hk (g' := gb365) (o := .cells #[.int .i64 (wrap64 (1 + t362)), .int .i64 0, .int .i64 0, .int .i64 0, .int .i64 0, .int .i64 0, .int .i64 0, .int .i64 0] 98 (0, 0)) (by exact bk_ (bp8_ (bk_ BK365.out))) NB365_0.out (by simp)); replace HK := A_ (KeepBut.trans d14_ hk (.inl rfl)); replace HB := A_ (hb); replace HI0 := A_ (hi); clear hb hk hi; have hnb13 := NB365_361.out; have hnc13 := NB361_365.out; have hnb14 := NB365_0.out; have hnc14 := NB0_365.out; obtain ⟨y15_0, y15_1, y15_2, y15_3, y15_4, y15_5, y15_6, y15_7, z15_0, z15_1, z15_2, z15_3, z15_4, z15_5, z15_6, z15_7⟩ := cz8_ BK365.out))
   go_meet
   case rel => exact ⟨_, (t369), (t370), (t366), (t367), (t368), H', ⟨by first | omega | exact Nat.le_refl _⟩, ⟨by refine bk_ ?_; refine blk_far ?_ NB361_365.out _; refine bk_ ?_; refine blk_far ?_ NB361_365.out _; refine bk_ ?_; refine blk_far ?_ NB361_365.out _; refine bk_ ?_; exact BK361.out⟩, ⟨by refine bk_ ?_; refine blk_put (cs := #[.int .i64 (wrap64 (1 + t362)), .int .i64 t366, .int .i64 t367, .int .i64 0, .int .i64 0, .int .i64 0, .int .i64 0, .int .i64 0]) ?_ 3 _ rfl; refine bk_ ?_; refine blk_put (cs := #[.int .i64 (wrap64 (1 + t362)), .int .i64 t366, .int .i64 0, .int .i64 0, .int .i64 0, .int .i64 0, .int .i64 0, .int .i64 0]) ?_ 2 _ rfl; refine bk_ ?_; refine blk_put (cs := #[.int .i64 (wrap64 (1 + t362)), .int .i64 0, .int .i64 0, .int .i64 0, .int .i64 0, .int .i64 0, .int .i64 0, .int .i64 0]) ?_ 1 _ rfl; refine bk_ ?_; exact BK365.out⟩, ⟨hI0_⟩, ⟨by repeat (first | (with_reducible first | exact HK.out | apply KeepBut.set_ | apply keep_drewN | apply keep_drew | apply keep_alloc | refine keep_far ?_ GW361.out _ | refine keep_far ?_ GW365.out _) | exact HK.out)⟩, ⟨(have := GeI.mk (IsS102.ge HI0.out); bw_ HB.out)⟩⟩
  ·rw [if_neg c10] at H
   have c10b0 := decide_eq_false c10
   clear c10
   (first | rw [c10b0] | (simp only [i64_w, i32_w]; rw [c10b0]) | skip)
   have H' := A_ H
   clear H
   go_wp2
   go_meet
   case rel => exact ⟨_, (t363), (t364), (0), (0), (0), H', ⟨by first | omega | exact Nat.le_refl _⟩, ⟨by refine bk_ ?_; refine blk_far ?_ NB361_365.out _; refine bk_ ?_; refine blk_far ?_ NB361_365.out _; refine bk_ ?_; refine blk_far ?_ NB361_365.out _; refine bk_ ?_; refine blk_far ?_ NB361_365.out _; refine bk_ ?_; refine blk_far ?_ NB361_365.out _; refine bk_ ?_; refine blk_far ?_ NB361_365.out _; refine bk_ ?_; refine blk_far ?_ NB361_365.out _; refine bk_ ?_; refine blk_far ?_ NB361_365.out _; refine bk_ ?_; exact BK361.out⟩, ⟨by exact bk_ (bp8_ (bk_ BK365.out))⟩, ⟨hI0_⟩, ⟨by repeat (first | (with_reducible first | exact HK.out | apply KeepBut.set_ | apply keep_drewN | apply keep_drew | apply keep_alloc | refine keep_far ?_ GW361.out _ | refine keep_far ?_ GW365.out _) | exact HK.out)⟩, ⟨(have := GeI.mk (IsS102.ge HI0.out); bw_ HB.out)⟩⟩
 case rest =>
  clear HC3
  try clear c1
  try clear p2
  try clear p6
  try clear c7
  try clear c8
  try clear c10
  try clear c10b0
  try clear c13
  try clear c14
  try clear y15_0 y15_1 y15_2 y15_3 y15_4 y15_5 y15_6 y15_7 z15_0 z15_1 z15_2 z15_3 z15_4 z15_5 z15_6 z15_7
  try clear y9_0 y9_1 y9_2 y9_3 y9_4 y9_5 y9_6 y9_7 z9_0 z9_1 z9_2 z9_3 z9_4 z9_5 z9_6 z9_7
  obtain ⟨kq, x1001_2, x1002_2, x366001_2, x366002_2, x366003_2, HA, HJ2, BK361, BK365, HI0, HK, HB⟩ := hcut
  cases kq with
  | zero => exact absurd HA.out (by simp [spec_l3Draw.j0])
  | succ kj2 =>
   have H := HA.out
   clear HA
   simp only [spec_l3Draw.j0] at H
   have HC16 := A_ H
   clear H
   have hnb17 := NB365_361.out
   have hnc17 := NB361_365.out
   have hnb18 := NB365_0.out
   have hnc18 := NB0_365.out
   obtain ⟨y19_0, y19_1, y19_2, y19_3, y19_4, y19_5, y19_6, y19_7, z19_0, z19_1, z19_2, z19_3, z19_4, z19_5, z19_6, z19_7⟩ := cz8_ BK365.out
   go_upto_if 16 with (fail)
   go_cut [] (fun wc => ∃ (kq : Nat) (x1001_15 : Int) (x1002_15 : Int) (x366004_15 : Int) (x366005_15 : Int) (x366006_15 : Int), Aside0 (spec_l3Draw.j1 kq s0_0 x1001_15 x1002_15 (wrap64 (1 + t362)) x366001_2 x366002_2 x366003_2 x366004_15 x366005_15 x366006_15 0 = some (r1, r2, r3, r4, r5, r6, r7, r8, r9, r10)) ∧ Aside0 (kq ≤ kj2) ∧ Aside0 (wc.heap[gb361]? = some (.cells #[.int .i64 0, .int .i64 0, .int .i64 0, .int .i64 0, .int .i64 0, .int .i64 0, .int .i64 0, .int .i64 0] 98 (0, 0))) ∧ Aside0 (wc.heap[gb365]? = some (.cells #[.int .i64 (wrap64 (1 + t362)), .int .i64 x366001_2, .int .i64 x366002_2, .int .i64 x366003_2, .int .i64 x366004_15, .int .i64 x366005_15, .int .i64 x366006_15, .int .i64 0] 98 (0, 0))) ∧ Aside0 (IsS102 w0 wc g s0_0 x1001_15 x1002_15) ∧ Aside0 (KeepBut w wc g none) ∧ Aside0 (Below w0.heap.size w0 wc))
   case first =>
    have H := HC16.out
    clear HC16
    by_cases c20 : (wrap64 (1 + t362)) ≤ 15
    ·rw [if_pos c20] at H
     have c20b0 := decide_eq_true c20
     clear c20
     (first | rw [c20b0] | (simp only [i64_w, i32_w]; rw [c20b0]) | skip)
     replace H := Option.bind_eq_some_iff.mp H
     obtain ⟨⟨t371, t372, t373, t374, t375⟩, A210, H⟩ := H
     try dsimp only at H
     have A21 := A_ A210
     clear A210
     have H' := A_ H
     clear H
     go_wp2_with (first | ((with_reducible refine gate_callee (f := 82) rfl ?_); refine gL_ (some 18) Try.func82 #[.pointer (some ⟨g, 0, none⟩)] ?_; (with_reducible refine (spec_l3Opd.calls g s0_0 x1001_2 x1002_2 t371 t372 t373 t374 t375 w0 _ ?side1 ?side2 A21.out).mono ?_); (case side1 => exact hI0_); (case side2 => exact (have := GeI.mk (IsS102.ge HI0.out); bw_ HB.out)); rintro e w22 ⟨rfl, hi, hb, hk⟩; refine ⟨_, rfl, ?_⟩; replace BK361 := A_ (KeepBut.blk hk (bk_ BK361.out) NB361_0.out (by simp)); replace BK365 := A_ (KeepBut.blk hk (bk_ BK365.out) NB365_0.out (by simp)); replace HK := A_ (KeepBut.trans d14_ hk (.inl rfl)); replace HB := A_ (hb); replace HI0 := A_ (hi); clear hb hk hi; have hnb23 := NB365_361.out; have hnc23 := NB361_365.out; have hnb24 := NB365_0.out; have hnc24 := NB0_365.out; obtain ⟨y25_0, y25_1, y25_2, y25_3, y25_4, y25_5, y25_6, y25_7, z25_0, z25_1, z25_2, z25_3, z25_4, z25_5, z25_6, z25_7⟩ := cz8_ BK365.out))
     go_meet
     case rel => exact ⟨_, (t374), (t375), (t371), (t372), (t373), H', ⟨by have := HJ2.out; first | omega | exact Nat.le_refl _⟩, ⟨by refine bk_ ?_; refine blk_far ?_ NB361_365.out _; refine bk_ ?_; refine blk_far ?_ NB361_365.out _; refine bk_ ?_; refine blk_far ?_ NB361_365.out _; refine bk_ ?_; exact BK361.out⟩, ⟨by refine bk_ ?_; refine blk_put (cs := #[.int .i64 (wrap64 (1 + t362)), .int .i64 x366001_2, .int .i64 x366002_2, .int .i64 x366003_2, .int .i64 t371, .int .i64 t372, .int .i64 0, .int .i64 0]) ?_ 6 _ rfl; refine bk_ ?_; refine blk_put (cs := #[.int .i64 (wrap64 (1 + t362)), .int .i64 x366001_2, .int .i64 x366002_2, .int .i64 x366003_2, .int .i64 t371, .int .i64 0, .int .i64 0, .int .i64 0]) ?_ 5 _ rfl; refine bk_ ?_; refine blk_put (cs := #[.int .i64 (wrap64 (1 + t362)), .int .i64 x366001_2, .int .i64 x366002_2, .int .i64 x366003_2, .int .i64 0, .int .i64 0, .int .i64 0, .int .i64 0]) ?_ 4 _ rfl; refine bk_ ?_; exact BK365.out⟩, ⟨hI0_⟩, ⟨by repeat (first | (with_reducible first | exact HK.out | apply KeepBut.set_ | apply keep_drewN | apply keep_drew | apply keep_alloc | refine keep_far ?_ GW361.out _ | refine keep_far ?_ GW365.out _) | exact HK.out)⟩, ⟨(have := GeI.mk (IsS102.ge HI0.out); bw_ HB.out)⟩⟩
    ·rw [if_neg c20] at H
     have c20b0 := decide_eq_false c20
     clear c20
     (first | rw [c20b0] | (simp only [i64_w, i32_w]; rw [c20b0]) | skip)
     have H' := A_ H
     clear H
     go_wp2
     go_meet
     case rel => exact ⟨_, (x1001_2), (x1002_2), (0), (0), (0), H', ⟨by have := HJ2.out; first | omega | exact Nat.le_refl _⟩, ⟨by refine bk_ ?_; exact BK361.out⟩, ⟨by refine bk_ ?_; exact BK365.out⟩, ⟨hI0_⟩, ⟨by repeat (first | (with_reducible first | exact HK.out | apply KeepBut.set_ | apply keep_drewN | apply keep_drew | apply keep_alloc | refine keep_far ?_ GW361.out _ | refine keep_far ?_ GW365.out _) | exact HK.out)⟩, ⟨(have := GeI.mk (IsS102.ge HI0.out); bw_ HB.out)⟩⟩
   case rest =>
    clear HC16
    try clear c1
    try clear c2
    try clear p2
    try clear p6
    try clear c7
    try clear c8
    try clear c10
    try clear c10b0
    try clear c13
    try clear c14
    try clear c17
    try clear c18
    try clear c20
    try clear c20b0
    try clear c23
    try clear c24
    try clear y15_0 y15_1 y15_2 y15_3 y15_4 y15_5 y15_6 y15_7 z15_0 z15_1 z15_2 z15_3 z15_4 z15_5 z15_6 z15_7
    try clear y19_0 y19_1 y19_2 y19_3 y19_4 y19_5 y19_6 y19_7 z19_0 z19_1 z19_2 z19_3 z19_4 z19_5 z19_6 z19_7
    try clear y25_0 y25_1 y25_2 y25_3 y25_4 y25_5 y25_6 y25_7 z25_0 z25_1 z25_2 z25_3 z25_4 z25_5 z25_6 z25_7
    try clear y9_0 y9_1 y9_2 y9_3 y9_4 y9_5 y9_6 y9_7 z9_0 z9_1 z9_2 z9_3 z9_4 z9_5 z9_6 z9_7
    try clear p2
    try clear p6
    obtain ⟨kq, x1001_15, x1002_15, x366004_15, x366005_15, x366006_15, HA, HJ15, BK361, BK365, HI0, HK, HB⟩ := hcut
    cases kq with
    | zero => exact absurd HA.out (by simp [spec_l3Draw.j1])
    | succ kj15 =>
     have H := HA.out
     clear HA
     simp only [spec_l3Draw.j1] at H
     have HC26 := A_ H
     clear H
     go_upto_region 6 with (fail)
     go_cut [20] (fun v20 wc => ∃ (kq : Nat) (x20_25 : Bool), v20 = .bool x20_25 ∧ Aside0 (spec_l3Draw.j2 kq x20_25 s0_0 x1001_15 x1002_15 (wrap64 (1 + t362)) x366001_2 x366002_2 x366003_2 x366004_15 x366005_15 x366006_15 0 = some (r1, r2, r3, r4, r5, r6, r7, r8, r9, r10)) ∧ Aside0 (kq ≤ kj15) ∧ Aside0 (wc.heap[gb361]? = some (.cells #[.int .i64 0, .int .i64 0, .int .i64 0, .int .i64 0, .int .i64 0, .int .i64 0, .int .i64 0, .int .i64 0] 98 (0, 0))) ∧ Aside0 (wc.heap[gb365]? = some (.cells #[.int .i64 (wrap64 (1 + t362)), .int .i64 x366001_2, .int .i64 x366002_2, .int .i64 x366003_2, .int .i64 x366004_15, .int .i64 x366005_15, .int .i64 x366006_15, .int .i64 0] 98 (0, 0))) ∧ Aside0 (IsS102 w0 wc g s0_0 x1001_15 x1002_15) ∧ Aside0 (KeepBut w wc g none) ∧ Aside0 (Below w0.heap.size w0 wc))
     case first =>
      have H := HC26.out
      clear HC26
      by_cases c27 : (wrap64 (1 + t362)) = 15
      ·rw [if_pos c27] at H
       have c27b0 := beq_iff_eq.mpr c27
       have c27b1 := bne_eq_false_iff_eq.mpr c27
       clear c27
       (first | rw [c27b0] | (simp only [i64_w, i32_w]; rw [c27b0]) | skip)
       have H' := A_ H
       clear H
       have hnb28 := NB365_361.out
       have hnc28 := NB361_365.out
       have hnb29 := NB365_0.out
       have hnc29 := NB0_365.out
       obtain ⟨y30_0, y30_1, y30_2, y30_3, y30_4, y30_5, y30_6, y30_7, z30_0, z30_1, z30_2, z30_3, z30_4, z30_5, z30_6, z30_7⟩ := cz8_ BK365.out
       go_wp2
       go_meet
       case rel => exact ⟨_, (true), d6_, H', ⟨by have := HJ2.out; have := HJ15.out; first | omega | exact Nat.le_refl _⟩, ⟨by refine bk_ ?_; exact BK361.out⟩, ⟨by refine bk_ ?_; exact BK365.out⟩, ⟨hI0_⟩, ⟨by repeat (first | (with_reducible first | exact HK.out | apply KeepBut.set_ | apply keep_drewN | apply keep_drew | apply keep_alloc | refine keep_far ?_ GW361.out _ | refine keep_far ?_ GW365.out _) | exact HK.out)⟩, ⟨(have := GeI.mk (IsS102.ge HI0.out); bw_ HB.out)⟩⟩
      ·rw [if_neg c27] at H
       have c27b0 := beq_eq_false_iff_ne.mpr c27
       have c27b1 := bne_iff_ne.mpr c27
       (first | rw [c27b0] | (simp only [i64_w, i32_w]; rw [c27b0]) | skip)
       have H' := A_ H
       clear H
       have hnb31 := NB365_361.out
       have hnc31 := NB361_365.out
       have hnb32 := NB365_0.out
       have hnc32 := NB0_365.out
       obtain ⟨y33_0, y33_1, y33_2, y33_3, y33_4, y33_5, y33_6, y33_7, z33_0, z33_1, z33_2, z33_3, z33_4, z33_5, z33_6, z33_7⟩ := cz8_ BK365.out
       go_wp2
       go_meet
       case rel => exact ⟨_, (((wrap64 (1 + t362)) == 16)), d6_, H', ⟨by have := HJ2.out; have := HJ15.out; first | omega | exact Nat.le_refl _⟩, ⟨by refine bk_ ?_; exact BK361.out⟩, ⟨by refine bk_ ?_; exact BK365.out⟩, ⟨hI0_⟩, ⟨by repeat (first | (with_reducible first | exact HK.out | apply KeepBut.set_ | apply keep_drewN | apply keep_drew | apply keep_alloc | refine keep_far ?_ GW361.out _ | refine keep_far ?_ GW365.out _) | exact HK.out)⟩, ⟨(have := GeI.mk (IsS102.ge HI0.out); bw_ HB.out)⟩⟩
     case rest =>
      clear HC26
      try clear c1
      try clear c2
      try clear p2
      try clear c3
      try clear p6
      try clear c7
      try clear c8
      try clear c10
      try clear c10b0
      try clear c13
      try clear c14
      try clear c17
      try clear c18
      try clear c20
      try clear c20b0
      try clear c23
      try clear c24
      try clear c27
      try clear c27b0
      try clear c27b1
      try clear c28
      try clear c29
      try clear c31
      try clear c32
      try clear y15_0 y15_1 y15_2 y15_3 y15_4 y15_5 y15_6 y15_7 z15_0 z15_1 z15_2 z15_3 z15_4 z15_5 z15_6 z15_7
      try clear y19_0 y19_1 y19_2 y19_3 y19_4 y19_5 y19_6 y19_7 z19_0 z19_1 z19_2 z19_3 z19_4 z19_5 z19_6 z19_7
      try clear y25_0 y25_1 y25_2 y25_3 y25_4 y25_5 y25_6 y25_7 z25_0 z25_1 z25_2 z25_3 z25_4 z25_5 z25_6 z25_7
      try clear y30_0 y30_1 y30_2 y30_3 y30_4 y30_5 y30_6 y30_7 z30_0 z30_1 z30_2 z30_3 z30_4 z30_5 z30_6 z30_7
      try clear y33_0 y33_1 y33_2 y33_3 y33_4 y33_5 y33_6 y33_7 z33_0 z33_1 z33_2 z33_3 z33_4 z33_5 z33_6 z33_7
      try clear y9_0 y9_1 y9_2 y9_3 y9_4 y9_5 y9_6 y9_7 z9_0 z9_1 z9_2 z9_3 z9_4 z9_5 z9_6 z9_7
      try clear p2
      try clear p6
      obtain ⟨kq, x20_25, rfl, HA, HJ25, BK361, BK365, HI0, HK, HB⟩ := hcut
      cases kq with
      | zero => exact absurd HA.out (by simp [spec_l3Draw.j2])
      | succ kj25 =>
       have H := HA.out
       clear HA
       simp only [spec_l3Draw.j2] at H
       by_cases c34 : x20_25 = true
       ·subst c34
        rw [if_pos rfl] at H
        replace H := Option.bind_eq_some_iff.mp H
        obtain ⟨⟨t376, t377, t378⟩, A350, H⟩ := H
        try dsimp only at H
        have A35 := A_ A350
        clear A350
        simp only [Option.some.injEq, Prod.mk.injEq] at H
        obtain ⟨rfl, rfl, rfl, rfl, rfl, rfl, rfl, rfl, rfl, rfl⟩ := H
        go_wp2_with (first | ((with_reducible refine gate_callee (f := 71) rfl ?_); refine gL_ (some 30) Try.func71 #[.pointer (some ⟨g, 0, none⟩), .int .i64 8] ?_; (with_reducible refine (spec_l1Below.calls g s0_0 x1001_15 x1002_15 8 t376 t377 t378 w0 _ ?side1 ?side2 A35.out).mono ?_); (case side1 => exact hI0_); (case side2 => exact (have := GeI.mk (IsS102.ge HI0.out); bw_ HB.out)); rintro e w36 ⟨rfl, hi, hb, hk⟩; refine ⟨_, rfl, ?_⟩; replace BK361 := A_ (KeepBut.blk hk (bk_ BK361.out) NB361_0.out (by simp)); replace BK365 := A_ (KeepBut.blk hk (bk_ BK365.out) NB365_0.out (by simp)); replace HK := A_ (KeepBut.trans d14_ hk (.inl rfl)); replace HB := A_ (hb); replace HI0 := A_ (hi); clear hb hk hi; have hnb37 := NB365_361.out; have hnc37 := NB361_365.out; have hnb38 := NB365_0.out; have hnc38 := NB0_365.out; obtain ⟨y39_0, y39_1, y39_2, y39_3, y39_4, y39_5, y39_6, y39_7, z39_0, z39_1, z39_2, z39_3, z39_4, z39_5, z39_6, z39_7⟩ := cz8_ BK365.out; have hnb40 := NB361_0.out; have hnc40 := NB0_361.out; obtain ⟨y41_0, y41_1, y41_2, y41_3, y41_4, y41_5, y41_6, y41_7, z41_0, z41_1, z41_2, z41_3, z41_4, z41_5, z41_6, z41_7⟩ := cz8_ BK361.out))
        refine bodyPost_ret (results_cell_row rfl _ _ gb361 98 #[.int .i64 (wrap64 (1 + t362)), .int .i64 x366001_2, .int .i64 x366002_2, .int .i64 x366003_2, .int .i64 x366004_15, .int .i64 x366005_15, .int .i64 x366006_15, .int .i64 t376] (0, 0) _ rfl ?hb_ Try.underlying98 rfl (by kernel_rfl)) rfl ?_
        (case hb_ => refine bk_ ?_; refine blk_put (cs := #[.int .i64 (wrap64 (1 + t362)), .int .i64 x366001_2, .int .i64 x366002_2, .int .i64 x366003_2, .int .i64 x366004_15, .int .i64 x366005_15, .int .i64 x366006_15, .int .i64 0]) ?_ 7 _ rfl; refine bk_ ?_; refine blk_put (cs := #[.int .i64 (wrap64 (1 + t362)), .int .i64 x366001_2, .int .i64 x366002_2, .int .i64 x366003_2, .int .i64 x366004_15, .int .i64 x366005_15, .int .i64 0, .int .i64 0]) ?_ 6 _ rfl; refine bk_ ?_; refine blk_put (cs := #[.int .i64 (wrap64 (1 + t362)), .int .i64 x366001_2, .int .i64 x366002_2, .int .i64 x366003_2, .int .i64 x366004_15, .int .i64 0, .int .i64 0, .int .i64 0]) ?_ 5 _ rfl; refine bk_ ?_; refine blk_put (cs := #[.int .i64 (wrap64 (1 + t362)), .int .i64 x366001_2, .int .i64 x366002_2, .int .i64 x366003_2, .int .i64 0, .int .i64 0, .int .i64 0, .int .i64 0]) ?_ 4 _ rfl; refine bk_ ?_; refine blk_put (cs := #[.int .i64 (wrap64 (1 + t362)), .int .i64 x366001_2, .int .i64 x366002_2, .int .i64 0, .int .i64 0, .int .i64 0, .int .i64 0, .int .i64 0]) ?_ 3 _ rfl; refine bk_ ?_; refine blk_put (cs := #[.int .i64 (wrap64 (1 + t362)), .int .i64 x366001_2, .int .i64 0, .int .i64 0, .int .i64 0, .int .i64 0, .int .i64 0, .int .i64 0]) ?_ 2 _ rfl; refine bk_ ?_; refine blk_put (cs := #[.int .i64 (wrap64 (1 + t362)), .int .i64 0, .int .i64 0, .int .i64 0, .int .i64 0, .int .i64 0, .int .i64 0, .int .i64 0]) ?_ 1 _ rfl; refine bk_ ?_; refine blk_put (cs := #[.int .i64 0, .int .i64 0, .int .i64 0, .int .i64 0, .int .i64 0, .int .i64 0, .int .i64 0, .int .i64 0]) ?_ 0 _ rfl; refine bk_ ?_; refine blk_far ?_ NB361_365.out _; refine bk_ ?_; exact BK361.out)
        exact rt_ ⟨hI0_, (have := GeI.mk (IsS102.ge HI0.out); bw_ HB.out), by repeat (first | (with_reducible first | exact HK.out | apply KeepBut.set_ | apply keep_drewN | apply keep_drew | apply keep_alloc | refine keep_far ?_ GW361.out _ | refine keep_far ?_ GW365.out _) | exact HK.out)⟩
       ·replace c34 := Bool.eq_false_iff.mpr c34
        subst c34
        rw [if_neg (show ¬ (false = true) by decide)] at H
        replace H := Option.bind_eq_some_iff.mp H
        obtain ⟨t379, A420, H⟩ := H
        try dsimp only at H
        have A42 := A_ A420
        clear A420
        by_cases c43 : t379 = true
        ·subst c43
         rw [if_pos rfl] at H
         obtain ⟨y380, hy380⟩ : ∃ y_ : List Int, y_ = (([(-128), 127, 0, (-1), 1, 2, (-3)] : List Int)) := ⟨_, rfl⟩
         replace H : ((spec_l1Int.f s0_0 x1001_15 x1002_15 y380).bind fun bt383 => (some ((wrap64 (1 + t362)), x366001_2, x366002_2, x366003_2, x366004_15, x366005_15, x366006_15, bt383.1, bt383.2.1, bt383.2.2))) = some (r1, r2, r3, r4, r5, r6, r7, r8, r9, r10) := by first | (rw [hy380]; with_reducible exact H) | (have H2_ := (Option.bind_some _ _).symm.trans H; rw [hy380]; with_reducible exact H2_) | (have H2_ := (Option.bind_some _ _).symm.trans H; with_reducible exact H2_) | with_reducible exact H | (rw [hy380]; exact H) | exact H
         have Ny380 := A_ hy380
         clear hy380
         replace H := Option.bind_eq_some_iff.mp H
         obtain ⟨⟨t383, t384, t385⟩, A440, H⟩ := H
         try dsimp only at H
         have A44 := A_ A440
         clear A440
         simp only [Option.some.injEq, Prod.mk.injEq] at H
         obtain ⟨rfl, rfl, rfl, rfl, rfl, rfl, rfl, rfl, rfl, rfl⟩ := H
         have hnb45 := NB365_361.out
         have hnc45 := NB361_365.out
         have hnb46 := NB365_0.out
         have hnc46 := NB0_365.out
         obtain ⟨y47_0, y47_1, y47_2, y47_3, y47_4, y47_5, y47_6, y47_7, z47_0, z47_1, z47_2, z47_3, z47_4, z47_5, z47_6, z47_7⟩ := cz8_ BK365.out
         go_wp2_with (first | ((with_reducible refine gate_callee (f := 57) rfl ?_); refine gL_ (some 35) Try.func57 #[.int .i64 (wrap64 (1 + t362)), .int .i64 17, .int .i64 21] ?_; (with_reducible refine (spec_l1In.calls (wrap64 (1 + t362)) 17 21 true _ A42.out).mono ?_); rintro e w' ⟨rfl, ⟨nd, rfl⟩⟩; refine ⟨_, rfl, ?_⟩; (try (rw [drewN_self wc]; generalize hq_ : World.drewN wc _ = wc; have n0_ := A_ (bq_ hq_ BK361.out); have n1_ := A_ (bq_ hq_ BK365.out); have n2_ : Aside0 (IsS102 w0 wc g s0_0 x1001_15 x1002_15) := ⟨by rw [← hq_]; exact d28_⟩; have n3_ : Aside0 (KeepBut w wc g none) := ⟨by rw [← hq_]; exact d14_⟩; have n4_ : Aside0 (Below w0.heap.size w0 wc) := ⟨by rw [← hq_]; exact (have := GeI.mk (IsS102.ge HI0.out); bw_ HB.out)⟩; clear BK361 BK365 HI0 HK HB hq_; have BK361 := n0_; have BK365 := n1_; have HI0 := n2_; have HK := n3_; have HB := n4_; clear n0_ n1_ n2_ n3_ n4_; have hcq361_0 : wc.cell? ⟨gb361, 0, none⟩ = some (.int .i64 0) := (blk_cell BK361.out 0).trans rfl; have hcq361_1 : wc.cell? ⟨gb361, 1, none⟩ = some (.int .i64 0) := (blk_cell BK361.out 1).trans rfl; have hcq361_2 : wc.cell? ⟨gb361, 2, none⟩ = some (.int .i64 0) := (blk_cell BK361.out 2).trans rfl; have hcq361_3 : wc.cell? ⟨gb361, 3, none⟩ = some (.int .i64 0) := (blk_cell BK361.out 3).trans rfl; have hcq361_4 : wc.cell? ⟨gb361, 4, none⟩ = some (.int .i64 0) := (blk_cell BK361.out 4).trans rfl; have hcq361_5 : wc.cell? ⟨gb361, 5, none⟩ = some (.int .i64 0) := (blk_cell BK361.out 5).trans rfl; have hcq361_6 : wc.cell? ⟨gb361, 6, none⟩ = some (.int .i64 0) := (blk_cell BK361.out 6).trans rfl; have hcq361_7 : wc.cell? ⟨gb361, 7, none⟩ = some (.int .i64 0) := (blk_cell BK361.out 7).trans rfl; have hcq365_0 : wc.cell? ⟨gb365, 0, none⟩ = some (.int .i64 (wrap64 (1 + t362))) := (blk_cell BK365.out 0).trans rfl; have hcq365_1 : wc.cell? ⟨gb365, 1, none⟩ = some (.int .i64 x366001_2) := (blk_cell BK365.out 1).trans rfl; have hcq365_2 : wc.cell? ⟨gb365, 2, none⟩ = some (.int .i64 x366002_2) := (blk_cell BK365.out 2).trans rfl; have hcq365_3 : wc.cell? ⟨gb365, 3, none⟩ = some (.int .i64 x366003_2) := (blk_cell BK365.out 3).trans rfl; have hcq365_4 : wc.cell? ⟨gb365, 4, none⟩ = some (.int .i64 x366004_15) := (blk_cell BK365.out 4).trans rfl; have hcq365_5 : wc.cell? ⟨gb365, 5, none⟩ = some (.int .i64 x366005_15) := (blk_cell BK365.out 5).trans rfl; have hcq365_6 : wc.cell? ⟨gb365, 6, none⟩ = some (.int .i64 x366006_15) := (blk_cell BK365.out 6).trans rfl; have hcq365_7 : wc.cell? ⟨gb365, 7, none⟩ = some (.int .i64 0) := (blk_cell BK365.out 7).trans rfl))) | ((with_reducible refine gate_dst (N := 37) rfl ?_); refine Kd.R_lit (Kd.int .i64) _ 3 ?hg (N := 37) ?hd (xs := ([(-128), 127, 0, (-1), 1, 2, (-3)] : List Int)) (inner := [.int .i64 (-128), .int .i64 127, .int .i64 0, .int .i64 (-1), .int .i64 1, .int .i64 2, .int .i64 (-3)]) (ok := fun _ => True) (okp := fun _ => True) ?hr ?hp (fun _ hk => hk) trivial (Below.refl _ _) (Nat.le_refl _) (by simp) ?_; (case hd => rfl); (case hg => rfl); (case hr => first | (go_simp; done) | (go_simp; rfl)); (case hp => exact (Reps.one (show Kd.M (Kd.int .i64) _ _ _ (-128) [.int .i64 (-128)] from rfl) (Reps.one (show Kd.M (Kd.int .i64) _ _ _ 127 [.int .i64 127] from rfl) (Reps.one (show Kd.M (Kd.int .i64) _ _ _ 0 [.int .i64 0] from rfl) (Reps.one (show Kd.M (Kd.int .i64) _ _ _ (-1) [.int .i64 (-1)] from rfl) (Reps.one (show Kd.M (Kd.int .i64) _ _ _ 1 [.int .i64 1] from rfl) (Reps.one (show Kd.M (Kd.int .i64) _ _ _ 2 [.int .i64 2] from rfl) (Reps.one (show Kd.M (Kd.int .i64) _ _ _ (-3) [.int .i64 (-3)] from rfl) (Reps.none _ _))))))))); intro v381 w48 ho49 hb hg_ hnew_; clear hg_ hnew_; (first | rw [← Ny380.out] at ho49 | (simp only [Int.reduceToNat] at ho49; rw [← Ny380.out] at ho49)); have HO382 := A_ (Kd.R_lower ho49 (keep_size (w := w) (g := g) (row := none) d14_)); replace BK361 := A_ (blk_below (bk_ BK361.out) hb); replace BK365 := A_ (blk_below (bk_ BK365.out) hb); replace HK := A_ (KeepBut.trans d14_ (KeepBut.of_below hb g none) (.inl rfl)); replace HB := A_ (below_step (have := GeI.mk (IsS102.ge HI0.out); bw_ HB.out) hb); replace HI0 := A_ (IsS102.below d28_ hb); clear hb ho49; obtain ⟨Ao50, co50, eo50⟩ := Kd.R_slice HO382.out; subst eo50) | ((with_reducible refine gate_callee (f := 72) rfl ?_); refine gL_ (some 38) Try.func72 #[.pointer (some ⟨g, 0, none⟩), .slice Ao50 y380.length co50] ?_; (with_reducible refine (spec_l1Int.calls g s0_0 x1001_15 x1002_15 _ _ y380 t383 t384 t385 w0 _ ?side1 ?side2 ?side3 ?side4 ?side5 A44.out).mono ?_); (case side1 => exact hI0_); (case side2 => exact (have := GeI.mk (IsS102.ge HI0.out); bw_ HB.out)); (case side3 => repeat (first | exact (Kd.R_reads' HO382.out).2.2 | (with_reducible refine Kd.C_alloc ?_ _) | (with_reducible refine Kd.C_drewN ?_ _) | (with_reducible refine Kd.C_drew ?_))); (case side4 => exact (Kd.R_reads' HO382.out).2.1); (case side5 => exact far_slice (IsS102.own_ne HI0.out HO382.out (by decide))); rintro e w51 ⟨rfl, hi, hb, hk⟩; refine ⟨_, rfl, ?_⟩; replace BK361 := A_ (KeepBut.blk hk (bk_ BK361.out) NB361_0.out (by simp)); replace BK365 := A_ (KeepBut.blk hk (bk_ BK365.out) NB365_0.out (by simp)); replace HO382 := kI_ (hI0_ : IsS102 w0 _ g s0_0 x1001_15 x1002_15) hk HO382; replace HK := A_ (KeepBut.trans d14_ hk (.inl rfl)); replace HB := A_ (hb); replace HI0 := A_ (hi); clear hb hk hi; obtain ⟨y52_0, y52_1, y52_2, y52_3, y52_4, y52_5, y52_6, y52_7, z52_0, z52_1, z52_2, z52_3, z52_4, z52_5, z52_6, z52_7⟩ := cz8_ BK365.out; have hnb53 := NB361_0.out; have hnc53 := NB0_361.out; obtain ⟨y54_0, y54_1, y54_2, y54_3, y54_4, y54_5, y54_6, y54_7, z54_0, z54_1, z54_2, z54_3, z54_4, z54_5, z54_6, z54_7⟩ := cz8_ BK361.out))
         refine bodyPost_ret (results_cell_row rfl _ _ gb361 98 #[.int .i64 (wrap64 (1 + t362)), .int .i64 x366001_2, .int .i64 x366002_2, .int .i64 x366003_2, .int .i64 x366004_15, .int .i64 x366005_15, .int .i64 x366006_15, .int .i64 t383] (0, 0) _ rfl ?hb_ Try.underlying98 rfl (by kernel_rfl)) rfl ?_
         (case hb_ => refine bk_ ?_; refine blk_put (cs := #[.int .i64 (wrap64 (1 + t362)), .int .i64 x366001_2, .int .i64 x366002_2, .int .i64 x366003_2, .int .i64 x366004_15, .int .i64 x366005_15, .int .i64 x366006_15, .int .i64 0]) ?_ 7 _ rfl; refine bk_ ?_; refine blk_put (cs := #[.int .i64 (wrap64 (1 + t362)), .int .i64 x366001_2, .int .i64 x366002_2, .int .i64 x366003_2, .int .i64 x366004_15, .int .i64 x366005_15, .int .i64 0, .int .i64 0]) ?_ 6 _ rfl; refine bk_ ?_; refine blk_put (cs := #[.int .i64 (wrap64 (1 + t362)), .int .i64 x366001_2, .int .i64 x366002_2, .int .i64 x366003_2, .int .i64 x366004_15, .int .i64 0, .int .i64 0, .int .i64 0]) ?_ 5 _ rfl; refine bk_ ?_; refine blk_put (cs := #[.int .i64 (wrap64 (1 + t362)), .int .i64 x366001_2, .int .i64 x366002_2, .int .i64 x366003_2, .int .i64 0, .int .i64 0, .int .i64 0, .int .i64 0]) ?_ 4 _ rfl; refine bk_ ?_; refine blk_put (cs := #[.int .i64 (wrap64 (1 + t362)), .int .i64 x366001_2, .int .i64 x366002_2, .int .i64 0, .int .i64 0, .int .i64 0, .int .i64 0, .int .i64 0]) ?_ 3 _ rfl; refine bk_ ?_; refine blk_put (cs := #[.int .i64 (wrap64 (1 + t362)), .int .i64 x366001_2, .int .i64 0, .int .i64 0, .int .i64 0, .int .i64 0, .int .i64 0, .int .i64 0]) ?_ 2 _ rfl; refine bk_ ?_; refine blk_put (cs := #[.int .i64 (wrap64 (1 + t362)), .int .i64 0, .int .i64 0, .int .i64 0, .int .i64 0, .int .i64 0, .int .i64 0, .int .i64 0]) ?_ 1 _ rfl; refine bk_ ?_; refine blk_put (cs := #[.int .i64 0, .int .i64 0, .int .i64 0, .int .i64 0, .int .i64 0, .int .i64 0, .int .i64 0, .int .i64 0]) ?_ 0 _ rfl; refine bk_ ?_; refine blk_far ?_ NB361_365.out _; refine bk_ ?_; exact BK361.out)
         exact rt_ ⟨hI0_, (have := GeI.mk (IsS102.ge HI0.out); bw_ HB.out), by repeat (first | (with_reducible first | exact HK.out | apply KeepBut.set_ | apply keep_drewN | apply keep_drew | apply keep_alloc | refine keep_far ?_ GW361.out _ | refine keep_far ?_ GW365.out _) | exact HK.out)⟩
        ·replace c43 := Bool.eq_false_iff.mpr c43
         subst c43
         rw [if_neg (show ¬ (false = true) by decide)] at H
         by_cases c55 : (wrap64 (1 + t362)) = 23
         ·rw [if_pos c55] at H
          have c55b0 := beq_iff_eq.mpr c55
          have c55b1 := bne_eq_false_iff_eq.mpr c55
          clear c55
          obtain ⟨y386, hy386⟩ : ∃ y_ : List Int, y_ = (([0, 1, 2, 255] : List Int)) := ⟨_, rfl⟩
          replace H : ((spec_l1Int.f s0_0 x1001_15 x1002_15 y386).bind fun bt389 => (some ((wrap64 (1 + t362)), x366001_2, x366002_2, x366003_2, x366004_15, x366005_15, x366006_15, bt389.1, bt389.2.1, bt389.2.2))) = some (r1, r2, r3, r4, r5, r6, r7, r8, r9, r10) := by first | (rw [hy386]; with_reducible exact H) | (have H2_ := (Option.bind_some _ _).symm.trans H; rw [hy386]; with_reducible exact H2_) | (have H2_ := (Option.bind_some _ _).symm.trans H; with_reducible exact H2_) | with_reducible exact H | (rw [hy386]; exact H) | exact H
          have Ny386 := A_ hy386
          clear hy386
          replace H := Option.bind_eq_some_iff.mp H
          obtain ⟨⟨t389, t390, t391⟩, A560, H⟩ := H
          try dsimp only at H
          have A56 := A_ A560
          clear A560
          simp only [Option.some.injEq, Prod.mk.injEq] at H
          obtain ⟨rfl, rfl, rfl, rfl, rfl, rfl, rfl, rfl, rfl, rfl⟩ := H
          have hnb57 := NB365_361.out
          have hnc57 := NB361_365.out
          have hnb58 := NB365_0.out
          have hnc58 := NB0_365.out
          obtain ⟨y59_0, y59_1, y59_2, y59_3, y59_4, y59_5, y59_6, y59_7, z59_0, z59_1, z59_2, z59_3, z59_4, z59_5, z59_6, z59_7⟩ := cz8_ BK365.out
          go_wp2_with (first | ((with_reducible refine gate_callee (f := 57) rfl ?_); refine gL_ (some 35) Try.func57 #[.int .i64 (wrap64 (1 + t362)), .int .i64 17, .int .i64 21] ?_; (with_reducible refine (spec_l1In.calls (wrap64 (1 + t362)) 17 21 false _ A42.out).mono ?_); rintro e w' ⟨rfl, ⟨nd, rfl⟩⟩; refine ⟨_, rfl, ?_⟩; (try (rw [drewN_self wc]; generalize hq_ : World.drewN wc _ = wc; have n0_ := A_ (bq_ hq_ BK361.out); have n1_ := A_ (bq_ hq_ BK365.out); have n2_ : Aside0 (IsS102 w0 wc g s0_0 x1001_15 x1002_15) := ⟨by rw [← hq_]; exact d28_⟩; have n3_ : Aside0 (KeepBut w wc g none) := ⟨by rw [← hq_]; exact d14_⟩; have n4_ : Aside0 (Below w0.heap.size w0 wc) := ⟨by rw [← hq_]; exact (have := GeI.mk (IsS102.ge HI0.out); bw_ HB.out)⟩; clear BK361 BK365 HI0 HK HB hq_; have BK361 := n0_; have BK365 := n1_; have HI0 := n2_; have HK := n3_; have HB := n4_; clear n0_ n1_ n2_ n3_ n4_; have hcq361_0 : wc.cell? ⟨gb361, 0, none⟩ = some (.int .i64 0) := (blk_cell BK361.out 0).trans rfl; have hcq361_1 : wc.cell? ⟨gb361, 1, none⟩ = some (.int .i64 0) := (blk_cell BK361.out 1).trans rfl; have hcq361_2 : wc.cell? ⟨gb361, 2, none⟩ = some (.int .i64 0) := (blk_cell BK361.out 2).trans rfl; have hcq361_3 : wc.cell? ⟨gb361, 3, none⟩ = some (.int .i64 0) := (blk_cell BK361.out 3).trans rfl; have hcq361_4 : wc.cell? ⟨gb361, 4, none⟩ = some (.int .i64 0) := (blk_cell BK361.out 4).trans rfl; have hcq361_5 : wc.cell? ⟨gb361, 5, none⟩ = some (.int .i64 0) := (blk_cell BK361.out 5).trans rfl; have hcq361_6 : wc.cell? ⟨gb361, 6, none⟩ = some (.int .i64 0) := (blk_cell BK361.out 6).trans rfl; have hcq361_7 : wc.cell? ⟨gb361, 7, none⟩ = some (.int .i64 0) := (blk_cell BK361.out 7).trans rfl; have hcq365_0 : wc.cell? ⟨gb365, 0, none⟩ = some (.int .i64 (wrap64 (1 + t362))) := (blk_cell BK365.out 0).trans rfl; have hcq365_1 : wc.cell? ⟨gb365, 1, none⟩ = some (.int .i64 x366001_2) := (blk_cell BK365.out 1).trans rfl; have hcq365_2 : wc.cell? ⟨gb365, 2, none⟩ = some (.int .i64 x366002_2) := (blk_cell BK365.out 2).trans rfl; have hcq365_3 : wc.cell? ⟨gb365, 3, none⟩ = some (.int .i64 x366003_2) := (blk_cell BK365.out 3).trans rfl; have hcq365_4 : wc.cell? ⟨gb365, 4, none⟩ = some (.int .i64 x366004_15) := (blk_cell BK365.out 4).trans rfl; have hcq365_5 : wc.cell? ⟨gb365, 5, none⟩ = some (.int .i64 x366005_15) := (blk_cell BK365.out 5).trans rfl; have hcq365_6 : wc.cell? ⟨gb365, 6, none⟩ = some (.int .i64 x366006_15) := (blk_cell BK365.out 6).trans rfl; have hcq365_7 : wc.cell? ⟨gb365, 7, none⟩ = some (.int .i64 0) := (blk_cell BK365.out 7).trans rfl))) | ((with_reducible refine gate_dst (N := 45) rfl ?_); refine Kd.R_lit (Kd.int .i64) _ 3 ?hg (N := 45) ?hd (xs := ([0, 1, 2, 255] : List Int)) (inner := [.int .i64 0, .int .i64 1, .int .i64 2, .int .i64 255]) (ok := fun _ => True) (okp := fun _ => True) ?hr ?hp (fun _ hk => hk) trivial (Below.refl _ _) (Nat.le_refl _) (by simp) ?_; (case hd => rfl); (case hg => rfl); (case hr => first | (go_simp; done) | (go_simp; rfl)); (case hp => exact (Reps.one (show Kd.M (Kd.int .i64) _ _ _ 0 [.int .i64 0] from rfl) (Reps.one (show Kd.M (Kd.int .i64) _ _ _ 1 [.int .i64 1] from rfl) (Reps.one (show Kd.M (Kd.int .i64) _ _ _ 2 [.int .i64 2] from rfl) (Reps.one (show Kd.M (Kd.int .i64) _ _ _ 255 [.int .i64 255] from rfl) (Reps.none _ _)))))); intro v387 w60 ho61 hb hg_ hnew_; clear hg_ hnew_; (first | rw [← Ny386.out] at ho61 | (simp only [Int.reduceToNat] at ho61; rw [← Ny386.out] at ho61)); have HO388 := A_ (Kd.R_lower ho61 (keep_size (w := w) (g := g) (row := none) d14_)); replace BK361 := A_ (blk_below (bk_ BK361.out) hb); replace BK365 := A_ (blk_below (bk_ BK365.out) hb); replace HK := A_ (KeepBut.trans d14_ (KeepBut.of_below hb g none) (.inl rfl)); replace HB := A_ (below_step (have := GeI.mk (IsS102.ge HI0.out); bw_ HB.out) hb); replace HI0 := A_ (IsS102.below d28_ hb); clear hb ho61; obtain ⟨Ao62, co62, eo62⟩ := Kd.R_slice HO388.out; subst eo62) | ((with_reducible refine gate_callee (f := 72) rfl ?_); refine gL_ (some 46) Try.func72 #[.pointer (some ⟨g, 0, none⟩), .slice Ao62 y386.length co62] ?_; (with_reducible refine (spec_l1Int.calls g s0_0 x1001_15 x1002_15 _ _ y386 t389 t390 t391 w0 _ ?side1 ?side2 ?side3 ?side4 ?side5 A56.out).mono ?_); (case side1 => exact hI0_); (case side2 => exact (have := GeI.mk (IsS102.ge HI0.out); bw_ HB.out)); (case side3 => repeat (first | exact (Kd.R_reads' HO388.out).2.2 | (with_reducible refine Kd.C_alloc ?_ _) | (with_reducible refine Kd.C_drewN ?_ _) | (with_reducible refine Kd.C_drew ?_))); (case side4 => exact (Kd.R_reads' HO388.out).2.1); (case side5 => exact far_slice (IsS102.own_ne HI0.out HO388.out (by decide))); rintro e w63 ⟨rfl, hi, hb, hk⟩; refine ⟨_, rfl, ?_⟩; replace BK361 := A_ (KeepBut.blk hk (bk_ BK361.out) NB361_0.out (by simp)); replace BK365 := A_ (KeepBut.blk hk (bk_ BK365.out) NB365_0.out (by simp)); replace HO388 := kI_ (hI0_ : IsS102 w0 _ g s0_0 x1001_15 x1002_15) hk HO388; replace HK := A_ (KeepBut.trans d14_ hk (.inl rfl)); replace HB := A_ (hb); replace HI0 := A_ (hi); clear hb hk hi; obtain ⟨y64_0, y64_1, y64_2, y64_3, y64_4, y64_5, y64_6, y64_7, z64_0, z64_1, z64_2, z64_3, z64_4, z64_5, z64_6, z64_7⟩ := cz8_ BK365.out; have hnb65 := NB361_0.out; have hnc65 := NB0_361.out; obtain ⟨y66_0, y66_1, y66_2, y66_3, y66_4, y66_5, y66_6, y66_7, z66_0, z66_1, z66_2, z66_3, z66_4, z66_5, z66_6, z66_7⟩ := cz8_ BK361.out))
          refine bodyPost_ret (results_cell_row rfl _ _ gb361 98 #[.int .i64 (wrap64 (1 + t362)), .int .i64 x366001_2, .int .i64 x366002_2, .int .i64 x366003_2, .int .i64 x366004_15, .int .i64 x366005_15, .int .i64 x366006_15, .int .i64 t389] (0, 0) _ rfl ?hb_ Try.underlying98 rfl (by kernel_rfl)) rfl ?_
          (case hb_ => refine bk_ ?_; refine blk_put (cs := #[.int .i64 (wrap64 (1 + t362)), .int .i64 x366001_2, .int .i64 x366002_2, .int .i64 x366003_2, .int .i64 x366004_15, .int .i64 x366005_15, .int .i64 x366006_15, .int .i64 0]) ?_ 7 _ rfl; refine bk_ ?_; refine blk_put (cs := #[.int .i64 (wrap64 (1 + t362)), .int .i64 x366001_2, .int .i64 x366002_2, .int .i64 x366003_2, .int .i64 x366004_15, .int .i64 x366005_15, .int .i64 0, .int .i64 0]) ?_ 6 _ rfl; refine bk_ ?_; refine blk_put (cs := #[.int .i64 (wrap64 (1 + t362)), .int .i64 x366001_2, .int .i64 x366002_2, .int .i64 x366003_2, .int .i64 x366004_15, .int .i64 0, .int .i64 0, .int .i64 0]) ?_ 5 _ rfl; refine bk_ ?_; refine blk_put (cs := #[.int .i64 (wrap64 (1 + t362)), .int .i64 x366001_2, .int .i64 x366002_2, .int .i64 x366003_2, .int .i64 0, .int .i64 0, .int .i64 0, .int .i64 0]) ?_ 4 _ rfl; refine bk_ ?_; refine blk_put (cs := #[.int .i64 (wrap64 (1 + t362)), .int .i64 x366001_2, .int .i64 x366002_2, .int .i64 0, .int .i64 0, .int .i64 0, .int .i64 0, .int .i64 0]) ?_ 3 _ rfl; refine bk_ ?_; refine blk_put (cs := #[.int .i64 (wrap64 (1 + t362)), .int .i64 x366001_2, .int .i64 0, .int .i64 0, .int .i64 0, .int .i64 0, .int .i64 0, .int .i64 0]) ?_ 2 _ rfl; refine bk_ ?_; refine blk_put (cs := #[.int .i64 (wrap64 (1 + t362)), .int .i64 0, .int .i64 0, .int .i64 0, .int .i64 0, .int .i64 0, .int .i64 0, .int .i64 0]) ?_ 1 _ rfl; refine bk_ ?_; refine blk_put (cs := #[.int .i64 0, .int .i64 0, .int .i64 0, .int .i64 0, .int .i64 0, .int .i64 0, .int .i64 0, .int .i64 0]) ?_ 0 _ rfl; refine bk_ ?_; refine blk_far ?_ NB361_365.out _; refine bk_ ?_; exact BK361.out)
          exact rt_ ⟨hI0_, (have := GeI.mk (IsS102.ge HI0.out); bw_ HB.out), by repeat (first | (with_reducible first | exact HK.out | apply KeepBut.set_ | apply keep_drewN | apply keep_drew | apply keep_alloc | refine keep_far ?_ GW361.out _ | refine keep_far ?_ GW365.out _) | exact HK.out)⟩
         ·rw [if_neg c55] at H
          have c55b0 := beq_eq_false_iff_ne.mpr c55
          have c55b1 := bne_iff_ne.mpr c55
          simp only [Option.some.injEq, Prod.mk.injEq] at H
          obtain ⟨rfl, rfl, rfl, rfl, rfl, rfl, rfl, rfl, rfl, rfl⟩ := H
          have hnb67 := NB365_361.out
          have hnc67 := NB361_365.out
          have hnb68 := NB365_0.out
          have hnc68 := NB0_365.out
          obtain ⟨y69_0, y69_1, y69_2, y69_3, y69_4, y69_5, y69_6, y69_7, z69_0, z69_1, z69_2, z69_3, z69_4, z69_5, z69_6, z69_7⟩ := cz8_ BK365.out
          go_wp2_with (first | ((with_reducible refine gate_callee (f := 57) rfl ?_); refine gL_ (some 35) Try.func57 #[.int .i64 (wrap64 (1 + t362)), .int .i64 17, .int .i64 21] ?_; (with_reducible refine (spec_l1In.calls (wrap64 (1 + t362)) 17 21 false _ A42.out).mono ?_); rintro e w' ⟨rfl, ⟨nd, rfl⟩⟩; refine ⟨_, rfl, ?_⟩; (try (rw [drewN_self wc]; generalize hq_ : World.drewN wc _ = wc; have n0_ := A_ (bq_ hq_ BK361.out); have n1_ := A_ (bq_ hq_ BK365.out); have n2_ : Aside0 (IsS102 w0 wc g s0_0 x1001_15 x1002_15) := ⟨by rw [← hq_]; exact d28_⟩; have n3_ : Aside0 (KeepBut w wc g none) := ⟨by rw [← hq_]; exact d14_⟩; have n4_ : Aside0 (Below w0.heap.size w0 wc) := ⟨by rw [← hq_]; exact (have := GeI.mk (IsS102.ge HI0.out); bw_ HB.out)⟩; clear BK361 BK365 HI0 HK HB hq_; have BK361 := n0_; have BK365 := n1_; have HI0 := n2_; have HK := n3_; have HB := n4_; clear n0_ n1_ n2_ n3_ n4_; have hcq361_0 : wc.cell? ⟨gb361, 0, none⟩ = some (.int .i64 0) := (blk_cell BK361.out 0).trans rfl; have hcq361_1 : wc.cell? ⟨gb361, 1, none⟩ = some (.int .i64 0) := (blk_cell BK361.out 1).trans rfl; have hcq361_2 : wc.cell? ⟨gb361, 2, none⟩ = some (.int .i64 0) := (blk_cell BK361.out 2).trans rfl; have hcq361_3 : wc.cell? ⟨gb361, 3, none⟩ = some (.int .i64 0) := (blk_cell BK361.out 3).trans rfl; have hcq361_4 : wc.cell? ⟨gb361, 4, none⟩ = some (.int .i64 0) := (blk_cell BK361.out 4).trans rfl; have hcq361_5 : wc.cell? ⟨gb361, 5, none⟩ = some (.int .i64 0) := (blk_cell BK361.out 5).trans rfl; have hcq361_6 : wc.cell? ⟨gb361, 6, none⟩ = some (.int .i64 0) := (blk_cell BK361.out 6).trans rfl; have hcq361_7 : wc.cell? ⟨gb361, 7, none⟩ = some (.int .i64 0) := (blk_cell BK361.out 7).trans rfl; have hcq365_0 : wc.cell? ⟨gb365, 0, none⟩ = some (.int .i64 (wrap64 (1 + t362))) := (blk_cell BK365.out 0).trans rfl; have hcq365_1 : wc.cell? ⟨gb365, 1, none⟩ = some (.int .i64 x366001_2) := (blk_cell BK365.out 1).trans rfl; have hcq365_2 : wc.cell? ⟨gb365, 2, none⟩ = some (.int .i64 x366002_2) := (blk_cell BK365.out 2).trans rfl; have hcq365_3 : wc.cell? ⟨gb365, 3, none⟩ = some (.int .i64 x366003_2) := (blk_cell BK365.out 3).trans rfl; have hcq365_4 : wc.cell? ⟨gb365, 4, none⟩ = some (.int .i64 x366004_15) := (blk_cell BK365.out 4).trans rfl; have hcq365_5 : wc.cell? ⟨gb365, 5, none⟩ = some (.int .i64 x366005_15) := (blk_cell BK365.out 5).trans rfl; have hcq365_6 : wc.cell? ⟨gb365, 6, none⟩ = some (.int .i64 x366006_15) := (blk_cell BK365.out 6).trans rfl; have hcq365_7 : wc.cell? ⟨gb365, 7, none⟩ = some (.int .i64 0) := (blk_cell BK365.out 7).trans rfl)); have hnb70 := NB361_0.out; have hnc70 := NB0_361.out; obtain ⟨y71_0, y71_1, y71_2, y71_3, y71_4, y71_5, y71_6, y71_7, z71_0, z71_1, z71_2, z71_3, z71_4, z71_5, z71_6, z71_7⟩ := cz8_ BK361.out))
          refine bodyPost_ret (results_cell_row rfl _ _ gb361 98 #[.int .i64 (wrap64 (1 + t362)), .int .i64 x366001_2, .int .i64 x366002_2, .int .i64 x366003_2, .int .i64 x366004_15, .int .i64 x366005_15, .int .i64 x366006_15, .int .i64 0] (0, 0) _ rfl ?hb_ Try.underlying98 rfl (by kernel_rfl)) rfl ?_
          (case hb_ => exact bk_ (bp8_ (bk_ BK361.out)))
          exact rt_ ⟨hI0_, (have := GeI.mk (IsS102.ge HI0.out); bw_ HB.out), by repeat (first | (with_reducible first | exact HK.out | apply KeepBut.set_ | apply keep_drewN | apply keep_drew | apply keep_alloc | refine keep_far ?_ GW361.out _ | refine keep_far ?_ GW365.out _) | exact HK.out)⟩

/-! ### spec_l4Words: function 70 -/
def spec_l4Words.l0 : Nat → List Int → Int → List Int → Int → Int → Option (List Int × Int × Int)
 | 0, _, _, _, _, _ => none
 | k + 1, x5, x6, x1000, x1001, x1002 => if x6 > 0 then ((spec_l1Once.f x1000 x1001 x1002 8).bind fun bt398 => (if bt398.1 = true then ((spec_l1Word.f x1000 bt398.2.1 bt398.2.2).bind fun bt401 => (if x5.length < 17592186044416 then (spec_l4Words.l0 k (x5 ++ [bt401.1]) (wrap64 (x6 - 1)) x1000 bt401.2.1 bt401.2.2) else (none))) else ((spec_l3Draw.f k x1000 bt398.2.1 bt398.2.2).bind fun bt407 => ((spec_Encode.f k bt407.1 bt407.2.1 bt407.2.2.1 bt407.2.2.2.1 bt407.2.2.2.2.1 bt407.2.2.2.2.2.1 bt407.2.2.2.2.2.2.1 bt407.2.2.2.2.2.2.2.1).bind fun t417 => (if x5.length + t417.length < 17592186044416 then (spec_l4Words.l0 k (x5 ++ t417) (wrap64 (x6 - 1)) x1000 bt407.2.2.2.2.2.2.2.2.1 bt407.2.2.2.2.2.2.2.2.2) else (none)))))) else (some (x5, x1001, x1002))
def spec_l4Words.f (k : Nat) (s0_0 : List Int) (s0_1 : Int) (s0_2 : Int) (a1 : Int) : Option (List Int × Int × Int) := (spec_l1Below.f s0_0 s0_1 s0_2 a1).bind fun bt395 => (spec_l4Words.l0 k (([] : List Int)) bt395.1 s0_0 bt395.2.1 bt395.2.2)
theorem spec_l4Words.mono_l : ∀ k, (∀ y0 y1 y2 y3 y4, LeO (spec_l4Words.l0 k y0 y1 y2 y3 y4) (spec_l4Words.l0 (k + 1) y0 y1 y2 y3 y4))
 | 0 => fun _ _ _ _ _ r h => by simp [spec_l4Words.l0] at h
 | k + 1 => by
  have ih0 := spec_l4Words.mono_l k
  ·intro y0 y1 y2 y3 y4
   unfold spec_l4Words.l0
   repeat' first
   | (with_reducible exact ih0 _ _ _ _ _)
   | (with_reducible exact spec_Encode.mono _ _ _ _ _ _ _ _ _)
   | (with_reducible exact spec_l3Draw.mono _ _ _ _)
   | (with_reducible exact LeO.refl _)
   | (with_reducible exact LeO.none _)
   | (with_reducible refine LeO.ite ?_ ?_)
   | (with_reducible refine LeO.bind ?_ (fun _ => ?_))
   | exact ih0 _ _ _ _ _
   | exact spec_Encode.mono _ _ _ _ _ _ _ _ _
   | exact spec_l3Draw.mono _ _ _ _
   | exact LeO.none _
   | refine LeO.ite ?_ ?_
   | refine LeO.bind ?_ (fun _ => ?_)
theorem spec_l4Words.mono : ∀ a0 a1 a2 a3 k, LeO (spec_l4Words.f k a0 a1 a2 a3) (spec_l4Words.f (k + 1) a0 a1 a2 a3) := by
 intro a0 a1 a2 a3 k
 have ih0 := spec_l4Words.mono_l k
 unfold spec_l4Words.f
 repeat' first
   | (with_reducible exact ih0 _ _ _ _ _)
   | (with_reducible exact spec_Encode.mono _ _ _ _ _ _ _ _ _)
   | (with_reducible exact spec_l3Draw.mono _ _ _ _)
   | (with_reducible exact LeO.refl _)
   | (with_reducible exact LeO.none _)
   | (with_reducible refine LeO.ite ?_ ?_)
   | (with_reducible refine LeO.bind ?_ (fun _ => ?_))
   | exact ih0 _ _ _ _ _
   | exact spec_Encode.mono _ _ _ _ _ _ _ _ _
   | exact spec_l3Draw.mono _ _ _ _
   | exact LeO.none _
   | refine LeO.ite ?_ ?_
   | refine LeO.bind ?_ (fun _ => ?_)
set_option maxHeartbeats 8000000 in
set_option maxRecDepth 100000 in
theorem spec_l4Words.calls (k : Nat) (g : Nat) (s0_0 : List Int) (s0_1 : Int) (s0_2 : Int) (a1 : Int) (r1 : List Int) (r2 : Int) (r3 : Int) (w0 w : World) (hI : IsS102 w0 w g s0_0 s0_1 s0_2) (hB : Below w0.heap.size w0 w) (h : spec_l4Words.f k s0_0 s0_1 s0_2 a1 = some (r1, r2, r3)) :
  Calls Try.prog 70 #[.pointer (some ⟨g, 0, none⟩), .int .i64 a1] w fun e w' => ∃ v0_ : Value, e = .returned (v0_) ∧ Kd.R (Kd.int .i64) 3 w' w.heap.size (fun _ => True) v0_ r1 ∧ IsS102 w0 w' g s0_0 r2 r3 ∧ Below w0.heap.size w0 w' ∧ KeepBut w w' g none := by
 have HI0 := A_ hI
 have HK := A_ (KeepBut.refl w g none)
 have HL := A_ hB.size
 clear hI
 have HW0 := A_ hB.size
 have HB := A_ hB
 clear hB
 have H : ((spec_l1Below.f s0_0 s0_1 s0_2 a1).bind fun bt395 => (spec_l4Words.l0 k (([] : List Int)) bt395.1 s0_0 bt395.2.1 bt395.2.2)) = some (r1, r2, r3) := h
 clear h
 obtain ⟨y392, hy392⟩ : ∃ y_ : List Int, y_ = (([] : List Int)) := ⟨_, rfl⟩
 replace H : ((spec_l1Below.f s0_0 s0_1 s0_2 a1).bind fun bt395 => (spec_l4Words.l0 k y392 bt395.1 s0_0 bt395.2.1 bt395.2.2)) = some (r1, r2, r3) := by first | (rw [hy392]; with_reducible exact H) | (have H2_ := (Option.bind_some _ _).symm.trans H; rw [hy392]; with_reducible exact H2_) | (have H2_ := (Option.bind_some _ _).symm.trans H; with_reducible exact H2_) | with_reducible exact H | (rw [hy392]; exact H) | exact H
 have Ny392 := A_ hy392
 clear hy392
 replace H := Option.bind_eq_some_iff.mp H
 obtain ⟨⟨t395, t396, t397⟩, A30, H⟩ := H
 try dsimp only at H
 have A3 := A_ A30
 clear A30
 have H' := A_ H
 clear H
 go_enter Try.func70, Try.ntmps70
 go_wp2_with (first | ((with_reducible refine gate_dst (N := 7) rfl ?_); refine Kd.R_lit (Kd.int .i64) _ 3 ?hg (N := 7) ?hd (xs := ([] : List Int)) (inner := []) (ok := fun _ => True) (okp := fun _ => True) ?hr ?hp (fun _ hk => hk) trivial (Below.refl _ _) (Nat.le_refl _) (by simp) ?_; (case hd => rfl); (case hg => rfl); (case hr => first | (go_simp; done) | (go_simp; rfl)); (case hp => exact (Reps.none _ _)); intro v393 w4 ho5 hb hg_ hnew_; clear hg_ hnew_; (first | rw [← Ny392.out] at ho5 | (simp only [Int.reduceToNat] at ho5; rw [← Ny392.out] at ho5)); have HO394 := A_ (Kd.R_lower ho5 (keep_size (w := w) (g := g) (row := none) d1_)); replace HK := A_ (KeepBut.trans d1_ (KeepBut.of_below hb g none) (.inl rfl)); replace HB := A_ (below_step (have := GeI.mk (IsS102.ge HI0.out); bw_ HB.out) hb); replace HI0 := A_ (IsS102.below d11_ hb); clear hb ho5) | ((with_reducible refine gate_callee (f := 71) rfl ?_); refine gL_ (some 10) Try.func71 #[.pointer (some ⟨g, 0, none⟩), .int .i64 a1] ?_; (with_reducible refine (spec_l1Below.calls g s0_0 s0_1 s0_2 a1 t395 t396 t397 w0 _ ?side1 ?side2 A3.out).mono ?_); (case side1 => exact hI0_); (case side2 => exact (have := GeI.mk (IsS102.ge HI0.out); bw_ HB.out)); rintro e w6 ⟨rfl, hi, hb, hk⟩; refine ⟨_, rfl, ?_⟩; replace HO394 := kI_ (hI0_ : IsS102 w0 _ g s0_0 s0_1 s0_2) hk HO394; replace HK := A_ (KeepBut.trans d1_ hk (.inl rfl)); replace HB := A_ (hb); replace HI0 := A_ (hi); clear hb hk hi))
 go_loopg [5, 6] k (fun kq v5 v6 w' => ∃ (x5_1 : List Int) (x6_1 : Int) (x1001_1 : Int) (x1002_1 : Int), v6 = .int .i64 x6_1 ∧ Aside0 (spec_l4Words.l0 kq x5_1 x6_1 s0_0 x1001_1 x1002_1 = some (r1, r2, r3)) ∧ Aside0 (kq ≤ k) ∧ Aside0 (Kd.R (Kd.int .i64) 3 w' w.heap.size (fun _ => True) v5 x5_1) ∧ Aside0 (IsS102 w0 w' g s0_0 x1001_1 x1002_1) ∧ Aside0 (KeepBut w w' g none) ∧ Aside0 (Below w0.heap.size w0 w'))
 case atStart => exact ⟨(y392), (t395), (t396), (t397), d6_, H', ⟨Nat.le_refl _⟩, ⟨kr_ HO394.out⟩, ⟨hI0_⟩, ⟨by repeat (first | (with_reducible first | exact HK.out | apply KeepBut.set_ | apply keep_drewN | apply keep_drew | apply keep_alloc) | exact HK.out)⟩, ⟨(have := GeI.mk (IsS102.ge HI0.out); bw_ HB.out)⟩⟩
 case round =>
  clear H'
  try clear p2
  obtain ⟨x5_1, x6_1, x1001_1, x1002_1, rfl, HA, HK1, HO_5, HI0, HK, HB⟩ := hrel
  cases gk with
  | zero => exact absurd HA.out (by simp [spec_l4Words.l0])
  | succ k1 =>
   have H := HA.out
   clear HA
   simp only [spec_l4Words.l0] at H
   by_cases c7 : x6_1 > 0
   ·rw [if_pos c7] at H
    have c7b0 := decide_eq_true c7
    clear c7
    replace H := Option.bind_eq_some_iff.mp H
    obtain ⟨⟨t398, t399, t400⟩, A80, H⟩ := H
    try dsimp only at H
    have A8 := A_ A80
    clear A80
    by_cases c9 : t398 = true
    ·subst c9
     rw [if_pos rfl] at H
     replace H := Option.bind_eq_some_iff.mp H
     obtain ⟨⟨t401, t402, t403⟩, A100, H⟩ := H
     try dsimp only at H
     have A10 := A_ A100
     clear A100
     by_cases c11 : x5_1.length < 17592186044416
     ·rw [if_pos c11] at H
      have LMc11 := A_ c11
      clear c11
      obtain ⟨y404, hy404⟩ : ∃ y_ : List Int, y_ = (x5_1 ++ [t401]) := ⟨_, rfl⟩
      replace H : (spec_l4Words.l0 k1 y404 (wrap64 (x6_1 - 1)) s0_0 t402 t403) = some (r1, r2, r3) := by first | (rw [hy404]; with_reducible exact H) | (have H2_ := (Option.bind_some _ _).symm.trans H; rw [hy404]; with_reducible exact H2_) | (have H2_ := (Option.bind_some _ _).symm.trans H; with_reducible exact H2_) | with_reducible exact H | (rw [hy404]; exact H) | exact H
      have Ny404 := A_ hy404
      clear hy404
      have H' := A_ H
      clear H
      go_wp2_with (first | ((with_reducible refine gate_callee (f := 81) rfl ?_); refine gL_ (some 16) Try.func81 #[.pointer (some ⟨g, 0, none⟩), .int .i64 8] ?_; (with_reducible refine (spec_l1Once.calls g s0_0 x1001_1 x1002_1 8 true t399 t400 w0 _ ?side1 ?side2 A8.out).mono ?_); (case side1 => exact hI0_); (case side2 => exact (have := GeI.mk (IsS102.ge HI0.out); bw_ HB.out)); rintro e w12 ⟨rfl, hi, hb, hk⟩; refine ⟨_, rfl, ?_⟩; replace HO_5 := kI_ (hI0_ : IsS102 w0 _ g s0_0 x1001_1 x1002_1) hk HO_5; replace HK := A_ (KeepBut.trans d1_ hk (.inl rfl)); replace HB := A_ (hb); replace HI0 := A_ (hi); clear hb hk hi) | ((with_reducible refine gate_callee (f := 85) rfl ?_); refine gL_ (some 19) Try.func85 #[.pointer (some ⟨g, 0, none⟩)] ?_; (with_reducible refine (spec_l1Word.calls g s0_0 t399 t400 t401 t402 t403 w0 _ ?side1 ?side2 A10.out).mono ?_); (case side1 => exact hI0_); (case side2 => exact (have := GeI.mk (IsS102.ge HI0.out); bw_ HB.out)); rintro e w13 ⟨rfl, hi, hb, hk⟩; refine ⟨_, rfl, ?_⟩; replace HO_5 := kI_ (hI0_ : IsS102 w0 _ g s0_0 t399 t400) hk HO_5; replace HK := A_ (KeepBut.trans d1_ hk (.inl rfl)); replace HB := A_ (hb); replace HI0 := A_ (hi); clear hb hk hi) | ((with_reducible refine gate_builtin (b := .append) (xs := #[.tmp 17, .tmp 20]) rfl ?_); at_builtin; refine Kd.R_append (Kd.int .i64) w.heap.size rfl (.tmp 17) (.tmp 20) 22 3 (.int .i64 0) 8 rfl Try.underlying22 info3 rfl (by decide) (by omega) u5 x5_1 t401 [.int .i64 t401] (fun _ => True) (fun _ => False) rfl rfl ?aP (fun _ hk => hk.elim) ?aF ?aO (Below.refl _ _) ?aS ?aL ?_; (case aP => exact rfl); (case aF => exact (fun _ _ => trivial)); (case aO => exact (kr_ HO_5.out)); (case aS => exact (keep_size (w := w) (g := g) (row := none) d1_)); (case aL => have := LMc11.out; omega); intro v405 w14 ho hb hg hat; rw [← Ny404.out] at ho; have n0_ := A_ (IsS102.grown d11_ hg (IsS102.own_ne HI0.out HO_5.out (by decide))); have n1_ := A_ (below_weaken (have := GeI.mk (IsS102.ge HI0.out); bw_ HB.out) HL.out hb); have n2_ := A_ (KeepBut.trans d1_ (KeepBut.of_grown hg g) (Kd.R_base2 HO_5.out)); have n3_ := A_ (ho); clear HI0; clear HB; clear HK; clear HO_5; have HI0 := n0_; have HB := n1_; have HK := n2_; have HO406 := n3_; clear n0_ n1_ n2_ n3_; clear ho hb hg hat))
      go_roundg k1
      case measure => have := HK1.out; omega
      case rel => exact ⟨(y404), (wrap64 (x6_1 - 1)), (t402), (t403), d6_, H', ⟨by have := HK1.out; omega⟩, ⟨kr_ HO406.out⟩, ⟨hI0_⟩, ⟨by repeat (first | (with_reducible first | exact HK.out | apply KeepBut.set_ | apply keep_drewN | apply keep_drew | apply keep_alloc) | exact HK.out)⟩, ⟨(have := GeI.mk (IsS102.ge HI0.out); bw_ HB.out)⟩⟩
     ·rw [if_neg c11] at H
      exact absurd H (by simp)
    ·replace c9 := Bool.eq_false_iff.mpr c9
     subst c9
     rw [if_neg (show ¬ (false = true) by decide)] at H
     replace H := Option.bind_eq_some_iff.mp H
     obtain ⟨⟨t407, t408, t409, t410, t411, t412, t413, t414, t415, t416⟩, A150, H⟩ := H
     try dsimp only at H
     have A15 := A_ A150
     clear A150
     replace H := Option.bind_eq_some_iff.mp H
     obtain ⟨t417, A160, H⟩ := H
     try dsimp only at H
     have A16 := A_ A160
     clear A160
     by_cases c17 : x5_1.length + t417.length < 17592186044416
     ·rw [if_pos c17] at H
      have LMc17 := A_ c17
      clear c17
      obtain ⟨y420, hy420⟩ : ∃ y_ : List Int, y_ = (x5_1 ++ t417) := ⟨_, rfl⟩
      replace H : (spec_l4Words.l0 k1 y420 (wrap64 (x6_1 - 1)) s0_0 t415 t416) = some (r1, r2, r3) := by first | (rw [hy420]; with_reducible exact H) | (have H2_ := (Option.bind_some _ _).symm.trans H; rw [hy420]; with_reducible exact H2_) | (have H2_ := (Option.bind_some _ _).symm.trans H; with_reducible exact H2_) | with_reducible exact H | (rw [hy420]; exact H) | exact H
      have Ny420 := A_ hy420
      clear hy420
      have H' := A_ H
      clear H
      go_wp2_with (first | ((with_reducible refine gate_callee (f := 81) rfl ?_); refine gL_ (some 16) Try.func81 #[.pointer (some ⟨g, 0, none⟩), .int .i64 8] ?_; (with_reducible refine (spec_l1Once.calls g s0_0 x1001_1 x1002_1 8 false t399 t400 w0 _ ?side1 ?side2 A8.out).mono ?_); (case side1 => exact hI0_); (case side2 => exact (have := GeI.mk (IsS102.ge HI0.out); bw_ HB.out)); rintro e w18 ⟨rfl, hi, hb, hk⟩; refine ⟨_, rfl, ?_⟩; replace HO_5 := kI_ (hI0_ : IsS102 w0 _ g s0_0 x1001_1 x1002_1) hk HO_5; replace HK := A_ (KeepBut.trans d1_ hk (.inl rfl)); replace HB := A_ (hb); replace HI0 := A_ (hi); clear hb hk hi) | ((with_reducible refine gate_callee (f := 87) rfl ?_); refine gL_ (some 24) Try.func87 #[.pointer (some ⟨g, 0, none⟩)] ?_; (with_reducible refine (spec_l3Draw.calls k1 g s0_0 t399 t400 t407 t408 t409 t410 t411 t412 t413 t414 t415 t416 w0 _ ?side1 ?side2 A15.out).mono ?_); (case side1 => exact hI0_); (case side2 => exact (have := GeI.mk (IsS102.ge HI0.out); bw_ HB.out)); rintro e w19 ⟨rfl, hi, hb, hk⟩; refine ⟨_, rfl, ?_⟩; replace HO_5 := kI_ (hI0_ : IsS102 w0 _ g s0_0 t399 t400) hk HO_5; replace HK := A_ (KeepBut.trans d1_ hk (.inl rfl)); replace HB := A_ (hb); replace HI0 := A_ (hi); clear hb hk hi) | ((with_reducible refine gate_callee (f := 86) rfl ?_); refine gL_ (some 25) Try.func86 #[.agg #[.int .i64 t407, .int .i64 t408, .int .i64 t409, .int .i64 t410, .int .i64 t411, .int .i64 t412, .int .i64 t413, .int .i64 t414]] ?_; (with_reducible refine (spec_Encode.calls k1 t407 t408 t409 t410 t411 t412 t413 t414 t417 _ A16.out).mono ?_); rintro e w20 ⟨v418, rfl, ho0, hb⟩; refine ⟨_, rfl, ?_⟩; have HO419 := A_ (Kd.R_lower (Kd.R_new' ho0 (Kd.R_lt (kr_ HO_5.out))) (keep_size (w := w) (g := g) (row := none) d1_)); replace HO_5 := A_ (Kd.R_elder' (kr_ HO_5.out) (Kd.R_base ho0) hb); replace HK := A_ (KeepBut.trans d1_ (KeepBut.of_below hb g none) (.inl rfl)); replace HB := A_ (below_step (have := GeI.mk (IsS102.ge HI0.out); bw_ HB.out) hb); replace HI0 := A_ (IsS102.below d11_ hb); clear hb; (try clear ho0); obtain ⟨Ao22, co22, eo22⟩ := Kd.R_slice HO419.out; subst eo22) | ((with_reducible refine gate_builtin (b := .append) (xs := #[.tmp 22, .tmp 25]) rfl ?_); at_builtin; refine Kd.R_append_rows (Kd.int .i64) w.heap.size rfl (.tmp 22) (.tmp 25) 22 3 (.int .i64 0) 8 rfl Try.underlying22 info3 rfl (by decide) (by omega) u5 x5_1 t417 _ _ _ (fun k_ => some k_ ≠ (.slice Ao22 t417.length co22 : Value).ownBlock) (fun _ => False) rfl rfl ?aO ?aR (fun _ _ h => h) (fun _ h => h.elim) ?aF (Below.refl _ _) ?aS ?aL ?_; (case aR => repeat (first | exact (Kd.R_reads' HO419.out).2.2 | (with_reducible refine Kd.C_alloc ?_ _) | (with_reducible refine Kd.C_drewN ?_ _) | (with_reducible refine Kd.C_drew ?_))); (case aF => exact (fun k_ hk => Kd.fresh' (Kd.R_lt (kr_ HO419.out)) k_ hk)); (case aO => exact (kr_ (Kd.R_mono HO_5.out (fun _ hk => hk.2)))); (case aS => exact (keep_size (w := w) (g := g) (row := none) d1_)); (case aL => have := LMc17.out; omega); intro v421 w21 ho hb hg hat; rw [← Ny420.out] at ho; have n0_ := A_ (IsS102.grown d11_ hg (IsS102.own_ne HI0.out HO_5.out (by decide))); have n1_ := A_ (Kd.R_after (ok := (fun _ => True)) (kr_ HO419.out) hg hat); have n2_ := A_ (below_weaken (have := GeI.mk (IsS102.ge HI0.out); bw_ HB.out) HL.out hb); have n3_ := A_ (KeepBut.trans d1_ (KeepBut.of_grown hg g) (Kd.R_base2 HO_5.out)); have n4_ := A_ (ho); clear HI0; clear HO419; clear HB; clear HK; clear HO_5; have HI0 := n0_; have HO419 := n1_; have HB := n2_; have HK := n3_; have HO422 := n4_; clear n0_ n1_ n2_ n3_ n4_; clear ho hb hg hat))
      go_roundg k1
      case measure => have := HK1.out; omega
      case rel => exact ⟨(y420), (wrap64 (x6_1 - 1)), (t415), (t416), d6_, H', ⟨by have := HK1.out; omega⟩, ⟨kr_ (Kd.R_mono HO422.out (fun _ hk => trivial))⟩, ⟨hI0_⟩, ⟨by repeat (first | (with_reducible first | exact HK.out | apply KeepBut.set_ | apply keep_drewN | apply keep_drew | apply keep_alloc) | exact HK.out)⟩, ⟨(have := GeI.mk (IsS102.ge HI0.out); bw_ HB.out)⟩⟩
     ·rw [if_neg c17] at H
      exact absurd H (by simp)
   ·rw [if_neg c7] at H
    have c7b0 := decide_eq_false c7
    clear c7
    simp only [Option.some.injEq, Prod.mk.injEq] at H
    obtain ⟨rfl, rfl, rfl⟩ := H
    go_wp2
    go_ret
    exact ⟨_, by first | rfl | (simp [errW_none, errW_some] <;> rfl) | (simp [*, errW_none, errW_some] <;> rfl), kr_ HO_5.out, hI0_, (have := GeI.mk (IsS102.ge HI0.out); bw_ HB.out), by repeat (first | (with_reducible first | exact HK.out | apply KeepBut.set_ | apply keep_drewN | apply keep_drew | apply keep_alloc) | exact HK.out)⟩

end Go.Proofs.Ytiagbfilffbljaa.PFnStored
