-- Laid by a program of this session (a changed copy of the kit's printer); Lean checks every line.
import Derived.Test.YtiagbfilffbljaaPFnMachsx0
import Derived.Test.YtiagbfilffbljaaPFnMachsx3
import Derived.Test.YtiagbfilffbljaaPFnMachsx5
import Derived.Test.YtiagbfilffbljaaPFnMachsx8
namespace Go.Proofs.Ytiagbfilffbljaa.PFnMachs
open Go.RowKit Go.Proofs.YtiagbfilffbljaaW.PrintWords Go.Proofs.YtiagbfilffbljaaW.PrintLast Go.Proofs.YtiagbfilffbljaaW.PrintMore
attribute [local go_sem] max2_int min2_int max_two min_two max_three min_three max_four min_four   -- for this text's walks alone
set_option linter.unusedVariables false
set_option linter.unusedSimpArgs false

/-! ### spec_l5Draw: function 73 -/
mutual
def spec_l5Draw.l0 : Nat → List Int → Int → List Int → Int → Int → Option (List Int × List Int × Bool × Bool × Bool × Bool × List Int × List Int × Int × Int × Int)
 | 0, _, _, _, _, _ => none
 | k + 1, x3, x4, x1000, x1001, x1002 => if x4 > 0 then ((spec_l1Word.f x1000 x1001 x1002).bind fun bt442 => (if x3.length < 17592186044416 then (spec_l5Draw.l0 k (x3 ++ [bt442.1]) (wrap64 (x4 - 1)) x1000 bt442.2.1 bt442.2.2) else (none))) else ((spec_l4Words.f k x1000 x1001 x1002 12).bind fun bt448 => ((spec_MachNew.f k bt448.1 64 64 x3).bind fun bt453 => (spec_l5Draw.l1 k 0 x1000 bt448.2.1 bt448.2.2 bt453.1 bt453.2.1 bt453.2.2.1 bt453.2.2.2.1 bt453.2.2.2.2.1 bt453.2.2.2.2.2.1 bt453.2.2.2.2.2.2.1 bt453.2.2.2.2.2.2.2.1 bt453.2.2.2.2.2.2.2.2)))
def spec_l5Draw.l1 : Nat → Int → List Int → Int → Int → List Int → List Int → Bool → Bool → Bool → Bool → List Int → List Int → Int → Option (List Int × List Int × Bool × Bool × Bool × Bool × List Int × List Int × Int × Int × Int)
 | 0, _, _, _, _, _, _, _, _, _, _, _, _, _ => none
 | k + 1, x6, x1000, x1001, x1002, x471000, x471001, x471002, x471003, x471004, x471005, x471006, x471007, x471008 => if x6 < 6 then ((spec_l1Below.f x1000 x1001 x1002 256).bind fun bt471 => ((spec_l1Int.f x1000 bt471.2.1 bt471.2.2 (([0, 2, 100, 200, 510, 3, wrap64 (bt471.1 * 2)] : List Int))).bind fun bt477 => (if 0 ≤ x6 then (if x6 < (x471001.length : Int) then (spec_l5Draw.l1 k (wrap64 (x6 + 1)) x1000 bt477.2.1 bt477.2.2 x471000 (x471001.set (x6 : Int).toNat bt477.1) x471002 x471003 x471004 x471005 x471006 x471007 x471008) else (none)) else (none)))) else ((spec_l1Int.f x1000 x1001 x1002 (([512, 500, 400] : List Int))).bind fun bt484 => (if 6 < (x471001.length : Int) then ((spec_l1Once.f x1000 bt484.2.1 bt484.2.2 2).bind fun bt488 => ((spec_l1Once.f x1000 bt488.2.1 bt488.2.2 2).bind fun bt491 => ((spec_l1Once.f x1000 bt491.2.1 bt491.2.2 2).bind fun bt494 => (spec_l5Draw.l2 k 0 x1000 bt494.2.1 bt494.2.2 x471000 (x471001.set (6 : Int).toNat bt484.1) bt488.1 bt491.1 x471004 bt494.1 x471006 x471007 x471008)))) else (none)))
def spec_l5Draw.l2 : Nat → Int → List Int → Int → Int → List Int → List Int → Bool → Bool → Bool → Bool → List Int → List Int → Int → Option (List Int × List Int × Bool × Bool × Bool × Bool × List Int × List Int × Int × Int × Int)
 | 0, _, _, _, _, _, _, _, _, _, _, _, _, _ => none
 | k + 1, x7, x1000, x1001, x1002, x471000, x471001, x471002, x471003, x471004, x471005, x471006, x471007, x471008 => if x7 < 8 then ((spec_l1Below.f x1000 x1001 x1002 32).bind fun bt497 => ((spec_l1Int.f x1000 bt497.2.1 bt497.2.2 (([0, 2, 100, 64, 65535] : List Int))).bind fun bt503 => (if 0 ≤ bt497.1 then (if bt497.1 < (x471000.length : Int) then ((spec_l1Below.f x1000 bt503.2.1 bt503.2.2 60).bind fun bt507 => ((spec_l1Word.f x1000 bt507.2.1 bt507.2.2).bind fun bt510 => (if 0 ≤ (wrap64 (80 + bt507.1)) then (if (wrap64 (80 + bt507.1)) < (x471000.length : Int) then (spec_l5Draw.l2 k (wrap64 (x7 + 1)) x1000 bt510.2.1 bt510.2.2 ((x471000.set (bt497.1 : Int).toNat bt503.1).set ((wrap64 (80 + bt507.1)) : Int).toNat bt510.1) x471001 x471002 x471003 x471004 x471005 x471006 x471007 x471008) else (none)) else (none)))) else (none)) else (none)))) else (some (x471000, x471001, x471002, x471003, x471004, x471005, x471006, x471007, x471008, x1001, x1002))
end
def spec_l5Draw.f (k : Nat) (s0_0 : List Int) (s0_1 : Int) (s0_2 : Int) : Option (List Int × List Int × Bool × Bool × Bool × Bool × List Int × List Int × Int × Int × Int) := (spec_l1Below.f s0_0 s0_1 s0_2 4).bind fun bt439 => (spec_l5Draw.l0 k (([] : List Int)) bt439.1 s0_0 bt439.2.1 bt439.2.2)
theorem spec_l5Draw.mono_l : ∀ k, (∀ y0 y1 y2 y3 y4, LeO (spec_l5Draw.l0 k y0 y1 y2 y3 y4) (spec_l5Draw.l0 (k + 1) y0 y1 y2 y3 y4)) ∧ (∀ y0 y1 y2 y3 y4 y5 y6 y7 y8 y9 y10 y11 y12, LeO (spec_l5Draw.l1 k y0 y1 y2 y3 y4 y5 y6 y7 y8 y9 y10 y11 y12) (spec_l5Draw.l1 (k + 1) y0 y1 y2 y3 y4 y5 y6 y7 y8 y9 y10 y11 y12)) ∧ (∀ y0 y1 y2 y3 y4 y5 y6 y7 y8 y9 y10 y11 y12, LeO (spec_l5Draw.l2 k y0 y1 y2 y3 y4 y5 y6 y7 y8 y9 y10 y11 y12) (spec_l5Draw.l2 (k + 1) y0 y1 y2 y3 y4 y5 y6 y7 y8 y9 y10 y11 y12))
 | 0 => ⟨fun _ _ _ _ _ r h => by simp [spec_l5Draw.l0] at h, fun _ _ _ _ _ _ _ _ _ _ _ _ _ r h => by simp [spec_l5Draw.l1] at h, fun _ _ _ _ _ _ _ _ _ _ _ _ _ r h => by simp [spec_l5Draw.l2] at h⟩
 | k + 1 => by
  obtain ⟨ih0, ih1, ih2⟩ := spec_l5Draw.mono_l k
  refine ⟨?_, ?_, ?_⟩
  ·intro y0 y1 y2 y3 y4
   unfold spec_l5Draw.l0
   repeat' first
   | (with_reducible exact ih0 _ _ _ _ _)
   | (with_reducible exact ih1 _ _ _ _ _ _ _ _ _ _ _ _ _)
   | (with_reducible exact ih2 _ _ _ _ _ _ _ _ _ _ _ _ _)
   | (with_reducible exact spec_MachNew.mono _ _ _ _ _)
   | (with_reducible exact spec_l4Words.mono _ _ _ _ _)
   | (with_reducible exact LeO.refl _)
   | (with_reducible exact LeO.none _)
   | (with_reducible refine LeO.ite ?_ ?_)
   | (with_reducible refine LeO.bind ?_ (fun _ => ?_))
   | exact ih0 _ _ _ _ _
   | exact ih1 _ _ _ _ _ _ _ _ _ _ _ _ _
   | exact ih2 _ _ _ _ _ _ _ _ _ _ _ _ _
   | exact spec_MachNew.mono _ _ _ _ _
   | exact spec_l4Words.mono _ _ _ _ _
   | exact LeO.none _
   | refine LeO.ite ?_ ?_
   | refine LeO.bind ?_ (fun _ => ?_)
  ·intro y0 y1 y2 y3 y4 y5 y6 y7 y8 y9 y10 y11 y12
   unfold spec_l5Draw.l1
   repeat' first
   | (with_reducible exact ih0 _ _ _ _ _)
   | (with_reducible exact ih1 _ _ _ _ _ _ _ _ _ _ _ _ _)
   | (with_reducible exact ih2 _ _ _ _ _ _ _ _ _ _ _ _ _)
   | (with_reducible exact spec_MachNew.mono _ _ _ _ _)
   | (with_reducible exact spec_l4Words.mono _ _ _ _ _)
   | (with_reducible exact LeO.refl _)
   | (with_reducible exact LeO.none _)
   | (with_reducible refine LeO.ite ?_ ?_)
   | (with_reducible refine LeO.bind ?_ (fun _ => ?_))
   | exact ih0 _ _ _ _ _
   | exact ih1 _ _ _ _ _ _ _ _ _ _ _ _ _
   | exact ih2 _ _ _ _ _ _ _ _ _ _ _ _ _
   | exact spec_MachNew.mono _ _ _ _ _
   | exact spec_l4Words.mono _ _ _ _ _
   | exact LeO.none _
   | refine LeO.ite ?_ ?_
   | refine LeO.bind ?_ (fun _ => ?_)
  ·intro y0 y1 y2 y3 y4 y5 y6 y7 y8 y9 y10 y11 y12
   unfold spec_l5Draw.l2
   repeat' first
   | (with_reducible exact ih0 _ _ _ _ _)
   | (with_reducible exact ih1 _ _ _ _ _ _ _ _ _ _ _ _ _)
   | (with_reducible exact ih2 _ _ _ _ _ _ _ _ _ _ _ _ _)
   | (with_reducible exact spec_MachNew.mono _ _ _ _ _)
   | (with_reducible exact spec_l4Words.mono _ _ _ _ _)
   | (with_reducible exact LeO.refl _)
   | (with_reducible exact LeO.none _)
   | (with_reducible refine LeO.ite ?_ ?_)
   | (with_reducible refine LeO.bind ?_ (fun _ => ?_))
   | exact ih0 _ _ _ _ _
   | exact ih1 _ _ _ _ _ _ _ _ _ _ _ _ _
   | exact ih2 _ _ _ _ _ _ _ _ _ _ _ _ _
   | exact spec_MachNew.mono _ _ _ _ _
   | exact spec_l4Words.mono _ _ _ _ _
   | exact LeO.none _
   | refine LeO.ite ?_ ?_
   | refine LeO.bind ?_ (fun _ => ?_)
theorem spec_l5Draw.mono : ∀ a0 a1 a2 k, LeO (spec_l5Draw.f k a0 a1 a2) (spec_l5Draw.f (k + 1) a0 a1 a2) := by
 intro a0 a1 a2 k
 obtain ⟨ih0, ih1, ih2⟩ := spec_l5Draw.mono_l k
 unfold spec_l5Draw.f
 repeat' first
   | (with_reducible exact ih0 _ _ _ _ _)
   | (with_reducible exact ih1 _ _ _ _ _ _ _ _ _ _ _ _ _)
   | (with_reducible exact ih2 _ _ _ _ _ _ _ _ _ _ _ _ _)
   | (with_reducible exact spec_MachNew.mono _ _ _ _ _)
   | (with_reducible exact spec_l4Words.mono _ _ _ _ _)
   | (with_reducible exact LeO.refl _)
   | (with_reducible exact LeO.none _)
   | (with_reducible refine LeO.ite ?_ ?_)
   | (with_reducible refine LeO.bind ?_ (fun _ => ?_))
   | exact ih0 _ _ _ _ _
   | exact ih1 _ _ _ _ _ _ _ _ _ _ _ _ _
   | exact ih2 _ _ _ _ _ _ _ _ _ _ _ _ _
   | exact spec_MachNew.mono _ _ _ _ _
   | exact spec_l4Words.mono _ _ _ _ _
   | exact LeO.none _
   | refine LeO.ite ?_ ?_
   | refine LeO.bind ?_ (fun _ => ?_)
def spec_l5Draw.T10 : Bool × List (List Nat × List Nat) := (true, [([], []), ([0], [0]), ([], []), ([], []), ([], []), ([4], [4]), ([5], [5]), ([6], [6]), ([3, 7, 5], [3, 7]), ([1, 2, 0, 1, 2, 3, 4, 5, 6, 7, 8], [1, 2]), ([9, 8, 8, 0, 1, 2, 3, 4, 5, 6, 7, 8], [8, 9])])
def spec_l5Draw.B10 : List Nat := [0, 1, 0, 0, 0, 16, 48, 112, 248, 511, 1023]
theorem spec_l5Draw.tab10 : rtab .any (opsOf Try.f73 10) = spec_l5Draw.T10 := by kernel_rfl
theorem spec_l5Draw.bits10 : waitsOk spec_l5Draw.T10.2 spec_l5Draw.B10 = true := by kernel_rfl
def spec_l5Draw.T18 : Bool × List (List Nat × List Nat) := (true, [([], []), ([0], [0]), ([], []), ([2], [2]), ([], []), ([], []), ([4, 5, 3], [4, 5]), ([1, 3, 0, 1, 2, 3, 4, 5, 6], [1, 3]), ([7, 6, 6, 0, 1, 2, 3, 4, 5, 6], [6, 7])])
def spec_l5Draw.B18 : List Nat := [0, 1, 0, 4, 0, 0, 60, 127, 255]
theorem spec_l5Draw.tab18 : rtab .any (opsOf Try.f73 18) = spec_l5Draw.T18 := by kernel_rfl
theorem spec_l5Draw.bits18 : waitsOk spec_l5Draw.T18.2 spec_l5Draw.B18 = true := by kernel_rfl
def spec_l5Draw.T19 : Bool × List (List Nat × List Nat) := (true, [([], []), ([0], [0]), ([], []), ([2], [2]), ([3], [3]), ([], []), ([5, 3], [5]), ([1, 4, 0, 1, 2, 3, 4, 5, 6], [1, 4]), ([7, 6, 6, 0, 1, 2, 3, 4, 5, 6], [6, 7])])
def spec_l5Draw.B19 : List Nat := [0, 1, 0, 4, 12, 0, 44, 127, 255]
theorem spec_l5Draw.tab19 : rtab .any (opsOf Try.f73 19) = spec_l5Draw.T19 := by kernel_rfl
theorem spec_l5Draw.bits19 : waitsOk spec_l5Draw.T19.2 spec_l5Draw.B19 = true := by kernel_rfl
set_option maxHeartbeats 8000000 in
set_option maxRecDepth 100000 in
theorem spec_l5Draw.calls (k : Nat) (g : Nat) (s0_0 : List Int) (s0_1 : Int) (s0_2 : Int) (r1 : List Int) (r2 : List Int) (r3 : Bool) (r4 : Bool) (r5 : Bool) (r6 : Bool) (r7 : List Int) (r8 : List Int) (r9 : Int) (r10 : Int) (r11 : Int) (w0 w : World) (hI : IsS102 w0 w g s0_0 s0_1 s0_2) (hB : Below w0.heap.size w0 w) (h : spec_l5Draw.f k s0_0 s0_1 s0_2 = some (r1, r2, r3, r4, r5, r6, r7, r8, r9, r10, r11)) :
  Calls Try.prog 73 #[.pointer (some ⟨g, 0, none⟩)] w fun e w' => ∃ v0_ v1_ v6_ v7_ : Value, e = .returned (.agg #[v0_, v1_, .bool r3, .bool r4, .bool r5, .bool r6, v6_, v7_, .int .i64 r9]) ∧ Kd.R (Kd.int .i64) 3 w' w.heap.size (fun k_ => some k_ ≠ (v1_ : Value).ownBlock ∧ some k_ ≠ (v6_ : Value).ownBlock ∧ some k_ ≠ (v7_ : Value).ownBlock) v0_ r1 ∧ Kd.R (Kd.int .i64) 3 w' w.heap.size (fun k_ => some k_ ≠ (v0_ : Value).ownBlock ∧ some k_ ≠ (v6_ : Value).ownBlock ∧ some k_ ≠ (v7_ : Value).ownBlock) v1_ r2 ∧ Kd.R (Kd.int .i64) 3 w' w.heap.size (fun k_ => some k_ ≠ (v0_ : Value).ownBlock ∧ some k_ ≠ (v1_ : Value).ownBlock ∧ some k_ ≠ (v7_ : Value).ownBlock) v6_ r7 ∧ Kd.R (Kd.int .i64) 3 w' w.heap.size (fun k_ => some k_ ≠ (v0_ : Value).ownBlock ∧ some k_ ≠ (v1_ : Value).ownBlock ∧ some k_ ≠ (v6_ : Value).ownBlock) v7_ r8 ∧ IsS102 w0 w' g s0_0 r10 r11 ∧ Below w0.heap.size w0 w' ∧ KeepBut w w' g none := by
 have hu28 := Try.underlying28
 have HI0 := A_ hI
 have HK := A_ (KeepBut.refl w g none)
 have HL := A_ hB.size
 clear hI
 have HW0 := A_ hB.size
 have HB := A_ hB
 clear hB
 have H : ((spec_l1Below.f s0_0 s0_1 s0_2 4).bind fun bt439 => (spec_l5Draw.l0 k (([] : List Int)) bt439.1 s0_0 bt439.2.1 bt439.2.2)) = some (r1, r2, r3, r4, r5, r6, r7, r8, r9, r10, r11) := h
 clear h
 obtain ⟨y436, hy436⟩ : ∃ y_ : List Int, y_ = (([] : List Int)) := ⟨_, rfl⟩
 replace H : ((spec_l1Below.f s0_0 s0_1 s0_2 4).bind fun bt439 => (spec_l5Draw.l0 k y436 bt439.1 s0_0 bt439.2.1 bt439.2.2)) = some (r1, r2, r3, r4, r5, r6, r7, r8, r9, r10, r11) := by first | (rw [hy436]; with_reducible exact H) | (have H2_ := (Option.bind_some _ _).symm.trans H; rw [hy436]; with_reducible exact H2_) | (have H2_ := (Option.bind_some _ _).symm.trans H; with_reducible exact H2_) | with_reducible exact H | (rw [hy436]; exact H) | exact H
 have Ny436 := A_ hy436
 clear hy436
 replace H := Option.bind_eq_some_iff.mp H
 obtain ⟨⟨t439, t440, t441⟩, A20, H⟩ := H
 try dsimp only at H
 have A2 := A_ A20
 clear A20
 have H' := A_ H
 clear H
 go_enter Try.func73, Try.ntmps73
 go_wp2_with (first | ((with_reducible refine gate_dst (N := 2) rfl ?_); refine box_event ?hg (N := 2) ?hd (cs := #[.slice none 0 0, .slice none 0 0, .bool false, .bool false, .bool false, .bool false, .slice none 0 0, .slice none 0 0, .int .i64 0]) (t := 28) ?hr ?_; (case hd => rfl); (case hg => rfl); (case hr => first | (go_simp; done) | (go_simp; rfl)); intro gb435 hg w3 hbox hb; replace HB := A_ (below_step (have := GeI.mk (IsS102.ge HI0.out); bw_ HB.out) hb); have BK435 := A_ (hbox); have GW435 := A_ ((d23_ : w.heap.size ≤ gb435)); have GE435 := A_ ((Nat.le_trans HW0.out (d23_ : w.heap.size ≤ gb435) : w0.heap.size ≤ gb435)); replace HK := A_ (KeepBut.trans d1_ (KeepBut.of_below hb g none) (.inl rfl)); have NB0_435 := A_ ((d15_ : g ≠ gb435)); have NB435_0 := A_ ((d16_ : gb435 ≠ g)); replace HI0 := A_ (IsS102.below d11_ hb); have GI435 := GeI.mk GE435.out; clear hb hbox hg) | ((with_reducible refine gate_dst (N := 8) rfl ?_); refine Kd.R_lit (Kd.int .i64) _ 3 ?hg (N := 8) ?hd (xs := ([] : List Int)) (inner := []) (ok := fun _ => True) (okp := fun _ => True) ?hr ?hp (fun _ hk => hk) trivial (Below.refl _ _) (Nat.le_refl _) (by simp) ?_; (case hd => rfl); (case hg => rfl); (case hr => first | (go_simp; done) | (go_simp; rfl)); (case hp => exact (Reps.none _ _)); intro v437 w4 ho5 hb hg_ hnew_; clear hg_ hnew_; (first | rw [← Ny436.out] at ho5 | (simp only [Int.reduceToNat] at ho5; rw [← Ny436.out] at ho5)); have HO438 := A_ (Kd.R_lower ho5 (keep_size (w := w) (g := g) (row := none) d4_)); replace BK435 := A_ (blk_below (bk_ BK435.out) hb); replace HK := A_ (KeepBut.trans d4_ (KeepBut.of_below hb g none) (.inl rfl)); replace HB := A_ (below_step (have := GeI.mk (IsS102.ge HI0.out); bw_ HB.out) hb); replace HI0 := A_ (IsS102.below d13_ hb); clear hb ho5) | ((with_reducible refine gate_callee (f := 71) rfl ?_); refine gL_ (some 10) Try.func71 #[.pointer (some ⟨g, 0, none⟩), .int .i64 4] ?_; (with_reducible refine (spec_l1Below.calls g s0_0 s0_1 s0_2 4 t439 t440 t441 w0 _ ?side1 ?side2 A2.out).mono ?_); (case side1 => repeat (first | (with_reducible first | exact HI0.out | apply IsS102.alloc | apply IsS102.drewN | apply IsS102.drew | apply IsS102.set_1 | apply IsS102.set_2 | refine IsS102.far ?_ NB0_435.out _) | exact HI0.out)); (case side2 => exact (have := GeI.mk (IsS102.ge HI0.out); bw_ HB.out)); rintro e w6 ⟨rfl, hi, hb, hk⟩; refine ⟨_, rfl, ?_⟩; replace BK435 := A_ (KeepBut.blk hk (bk_ BK435.out) NB435_0.out (by simp)); replace HO438 := A_ (Kd.R_mono (Kd.R_keep (IsS102.apart (show IsS102 w0 _ g s0_0 s0_1 s0_2 from by repeat (first | (with_reducible first | exact HI0.out | apply IsS102.alloc | apply IsS102.drewN | apply IsS102.drew | apply IsS102.set_1 | apply IsS102.set_2 | refine IsS102.far ?_ NB0_435.out _) | exact HI0.out)) (kr_ HO438.out) (by decide)) hk (fun _ h => h.2)) (fun _ h => h.1)); replace HK := A_ (KeepBut.trans d4_ hk (.inl rfl)); replace HB := A_ (hb); replace HI0 := A_ (hi); (try clear hb); (try clear hb2); (try clear hk); (try clear hi)))
 go_loopg [3, 4] k (fun kq v3 v4 w' => ∃ (x3_1 : List Int) (x4_1 : Int) (x1001_1 : Int) (x1002_1 : Int), v4 = .int .i64 x4_1 ∧ Aside0 (spec_l5Draw.l0 kq x3_1 x4_1 s0_0 x1001_1 x1002_1 = some (r1, r2, r3, r4, r5, r6, r7, r8, r9, r10, r11)) ∧ Aside0 (kq ≤ k) ∧ Aside0 (Kd.R (Kd.int .i64) 3 w' w.heap.size (fun _ => True) v3 x3_1) ∧ Aside0 (w'.heap[gb435]? = some (.cells #[(.slice none 0 0), (.slice none 0 0), .bool false, .bool false, .bool false, .bool false, (.slice none 0 0), (.slice none 0 0), .int .i64 0] 28 (0, 0))) ∧ Aside0 (IsS102 w0 w' g s0_0 x1001_1 x1002_1) ∧ Aside0 (KeepBut w w' g none) ∧ Aside0 (Below w0.heap.size w0 w'))
 case atStart => exact ⟨(y436), (t439), (t440), (t441), d3_, H', ⟨Nat.le_refl _⟩, ⟨kr_ HO438.out⟩, ⟨by refine bk_ ?_; exact BK435.out⟩, ⟨by repeat (first | (with_reducible first | exact HI0.out | apply IsS102.alloc | apply IsS102.drewN | apply IsS102.drew | apply IsS102.set_1 | apply IsS102.set_2 | refine IsS102.far ?_ NB0_435.out _) | exact HI0.out)⟩, ⟨by repeat (first | (with_reducible first | exact HK.out | apply KeepBut.set_ | apply keep_drewN | apply keep_drew | apply keep_alloc | refine keep_far ?_ GW435.out _) | exact HK.out)⟩, ⟨(have := GeI.mk (IsS102.ge HI0.out); bw_ HB.out)⟩⟩
 case round =>
  clear H'
  try clear p2
  obtain ⟨x3_1, x4_1, x1001_1, x1002_1, rfl, HA, HK1, HO_3, BK435, HI0, HK, HB⟩ := hrel
  cases gk with
  | zero => exact absurd HA.out (by simp [spec_l5Draw.l0])
  | succ k1 =>
   have H := HA.out
   clear HA
   simp only [spec_l5Draw.l0] at H
   by_cases c7 : x4_1 > 0
   ·rw [if_pos c7] at H
    have c7b0 := decide_eq_true c7
    clear c7
    replace H := Option.bind_eq_some_iff.mp H
    obtain ⟨⟨t442, t443, t444⟩, A80, H⟩ := H
    try dsimp only at H
    have A8 := A_ A80
    clear A80
    by_cases c9 : x3_1.length < 17592186044416
    ·rw [if_pos c9] at H
     have LMc9 := A_ c9
     clear c9
     obtain ⟨y445, hy445⟩ : ∃ y_ : List Int, y_ = (x3_1 ++ [t442]) := ⟨_, rfl⟩
     replace H : (spec_l5Draw.l0 k1 y445 (wrap64 (x4_1 - 1)) s0_0 t443 t444) = some (r1, r2, r3, r4, r5, r6, r7, r8, r9, r10, r11) := by first | (rw [hy445]; with_reducible exact H) | (have H2_ := (Option.bind_some _ _).symm.trans H; rw [hy445]; with_reducible exact H2_) | (have H2_ := (Option.bind_some _ _).symm.trans H; with_reducible exact H2_) | with_reducible exact H | (rw [hy445]; exact H) | exact H
     have Ny445 := A_ hy445
     clear hy445
     have H' := A_ H
     clear H
     go_wp2_with (first | ((with_reducible refine gate_callee (f := 85) rfl ?_); refine gL_ (some 17) Try.func85 #[.pointer (some ⟨g, 0, none⟩)] ?_; (with_reducible refine (spec_l1Word.calls g s0_0 x1001_1 x1002_1 t442 t443 t444 w0 _ ?side1 ?side2 A8.out).mono ?_); (case side1 => repeat (first | (with_reducible first | exact HI0.out | apply IsS102.alloc | apply IsS102.drewN | apply IsS102.drew | apply IsS102.set_1 | apply IsS102.set_2 | refine IsS102.far ?_ NB0_435.out _) | exact HI0.out)); (case side2 => exact (have := GeI.mk (IsS102.ge HI0.out); bw_ HB.out)); rintro e w10 ⟨rfl, hi, hb, hk⟩; refine ⟨_, rfl, ?_⟩; replace HO_3 := A_ (Kd.R_mono (Kd.R_keep (IsS102.apart (show IsS102 w0 _ g s0_0 x1001_1 x1002_1 from by repeat (first | (with_reducible first | exact HI0.out | apply IsS102.alloc | apply IsS102.drewN | apply IsS102.drew | apply IsS102.set_1 | apply IsS102.set_2 | refine IsS102.far ?_ NB0_435.out _) | exact HI0.out)) (kr_ HO_3.out) (by decide)) hk (fun _ h => h.2)) (fun _ h => h.1)); replace BK435 := A_ (KeepBut.blk hk (bk_ BK435.out) NB435_0.out (by simp)); replace HK := A_ (KeepBut.trans d4_ hk (.inl rfl)); replace HB := A_ (hb); replace HI0 := A_ (hi); (try clear hb); (try clear hb2); (try clear hk); (try clear hi)) | ((with_reducible refine gate_builtin (b := .append) (xs := #[.tmp 15, .tmp 18]) rfl ?_); at_builtin; refine Kd.R_append (Kd.int .i64) w.heap.size rfl (.tmp 15) (.tmp 18) 22 3 (.int .i64 0) 8 rfl Try.underlying22 info3 rfl (by decide) (by omega) u3 x3_1 t442 [.int .i64 t442] (fun _ => True) (fun _ => False) rfl rfl ?aP (fun _ hk => hk.elim) ?aF ?aO (Below.refl _ _) ?aS ?aL ?_; (case aP => exact rfl); (case aF => exact (fun _ _ => trivial)); (case aO => exact (kr_ HO_3.out)); (case aS => exact (keep_size (w := w) (g := g) (row := none) d4_)); (case aL => have := LMc9.out; omega); intro v446 w11 ho hb hg hat; rw [← Ny445.out] at ho; have n0_ := A_ (blk_grown (bk_ BK435.out) hg (Kd.R_ne HO_3.out BK435.out (by decide))); have n1_ := A_ (IsS102.grown d13_ hg (IsS102.own_ne HI0.out HO_3.out (by decide))); have n2_ := A_ (below_weaken (have := GeI.mk (IsS102.ge HI0.out); bw_ HB.out) HL.out hb); have n3_ := A_ (KeepBut.trans d4_ (KeepBut.of_grown hg g) (Kd.R_base2 HO_3.out)); have n4_ := A_ (ho); clear BK435; clear HI0; clear HB; clear HK; clear HO_3; have BK435 := n0_; have HI0 := n1_; have HB := n2_; have HK := n3_; have HO447 := n4_; clear n0_ n1_ n2_ n3_ n4_; clear ho hb hg hat))
     go_roundg k1
     case measure => have := HK1.out; omega
     case rel => exact ⟨(y445), (wrap64 (x4_1 - 1)), (t443), (t444), d3_, H', ⟨by have := HK1.out; omega⟩, ⟨kr_ HO447.out⟩, ⟨by refine bk_ ?_; exact BK435.out⟩, ⟨by repeat (first | (with_reducible first | exact HI0.out | apply IsS102.alloc | apply IsS102.drewN | apply IsS102.drew | apply IsS102.set_1 | apply IsS102.set_2 | refine IsS102.far ?_ NB0_435.out _) | exact HI0.out)⟩, ⟨by repeat (first | (with_reducible first | exact HK.out | apply KeepBut.set_ | apply keep_drewN | apply keep_drew | apply keep_alloc | refine keep_far ?_ GW435.out _) | exact HK.out)⟩, ⟨(have := GeI.mk (IsS102.ge HI0.out); bw_ HB.out)⟩⟩
    ·rw [if_neg c9] at H
     exact absurd H (by simp)
   ·rw [if_neg c7] at H
    have c7b0 := decide_eq_false c7
    clear c7
    replace H := Option.bind_eq_some_iff.mp H
    obtain ⟨⟨t448, t451, t452⟩, A120, H⟩ := H
    try dsimp only at H
    have A12 := A_ A120
    clear A120
    replace H := Option.bind_eq_some_iff.mp H
    obtain ⟨⟨t453, t456, t459, t460, t461, t462, t463, t466, t469⟩, A130, H⟩ := H
    try dsimp only at H
    have A13 := A_ A130
    clear A130
    have H' := A_ H
    clear H
    go_wp2_with (first | ((with_reducible refine gate_callee (f := 70) rfl ?_); refine gL_ (some 21) Try.func70 #[.pointer (some ⟨g, 0, none⟩), .int .i64 12] ?_; (with_reducible refine (spec_l4Words.calls k1 g s0_0 x1001_1 x1002_1 12 t448 t451 t452 w0 _ ?side1 ?side2 A12.out).mono ?_); (case side1 => repeat (first | (with_reducible first | exact HI0.out | apply IsS102.alloc | apply IsS102.drewN | apply IsS102.drew | apply IsS102.set_1 | apply IsS102.set_2 | refine IsS102.far ?_ NB0_435.out _) | exact HI0.out)); (case side2 => exact (have := GeI.mk (IsS102.ge HI0.out); bw_ HB.out)); rintro e w14 ⟨v449, rfl, ho0, hi, hb, hk⟩; refine ⟨_, rfl, ?_⟩; replace BK435 := A_ (KeepBut.blk hk (bk_ BK435.out) NB435_0.out (by simp)); have HO450 := A_ (Kd.R_lower (Kd.R_new' ho0 (Kd.R_lt (kr_ HO_3.out))) (keep_size (w := w) (g := g) (row := none) d4_)); replace HO_3 := A_ (Kd.R_mono (Kd.R_told (Kd.R_oldK (IsS102.apart (show IsS102 w0 _ g s0_0 x1001_1 x1002_1 from by repeat (first | (with_reducible first | exact HI0.out | apply IsS102.alloc | apply IsS102.drewN | apply IsS102.drew | apply IsS102.set_1 | apply IsS102.set_2 | refine IsS102.far ?_ NB0_435.out _) | exact HI0.out)) (kr_ HO_3.out) (by decide)) hk) (Kd.R_base ho0)) (fun _ h_ => h_.1)); replace HK := A_ (KeepBut.trans d4_ hk (.inl rfl)); replace HB := A_ (hb); replace HI0 := A_ (hi); (try clear hb); (try clear hb2); (try clear hk); (try clear hi); (try clear ho0); obtain ⟨Ao15, co15, eo15⟩ := Kd.R_slice HO450.out; subst eo15; obtain ⟨Ao16, co16, eo16⟩ := Kd.R_slice HO_3.out; subst eo16) | ((with_reducible refine gate_callee (f := 27) rfl ?_); refine gL_ (some 23) Try.func27 #[.slice Ao15 t448.length co15, .int .i64 64, .int .i64 64, .slice Ao16 x3_1.length co16] ?_; (with_reducible refine (spec_MachNew.calls k1 _ _ t448 64 64 _ _ x3_1 t453 t456 t459 t460 t461 t462 t463 t466 t469 _ ?side1 ?side2 ?side3 ?side4 A13.out).mono ?_); (case side1 => repeat (first | exact (Kd.R_reads' HO450.out).2.2 | (with_reducible refine Kd.C_alloc ?_ _) | (with_reducible refine Kd.C_drewN ?_ _) | (with_reducible refine Kd.C_drew ?_))); (case side2 => exact (Kd.R_reads' HO450.out).2.1); (case side3 => repeat (first | exact (Kd.R_reads' HO_3.out).2.2 | (with_reducible refine Kd.C_alloc ?_ _) | (with_reducible refine Kd.C_drewN ?_ _) | (with_reducible refine Kd.C_drew ?_))); (case side4 => exact (Kd.R_reads' HO_3.out).2.1); rintro e w17 ⟨v454, v457, v464, v467, rfl, ho0, ho1, ho2, ho3, hb⟩; refine ⟨_, rfl, ?_⟩; have HO455 := A_ (Kd.R_lower (Kd.R_new' (Kd.R_new' ho0 (Kd.R_lt (kr_ HO_3.out))) (Kd.R_lt (kr_ HO450.out))) (keep_size (w := w) (g := g) (row := none) d4_)); have HO458 := A_ (Kd.R_lower (Kd.R_new' (Kd.R_new' ho1 (Kd.R_lt (kr_ HO_3.out))) (Kd.R_lt (kr_ HO450.out))) (keep_size (w := w) (g := g) (row := none) d4_)); have HO465 := A_ (Kd.R_lower (Kd.R_new' (Kd.R_new' ho2 (Kd.R_lt (kr_ HO_3.out))) (Kd.R_lt (kr_ HO450.out))) (keep_size (w := w) (g := g) (row := none) d4_)); have HO468 := A_ (Kd.R_lower (Kd.R_new' (Kd.R_new' ho3 (Kd.R_lt (kr_ HO_3.out))) (Kd.R_lt (kr_ HO450.out))) (keep_size (w := w) (g := g) (row := none) d4_)); replace HO_3 := A_ (Kd.R_mono (Kd.R_told (Kd.R_told (Kd.R_told (Kd.R_told (Kd.R_old (kr_ HO_3.out) hb) (Kd.R_base ho0)) (Kd.R_base ho1)) (Kd.R_base ho2)) (Kd.R_base ho3)) (fun _ h_ => h_.1)); replace HO450 := A_ (Kd.R_mono (Kd.R_told (Kd.R_told (Kd.R_told (Kd.R_told (Kd.R_old (kr_ HO450.out) hb) (Kd.R_base ho0)) (Kd.R_base ho1)) (Kd.R_base ho2)) (Kd.R_base ho3)) (fun _ h_ => h_.1)); replace BK435 := A_ (blk_below (bk_ BK435.out) hb); replace HK := A_ (KeepBut.trans d4_ (KeepBut.of_below hb g none) (.inl rfl)); replace HB := A_ (below_step (have := GeI.mk (IsS102.ge HI0.out); bw_ HB.out) hb); replace HI0 := A_ (IsS102.below d13_ hb); (try clear hb); (try clear hb2); (try clear hk); (try clear hi); (try clear ho0); (try clear ho1); (try clear ho2); (try clear ho3)) | ((with_reducible refine gate_dst (N := 5) rfl ?_); refine box_event ?hg (N := 5) ?hd (cs := #[.slice none 0 0, .slice none 0 0, .bool false, .bool false, .bool false, .bool false, .slice none 0 0, .slice none 0 0, .int .i64 0]) (t := 28) ?hr ?_; (case hd => rfl); (case hg => rfl); (case hr => first | (go_simp; done) | (go_simp; rfl)); intro gb470 hg w18 hbox hb; have n0_ := A_ (Kd.R_below (kr_ HO_3.out) hb); have n1_ := A_ (Kd.R_below (kr_ HO450.out) hb); have n2_ := A_ (Kd.R_below (kr_ HO455.out) hb); have n3_ := A_ (Kd.R_below (kr_ HO458.out) hb); have n4_ := A_ (Kd.R_below (kr_ HO465.out) hb); have n5_ := A_ (Kd.R_below (kr_ HO468.out) hb); have n6_ := A_ (blk_below (bk_ BK435.out) hb); have n7_ := A_ (IsS102.below d13_ hb); have n8_ := A_ (KeepBut.trans d4_ (KeepBut.of_below hb g none) (.inl rfl)); have n9_ := A_ (below_step (have := GeI.mk (IsS102.ge HI0.out); bw_ HB.out) hb); have n10_ := A_ (hbox); have n11_ := A_ ((by rw [hg]; exact (keep_size (w := w) (g := g) (row := none) d4_) : w.heap.size ≤ gb470)); have n12_ := A_ ((Nat.le_trans HW0.out (by rw [hg]; exact (keep_size (w := w) (g := g) (row := none) d4_) : w.heap.size ≤ gb470) : w0.heap.size ≤ gb470)); have n13_ := A_ ((by rw [hg]; exact Nat.ne_of_lt (blk_lt (bk_ BK435.out)) : gb435 ≠ gb470)); have n14_ := A_ n13_.out.symm; have n15_ := A_ ((by rw [hg]; exact Nat.ne_of_lt (IsS102.lt (show IsS102 w0 _ g s0_0 t451 t452 from by repeat (first | (with_reducible first | exact HI0.out | apply IsS102.alloc | apply IsS102.drewN | apply IsS102.drew | apply IsS102.set_1 | apply IsS102.set_2 | refine IsS102.far ?_ NB0_435.out _) | exact HI0.out))) : g ≠ gb470)); have n16_ := A_ ((by rw [hg]; exact Nat.ne_of_gt (IsS102.lt (show IsS102 w0 _ g s0_0 t451 t452 from by repeat (first | (with_reducible first | exact HI0.out | apply IsS102.alloc | apply IsS102.drewN | apply IsS102.drew | apply IsS102.set_1 | apply IsS102.set_2 | refine IsS102.far ?_ NB0_435.out _) | exact HI0.out))) : gb470 ≠ g)); clear HO_3; clear HO450; clear HO455; clear HO458; clear HO465; clear HO468; clear BK435; clear HI0; clear HK; clear HB; have HO_3 := n0_; have HO450 := n1_; have HO455 := n2_; have HO458 := n3_; have HO465 := n4_; have HO468 := n5_; have BK435 := n6_; have HI0 := n7_; have HK := n8_; have HB := n9_; have BK470 := n10_; have GW470 := n11_; have GE470 := n12_; have GI470 := GeI.mk GE470.out; have NB435_470 := n13_; have NB470_435 := n14_; have NB0_470 := n15_; have NB470_0 := n16_; clear n0_ n1_ n2_ n3_ n4_ n5_ n6_ n7_ n8_ n9_ n10_ n11_ n12_ n13_ n14_ n15_ n16_; clear hb hbox hg; obtain ⟨Ao19, co19, eo19⟩ := Kd.R_slice HO455.out; subst eo19; have hnb20 := NB470_435.out; have hnc20 := NB435_470.out; have hnb21 := NB470_0.out; have hnc21 := NB0_470.out; obtain ⟨y22_0, y22_1, y22_2, y22_3, y22_4, y22_5, y22_6, y22_7, y22_8, z22_0, z22_1, z22_2, z22_3, z22_4, z22_5, z22_6, z22_7, z22_8⟩ := cz9_ BK470.out; obtain ⟨Ao23, co23, eo23⟩ := Kd.R_slice HO458.out; subst eo23; obtain ⟨Ao24, co24, eo24⟩ := Kd.R_slice HO465.out; subst eo24; obtain ⟨Ao25, co25, eo25⟩ := Kd.R_slice HO468.out; subst eo25))
    go_loopg [6] k1 (fun kq v6 w' => ∃ (x6_2 : Int) (x1001_2 : Int) (x1002_2 : Int) (x471000_2 : List Int) (x471001_2 : List Int) (x471006_2 : List Int) (x471007_2 : List Int) (u471000 : Value) (u471001 : Value) (u471006 : Value) (u471007 : Value), v6 = .int .i64 x6_2 ∧ Aside0 (spec_l5Draw.l1 kq x6_2 s0_0 x1001_2 x1002_2 x471000_2 x471001_2 t459 t460 t461 t462 x471006_2 x471007_2 t469 = some (r1, r2, r3, r4, r5, r6, r7, r8, r9, r10, r11)) ∧ Aside0 (kq ≤ k1) ∧ Aside0 (Kd.R (Kd.int .i64) 3 w' w.heap.size (fun k_ => some k_ ≠ (u471001 : Value).ownBlock ∧ some k_ ≠ (u471006 : Value).ownBlock ∧ some k_ ≠ (u471007 : Value).ownBlock) u471000 x471000_2) ∧ Aside0 (Kd.R (Kd.int .i64) 3 w' w.heap.size (fun k_ => some k_ ≠ (u471000 : Value).ownBlock ∧ some k_ ≠ (u471006 : Value).ownBlock ∧ some k_ ≠ (u471007 : Value).ownBlock) u471001 x471001_2) ∧ Aside0 (Kd.R (Kd.int .i64) 3 w' w.heap.size (fun k_ => some k_ ≠ (u471000 : Value).ownBlock ∧ some k_ ≠ (u471001 : Value).ownBlock ∧ some k_ ≠ (u471007 : Value).ownBlock) u471006 x471006_2) ∧ Aside0 (Kd.R (Kd.int .i64) 3 w' w.heap.size (fun k_ => some k_ ≠ (u471000 : Value).ownBlock ∧ some k_ ≠ (u471001 : Value).ownBlock ∧ some k_ ≠ (u471006 : Value).ownBlock) u471007 x471007_2) ∧ Aside0 (w'.heap[gb435]? = some (.cells #[(.slice none 0 0), (.slice none 0 0), .bool false, .bool false, .bool false, .bool false, (.slice none 0 0), (.slice none 0 0), .int .i64 0] 28 (0, 0))) ∧ Aside0 (w'.heap[gb470]? = some (.cells #[u471000, u471001, .bool t459, .bool t460, .bool t461, .bool t462, u471006, u471007, .int .i64 t469] 28 (0, 0))) ∧ Aside0 (IsS102 w0 w' g s0_0 x1001_2 x1002_2) ∧ Aside0 (KeepBut w w' g none) ∧ Aside0 (Below w0.heap.size w0 w'))
    case atStart => exact ⟨(0), (t451), (t452), (t453), (t456), (t463), (t466), (.slice Ao19 t453.length co19), (.slice Ao23 t456.length co23), (.slice Ao24 t463.length co24), (.slice Ao25 t466.length co25), d3_, H', ⟨Nat.le_refl _⟩, ⟨kr_ (Kd.R_mono (rf9_ (Kd.R_types HO455.out BK470.out (by decide)) (fun _ hk => hk.2)) (fun _ hk => ⟨hk.1.1.1.1, ⟨hk.1.1.1.2.1, hk.1.1.1.2.2⟩⟩))⟩, ⟨kr_ (Kd.R_mono (rf9_ (Kd.R_types HO458.out BK470.out (by decide)) (fun _ hk => hk.2)) (fun _ hk => ⟨hk.1.1.1.1, ⟨hk.1.1.1.2.1, hk.1.1.1.2.2⟩⟩))⟩, ⟨kr_ (Kd.R_mono (rf9_ (Kd.R_types HO465.out BK470.out (by decide)) (fun _ hk => hk.2)) (fun _ hk => ⟨hk.1.1.1.1, ⟨hk.1.1.1.2.1, hk.1.1.1.2.2⟩⟩))⟩, ⟨kr_ (Kd.R_mono (rf9_ (Kd.R_types HO468.out BK470.out (by decide)) (fun _ hk => hk.2)) (fun _ hk => ⟨hk.1.1.1.1, ⟨hk.1.1.1.2.1, hk.1.1.1.2.2⟩⟩))⟩, ⟨by refine bk_ ?_; refine blk_far ?_ NB435_470.out _; refine bk_ ?_; refine blk_far ?_ NB435_470.out _; refine bk_ ?_; refine blk_far ?_ NB435_470.out _; refine bk_ ?_; refine blk_far ?_ NB435_470.out _; refine bk_ ?_; refine blk_far ?_ NB435_470.out _; refine bk_ ?_; refine blk_far ?_ NB435_470.out _; refine bk_ ?_; refine blk_far ?_ NB435_470.out _; refine bk_ ?_; refine blk_far ?_ NB435_470.out _; refine bk_ ?_; refine blk_far ?_ NB435_470.out _; refine bk_ ?_; exact BK435.out⟩, ⟨by exact bk_ (bp9_ (bk_ BK470.out))⟩, ⟨by repeat (first | (with_reducible first | exact HI0.out | apply IsS102.alloc | apply IsS102.drewN | apply IsS102.drew | apply IsS102.set_1 | apply IsS102.set_2 | refine IsS102.far ?_ NB0_435.out _ | refine IsS102.far ?_ NB0_470.out _) | exact HI0.out)⟩, ⟨by repeat (first | (with_reducible first | exact HK.out | apply KeepBut.set_ | apply keep_drewN | apply keep_drew | apply keep_alloc | refine keep_far ?_ GW435.out _ | refine keep_far ?_ GW470.out _) | exact HK.out)⟩, ⟨(have := GeI.mk (IsS102.ge HI0.out); bw_ HB.out)⟩⟩
    case round =>
     clear H'
     try clear c2
     try clear p2
     try clear p6
     try clear c7
     try clear c7b0
     try clear c8
     try clear c9
     try clear c20
     try clear c21
     try clear y22_0 y22_1 y22_2 y22_3 y22_4 y22_5 y22_6 y22_7 y22_8 z22_0 z22_1 z22_2 z22_3 z22_4 z22_5 z22_6 z22_7 z22_8
     try clear p2
     obtain ⟨x6_2, x1001_2, x1002_2, x471000_2, x471001_2, x471006_2, x471007_2, u471000, u471001, u471006, u471007, rfl, HA, HK2, HO_471000, HO_471001, HO_471006, HO_471007, BK435, BK470, HI0, HK, HB⟩ := hrel
     cases gk with
     | zero => exact absurd HA.out (by simp [spec_l5Draw.l1])
     | succ k2 =>
      have H := HA.out
      clear HA
      simp only [spec_l5Draw.l1] at H
      by_cases c26 : x6_2 < 6
      ·rw [if_pos c26] at H
       have c26b0 := decide_eq_true c26
       clear c26
       replace H := Option.bind_eq_some_iff.mp H
       obtain ⟨⟨t471, t472, t473⟩, A270, H⟩ := H
       try dsimp only at H
       have A27 := A_ A270
       clear A270
       obtain ⟨y474, hy474⟩ : ∃ y_ : List Int, y_ = (([0, 2, 100, 200, 510, 3, wrap64 (t471 * 2)] : List Int)) := ⟨_, rfl⟩
       replace H : ((spec_l1Int.f s0_0 t472 t473 y474).bind fun bt477 => (if 0 ≤ x6_2 then (if x6_2 < (x471001_2.length : Int) then (spec_l5Draw.l1 k2 (wrap64 (x6_2 + 1)) s0_0 bt477.2.1 bt477.2.2 x471000_2 (x471001_2.set (x6_2 : Int).toNat bt477.1) t459 t460 t461 t462 x471006_2 x471007_2 t469) else (none)) else (none))) = some (r1, r2, r3, r4, r5, r6, r7, r8, r9, r10, r11) := by first | (rw [hy474]; with_reducible exact H) | (have H2_ := (Option.bind_some _ _).symm.trans H; rw [hy474]; with_reducible exact H2_) | (have H2_ := (Option.bind_some _ _).symm.trans H; with_reducible exact H2_) | with_reducible exact H | (rw [hy474]; exact H) | exact H
       have Ny474 := A_ hy474
       clear hy474
       replace H := Option.bind_eq_some_iff.mp H
       obtain ⟨⟨t477, t478, t479⟩, A280, H⟩ := H
       try dsimp only at H
       have A28 := A_ A280
       clear A280
       by_cases c29 : 0 ≤ x6_2
       ·rw [if_pos c29] at H
        have c29b0 := decide_eq_true c29
        clear c29
        by_cases c30 : x6_2 < (x471001_2.length : Int)
        ·rw [if_pos c30] at H
         have c30b0 := decide_eq_true c30
         clear c30
         obtain ⟨y480, hy480⟩ : ∃ y_ : List Int, y_ = (x471001_2.set (x6_2 : Int).toNat t477) := ⟨_, rfl⟩
         replace H : (spec_l5Draw.l1 k2 (wrap64 (x6_2 + 1)) s0_0 t478 t479 x471000_2 y480 t459 t460 t461 t462 x471006_2 x471007_2 t469) = some (r1, r2, r3, r4, r5, r6, r7, r8, r9, r10, r11) := by first | (rw [hy480]; with_reducible exact H) | (have H2_ := (Option.bind_some _ _).symm.trans H; rw [hy480]; with_reducible exact H2_) | (have H2_ := (Option.bind_some _ _).symm.trans H; with_reducible exact H2_) | with_reducible exact H | (rw [hy480]; exact H) | exact H
         have Ny480 := A_ hy480
         clear hy480
         have H' := A_ H
         clear H
         try go_wp2
         replace HO_471000 := A_ (Kd.R_drew HO_471000.out)
         replace HO_471001 := A_ (Kd.R_drew HO_471001.out)
         replace HO_471006 := A_ (Kd.R_drew HO_471006.out)
         replace HO_471007 := A_ (Kd.R_drew HO_471007.out)
         replace BK435 := A_ (blk_drew BK435.out)
         replace BK470 := A_ (blk_drew BK470.out)
         replace HI0 := A_ (IsS102.drew HI0.out)
         replace HK := A_ (keep_drew HK.out)
         replace HB := A_ (below_drew1 HB.out)
         refine start_ (n := 11) (S := fun w' => w'.cell? ⟨gb470, 0, none⟩ = some (u471000) ∧ w'.cell? ⟨gb470, 1, none⟩ = some (u471001) ∧ w'.cell? ⟨gb470, 2, none⟩ = some (.bool t459) ∧ w'.cell? ⟨gb470, 3, none⟩ = some (.bool t460) ∧ w'.cell? ⟨gb470, 4, none⟩ = some (.bool t461) ∧ w'.cell? ⟨gb470, 5, none⟩ = some (.bool t462) ∧ w'.cell? ⟨gb470, 6, none⟩ = some (u471006) ∧ w'.cell? ⟨gb470, 7, none⟩ = some (u471007) ∧ w'.cell? ⟨gb470, 8, none⟩ = some (.int .i64 t469)) (ds := [10]) #[false, false, false, false, false, false, false, false, false, false, false] (by kernel_rfl) rfl rfl ⟨(blk_cell BK470.out 0).trans rfl, (blk_cell BK470.out 1).trans rfl, (blk_cell BK470.out 2).trans rfl, (blk_cell BK470.out 3).trans rfl, (blk_cell BK470.out 4).trans rfl, (blk_cell BK470.out 5).trans rfl, (blk_cell BK470.out 6).trans rfl, (blk_cell BK470.out 7).trans rfl, (blk_cell BK470.out 8).trans rfl⟩ (fun hHeld => ?_); refine with_tabW spec_l5Draw.tab10 spec_l5Draw.bits10 (fun HT_ HW_ => ?_)
         generalize wr.drew = w32 at HO_471000 HO_471001 HO_471006 HO_471007 BK435 BK470 HI0 HK HB hHeld ⊢
         refine pu_ 0 (some 28) (bm_ 11 1) (any_of HT_.out (by kernel_rfl)) ?_
         refine pu_ 2 (some 30) (bm_ 11 5) (any_of HT_.out (by kernel_rfl)) ?_
         refine pu_ 3 (some 31) (bm_ 11 13) (any_of HT_.out (by kernel_rfl)) ?_
         refine pu_ 4 (some 32) (bm_ 11 29) (any_of HT_.out (by kernel_rfl)) ?_
         refine take_ (i := 1) (N := some 29) (v := ?_) (a' := ?_) (bm_ 11 31) rfl rfl (take_ofW HT_.out HW_.out (by kernel_rfl)) (fun _ _ _ h => h) (Or.inl ⟨by rfl, ?_⟩) hHeld ?_ ?_
         rotate_left
         ·rintro w' ⟨s0, s1, s2, s3, s4, s5, s6, s7, s8⟩
          go_simp
          with_reducible rfl
         rotate_left
         ·simp only [Act.put, List.setIfInBounds_toArray, List.set_cons_zero, List.set_cons_succ, i64_w, i32_w]
          rfl
         refine one_ (i := 5) (N := some 33) (bm_ 11 63) rfl rfl (one_of HT_.out (by kernel_rfl)) (by decide) (fun K hK => ?_)
         refine goes_ Try.func71 (by kernel_rfl) rfl #[.pointer (some ⟨g, 0, none⟩), .int .i64 256] (by rfl) rfl rfl d0_ ?_
         with_reducible refine (spec_l1Below.calls g s0_0 x1001_2 x1002_2 256 t471 t472 t473 w0 _ ?side1 ?side2 A27.out).mono ?_
         (case side1 => repeat (first | (with_reducible first | exact HI0.out | apply IsS102.alloc | apply IsS102.drewN | apply IsS102.drew | apply IsS102.set_1 | apply IsS102.set_2 | refine IsS102.far ?_ NB0_435.out _ | refine IsS102.far ?_ NB0_470.out _) | exact HI0.out))
         (case side2 => exact (have := GeI.mk (IsS102.ge HI0.out); bw_ HB.out))
         rintro e w33 ⟨rfl, hi, hb, hk⟩
         refine ⟨_, rfl, ?_⟩
         replace HO_471000 := A_ (Kd.R_mono (Kd.R_keep (IsS102.apart (show IsS102 w0 _ g s0_0 x1001_2 x1002_2 from by repeat (first | (with_reducible first | exact HI0.out | apply IsS102.alloc | apply IsS102.drewN | apply IsS102.drew | apply IsS102.set_1 | apply IsS102.set_2 | refine IsS102.far ?_ NB0_435.out _ | refine IsS102.far ?_ NB0_470.out _) | exact HI0.out)) (kr_ HO_471000.out) (by decide)) hk (fun _ h => h.2)) (fun _ h => h.1))
         replace HO_471001 := A_ (Kd.R_mono (Kd.R_keep (IsS102.apart (show IsS102 w0 _ g s0_0 x1001_2 x1002_2 from by repeat (first | (with_reducible first | exact HI0.out | apply IsS102.alloc | apply IsS102.drewN | apply IsS102.drew | apply IsS102.set_1 | apply IsS102.set_2 | refine IsS102.far ?_ NB0_435.out _ | refine IsS102.far ?_ NB0_470.out _) | exact HI0.out)) (kr_ HO_471001.out) (by decide)) hk (fun _ h => h.2)) (fun _ h => h.1))
         replace HO_471006 := A_ (Kd.R_mono (Kd.R_keep (IsS102.apart (show IsS102 w0 _ g s0_0 x1001_2 x1002_2 from by repeat (first | (with_reducible first | exact HI0.out | apply IsS102.alloc | apply IsS102.drewN | apply IsS102.drew | apply IsS102.set_1 | apply IsS102.set_2 | refine IsS102.far ?_ NB0_435.out _ | refine IsS102.far ?_ NB0_470.out _) | exact HI0.out)) (kr_ HO_471006.out) (by decide)) hk (fun _ h => h.2)) (fun _ h => h.1))
         replace HO_471007 := A_ (Kd.R_mono (Kd.R_keep (IsS102.apart (show IsS102 w0 _ g s0_0 x1001_2 x1002_2 from by repeat (first | (with_reducible first | exact HI0.out | apply IsS102.alloc | apply IsS102.drewN | apply IsS102.drew | apply IsS102.set_1 | apply IsS102.set_2 | refine IsS102.far ?_ NB0_435.out _ | refine IsS102.far ?_ NB0_470.out _) | exact HI0.out)) (kr_ HO_471007.out) (by decide)) hk (fun _ h => h.2)) (fun _ h => h.1))
         replace BK435 := A_ (KeepBut.blk hk (bk_ BK435.out) NB435_0.out (by simp))
         replace BK470 := A_ (KeepBut.blk hk (bk_ BK470.out) NB470_0.out (by simp))
         replace HK := A_ (KeepBut.trans d2_ hk (.inl rfl))
         replace HB := A_ (hb)
         replace HI0 := A_ (hi)
         (try clear hb)
         (try clear hb2)
         (try clear hk)
         (try clear hi)
         refine hK.out _ _ ⟨(blk_cell BK470.out 0).trans rfl, (blk_cell BK470.out 1).trans rfl, (blk_cell BK470.out 2).trans rfl, (blk_cell BK470.out 3).trans rfl, (blk_cell BK470.out 4).trans rfl, (blk_cell BK470.out 5).trans rfl, (blk_cell BK470.out 6).trans rfl, (blk_cell BK470.out 7).trans rfl, (blk_cell BK470.out 8).trans rfl⟩ (fun hHeld => ?_)
         clear hK K
         refine norm_ (a' := ?_) ?_ ?_
         rotate_left
         ·show Act.put _ (some 33) _ = _
          simp only [Act.put, List.setIfInBounds_toArray, List.set_cons_zero, List.set_cons_succ, i64_w, i32_w]
          rfl
         refine pu_ 6 (some 34) (bm_ 11 127) (any_of HT_.out (by kernel_rfl)) ?_
         refine one_ (i := 7) (N := some 35) (bm_ 11 255) rfl rfl (one_of HT_.out (by kernel_rfl)) (by decide) (fun K hK => ?_)
         refine Kd.R_lit_step (Kd.int .i64) _ 3 ?hg (N := 35) ?hd (xs := ([0, 2, 100, 200, 510, 3, wrap64 (t471 * 2)] : List Int)) (inner := [.int .i64 0, .int .i64 2, .int .i64 100, .int .i64 200, .int .i64 510, .int .i64 3, .int .i64 (wrap64 (t471 * 2))]) (ok := fun _ => True) (okp := fun _ => True) ?hr ?hp (fun _ hk => hk) trivial (Below.refl _ _) (Nat.le_refl _) (by simp) ?_; (case hd => rfl); (case hg => rfl); (case hr => first | (go_simp; done) | (go_simp; rfl)); (case hp => exact (Reps.one (show Kd.M (Kd.int .i64) _ _ _ 0 [.int .i64 0] from rfl) (Reps.one (show Kd.M (Kd.int .i64) _ _ _ 2 [.int .i64 2] from rfl) (Reps.one (show Kd.M (Kd.int .i64) _ _ _ 100 [.int .i64 100] from rfl) (Reps.one (show Kd.M (Kd.int .i64) _ _ _ 200 [.int .i64 200] from rfl) (Reps.one (show Kd.M (Kd.int .i64) _ _ _ 510 [.int .i64 510] from rfl) (Reps.one (show Kd.M (Kd.int .i64) _ _ _ 3 [.int .i64 3] from rfl) (Reps.one (show Kd.M (Kd.int .i64) _ _ _ (wrap64 (t471 * 2)) [.int .i64 (wrap64 (t471 * 2))] from rfl) (Reps.none _ _)))))))))
         intro v475 w34 ho35 hb hg_ hnew_
         clear hg_ hnew_
         (first | rw [← Ny474.out] at ho35 | (simp only [Int.reduceToNat] at ho35; rw [← Ny474.out] at ho35))
         have HO476 := A_ (Kd.R_lower (Kd.R_new' (Kd.R_new' (Kd.R_new' (Kd.R_new' ho35 (Kd.R_lt (kr_ HO_471000.out))) (Kd.R_lt (kr_ HO_471001.out))) (Kd.R_lt (kr_ HO_471006.out))) (Kd.R_lt (kr_ HO_471007.out))) (keep_size (w := w) (g := g) (row := none) d2_))
         replace HO_471000 := A_ (Kd.R_elder' (kr_ HO_471000.out) (Kd.R_base ho35) hb)
         replace HO_471001 := A_ (Kd.R_elder' (kr_ HO_471001.out) (Kd.R_base ho35) hb)
         replace HO_471006 := A_ (Kd.R_elder' (kr_ HO_471006.out) (Kd.R_base ho35) hb)
         replace HO_471007 := A_ (Kd.R_elder' (kr_ HO_471007.out) (Kd.R_base ho35) hb)
         replace BK435 := A_ (blk_below (bk_ BK435.out) hb)
         replace BK470 := A_ (blk_below (bk_ BK470.out) hb)
         replace HK := A_ (KeepBut.trans d2_ (KeepBut.of_below hb g none) (.inl rfl))
         replace HB := A_ (below_step (have := GeI.mk (IsS102.ge HI0.out); bw_ HB.out) hb)
         replace HI0 := A_ (IsS102.below d10_ hb)
         clear hb ho35
         obtain ⟨Ao36, co36, eo36⟩ := Kd.R_slice HO476.out
         (first | subst eo36 | (injection eo36 with f1_ f2_ f3_; have f4_ := f1_.symm; have f5_ := f3_.symm; clear f1_ f2_ f3_; subst f4_; subst f5_))
         refine hK.out _ _ ⟨(blk_cell BK470.out 0).trans rfl, (blk_cell BK470.out 1).trans rfl, (blk_cell BK470.out 2).trans rfl, (blk_cell BK470.out 3).trans rfl, (blk_cell BK470.out 4).trans rfl, (blk_cell BK470.out 5).trans rfl, (blk_cell BK470.out 6).trans rfl, (blk_cell BK470.out 7).trans rfl, (blk_cell BK470.out 8).trans rfl⟩ (fun hHeld => ?_)
         clear hK K
         refine norm_ (a' := ?_) ?_ ?_
         rotate_left
         ·show Act.put _ (some 35) _ = _
          simp only [Act.put, List.setIfInBounds_toArray, List.set_cons_zero, List.set_cons_succ, i64_w, i32_w]
          rfl
         refine one_ (i := 8) (N := some 36) (bm_ 11 511) rfl rfl (one_of HT_.out (by kernel_rfl)) (by decide) (fun K hK => ?_)
         refine goes_ Try.func72 (by kernel_rfl) rfl #[.pointer (some ⟨g, 0, none⟩), .slice Ao36 y474.length co36] (by rfl) rfl rfl d0_ ?_
         with_reducible refine (spec_l1Int.calls g s0_0 t472 t473 _ _ y474 t477 t478 t479 w0 _ ?side1 ?side2 ?side3 ?side4 ?side5 A28.out).mono ?_
         (case side1 => repeat (first | (with_reducible first | exact HI0.out | apply IsS102.alloc | apply IsS102.drewN | apply IsS102.drew | apply IsS102.set_1 | apply IsS102.set_2 | refine IsS102.far ?_ NB0_435.out _ | refine IsS102.far ?_ NB0_470.out _) | exact HI0.out))
         (case side2 => exact (have := GeI.mk (IsS102.ge HI0.out); bw_ HB.out))
         (case side3 => repeat (first | exact (Kd.R_reads' HO476.out).2.2 | (with_reducible refine Kd.C_alloc ?_ _) | (with_reducible refine Kd.C_drewN ?_ _) | (with_reducible refine Kd.C_drew ?_)))
         (case side4 => exact (Kd.R_reads' HO476.out).2.1)
         (case side5 => exact far_slice (IsS102.own_ne HI0.out HO476.out (by decide)))
         rintro e w37 ⟨rfl, hi, hb, hk⟩
         refine ⟨_, rfl, ?_⟩
         replace HO_471000 := A_ (Kd.R_mono (Kd.R_keep (IsS102.apart (show IsS102 w0 _ g s0_0 t472 t473 from by repeat (first | (with_reducible first | exact HI0.out | apply IsS102.alloc | apply IsS102.drewN | apply IsS102.drew | apply IsS102.set_1 | apply IsS102.set_2 | refine IsS102.far ?_ NB0_435.out _ | refine IsS102.far ?_ NB0_470.out _) | exact HI0.out)) (kr_ HO_471000.out) (by decide)) hk (fun _ h => h.2)) (fun _ h => h.1))
         replace HO_471001 := A_ (Kd.R_mono (Kd.R_keep (IsS102.apart (show IsS102 w0 _ g s0_0 t472 t473 from by repeat (first | (with_reducible first | exact HI0.out | apply IsS102.alloc | apply IsS102.drewN | apply IsS102.drew | apply IsS102.set_1 | apply IsS102.set_2 | refine IsS102.far ?_ NB0_435.out _ | refine IsS102.far ?_ NB0_470.out _) | exact HI0.out)) (kr_ HO_471001.out) (by decide)) hk (fun _ h => h.2)) (fun _ h => h.1))
         replace HO_471006 := A_ (Kd.R_mono (Kd.R_keep (IsS102.apart (show IsS102 w0 _ g s0_0 t472 t473 from by repeat (first | (with_reducible first | exact HI0.out | apply IsS102.alloc | apply IsS102.drewN | apply IsS102.drew | apply IsS102.set_1 | apply IsS102.set_2 | refine IsS102.far ?_ NB0_435.out _ | refine IsS102.far ?_ NB0_470.out _) | exact HI0.out)) (kr_ HO_471006.out) (by decide)) hk (fun _ h => h.2)) (fun _ h => h.1))
         replace HO_471007 := A_ (Kd.R_mono (Kd.R_keep (IsS102.apart (show IsS102 w0 _ g s0_0 t472 t473 from by repeat (first | (with_reducible first | exact HI0.out | apply IsS102.alloc | apply IsS102.drewN | apply IsS102.drew | apply IsS102.set_1 | apply IsS102.set_2 | refine IsS102.far ?_ NB0_435.out _ | refine IsS102.far ?_ NB0_470.out _) | exact HI0.out)) (kr_ HO_471007.out) (by decide)) hk (fun _ h => h.2)) (fun _ h => h.1))
         replace BK435 := A_ (KeepBut.blk hk (bk_ BK435.out) NB435_0.out (by simp))
         replace BK470 := A_ (KeepBut.blk hk (bk_ BK470.out) NB470_0.out (by simp))
         replace HO476 := A_ (Kd.R_mono (Kd.R_keep (IsS102.apart (show IsS102 w0 _ g s0_0 t472 t473 from by repeat (first | (with_reducible first | exact HI0.out | apply IsS102.alloc | apply IsS102.drewN | apply IsS102.drew | apply IsS102.set_1 | apply IsS102.set_2 | refine IsS102.far ?_ NB0_435.out _ | refine IsS102.far ?_ NB0_470.out _) | exact HI0.out)) (kr_ HO476.out) (by decide)) hk (fun _ h => h.2)) (fun _ h => h.1))
         replace HK := A_ (KeepBut.trans d2_ hk (.inl rfl))
         replace HB := A_ (hb)
         replace HI0 := A_ (hi)
         (try clear hb)
         (try clear hb2)
         (try clear hk)
         (try clear hi)
         have p31 : 0 ≤ (x6_2 : Int) := of_decide_eq_true d5_
         have q31 : (x6_2 : Int) < ((x471001_2.length : Int) : Int) := of_decide_eq_true d5_
         obtain ⟨go31, co31, eo31, gb31, gl31, cl31, HG31⟩ := Kd.R_form HO_471001.out (by omega)
         (first | cases eo31 | (injection eo31 with ea_ en_ ec_; (first | subst ea_ | (injection ea_ with ea_; subst ea_)); subst ec_; clear en_))
         have GB31 := A_ gb31
         have GG31 := A_ HG31
         clear gb31 gl31 HG31
         obtain ⟨hx31_0, hf31_0⟩ := Kd.R_celln 0 HO_471001.out (x6_2 : Int) p31 q31
         replace p31 := eq_true p31
         replace q31 := eq_true q31
         have HN0_go31 := A_ (show g ≠ go31 from by have h_ := IsS102.own_ne HI0.out HO_471001.out (by decide); intro e_; exact h_ (by rw [e_]; rfl))
         have HP38 := Kd.R_putn HO_471001.out (x6_2 : Int) t477
         rw [← Ny480.out] at HP38
         have HQ38 := A_ HP38
         clear HP38
         refine hK.out _ _ ⟨(blk_cell BK470.out 0).trans rfl, (blk_cell BK470.out 1).trans rfl, (blk_cell BK470.out 2).trans rfl, (blk_cell BK470.out 3).trans rfl, (blk_cell BK470.out 4).trans rfl, (blk_cell BK470.out 5).trans rfl, (blk_cell BK470.out 6).trans rfl, (blk_cell BK470.out 7).trans rfl, (blk_cell BK470.out 8).trans rfl⟩ (fun hHeld => ?_)
         clear hK K
         refine norm_ (a' := ?_) ?_ ?_
         rotate_left
         ·show Act.put _ (some 36) _ = _
          simp only [Act.put, List.setIfInBounds_toArray, List.set_cons_zero, List.set_cons_succ, i64_w, i32_w]
          rfl
         refine pu_ 9 (some 37) (bm_ 11 1023) (any_of HT_.out (by kernel_rfl)) ?_
         refine last_ (i := 10) (N := none) (bm_ 11 2047) rfl rfl (one_of HT_.out (by kernel_rfl)) (by decide) (fun K hK => ?_)
         refine skip_ (w1 := ?_) (by rfl) rfl ?_ ?_
         rotate_left
         ·go_simp
          rfl
         refine hK.out _ _ ?_
         clear hK K
         refine done_ (done_of HT_.out (by kernel_rfl)) ?_
         try go_wp2
         go_roundg k2
         case measure => have := HK1.out; have := HK2.out; omega
         case rel => exact ⟨(wrap64 (x6_2 + 1)), (t478), (t479), (x471000_2), (y480), (x471006_2), (x471007_2), (u471000), (.slice (some ⟨go31, 0, none⟩) x471001_2.length co31), (u471006), (u471007), d3_, H', ⟨by have := HK1.out; have := HK2.out; omega⟩, ⟨by (with_reducible repeat (first | apply Kd.R_alloc | apply Kd.R_drewN | apply Kd.R_drew)); exact Kd.R_mono (Kd.R_far (p := ⟨go31, (x6_2 : Int).toNat, none⟩) (Kd.R_mono HO_471000.out (fun k_ hk => (⟨hk, fun e_ => hk.1.1 (by rw [e_]; rfl)⟩ : _ ∧ k_ ≠ go31))) (fun _ hk => hk.2) (.int .i64 t477)) (fun _ hk => ⟨hk.1.1.1, ⟨hk.1.1.2.1, hk.1.1.2.2⟩⟩)⟩, ⟨kr_ (Kd.R_mono HQ38.out (fun _ hk => ⟨hk.1.1, ⟨hk.1.2.1, hk.1.2.2⟩⟩))⟩, ⟨by (with_reducible repeat (first | apply Kd.R_alloc | apply Kd.R_drewN | apply Kd.R_drew)); exact Kd.R_mono (Kd.R_far (p := ⟨go31, (x6_2 : Int).toNat, none⟩) (Kd.R_mono HO_471006.out (fun k_ hk => (⟨hk, fun e_ => hk.1.2.1 (by rw [e_]; rfl)⟩ : _ ∧ k_ ≠ go31))) (fun _ hk => hk.2) (.int .i64 t477)) (fun _ hk => ⟨hk.1.1.1, ⟨hk.1.1.2.1, hk.1.1.2.2⟩⟩)⟩, ⟨by (with_reducible repeat (first | apply Kd.R_alloc | apply Kd.R_drewN | apply Kd.R_drew)); exact Kd.R_mono (Kd.R_far (p := ⟨go31, (x6_2 : Int).toNat, none⟩) (Kd.R_mono HO_471007.out (fun k_ hk => (⟨hk, fun e_ => hk.1.2.1 (by rw [e_]; rfl)⟩ : _ ∧ k_ ≠ go31))) (fun _ hk => hk.2) (.int .i64 t477)) (fun _ hk => ⟨hk.1.1.1, ⟨hk.1.1.2.1, hk.1.1.2.2⟩⟩)⟩, ⟨by refine bk_ ?_; refine blk_far ?_ (by have h_ := Kd.R_ne HO_471001.out BK435.out (by decide); intro e_; exact h_ (by rw [e_]; rfl)) _; refine bk_ ?_; exact BK435.out⟩, ⟨by refine bk_ ?_; refine blk_far ?_ (by have h_ := Kd.R_ne HO_471001.out BK470.out (by decide); intro e_; exact h_ (by rw [e_]; rfl)) _; refine bk_ ?_; exact BK470.out⟩, ⟨by repeat (first | (with_reducible first | exact HI0.out | apply IsS102.alloc | apply IsS102.drewN | apply IsS102.drew | apply IsS102.set_1 | apply IsS102.set_2 | refine IsS102.far ?_ HN0_go31.out _ | refine IsS102.far ?_ NB0_435.out _ | refine IsS102.far ?_ NB0_470.out _) | exact HI0.out)⟩, ⟨by repeat (first | (with_reducible first | exact HK.out | apply KeepBut.set_ | apply keep_drewN | apply keep_drew | apply keep_alloc | refine keep_far ?_ GB31.out _ | refine keep_far ?_ GW435.out _ | refine keep_far ?_ GW470.out _) | exact HK.out)⟩, ⟨by repeat (first | (with_reducible first | exact HB.out | apply below_alloc | apply pw_below_drewN | apply below_drew1 | refine below_set ?_ (Nat.le_trans HL.out GB31.out) | refine below_set ?_ (IsS102.ge HI0.out) | refine below_set ?_ GE435.out | refine below_set ?_ GE470.out) | exact HB.out)⟩⟩
        ·rw [if_neg c30] at H
         exact absurd H (by simp)
       ·rw [if_neg c29] at H
        exact absurd H (by simp)
      ·rw [if_neg c26] at H
       have c26b0 := decide_eq_false c26
       clear c26
       obtain ⟨y481, hy481⟩ : ∃ y_ : List Int, y_ = (([512, 500, 400] : List Int)) := ⟨_, rfl⟩
       replace H : ((spec_l1Int.f s0_0 x1001_2 x1002_2 y481).bind fun bt484 => (if 6 < (x471001_2.length : Int) then ((spec_l1Once.f s0_0 bt484.2.1 bt484.2.2 2).bind fun bt488 => ((spec_l1Once.f s0_0 bt488.2.1 bt488.2.2 2).bind fun bt491 => ((spec_l1Once.f s0_0 bt491.2.1 bt491.2.2 2).bind fun bt494 => (spec_l5Draw.l2 k2 0 s0_0 bt494.2.1 bt494.2.2 x471000_2 (x471001_2.set (6 : Int).toNat bt484.1) bt488.1 bt491.1 t461 bt494.1 x471006_2 x471007_2 t469)))) else (none))) = some (r1, r2, r3, r4, r5, r6, r7, r8, r9, r10, r11) := by first | (rw [hy481]; with_reducible exact H) | (have H2_ := (Option.bind_some _ _).symm.trans H; rw [hy481]; with_reducible exact H2_) | (have H2_ := (Option.bind_some _ _).symm.trans H; with_reducible exact H2_) | with_reducible exact H | (rw [hy481]; exact H) | exact H
       have Ny481 := A_ hy481
       clear hy481
       replace H := Option.bind_eq_some_iff.mp H
       obtain ⟨⟨t484, t485, t486⟩, A390, H⟩ := H
       try dsimp only at H
       have A39 := A_ A390
       clear A390
       by_cases c40 : 6 < (x471001_2.length : Int)
       ·rw [if_pos c40] at H
        have c40b0 := decide_eq_true c40
        have c40b1 : decide (6 < x471001_2.length) = true := decide_eq_true (by omega)
        clear c40
        obtain ⟨y487, hy487⟩ : ∃ y_ : List Int, y_ = (x471001_2.set (6 : Int).toNat t484) := ⟨_, rfl⟩
        replace H : ((spec_l1Once.f s0_0 t485 t486 2).bind fun bt488 => ((spec_l1Once.f s0_0 bt488.2.1 bt488.2.2 2).bind fun bt491 => ((spec_l1Once.f s0_0 bt491.2.1 bt491.2.2 2).bind fun bt494 => (spec_l5Draw.l2 k2 0 s0_0 bt494.2.1 bt494.2.2 x471000_2 y487 bt488.1 bt491.1 t461 bt494.1 x471006_2 x471007_2 t469)))) = some (r1, r2, r3, r4, r5, r6, r7, r8, r9, r10, r11) := by first | (rw [hy487]; with_reducible exact H) | (have H2_ := (Option.bind_some _ _).symm.trans H; rw [hy487]; with_reducible exact H2_) | (have H2_ := (Option.bind_some _ _).symm.trans H; with_reducible exact H2_) | with_reducible exact H | (rw [hy487]; exact H) | exact H
        have Ny487 := A_ hy487
        clear hy487
        replace H := Option.bind_eq_some_iff.mp H
        obtain ⟨⟨t488, t489, t490⟩, A420, H⟩ := H
        try dsimp only at H
        have A42 := A_ A420
        clear A420
        replace H := Option.bind_eq_some_iff.mp H
        obtain ⟨⟨t491, t492, t493⟩, A430, H⟩ := H
        try dsimp only at H
        have A43 := A_ A430
        clear A430
        replace H := Option.bind_eq_some_iff.mp H
        obtain ⟨⟨t494, t495, t496⟩, A440, H⟩ := H
        try dsimp only at H
        have A44 := A_ A440
        clear A440
        have H' := A_ H
        clear H
        try go_wp2
        replace HO_471000 := A_ (Kd.R_drew HO_471000.out)
        replace HO_471001 := A_ (Kd.R_drew HO_471001.out)
        replace HO_471006 := A_ (Kd.R_drew HO_471006.out)
        replace HO_471007 := A_ (Kd.R_drew HO_471007.out)
        replace BK435 := A_ (blk_drew BK435.out)
        replace BK470 := A_ (blk_drew BK470.out)
        replace HI0 := A_ (IsS102.drew HI0.out)
        replace HK := A_ (keep_drew HK.out)
        replace HB := A_ (below_drew1 HB.out)
        refine start_ (n := 7) (S := fun w' => w'.cell? ⟨gb470, 0, none⟩ = some (u471000) ∧ w'.cell? ⟨gb470, 1, none⟩ = some (u471001) ∧ w'.cell? ⟨gb470, 2, none⟩ = some (.bool t459) ∧ w'.cell? ⟨gb470, 3, none⟩ = some (.bool t460) ∧ w'.cell? ⟨gb470, 4, none⟩ = some (.bool t461) ∧ w'.cell? ⟨gb470, 5, none⟩ = some (.bool t462) ∧ w'.cell? ⟨gb470, 6, none⟩ = some (u471006) ∧ w'.cell? ⟨gb470, 7, none⟩ = some (u471007) ∧ w'.cell? ⟨gb470, 8, none⟩ = some (.int .i64 t469)) (ds := [6]) #[false, false, false, false, false, false, false] (by kernel_rfl) rfl rfl ⟨(blk_cell BK470.out 0).trans rfl, (blk_cell BK470.out 1).trans rfl, (blk_cell BK470.out 2).trans rfl, (blk_cell BK470.out 3).trans rfl, (blk_cell BK470.out 4).trans rfl, (blk_cell BK470.out 5).trans rfl, (blk_cell BK470.out 6).trans rfl, (blk_cell BK470.out 7).trans rfl, (blk_cell BK470.out 8).trans rfl⟩ (fun hHeld => ?_)
        generalize wr.drew = w45 at HO_471000 HO_471001 HO_471006 HO_471007 BK435 BK470 HI0 HK HB hHeld ⊢
        refine pu_ 0 (some 38) (bm_ 7 1) (by kernel_rfl) ?_
        refine pu_ 2 (some 40) (bm_ 7 5) (by kernel_rfl) ?_
        refine take_ (i := 1) (N := some 39) (v := ?_) (a' := ?_) (bm_ 7 7) rfl rfl (by kernel_rfl) (fun _ _ _ h => h) (Or.inl ⟨by rfl, ?_⟩) hHeld ?_ ?_
        rotate_left
        ·rintro w' ⟨s0, s1, s2, s3, s4, s5, s6, s7, s8⟩
         go_simp
         with_reducible rfl
        rotate_left
        ·simp only [Act.put, List.setIfInBounds_toArray, List.set_cons_zero, List.set_cons_succ, i64_w, i32_w]
         rfl
        refine one_ (i := 3) (N := some 41) (bm_ 7 15) rfl rfl (by kernel_rfl) (by decide) (fun K hK => ?_)
        refine Kd.R_lit_step (Kd.int .i64) _ 3 ?hg (N := 41) ?hd (xs := ([512, 500, 400] : List Int)) (inner := [.int .i64 512, .int .i64 500, .int .i64 400]) (ok := fun _ => True) (okp := fun _ => True) ?hr ?hp (fun _ hk => hk) trivial (Below.refl _ _) (Nat.le_refl _) (by simp) ?_; (case hd => rfl); (case hg => rfl); (case hr => first | (go_simp; done) | (go_simp; rfl)); (case hp => exact (Reps.one (show Kd.M (Kd.int .i64) _ _ _ 512 [.int .i64 512] from rfl) (Reps.one (show Kd.M (Kd.int .i64) _ _ _ 500 [.int .i64 500] from rfl) (Reps.one (show Kd.M (Kd.int .i64) _ _ _ 400 [.int .i64 400] from rfl) (Reps.none _ _)))))
        intro v482 w46 ho47 hb hg_ hnew_
        clear hg_ hnew_
        (first | rw [← Ny481.out] at ho47 | (simp only [Int.reduceToNat] at ho47; rw [← Ny481.out] at ho47))
        have HO483 := A_ (Kd.R_lower (Kd.R_new' (Kd.R_new' (Kd.R_new' (Kd.R_new' ho47 (Kd.R_lt (kr_ HO_471000.out))) (Kd.R_lt (kr_ HO_471001.out))) (Kd.R_lt (kr_ HO_471006.out))) (Kd.R_lt (kr_ HO_471007.out))) (keep_size (w := w) (g := g) (row := none) d2_))
        replace HO_471000 := A_ (Kd.R_elder' (kr_ HO_471000.out) (Kd.R_base ho47) hb)
        replace HO_471001 := A_ (Kd.R_elder' (kr_ HO_471001.out) (Kd.R_base ho47) hb)
        replace HO_471006 := A_ (Kd.R_elder' (kr_ HO_471006.out) (Kd.R_base ho47) hb)
        replace HO_471007 := A_ (Kd.R_elder' (kr_ HO_471007.out) (Kd.R_base ho47) hb)
        replace BK435 := A_ (blk_below (bk_ BK435.out) hb)
        replace BK470 := A_ (blk_below (bk_ BK470.out) hb)
        replace HK := A_ (KeepBut.trans d2_ (KeepBut.of_below hb g none) (.inl rfl))
        replace HB := A_ (below_step (have := GeI.mk (IsS102.ge HI0.out); bw_ HB.out) hb)
        replace HI0 := A_ (IsS102.below d10_ hb)
        clear hb ho47
        obtain ⟨Ao48, co48, eo48⟩ := Kd.R_slice HO483.out
        (first | subst eo48 | (injection eo48 with f1_ f2_ f3_; have f4_ := f1_.symm; have f5_ := f3_.symm; clear f1_ f2_ f3_; subst f4_; subst f5_))
        refine hK.out _ _ ⟨(blk_cell BK470.out 0).trans rfl, (blk_cell BK470.out 1).trans rfl, (blk_cell BK470.out 2).trans rfl, (blk_cell BK470.out 3).trans rfl, (blk_cell BK470.out 4).trans rfl, (blk_cell BK470.out 5).trans rfl, (blk_cell BK470.out 6).trans rfl, (blk_cell BK470.out 7).trans rfl, (blk_cell BK470.out 8).trans rfl⟩ (fun hHeld => ?_)
        clear hK K
        refine norm_ (a' := ?_) ?_ ?_
        rotate_left
        ·show Act.put _ (some 41) _ = _
         simp only [Act.put, List.setIfInBounds_toArray, List.set_cons_zero, List.set_cons_succ, i64_w, i32_w]
         rfl
        refine one_ (i := 4) (N := some 42) (bm_ 7 31) rfl rfl (by kernel_rfl) (by decide) (fun K hK => ?_)
        refine goes_ Try.func72 (by kernel_rfl) rfl #[.pointer (some ⟨g, 0, none⟩), .slice Ao48 y481.length co48] (by rfl) rfl rfl d0_ ?_
        with_reducible refine (spec_l1Int.calls g s0_0 x1001_2 x1002_2 _ _ y481 t484 t485 t486 w0 _ ?side1 ?side2 ?side3 ?side4 ?side5 A39.out).mono ?_
        (case side1 => repeat (first | (with_reducible first | exact HI0.out | apply IsS102.alloc | apply IsS102.drewN | apply IsS102.drew | apply IsS102.set_1 | apply IsS102.set_2 | refine IsS102.far ?_ NB0_435.out _ | refine IsS102.far ?_ NB0_470.out _) | exact HI0.out))
        (case side2 => exact (have := GeI.mk (IsS102.ge HI0.out); bw_ HB.out))
        (case side3 => repeat (first | exact (Kd.R_reads' HO483.out).2.2 | (with_reducible refine Kd.C_alloc ?_ _) | (with_reducible refine Kd.C_drewN ?_ _) | (with_reducible refine Kd.C_drew ?_)))
        (case side4 => exact (Kd.R_reads' HO483.out).2.1)
        (case side5 => exact far_slice (IsS102.own_ne HI0.out HO483.out (by decide)))
        rintro e w49 ⟨rfl, hi, hb, hk⟩
        refine ⟨_, rfl, ?_⟩
        replace HO_471000 := A_ (Kd.R_mono (Kd.R_keep (IsS102.apart (show IsS102 w0 _ g s0_0 x1001_2 x1002_2 from by repeat (first | (with_reducible first | exact HI0.out | apply IsS102.alloc | apply IsS102.drewN | apply IsS102.drew | apply IsS102.set_1 | apply IsS102.set_2 | refine IsS102.far ?_ NB0_435.out _ | refine IsS102.far ?_ NB0_470.out _) | exact HI0.out)) (kr_ HO_471000.out) (by decide)) hk (fun _ h => h.2)) (fun _ h => h.1))
        replace HO_471001 := A_ (Kd.R_mono (Kd.R_keep (IsS102.apart (show IsS102 w0 _ g s0_0 x1001_2 x1002_2 from by repeat (first | (with_reducible first | exact HI0.out | apply IsS102.alloc | apply IsS102.drewN | apply IsS102.drew | apply IsS102.set_1 | apply IsS102.set_2 | refine IsS102.far ?_ NB0_435.out _ | refine IsS102.far ?_ NB0_470.out _) | exact HI0.out)) (kr_ HO_471001.out) (by decide)) hk (fun _ h => h.2)) (fun _ h => h.1))
        replace HO_471006 := A_ (Kd.R_mono (Kd.R_keep (IsS102.apart (show IsS102 w0 _ g s0_0 x1001_2 x1002_2 from by repeat (first | (with_reducible first | exact HI0.out | apply IsS102.alloc | apply IsS102.drewN | apply IsS102.drew | apply IsS102.set_1 | apply IsS102.set_2 | refine IsS102.far ?_ NB0_435.out _ | refine IsS102.far ?_ NB0_470.out _) | exact HI0.out)) (kr_ HO_471006.out) (by decide)) hk (fun _ h => h.2)) (fun _ h => h.1))
        replace HO_471007 := A_ (Kd.R_mono (Kd.R_keep (IsS102.apart (show IsS102 w0 _ g s0_0 x1001_2 x1002_2 from by repeat (first | (with_reducible first | exact HI0.out | apply IsS102.alloc | apply IsS102.drewN | apply IsS102.drew | apply IsS102.set_1 | apply IsS102.set_2 | refine IsS102.far ?_ NB0_435.out _ | refine IsS102.far ?_ NB0_470.out _) | exact HI0.out)) (kr_ HO_471007.out) (by decide)) hk (fun _ h => h.2)) (fun _ h => h.1))
        replace BK435 := A_ (KeepBut.blk hk (bk_ BK435.out) NB435_0.out (by simp))
        replace BK470 := A_ (KeepBut.blk hk (bk_ BK470.out) NB470_0.out (by simp))
        replace HO483 := A_ (Kd.R_mono (Kd.R_keep (IsS102.apart (show IsS102 w0 _ g s0_0 x1001_2 x1002_2 from by repeat (first | (with_reducible first | exact HI0.out | apply IsS102.alloc | apply IsS102.drewN | apply IsS102.drew | apply IsS102.set_1 | apply IsS102.set_2 | refine IsS102.far ?_ NB0_435.out _ | refine IsS102.far ?_ NB0_470.out _) | exact HI0.out)) (kr_ HO483.out) (by decide)) hk (fun _ h => h.2)) (fun _ h => h.1))
        replace HK := A_ (KeepBut.trans d2_ hk (.inl rfl))
        replace HB := A_ (hb)
        replace HI0 := A_ (hi)
        (try clear hb)
        (try clear hb2)
        (try clear hk)
        (try clear hi)
        have p41 : 0 ≤ (6 : Int) := (by omega)
        have q41 : (6 : Int) < ((x471001_2.length : Int) : Int) := of_decide_eq_true d5_
        have qi41 : (6 < x471001_2.length) = True := eq_true (by omega)
        obtain ⟨go41, co41, eo41, gb41, gl41, cl41, HG41⟩ := Kd.R_form HO_471001.out (by omega)
        (first | cases eo41 | (injection eo41 with ea_ en_ ec_; (first | subst ea_ | (injection ea_ with ea_; subst ea_)); subst ec_; clear en_))
        have GB41 := A_ gb41
        have GG41 := A_ HG41
        clear gb41 gl41 HG41
        obtain ⟨hx41_0, hf41_0⟩ := Kd.R_celln 0 HO_471001.out (6 : Int) p41 q41
        (try rw [show ((6 : Int)).toNat = 6 from rfl] at hx41_0)
        (try simp only [Nat.reduceMul, Nat.zero_mul, Nat.zero_add, Nat.reduceAdd] at hx41_0)
        (try rw [show ((6 : Int)).toNat = 6 from rfl] at hf41_0)
        (try simp only [Nat.reduceMul, Nat.zero_mul, Nat.zero_add, Nat.reduceAdd] at hf41_0)
        replace p41 := eq_true p41
        replace q41 := eq_true q41
        have HN0_go41 := A_ (show g ≠ go41 from by have h_ := IsS102.own_ne HI0.out HO_471001.out (by decide); intro e_; exact h_ (by rw [e_]; rfl))
        have HP50 := Kd.R_putn HO_471001.out (6 : Int) t484
        rw [← Ny487.out] at HP50
        have HQ50 := A_ HP50
        clear HP50
        refine hK.out _ _ ⟨(blk_cell BK470.out 0).trans rfl, (blk_cell BK470.out 1).trans rfl, (blk_cell BK470.out 2).trans rfl, (blk_cell BK470.out 3).trans rfl, (blk_cell BK470.out 4).trans rfl, (blk_cell BK470.out 5).trans rfl, (blk_cell BK470.out 6).trans rfl, (blk_cell BK470.out 7).trans rfl, (blk_cell BK470.out 8).trans rfl⟩ (fun hHeld => ?_)
        clear hK K
        refine norm_ (a' := ?_) ?_ ?_
        rotate_left
        ·show Act.put _ (some 42) _ = _
         simp only [Act.put, List.setIfInBounds_toArray, List.set_cons_zero, List.set_cons_succ, i64_w, i32_w]
         rfl
        refine pu_ 5 (some 43) (bm_ 7 63) (by kernel_rfl) ?_
        refine last_ (i := 6) (N := none) (bm_ 7 127) rfl rfl (by kernel_rfl) (by decide) (fun K hK => ?_)
        refine skip_ (w1 := ?_) (by rfl) rfl ?_ ?_
        rotate_left
        ·go_simp
         rfl
        refine hK.out _ _ ?_
        clear hK K
        refine done_ (by kernel_rfl) ?_
        have n0_ : Aside0 (Kd.R (Kd.int .i64) 3 (w49.setCell ⟨go41, 6, none⟩ (.int .i64 t484)) w.heap.size (fun k_ => some k_ ≠ (.slice (some ⟨go41, 0, none⟩) x471001_2.length co41 : Value).ownBlock ∧ some k_ ≠ (u471006 : Value).ownBlock ∧ some k_ ≠ (u471007 : Value).ownBlock ∧ some k_ ≠ (.slice Ao48 y481.length co48 : Value).ownBlock) u471000 x471000_2) := ⟨by (with_reducible repeat (first | apply Kd.R_alloc | apply Kd.R_drewN | apply Kd.R_drew)); exact Kd.R_mono (Kd.R_far (p := ⟨go41, 6, none⟩) (Kd.R_mono HO_471000.out (fun k_ hk => (⟨hk, fun e_ => hk.1.1 (by rw [e_]; rfl)⟩ : _ ∧ k_ ≠ go41))) (fun _ hk => hk.2) (.int .i64 t484)) (fun _ hk => ⟨hk.1.1.1, ⟨hk.1.1.2.1, ⟨hk.1.1.2.2, hk.1.2⟩⟩⟩)⟩
        have n1_ : Aside0 (Kd.R (Kd.int .i64) 3 (w49.setCell ⟨go41, 6, none⟩ (.int .i64 t484)) w.heap.size (fun k_ => some k_ ≠ (u471000 : Value).ownBlock ∧ some k_ ≠ (u471006 : Value).ownBlock ∧ some k_ ≠ (u471007 : Value).ownBlock ∧ some k_ ≠ (.slice Ao48 y481.length co48 : Value).ownBlock) (.slice (some ⟨go41, 0, none⟩) x471001_2.length co41) y487) := ⟨kr_ (Kd.R_mono HQ50.out (fun _ hk => ⟨hk.1.1, ⟨hk.1.2.1, ⟨hk.1.2.2, hk.2⟩⟩⟩))⟩
        have n2_ : Aside0 (Kd.R (Kd.int .i64) 3 (w49.setCell ⟨go41, 6, none⟩ (.int .i64 t484)) w.heap.size (fun k_ => some k_ ≠ (u471000 : Value).ownBlock ∧ some k_ ≠ (.slice (some ⟨go41, 0, none⟩) x471001_2.length co41 : Value).ownBlock ∧ some k_ ≠ (u471007 : Value).ownBlock ∧ some k_ ≠ (.slice Ao48 y481.length co48 : Value).ownBlock) u471006 x471006_2) := ⟨by (with_reducible repeat (first | apply Kd.R_alloc | apply Kd.R_drewN | apply Kd.R_drew)); exact Kd.R_mono (Kd.R_far (p := ⟨go41, 6, none⟩) (Kd.R_mono HO_471006.out (fun k_ hk => (⟨hk, fun e_ => hk.1.2.1 (by rw [e_]; rfl)⟩ : _ ∧ k_ ≠ go41))) (fun _ hk => hk.2) (.int .i64 t484)) (fun _ hk => ⟨hk.1.1.1, ⟨hk.1.1.2.1, ⟨hk.1.1.2.2, hk.1.2⟩⟩⟩)⟩
        have n3_ : Aside0 (Kd.R (Kd.int .i64) 3 (w49.setCell ⟨go41, 6, none⟩ (.int .i64 t484)) w.heap.size (fun k_ => some k_ ≠ (u471000 : Value).ownBlock ∧ some k_ ≠ (.slice (some ⟨go41, 0, none⟩) x471001_2.length co41 : Value).ownBlock ∧ some k_ ≠ (u471006 : Value).ownBlock ∧ some k_ ≠ (.slice Ao48 y481.length co48 : Value).ownBlock) u471007 x471007_2) := ⟨by (with_reducible repeat (first | apply Kd.R_alloc | apply Kd.R_drewN | apply Kd.R_drew)); exact Kd.R_mono (Kd.R_far (p := ⟨go41, 6, none⟩) (Kd.R_mono HO_471007.out (fun k_ hk => (⟨hk, fun e_ => hk.1.2.1 (by rw [e_]; rfl)⟩ : _ ∧ k_ ≠ go41))) (fun _ hk => hk.2) (.int .i64 t484)) (fun _ hk => ⟨hk.1.1.1, ⟨hk.1.1.2.1, ⟨hk.1.1.2.2, hk.1.2⟩⟩⟩)⟩
        have n4_ : Aside0 (Kd.R (Kd.int .i64) 3 (w49.setCell ⟨go41, 6, none⟩ (.int .i64 t484)) w.heap.size (fun k_ => some k_ ≠ (u471000 : Value).ownBlock ∧ some k_ ≠ (.slice (some ⟨go41, 0, none⟩) x471001_2.length co41 : Value).ownBlock ∧ some k_ ≠ (u471006 : Value).ownBlock ∧ some k_ ≠ (u471007 : Value).ownBlock) (.slice Ao48 y481.length co48) y481) := ⟨by (with_reducible repeat (first | apply Kd.R_alloc | apply Kd.R_drewN | apply Kd.R_drew)); exact Kd.R_mono (Kd.R_far (p := ⟨go41, 6, none⟩) (Kd.R_mono HO483.out (fun k_ hk => (⟨hk, fun e_ => hk.1.1.2 (by rw [e_]; rfl)⟩ : _ ∧ k_ ≠ go41))) (fun _ hk => hk.2) (.int .i64 t484)) (fun _ hk => ⟨hk.1.1.1.1.2, ⟨hk.1.1.1.2, ⟨hk.1.1.2, hk.1.2⟩⟩⟩)⟩
        have n5_ : Aside0 ((w49.setCell ⟨go41, 6, none⟩ (.int .i64 t484)).heap[gb435]? = some (.cells #[.slice none 0 0, .slice none 0 0, .bool false, .bool false, .bool false, .bool false, .slice none 0 0, .slice none 0 0, .int .i64 0] 28 (0, 0))) := ⟨by refine bk_ ?_; refine blk_far ?_ (by have h_ := Kd.R_ne HO_471001.out BK435.out (by decide); intro e_; exact h_ (by rw [e_]; rfl)) _; refine bk_ ?_; exact BK435.out⟩
        have n6_ : Aside0 ((w49.setCell ⟨go41, 6, none⟩ (.int .i64 t484)).heap[gb470]? = some (.cells #[u471000, .slice (some ⟨go41, 0, none⟩) x471001_2.length co41, .bool t459, .bool t460, .bool t461, .bool t462, u471006, u471007, .int .i64 t469] 28 (0, 0))) := ⟨by refine bk_ ?_; refine blk_far ?_ (by have h_ := Kd.R_ne HO_471001.out BK470.out (by decide); intro e_; exact h_ (by rw [e_]; rfl)) _; refine bk_ ?_; exact BK470.out⟩
        have n7_ : Aside0 (IsS102 w0 (w49.setCell ⟨go41, 6, none⟩ (.int .i64 t484)) g s0_0 t485 t486) := ⟨by repeat (first | (with_reducible first | exact HI0.out | apply IsS102.alloc | apply IsS102.drewN | apply IsS102.drew | apply IsS102.set_1 | apply IsS102.set_2 | refine IsS102.far ?_ HN0_go41.out _ | refine IsS102.far ?_ NB0_435.out _ | refine IsS102.far ?_ NB0_470.out _) | exact HI0.out)⟩
        have n8_ : Aside0 (KeepBut w (w49.setCell ⟨go41, 6, none⟩ (.int .i64 t484)) g none) := ⟨by repeat (first | (with_reducible first | exact HK.out | apply KeepBut.set_ | apply keep_drewN | apply keep_drew | apply keep_alloc | refine keep_far ?_ GB41.out _ | refine keep_far ?_ GW435.out _ | refine keep_far ?_ GW470.out _) | exact HK.out)⟩
        have n9_ : Aside0 (Below w0.heap.size w0 (w49.setCell ⟨go41, 6, none⟩ (.int .i64 t484))) := ⟨by repeat (first | (with_reducible first | exact HB.out | apply below_alloc | apply pw_below_drewN | apply below_drew1 | refine below_set ?_ (Nat.le_trans HL.out GB41.out) | refine below_set ?_ (IsS102.ge HI0.out) | refine below_set ?_ GE435.out | refine below_set ?_ GE470.out) | exact HB.out)⟩
        (try clear HO_471000)
        (try clear HO_471001)
        (try clear HO_471006)
        (try clear HO_471007)
        (try clear HO483)
        (try clear BK435)
        (try clear BK470)
        (try clear HI0)
        (try clear HK)
        (try clear HB)
        try rw [show (w49.drewN nd).setCell ⟨go41, 6, none⟩ (.int .i64 t484) = (w49.setCell ⟨go41, 6, none⟩ (.int .i64 t484)).drewN nd from rfl]
        generalize (w49.setCell ⟨go41, 6, none⟩ (.int .i64 t484)) = w51 at n0_ n1_ n2_ n3_ n4_ n5_ n6_ n7_ n8_ n9_ ⊢
        have HO_471000 := n0_
        have HO_471001 := n1_
        have HO_471006 := n2_
        have HO_471007 := n3_
        have HO483 := n4_
        have BK435 := n5_
        have BK470 := n6_
        have HI0 := n7_
        have HK := n8_
        have HB := n9_
        clear n0_ n1_ n2_ n3_ n4_ n5_ n6_ n7_ n8_ n9_
        try go_wp2_with (first | ((with_reducible refine gate_callee (f := 81) rfl ?_); refine gL_ (some 45) Try.func81 #[.pointer (some ⟨g, 0, none⟩), .int .i64 2] ?_; (with_reducible refine (spec_l1Once.calls g s0_0 t485 t486 2 t488 t489 t490 w0 _ ?side1 ?side2 A42.out).mono ?_); (case side1 => repeat (first | (with_reducible first | exact HI0.out | apply IsS102.alloc | apply IsS102.drewN | apply IsS102.drew | apply IsS102.set_1 | apply IsS102.set_2 | refine IsS102.far ?_ NB0_435.out _ | refine IsS102.far ?_ NB0_470.out _) | exact HI0.out)); (case side2 => exact (have := GeI.mk (IsS102.ge HI0.out); bw_ HB.out)); rintro e w52 ⟨rfl, hi, hb, hk⟩; refine ⟨_, rfl, ?_⟩; replace HO_471000 := A_ (Kd.R_mono (Kd.R_keep (IsS102.apart (show IsS102 w0 _ g s0_0 t485 t486 from by repeat (first | (with_reducible first | exact HI0.out | apply IsS102.alloc | apply IsS102.drewN | apply IsS102.drew | apply IsS102.set_1 | apply IsS102.set_2 | refine IsS102.far ?_ NB0_435.out _ | refine IsS102.far ?_ NB0_470.out _) | exact HI0.out)) (kr_ HO_471000.out) (by decide)) hk (fun _ h => h.2)) (fun _ h => h.1)); replace HO_471001 := A_ (Kd.R_mono (Kd.R_keep (IsS102.apart (show IsS102 w0 _ g s0_0 t485 t486 from by repeat (first | (with_reducible first | exact HI0.out | apply IsS102.alloc | apply IsS102.drewN | apply IsS102.drew | apply IsS102.set_1 | apply IsS102.set_2 | refine IsS102.far ?_ NB0_435.out _ | refine IsS102.far ?_ NB0_470.out _) | exact HI0.out)) (kr_ HO_471001.out) (by decide)) hk (fun _ h => h.2)) (fun _ h => h.1)); replace HO_471006 := A_ (Kd.R_mono (Kd.R_keep (IsS102.apart (show IsS102 w0 _ g s0_0 t485 t486 from by repeat (first | (with_reducible first | exact HI0.out | apply IsS102.alloc | apply IsS102.drewN | apply IsS102.drew | apply IsS102.set_1 | apply IsS102.set_2 | refine IsS102.far ?_ NB0_435.out _ | refine IsS102.far ?_ NB0_470.out _) | exact HI0.out)) (kr_ HO_471006.out) (by decide)) hk (fun _ h => h.2)) (fun _ h => h.1)); replace HO_471007 := A_ (Kd.R_mono (Kd.R_keep (IsS102.apart (show IsS102 w0 _ g s0_0 t485 t486 from by repeat (first | (with_reducible first | exact HI0.out | apply IsS102.alloc | apply IsS102.drewN | apply IsS102.drew | apply IsS102.set_1 | apply IsS102.set_2 | refine IsS102.far ?_ NB0_435.out _ | refine IsS102.far ?_ NB0_470.out _) | exact HI0.out)) (kr_ HO_471007.out) (by decide)) hk (fun _ h => h.2)) (fun _ h => h.1)); replace BK435 := A_ (KeepBut.blk hk (bk_ BK435.out) NB435_0.out (by simp)); replace BK470 := A_ (KeepBut.blk hk (bk_ BK470.out) NB470_0.out (by simp)); replace HO483 := A_ (Kd.R_mono (Kd.R_keep (IsS102.apart (show IsS102 w0 _ g s0_0 t485 t486 from by repeat (first | (with_reducible first | exact HI0.out | apply IsS102.alloc | apply IsS102.drewN | apply IsS102.drew | apply IsS102.set_1 | apply IsS102.set_2 | refine IsS102.far ?_ NB0_435.out _ | refine IsS102.far ?_ NB0_470.out _) | exact HI0.out)) (kr_ HO483.out) (by decide)) hk (fun _ h => h.2)) (fun _ h => h.1)); replace HK := A_ (KeepBut.trans d2_ hk (.inl rfl)); replace HB := A_ (hb); replace HI0 := A_ (hi); (try clear hb); (try clear hb2); (try clear hk); (try clear hi); have hnb53 := NB470_435.out; have hnc53 := NB435_470.out; have hnb54 := NB470_0.out; have hnc54 := NB0_470.out; obtain ⟨y55_0, y55_1, y55_2, y55_3, y55_4, y55_5, y55_6, y55_7, y55_8, z55_0, z55_1, z55_2, z55_3, z55_4, z55_5, z55_6, z55_7, z55_8⟩ := cz9_ BK470.out) | ((with_reducible refine gate_callee (f := 81) rfl ?_); refine gL_ (some 48) Try.func81 #[.pointer (some ⟨g, 0, none⟩), .int .i64 2] ?_; (with_reducible refine (spec_l1Once.calls g s0_0 t489 t490 2 t491 t492 t493 w0 _ ?side1 ?side2 A43.out).mono ?_); (case side1 => repeat (first | (with_reducible first | exact HI0.out | apply IsS102.alloc | apply IsS102.drewN | apply IsS102.drew | apply IsS102.set_1 | apply IsS102.set_2 | refine IsS102.far ?_ NB0_435.out _ | refine IsS102.far ?_ NB0_470.out _) | exact HI0.out)); (case side2 => exact (have := GeI.mk (IsS102.ge HI0.out); bw_ HB.out)); rintro e w56 ⟨rfl, hi, hb, hk⟩; refine ⟨_, rfl, ?_⟩; replace HO_471000 := A_ (Kd.R_mono (Kd.R_keep (IsS102.apart (show IsS102 w0 _ g s0_0 t489 t490 from by repeat (first | (with_reducible first | exact HI0.out | apply IsS102.alloc | apply IsS102.drewN | apply IsS102.drew | apply IsS102.set_1 | apply IsS102.set_2 | refine IsS102.far ?_ NB0_435.out _ | refine IsS102.far ?_ NB0_470.out _) | exact HI0.out)) (kr_ (Kd.R_mono (Kd.R_far (p := ⟨gb470, 2, none⟩) (Kd.R_types HO_471000.out BK470.out (by decide)) (fun _ hk => hk.2) (.bool t488)) (fun _ h_ => h_.1))) (by decide)) hk (fun _ h => h.2)) (fun _ h => h.1)); replace HO_471001 := A_ (Kd.R_mono (Kd.R_keep (IsS102.apart (show IsS102 w0 _ g s0_0 t489 t490 from by repeat (first | (with_reducible first | exact HI0.out | apply IsS102.alloc | apply IsS102.drewN | apply IsS102.drew | apply IsS102.set_1 | apply IsS102.set_2 | refine IsS102.far ?_ NB0_435.out _ | refine IsS102.far ?_ NB0_470.out _) | exact HI0.out)) (kr_ (Kd.R_mono (Kd.R_far (p := ⟨gb470, 2, none⟩) (Kd.R_types HO_471001.out BK470.out (by decide)) (fun _ hk => hk.2) (.bool t488)) (fun _ h_ => h_.1))) (by decide)) hk (fun _ h => h.2)) (fun _ h => h.1)); replace HO_471006 := A_ (Kd.R_mono (Kd.R_keep (IsS102.apart (show IsS102 w0 _ g s0_0 t489 t490 from by repeat (first | (with_reducible first | exact HI0.out | apply IsS102.alloc | apply IsS102.drewN | apply IsS102.drew | apply IsS102.set_1 | apply IsS102.set_2 | refine IsS102.far ?_ NB0_435.out _ | refine IsS102.far ?_ NB0_470.out _) | exact HI0.out)) (kr_ (Kd.R_mono (Kd.R_far (p := ⟨gb470, 2, none⟩) (Kd.R_types HO_471006.out BK470.out (by decide)) (fun _ hk => hk.2) (.bool t488)) (fun _ h_ => h_.1))) (by decide)) hk (fun _ h => h.2)) (fun _ h => h.1)); replace HO_471007 := A_ (Kd.R_mono (Kd.R_keep (IsS102.apart (show IsS102 w0 _ g s0_0 t489 t490 from by repeat (first | (with_reducible first | exact HI0.out | apply IsS102.alloc | apply IsS102.drewN | apply IsS102.drew | apply IsS102.set_1 | apply IsS102.set_2 | refine IsS102.far ?_ NB0_435.out _ | refine IsS102.far ?_ NB0_470.out _) | exact HI0.out)) (kr_ (Kd.R_mono (Kd.R_far (p := ⟨gb470, 2, none⟩) (Kd.R_types HO_471007.out BK470.out (by decide)) (fun _ hk => hk.2) (.bool t488)) (fun _ h_ => h_.1))) (by decide)) hk (fun _ h => h.2)) (fun _ h => h.1)); replace BK435 := A_ (KeepBut.blk hk (g' := gb435) (o := .cells #[.slice none 0 0, .slice none 0 0, .bool false, .bool false, .bool false, .bool false, .slice none 0 0, .slice none 0 0, .int .i64 0] 28 (0, 0)) (by refine bk_ ?_; refine blk_far ?_ NB435_470.out _; refine bk_ ?_; exact BK435.out) NB435_0.out (by simp)); replace HO483 := A_ (Kd.R_mono (Kd.R_keep (IsS102.apart (show IsS102 w0 _ g s0_0 t489 t490 from by repeat (first | (with_reducible first | exact HI0.out | apply IsS102.alloc | apply IsS102.drewN | apply IsS102.drew | apply IsS102.set_1 | apply IsS102.set_2 | refine IsS102.far ?_ NB0_435.out _ | refine IsS102.far ?_ NB0_470.out _) | exact HI0.out)) (kr_ (Kd.R_mono (Kd.R_far (p := ⟨gb470, 2, none⟩) (Kd.R_types HO483.out BK470.out (by decide)) (fun _ hk => hk.2) (.bool t488)) (fun _ h_ => h_.1))) (by decide)) hk (fun _ h => h.2)) (fun _ h => h.1)); replace BK470 := A_ (KeepBut.blk hk (g' := gb470) (o := .cells #[u471000, .slice (some ⟨go41, 0, none⟩) x471001_2.length co41, .bool t488, .bool t460, .bool t461, .bool t462, u471006, u471007, .int .i64 t469] 28 (0, 0)) (by refine bk_ ?_; refine blk_put (cs := #[u471000, .slice (some ⟨go41, 0, none⟩) x471001_2.length co41, .bool t459, .bool t460, .bool t461, .bool t462, u471006, u471007, .int .i64 t469]) ?_ 2 _ rfl; refine bk_ ?_; exact BK470.out) NB470_0.out (by simp)); replace HK := A_ (KeepBut.trans d2_ hk (.inl rfl)); replace HB := A_ (hb); replace HI0 := A_ (hi); (try clear hb); (try clear hb2); (try clear hk); (try clear hi); obtain ⟨y57_0, y57_1, y57_2, y57_3, y57_4, y57_5, y57_6, y57_7, y57_8, z57_0, z57_1, z57_2, z57_3, z57_4, z57_5, z57_6, z57_7, z57_8⟩ := cz9_ BK470.out) | ((with_reducible refine gate_callee (f := 81) rfl ?_); refine gL_ (some 51) Try.func81 #[.pointer (some ⟨g, 0, none⟩), .int .i64 2] ?_; (with_reducible refine (spec_l1Once.calls g s0_0 t492 t493 2 t494 t495 t496 w0 _ ?side1 ?side2 A44.out).mono ?_); (case side1 => repeat (first | (with_reducible first | exact HI0.out | apply IsS102.alloc | apply IsS102.drewN | apply IsS102.drew | apply IsS102.set_1 | apply IsS102.set_2 | refine IsS102.far ?_ NB0_435.out _ | refine IsS102.far ?_ NB0_470.out _) | exact HI0.out)); (case side2 => exact (have := GeI.mk (IsS102.ge HI0.out); bw_ HB.out)); rintro e w58 ⟨rfl, hi, hb, hk⟩; refine ⟨_, rfl, ?_⟩; replace HO_471000 := A_ (Kd.R_mono (Kd.R_keep (IsS102.apart (show IsS102 w0 _ g s0_0 t492 t493 from by repeat (first | (with_reducible first | exact HI0.out | apply IsS102.alloc | apply IsS102.drewN | apply IsS102.drew | apply IsS102.set_1 | apply IsS102.set_2 | refine IsS102.far ?_ NB0_435.out _ | refine IsS102.far ?_ NB0_470.out _) | exact HI0.out)) (kr_ (Kd.R_mono (Kd.R_far (p := ⟨gb470, 3, none⟩) (Kd.R_types HO_471000.out BK470.out (by decide)) (fun _ hk => hk.2) (.bool t491)) (fun _ h_ => h_.1))) (by decide)) hk (fun _ h => h.2)) (fun _ h => h.1)); replace HO_471001 := A_ (Kd.R_mono (Kd.R_keep (IsS102.apart (show IsS102 w0 _ g s0_0 t492 t493 from by repeat (first | (with_reducible first | exact HI0.out | apply IsS102.alloc | apply IsS102.drewN | apply IsS102.drew | apply IsS102.set_1 | apply IsS102.set_2 | refine IsS102.far ?_ NB0_435.out _ | refine IsS102.far ?_ NB0_470.out _) | exact HI0.out)) (kr_ (Kd.R_mono (Kd.R_far (p := ⟨gb470, 3, none⟩) (Kd.R_types HO_471001.out BK470.out (by decide)) (fun _ hk => hk.2) (.bool t491)) (fun _ h_ => h_.1))) (by decide)) hk (fun _ h => h.2)) (fun _ h => h.1)); replace HO_471006 := A_ (Kd.R_mono (Kd.R_keep (IsS102.apart (show IsS102 w0 _ g s0_0 t492 t493 from by repeat (first | (with_reducible first | exact HI0.out | apply IsS102.alloc | apply IsS102.drewN | apply IsS102.drew | apply IsS102.set_1 | apply IsS102.set_2 | refine IsS102.far ?_ NB0_435.out _ | refine IsS102.far ?_ NB0_470.out _) | exact HI0.out)) (kr_ (Kd.R_mono (Kd.R_far (p := ⟨gb470, 3, none⟩) (Kd.R_types HO_471006.out BK470.out (by decide)) (fun _ hk => hk.2) (.bool t491)) (fun _ h_ => h_.1))) (by decide)) hk (fun _ h => h.2)) (fun _ h => h.1)); replace HO_471007 := A_ (Kd.R_mono (Kd.R_keep (IsS102.apart (show IsS102 w0 _ g s0_0 t492 t493 from by repeat (first | (with_reducible first | exact HI0.out | apply IsS102.alloc | apply IsS102.drewN | apply IsS102.drew | apply IsS102.set_1 | apply IsS102.set_2 | refine IsS102.far ?_ NB0_435.out _ | refine IsS102.far ?_ NB0_470.out _) | exact HI0.out)) (kr_ (Kd.R_mono (Kd.R_far (p := ⟨gb470, 3, none⟩) (Kd.R_types HO_471007.out BK470.out (by decide)) (fun _ hk => hk.2) (.bool t491)) (fun _ h_ => h_.1))) (by decide)) hk (fun _ h => h.2)) (fun _ h => h.1)); replace BK435 := A_ (KeepBut.blk hk (g' := gb435) (o := .cells #[.slice none 0 0, .slice none 0 0, .bool false, .bool false, .bool false, .bool false, .slice none 0 0, .slice none 0 0, .int .i64 0] 28 (0, 0)) (by refine bk_ ?_; refine blk_far ?_ NB435_470.out _; refine bk_ ?_; exact BK435.out) NB435_0.out (by simp)); replace HO483 := A_ (Kd.R_mono (Kd.R_keep (IsS102.apart (show IsS102 w0 _ g s0_0 t492 t493 from by repeat (first | (with_reducible first | exact HI0.out | apply IsS102.alloc | apply IsS102.drewN | apply IsS102.drew | apply IsS102.set_1 | apply IsS102.set_2 | refine IsS102.far ?_ NB0_435.out _ | refine IsS102.far ?_ NB0_470.out _) | exact HI0.out)) (kr_ (Kd.R_mono (Kd.R_far (p := ⟨gb470, 3, none⟩) (Kd.R_types HO483.out BK470.out (by decide)) (fun _ hk => hk.2) (.bool t491)) (fun _ h_ => h_.1))) (by decide)) hk (fun _ h => h.2)) (fun _ h => h.1)); replace BK470 := A_ (KeepBut.blk hk (g' := gb470) (o := .cells #[u471000, .slice (some ⟨go41, 0, none⟩) x471001_2.length co41, .bool t488, .bool t491, .bool t461, .bool t462, u471006, u471007, .int .i64 t469] 28 (0, 0)) (by refine bk_ ?_; refine blk_put (cs := #[u471000, .slice (some ⟨go41, 0, none⟩) x471001_2.length co41, .bool t488, .bool t460, .bool t461, .bool t462, u471006, u471007, .int .i64 t469]) ?_ 3 _ rfl; refine bk_ ?_; exact BK470.out) NB470_0.out (by simp)); replace HK := A_ (KeepBut.trans d2_ hk (.inl rfl)); replace HB := A_ (hb); replace HI0 := A_ (hi); (try clear hb); (try clear hb2); (try clear hk); (try clear hi); obtain ⟨y59_0, y59_1, y59_2, y59_3, y59_4, y59_5, y59_6, y59_7, y59_8, z59_0, z59_1, z59_2, z59_3, z59_4, z59_5, z59_6, z59_7, z59_8⟩ := cz9_ BK470.out))
        go_loopg [7] k2 (fun kq v7 w' => ∃ (x7_3 : Int) (x1001_3 : Int) (x1002_3 : Int) (x471000_3 : List Int) (x471001_3 : List Int) (x471006_3 : List Int) (x471007_3 : List Int) (u471000 : Value) (u471001 : Value) (u471006 : Value) (u471007 : Value), v7 = .int .i64 x7_3 ∧ Aside0 (spec_l5Draw.l2 kq x7_3 s0_0 x1001_3 x1002_3 x471000_3 x471001_3 t488 t491 t461 t494 x471006_3 x471007_3 t469 = some (r1, r2, r3, r4, r5, r6, r7, r8, r9, r10, r11)) ∧ Aside0 (kq ≤ k2) ∧ Aside0 (Kd.R (Kd.int .i64) 3 w' w.heap.size (fun k_ => some k_ ≠ (u471001 : Value).ownBlock ∧ some k_ ≠ (u471006 : Value).ownBlock ∧ some k_ ≠ (u471007 : Value).ownBlock) u471000 x471000_3) ∧ Aside0 (Kd.R (Kd.int .i64) 3 w' w.heap.size (fun k_ => some k_ ≠ (u471000 : Value).ownBlock ∧ some k_ ≠ (u471006 : Value).ownBlock ∧ some k_ ≠ (u471007 : Value).ownBlock) u471001 x471001_3) ∧ Aside0 (Kd.R (Kd.int .i64) 3 w' w.heap.size (fun k_ => some k_ ≠ (u471000 : Value).ownBlock ∧ some k_ ≠ (u471001 : Value).ownBlock ∧ some k_ ≠ (u471007 : Value).ownBlock) u471006 x471006_3) ∧ Aside0 (Kd.R (Kd.int .i64) 3 w' w.heap.size (fun k_ => some k_ ≠ (u471000 : Value).ownBlock ∧ some k_ ≠ (u471001 : Value).ownBlock ∧ some k_ ≠ (u471006 : Value).ownBlock) u471007 x471007_3) ∧ Aside0 (w'.heap[gb435]? = some (.cells #[(.slice none 0 0), (.slice none 0 0), .bool false, .bool false, .bool false, .bool false, (.slice none 0 0), (.slice none 0 0), .int .i64 0] 28 (0, 0))) ∧ Aside0 (w'.heap[gb470]? = some (.cells #[u471000, u471001, .bool t488, .bool t491, .bool t461, .bool t494, u471006, u471007, .int .i64 t469] 28 (0, 0))) ∧ Aside0 (IsS102 w0 w' g s0_0 x1001_3 x1002_3) ∧ Aside0 (KeepBut w w' g none) ∧ Aside0 (Below w0.heap.size w0 w'))
        case atStart => exact ⟨(0), (t495), (t496), (x471000_2), (y487), (x471006_2), (x471007_2), (u471000), (.slice (some ⟨go41, 0, none⟩) x471001_2.length co41), (u471006), (u471007), d3_, H', ⟨Nat.le_refl _⟩, ⟨kr_ (Kd.R_mono (Kd.R_far (p := ⟨gb470, 5, none⟩) (Kd.R_types HO_471000.out BK470.out (by decide)) (fun _ hk => hk.2) (.bool t494)) (fun _ hk => ⟨hk.1.1, ⟨hk.1.2.1, hk.1.2.2.1⟩⟩))⟩, ⟨kr_ (Kd.R_mono (Kd.R_far (p := ⟨gb470, 5, none⟩) (Kd.R_types HO_471001.out BK470.out (by decide)) (fun _ hk => hk.2) (.bool t494)) (fun _ hk => ⟨hk.1.1, ⟨hk.1.2.1, hk.1.2.2.1⟩⟩))⟩, ⟨kr_ (Kd.R_mono (Kd.R_far (p := ⟨gb470, 5, none⟩) (Kd.R_types HO_471006.out BK470.out (by decide)) (fun _ hk => hk.2) (.bool t494)) (fun _ hk => ⟨hk.1.1, ⟨hk.1.2.1, hk.1.2.2.1⟩⟩))⟩, ⟨kr_ (Kd.R_mono (Kd.R_far (p := ⟨gb470, 5, none⟩) (Kd.R_types HO_471007.out BK470.out (by decide)) (fun _ hk => hk.2) (.bool t494)) (fun _ hk => ⟨hk.1.1, ⟨hk.1.2.1, hk.1.2.2.1⟩⟩))⟩, ⟨by refine bk_ ?_; refine blk_far ?_ NB435_470.out _; refine bk_ ?_; exact BK435.out⟩, ⟨by refine bk_ ?_; refine blk_put (cs := #[u471000, .slice (some ⟨go41, 0, none⟩) x471001_2.length co41, .bool t488, .bool t491, .bool t461, .bool t462, u471006, u471007, .int .i64 t469]) ?_ 5 _ rfl; refine bk_ ?_; exact BK470.out⟩, ⟨by repeat (first | (with_reducible first | exact HI0.out | apply IsS102.alloc | apply IsS102.drewN | apply IsS102.drew | apply IsS102.set_1 | apply IsS102.set_2 | refine IsS102.far ?_ NB0_435.out _ | refine IsS102.far ?_ NB0_470.out _) | exact HI0.out)⟩, ⟨by repeat (first | (with_reducible first | exact HK.out | apply KeepBut.set_ | apply keep_drewN | apply keep_drew | apply keep_alloc | refine keep_far ?_ GW435.out _ | refine keep_far ?_ GW470.out _) | exact HK.out)⟩, ⟨(have := GeI.mk (IsS102.ge HI0.out); bw_ HB.out)⟩⟩
        case round =>
         clear H'
         try clear c2
         try clear p2
         try clear c3
         try clear p3
         try clear q3
         try clear hx3
         try clear hf3
         try clear c4
         try clear p4
         try clear q4
         try clear hx4
         try clear qi4
         try clear hf4
         try clear c5
         try clear p6
         try clear c7
         try clear c7b0
         try clear c8
         try clear c9
         try clear c20
         try clear c21
         try clear c26
         try clear c26b0
         try clear c27
         try clear c29
         try clear c29b0
         try clear c30
         try clear c30b0
         try clear p31
         try clear q31
         try clear hx31
         try clear hf31
         try clear c40
         try clear c40b0
         try clear c40b1
         try clear p41
         try clear q41
         try clear hx41
         try clear qi41
         try clear hf41
         try clear c53
         try clear c54
         try clear y22_0 y22_1 y22_2 y22_3 y22_4 y22_5 y22_6 y22_7 y22_8 z22_0 z22_1 z22_2 z22_3 z22_4 z22_5 z22_6 z22_7 z22_8
         try clear y55_0 y55_1 y55_2 y55_3 y55_4 y55_5 y55_6 y55_7 y55_8 z55_0 z55_1 z55_2 z55_3 z55_4 z55_5 z55_6 z55_7 z55_8
         try clear y57_0 y57_1 y57_2 y57_3 y57_4 y57_5 y57_6 y57_7 y57_8 z57_0 z57_1 z57_2 z57_3 z57_4 z57_5 z57_6 z57_7 z57_8
         try clear y59_0 y59_1 y59_2 y59_3 y59_4 y59_5 y59_6 y59_7 y59_8 z59_0 z59_1 z59_2 z59_3 z59_4 z59_5 z59_6 z59_7 z59_8
         try clear hx31_0
         try clear hx41_0
         try clear p2
         try clear p31
         try clear p41
         try clear p6
         try clear q31
         try clear q41
         obtain ⟨x7_3, x1001_3, x1002_3, x471000_3, x471001_3, x471006_3, x471007_3, u471000, u471001, u471006, u471007, rfl, HA, HK3, HO_471000, HO_471001, HO_471006, HO_471007, BK435, BK470, HI0, HK, HB⟩ := hrel
         cases gk with
         | zero => exact absurd HA.out (by simp [spec_l5Draw.l2])
         | succ k3 =>
          have H := HA.out
          clear HA
          simp only [spec_l5Draw.l2] at H
          by_cases c60 : x7_3 < 8
          ·rw [if_pos c60] at H
           have c60b0 := decide_eq_true c60
           clear c60
           replace H := Option.bind_eq_some_iff.mp H
           obtain ⟨⟨t497, t498, t499⟩, A610, H⟩ := H
           try dsimp only at H
           have A61 := A_ A610
           clear A610
           obtain ⟨y500, hy500⟩ : ∃ y_ : List Int, y_ = (([0, 2, 100, 64, 65535] : List Int)) := ⟨_, rfl⟩
           replace H : ((spec_l1Int.f s0_0 t498 t499 y500).bind fun bt503 => (if 0 ≤ t497 then (if t497 < (x471000_3.length : Int) then ((spec_l1Below.f s0_0 bt503.2.1 bt503.2.2 60).bind fun bt507 => ((spec_l1Word.f s0_0 bt507.2.1 bt507.2.2).bind fun bt510 => (if 0 ≤ (wrap64 (80 + bt507.1)) then (if (wrap64 (80 + bt507.1)) < (x471000_3.length : Int) then (spec_l5Draw.l2 k3 (wrap64 (x7_3 + 1)) s0_0 bt510.2.1 bt510.2.2 ((x471000_3.set (t497 : Int).toNat bt503.1).set ((wrap64 (80 + bt507.1)) : Int).toNat bt510.1) x471001_3 t488 t491 t461 t494 x471006_3 x471007_3 t469) else (none)) else (none)))) else (none)) else (none))) = some (r1, r2, r3, r4, r5, r6, r7, r8, r9, r10, r11) := by first | (rw [hy500]; with_reducible exact H) | (have H2_ := (Option.bind_some _ _).symm.trans H; rw [hy500]; with_reducible exact H2_) | (have H2_ := (Option.bind_some _ _).symm.trans H; with_reducible exact H2_) | with_reducible exact H | (rw [hy500]; exact H) | exact H
           have Ny500 := A_ hy500
           clear hy500
           replace H := Option.bind_eq_some_iff.mp H
           obtain ⟨⟨t503, t504, t505⟩, A620, H⟩ := H
           try dsimp only at H
           have A62 := A_ A620
           clear A620
           by_cases c63 : 0 ≤ t497
           ·rw [if_pos c63] at H
            have c63b0 := decide_eq_true c63
            clear c63
            by_cases c64 : t497 < (x471000_3.length : Int)
            ·rw [if_pos c64] at H
             have c64b0 := decide_eq_true c64
             clear c64
             obtain ⟨y506, hy506⟩ : ∃ y_ : List Int, y_ = (x471000_3.set (t497 : Int).toNat t503) := ⟨_, rfl⟩
             replace H : ((spec_l1Below.f s0_0 t504 t505 60).bind fun bt507 => ((spec_l1Word.f s0_0 bt507.2.1 bt507.2.2).bind fun bt510 => (if 0 ≤ (wrap64 (80 + bt507.1)) then (if (wrap64 (80 + bt507.1)) < (x471000_3.length : Int) then (spec_l5Draw.l2 k3 (wrap64 (x7_3 + 1)) s0_0 bt510.2.1 bt510.2.2 (y506.set ((wrap64 (80 + bt507.1)) : Int).toNat bt510.1) x471001_3 t488 t491 t461 t494 x471006_3 x471007_3 t469) else (none)) else (none)))) = some (r1, r2, r3, r4, r5, r6, r7, r8, r9, r10, r11) := by first | (rw [hy506]; with_reducible exact H) | (have H2_ := (Option.bind_some _ _).symm.trans H; rw [hy506]; with_reducible exact H2_) | (have H2_ := (Option.bind_some _ _).symm.trans H; with_reducible exact H2_) | with_reducible exact H | (rw [hy506]; exact H) | exact H
             have Ny506 := A_ hy506
             clear hy506
             replace H := Option.bind_eq_some_iff.mp H
             obtain ⟨⟨t507, t508, t509⟩, A660, H⟩ := H
             try dsimp only at H
             have A66 := A_ A660
             clear A660
             replace H := Option.bind_eq_some_iff.mp H
             obtain ⟨⟨t510, t511, t512⟩, A670, H⟩ := H
             try dsimp only at H
             have A67 := A_ A670
             clear A670
             obtain ⟨ji68, hji68⟩ : ∃ j_ : Int, (wrap64 (80 + t507)) = j_ := ⟨_, rfl⟩
             replace H : (if 0 ≤ (ji68) then (if (ji68) < (x471000_3.length : Int) then (spec_l5Draw.l2 k3 (wrap64 (x7_3 + 1)) s0_0 t511 t512 (y506.set ((ji68) : Int).toNat t510) x471001_3 t488 t491 t461 t494 x471006_3 x471007_3 t469) else (none)) else (none)) = some (r1, r2, r3, r4, r5, r6, r7, r8, r9, r10, r11) := by first | (rw [hji68] at H; exact H) | (simp only [hji68] at H ⊢; exact H)
             (try rw [hji68] at A61)
             (try rw [hji68] at A62)
             (try rw [hji68] at A66)
             (try rw [hji68] at A67)
             have hji68w : (IntKind.i64.wrap (80 + t507)) = ji68 := (i64_w _).trans hji68
             by_cases c69 : 0 ≤ (ji68)
             ·rw [if_pos c69] at H
              have c69b0 := decide_eq_true c69
              clear c69
              by_cases c70 : (ji68) < (x471000_3.length : Int)
              ·rw [if_pos c70] at H
               have c70b0 := decide_eq_true c70
               clear c70
               obtain ⟨y513, hy513⟩ : ∃ y_ : List Int, y_ = (y506.set ((ji68) : Int).toNat t510) := ⟨_, rfl⟩
               replace H : (spec_l5Draw.l2 k3 (wrap64 (x7_3 + 1)) s0_0 t511 t512 y513 x471001_3 t488 t491 t461 t494 x471006_3 x471007_3 t469) = some (r1, r2, r3, r4, r5, r6, r7, r8, r9, r10, r11) := by first | (rw [hy513]; with_reducible exact H) | (have H2_ := (Option.bind_some _ _).symm.trans H; rw [hy513]; with_reducible exact H2_) | (have H2_ := (Option.bind_some _ _).symm.trans H; with_reducible exact H2_) | with_reducible exact H | (rw [hy513]; exact H) | exact H
               have Ny513 := A_ hy513
               clear hy513
               have H' := A_ H
               clear H
               try go_wp2
               replace HO_471000 := A_ (Kd.R_drew HO_471000.out)
               replace HO_471001 := A_ (Kd.R_drew HO_471001.out)
               replace HO_471006 := A_ (Kd.R_drew HO_471006.out)
               replace HO_471007 := A_ (Kd.R_drew HO_471007.out)
               replace BK435 := A_ (blk_drew BK435.out)
               replace BK470 := A_ (blk_drew BK470.out)
               replace HI0 := A_ (IsS102.drew HI0.out)
               replace HK := A_ (keep_drew HK.out)
               replace HB := A_ (below_drew1 HB.out)
               refine start_ (n := 9) (S := fun w' => w'.cell? ⟨gb470, 0, none⟩ = some (u471000) ∧ w'.cell? ⟨gb470, 1, none⟩ = some (u471001) ∧ w'.cell? ⟨gb470, 2, none⟩ = some (.bool t488) ∧ w'.cell? ⟨gb470, 3, none⟩ = some (.bool t491) ∧ w'.cell? ⟨gb470, 4, none⟩ = some (.bool t461) ∧ w'.cell? ⟨gb470, 5, none⟩ = some (.bool t494) ∧ w'.cell? ⟨gb470, 6, none⟩ = some (u471006) ∧ w'.cell? ⟨gb470, 7, none⟩ = some (u471007) ∧ w'.cell? ⟨gb470, 8, none⟩ = some (.int .i64 t469)) (ds := [8]) #[false, false, false, false, false, false, false, false, false] (by kernel_rfl) rfl rfl ⟨(blk_cell BK470.out 0).trans rfl, (blk_cell BK470.out 1).trans rfl, (blk_cell BK470.out 2).trans rfl, (blk_cell BK470.out 3).trans rfl, (blk_cell BK470.out 4).trans rfl, (blk_cell BK470.out 5).trans rfl, (blk_cell BK470.out 6).trans rfl, (blk_cell BK470.out 7).trans rfl, (blk_cell BK470.out 8).trans rfl⟩ (fun hHeld => ?_); refine with_tabW spec_l5Draw.tab18 spec_l5Draw.bits18 (fun HT_ HW_ => ?_)
               generalize wr.drew = w72 at HO_471000 HO_471001 HO_471006 HO_471007 BK435 BK470 HI0 HK HB hHeld ⊢
               refine pu_ 0 (some 57) (bm_ 9 1) (any_of HT_.out (by kernel_rfl)) ?_
               refine pu_ 2 (some 59) (bm_ 9 5) (any_of HT_.out (by kernel_rfl)) ?_
               refine pu_ 4 (some 61) (bm_ 9 21) (any_of HT_.out (by kernel_rfl)) ?_
               refine take_ (i := 1) (N := some 58) (v := ?_) (a' := ?_) (bm_ 9 23) rfl rfl (take_ofW HT_.out HW_.out (by kernel_rfl)) (fun _ _ _ h => h) (Or.inl ⟨by rfl, ?_⟩) hHeld ?_ ?_
               rotate_left
               ·rintro w' ⟨s0, s1, s2, s3, s4, s5, s6, s7, s8⟩
                go_simp
                with_reducible rfl
               rotate_left
               ·simp only [Act.put, List.setIfInBounds_toArray, List.set_cons_zero, List.set_cons_succ, i64_w, i32_w]
                rfl
               refine join_ (σ := Value) 3 (bm_ 9 63) (fun s_ => [(60, .int .i64 t497), (62, s_)]) (fun s_ w' => (w'.cell? ⟨gb470, 0, none⟩ = some (u471000) ∧ w'.cell? ⟨gb470, 1, none⟩ = some (u471001) ∧ w'.cell? ⟨gb470, 2, none⟩ = some (.bool t488) ∧ w'.cell? ⟨gb470, 3, none⟩ = some (.bool t491) ∧ w'.cell? ⟨gb470, 4, none⟩ = some (.bool t461) ∧ w'.cell? ⟨gb470, 5, none⟩ = some (.bool t494) ∧ w'.cell? ⟨gb470, 6, none⟩ = some (u471006) ∧ w'.cell? ⟨gb470, 7, none⟩ = some (u471007) ∧ w'.cell? ⟨gb470, 8, none⟩ = some (.int .i64 t469)) ∧ (Kd.R (Kd.int .i64) 3 w' w.heap.size (fun k_ => some k_ ≠ (u471000 : Value).ownBlock ∧ some k_ ≠ (u471001 : Value).ownBlock ∧ some k_ ≠ (u471006 : Value).ownBlock ∧ some k_ ≠ (u471007 : Value).ownBlock) s_ y500) ∧ (Kd.R (Kd.int .i64) 3 w' w.heap.size (fun k_ => some k_ ≠ (s_ : Value).ownBlock ∧ some k_ ≠ (u471001 : Value).ownBlock ∧ some k_ ≠ (u471006 : Value).ownBlock ∧ some k_ ≠ (u471007 : Value).ownBlock) u471000 x471000_3) ∧ (Kd.R (Kd.int .i64) 3 w' w.heap.size (fun k_ => some k_ ≠ (s_ : Value).ownBlock ∧ some k_ ≠ (u471000 : Value).ownBlock ∧ some k_ ≠ (u471006 : Value).ownBlock ∧ some k_ ≠ (u471007 : Value).ownBlock) u471001 x471001_3) ∧ (Kd.R (Kd.int .i64) 3 w' w.heap.size (fun k_ => some k_ ≠ (s_ : Value).ownBlock ∧ some k_ ≠ (u471000 : Value).ownBlock ∧ some k_ ≠ (u471001 : Value).ownBlock ∧ some k_ ≠ (u471007 : Value).ownBlock) u471006 x471006_3) ∧ (Kd.R (Kd.int .i64) 3 w' w.heap.size (fun k_ => some k_ ≠ (s_ : Value).ownBlock ∧ some k_ ≠ (u471000 : Value).ownBlock ∧ some k_ ≠ (u471001 : Value).ownBlock ∧ some k_ ≠ (u471006 : Value).ownBlock) u471007 x471007_3) ∧ (w'.heap[gb435]? = some (.cells #[.slice none 0 0, .slice none 0 0, .bool false, .bool false, .bool false, .bool false, .slice none 0 0, .slice none 0 0, .int .i64 0] 28 (0, 0))) ∧ (w'.heap[gb470]? = some (.cells #[u471000, u471001, .bool t488, .bool t491, .bool t461, .bool t494, u471006, u471007, .int .i64 t469] 28 (0, 0))) ∧ (IsS102 w0 w' g s0_0 t498 t499) ∧ (KeepBut w w' g none) ∧ (Below w0.heap.size w0 w')) ?_ ?_
               rotate_left
               ·intro hCont
                refine two_ (i := 3) (j := 5) (Ni := some 60) (Nj := some 62) (bm_ 9 31) (bm_ 9 55) rfl rfl rfl rfl (two_of HT_.out (by kernel_rfl)) (by decide) (by decide) (fun K hK => ?_) (fun K hK => ?_)
                ·skip
                 refine goes_ Try.func71 (by kernel_rfl) rfl #[.pointer (some ⟨g, 0, none⟩), .int .i64 32] (by rfl) rfl rfl d0_ ?_
                 with_reducible refine (spec_l1Below.calls g s0_0 x1001_3 x1002_3 32 t497 t498 t499 w0 _ ?side1 ?side2 A61.out).mono ?_
                 (case side1 => repeat (first | (with_reducible first | exact HI0.out | apply IsS102.alloc | apply IsS102.drewN | apply IsS102.drew | apply IsS102.set_1 | apply IsS102.set_2 | refine IsS102.far ?_ NB0_435.out _ | refine IsS102.far ?_ NB0_470.out _) | exact HI0.out))
                 (case side2 => exact (have := GeI.mk (IsS102.ge HI0.out); bw_ HB.out))
                 rintro e w73 ⟨rfl, hi, hb, hk⟩
                 refine ⟨_, rfl, ?_⟩
                 replace HO_471000 := A_ (Kd.R_mono (Kd.R_keep (IsS102.apart (show IsS102 w0 _ g s0_0 x1001_3 x1002_3 from by repeat (first | (with_reducible first | exact HI0.out | apply IsS102.alloc | apply IsS102.drewN | apply IsS102.drew | apply IsS102.set_1 | apply IsS102.set_2 | refine IsS102.far ?_ NB0_435.out _ | refine IsS102.far ?_ NB0_470.out _) | exact HI0.out)) (kr_ HO_471000.out) (by decide)) hk (fun _ h => h.2)) (fun _ h => h.1))
                 replace HO_471001 := A_ (Kd.R_mono (Kd.R_keep (IsS102.apart (show IsS102 w0 _ g s0_0 x1001_3 x1002_3 from by repeat (first | (with_reducible first | exact HI0.out | apply IsS102.alloc | apply IsS102.drewN | apply IsS102.drew | apply IsS102.set_1 | apply IsS102.set_2 | refine IsS102.far ?_ NB0_435.out _ | refine IsS102.far ?_ NB0_470.out _) | exact HI0.out)) (kr_ HO_471001.out) (by decide)) hk (fun _ h => h.2)) (fun _ h => h.1))
                 replace HO_471006 := A_ (Kd.R_mono (Kd.R_keep (IsS102.apart (show IsS102 w0 _ g s0_0 x1001_3 x1002_3 from by repeat (first | (with_reducible first | exact HI0.out | apply IsS102.alloc | apply IsS102.drewN | apply IsS102.drew | apply IsS102.set_1 | apply IsS102.set_2 | refine IsS102.far ?_ NB0_435.out _ | refine IsS102.far ?_ NB0_470.out _) | exact HI0.out)) (kr_ HO_471006.out) (by decide)) hk (fun _ h => h.2)) (fun _ h => h.1))
                 replace HO_471007 := A_ (Kd.R_mono (Kd.R_keep (IsS102.apart (show IsS102 w0 _ g s0_0 x1001_3 x1002_3 from by repeat (first | (with_reducible first | exact HI0.out | apply IsS102.alloc | apply IsS102.drewN | apply IsS102.drew | apply IsS102.set_1 | apply IsS102.set_2 | refine IsS102.far ?_ NB0_435.out _ | refine IsS102.far ?_ NB0_470.out _) | exact HI0.out)) (kr_ HO_471007.out) (by decide)) hk (fun _ h => h.2)) (fun _ h => h.1))
                 replace BK435 := A_ (KeepBut.blk hk (bk_ BK435.out) NB435_0.out (by simp))
                 replace BK470 := A_ (KeepBut.blk hk (bk_ BK470.out) NB470_0.out (by simp))
                 replace HK := A_ (KeepBut.trans d2_ hk (.inl rfl))
                 replace HB := A_ (hb)
                 replace HI0 := A_ (hi)
                 (try clear hb)
                 (try clear hb2)
                 (try clear hk)
                 (try clear hi)
                 refine hK.out _ _ ⟨(blk_cell BK470.out 0).trans rfl, (blk_cell BK470.out 1).trans rfl, (blk_cell BK470.out 2).trans rfl, (blk_cell BK470.out 3).trans rfl, (blk_cell BK470.out 4).trans rfl, (blk_cell BK470.out 5).trans rfl, (blk_cell BK470.out 6).trans rfl, (blk_cell BK470.out 7).trans rfl, (blk_cell BK470.out 8).trans rfl⟩ (fun hHeld => ?_)
                 clear hK K
                 refine norm_ (a' := ?_) ?_ ?_
                 rotate_left
                 ·show Act.put _ (some 60) _ = _
                  simp only [Act.put, List.setIfInBounds_toArray, List.set_cons_zero, List.set_cons_succ, i64_w, i32_w]
                  rfl
                 refine one_ (i := 5) (N := some 62) (bm_ 9 63) rfl rfl (one_of HT_.out (by kernel_rfl)) (by decide) (fun K hK => ?_)
                 refine Kd.R_lit_step (Kd.int .i64) _ 3 ?hg (N := 62) ?hd (xs := ([0, 2, 100, 64, 65535] : List Int)) (inner := [.int .i64 0, .int .i64 2, .int .i64 100, .int .i64 64, .int .i64 65535]) (ok := fun _ => True) (okp := fun _ => True) ?hr ?hp (fun _ hk => hk) trivial (Below.refl _ _) (Nat.le_refl _) (by simp) ?_; (case hd => rfl); (case hg => rfl); (case hr => first | (go_simp; done) | (go_simp; rfl)); (case hp => exact (Reps.one (show Kd.M (Kd.int .i64) _ _ _ 0 [.int .i64 0] from rfl) (Reps.one (show Kd.M (Kd.int .i64) _ _ _ 2 [.int .i64 2] from rfl) (Reps.one (show Kd.M (Kd.int .i64) _ _ _ 100 [.int .i64 100] from rfl) (Reps.one (show Kd.M (Kd.int .i64) _ _ _ 64 [.int .i64 64] from rfl) (Reps.one (show Kd.M (Kd.int .i64) _ _ _ 65535 [.int .i64 65535] from rfl) (Reps.none _ _)))))))
                 intro v501 w74 ho75 hb hg_ hnew_
                 clear hg_ hnew_
                 (first | rw [← Ny500.out] at ho75 | (simp only [Int.reduceToNat] at ho75; rw [← Ny500.out] at ho75))
                 have HO502 := A_ (Kd.R_lower (Kd.R_new' (Kd.R_new' (Kd.R_new' (Kd.R_new' ho75 (Kd.R_lt (kr_ HO_471000.out))) (Kd.R_lt (kr_ HO_471001.out))) (Kd.R_lt (kr_ HO_471006.out))) (Kd.R_lt (kr_ HO_471007.out))) (keep_size (w := w) (g := g) (row := none) d2_))
                 replace HO_471000 := A_ (Kd.R_elder' (kr_ HO_471000.out) (Kd.R_base ho75) hb)
                 replace HO_471001 := A_ (Kd.R_elder' (kr_ HO_471001.out) (Kd.R_base ho75) hb)
                 replace HO_471006 := A_ (Kd.R_elder' (kr_ HO_471006.out) (Kd.R_base ho75) hb)
                 replace HO_471007 := A_ (Kd.R_elder' (kr_ HO_471007.out) (Kd.R_base ho75) hb)
                 replace BK435 := A_ (blk_below (bk_ BK435.out) hb)
                 replace BK470 := A_ (blk_below (bk_ BK470.out) hb)
                 replace HK := A_ (KeepBut.trans d2_ (KeepBut.of_below hb g none) (.inl rfl))
                 replace HB := A_ (below_step (have := GeI.mk (IsS102.ge HI0.out); bw_ HB.out) hb)
                 replace HI0 := A_ (IsS102.below d10_ hb)
                 clear hb ho75
                 refine hK.out _ _ ⟨(blk_cell BK470.out 0).trans rfl, (blk_cell BK470.out 1).trans rfl, (blk_cell BK470.out 2).trans rfl, (blk_cell BK470.out 3).trans rfl, (blk_cell BK470.out 4).trans rfl, (blk_cell BK470.out 5).trans rfl, (blk_cell BK470.out 6).trans rfl, (blk_cell BK470.out 7).trans rfl, (blk_cell BK470.out 8).trans rfl⟩ (fun hHeld => ?_)
                 clear hK K
                 refine norm_ (a' := ?_) ?_ ?_
                 rotate_left
                 ·show Act.put _ (some 62) _ = _
                  simp only [Act.put, List.setIfInBounds_toArray, List.set_cons_zero, List.set_cons_succ, i64_w, i32_w]
                  rfl
                 exact norm_ d20_ (hCont (v501) _ ⟨hHeld, (kr_ (Kd.R_mono HO502.out (fun _ hk => ⟨hk.1.1.1.2, ⟨hk.1.1.2, ⟨hk.1.2, hk.2⟩⟩⟩))), (kr_ (Kd.R_mono HO_471000.out (fun _ hk => ⟨hk.2, ⟨hk.1.1, ⟨hk.1.2.1, hk.1.2.2⟩⟩⟩))), (kr_ (Kd.R_mono HO_471001.out (fun _ hk => ⟨hk.2, ⟨hk.1.1, ⟨hk.1.2.1, hk.1.2.2⟩⟩⟩))), (kr_ (Kd.R_mono HO_471006.out (fun _ hk => ⟨hk.2, ⟨hk.1.1, ⟨hk.1.2.1, hk.1.2.2⟩⟩⟩))), (kr_ (Kd.R_mono HO_471007.out (fun _ hk => ⟨hk.2, ⟨hk.1.1, ⟨hk.1.2.1, hk.1.2.2⟩⟩⟩))), (bk_ BK435.out), (bk_ BK470.out), d10_, d2_, (have := GeI.mk (IsS102.ge HI0.out); bw_ HB.out)⟩)
                ·skip
                 refine Kd.R_lit_step (Kd.int .i64) _ 3 ?hg (N := 62) ?hd (xs := ([0, 2, 100, 64, 65535] : List Int)) (inner := [.int .i64 0, .int .i64 2, .int .i64 100, .int .i64 64, .int .i64 65535]) (ok := fun _ => True) (okp := fun _ => True) ?hr ?hp (fun _ hk => hk) trivial (Below.refl _ _) (Nat.le_refl _) (by simp) ?_; (case hd => rfl); (case hg => rfl); (case hr => first | (go_simp; done) | (go_simp; rfl)); (case hp => exact (Reps.one (show Kd.M (Kd.int .i64) _ _ _ 0 [.int .i64 0] from rfl) (Reps.one (show Kd.M (Kd.int .i64) _ _ _ 2 [.int .i64 2] from rfl) (Reps.one (show Kd.M (Kd.int .i64) _ _ _ 100 [.int .i64 100] from rfl) (Reps.one (show Kd.M (Kd.int .i64) _ _ _ 64 [.int .i64 64] from rfl) (Reps.one (show Kd.M (Kd.int .i64) _ _ _ 65535 [.int .i64 65535] from rfl) (Reps.none _ _)))))))
                 intro v501 w73 ho74 hb hg_ hnew_
                 clear hg_ hnew_
                 (first | rw [← Ny500.out] at ho74 | (simp only [Int.reduceToNat] at ho74; rw [← Ny500.out] at ho74))
                 have HO502 := A_ (Kd.R_lower (Kd.R_new' (Kd.R_new' (Kd.R_new' (Kd.R_new' ho74 (Kd.R_lt (kr_ HO_471000.out))) (Kd.R_lt (kr_ HO_471001.out))) (Kd.R_lt (kr_ HO_471006.out))) (Kd.R_lt (kr_ HO_471007.out))) (keep_size (w := w) (g := g) (row := none) d2_))
                 replace HO_471000 := A_ (Kd.R_elder' (kr_ HO_471000.out) (Kd.R_base ho74) hb)
                 replace HO_471001 := A_ (Kd.R_elder' (kr_ HO_471001.out) (Kd.R_base ho74) hb)
                 replace HO_471006 := A_ (Kd.R_elder' (kr_ HO_471006.out) (Kd.R_base ho74) hb)
                 replace HO_471007 := A_ (Kd.R_elder' (kr_ HO_471007.out) (Kd.R_base ho74) hb)
                 replace BK435 := A_ (blk_below (bk_ BK435.out) hb)
                 replace BK470 := A_ (blk_below (bk_ BK470.out) hb)
                 replace HK := A_ (KeepBut.trans d2_ (KeepBut.of_below hb g none) (.inl rfl))
                 replace HB := A_ (below_step (have := GeI.mk (IsS102.ge HI0.out); bw_ HB.out) hb)
                 replace HI0 := A_ (IsS102.below d10_ hb)
                 clear hb ho74
                 refine hK.out _ _ ⟨(blk_cell BK470.out 0).trans rfl, (blk_cell BK470.out 1).trans rfl, (blk_cell BK470.out 2).trans rfl, (blk_cell BK470.out 3).trans rfl, (blk_cell BK470.out 4).trans rfl, (blk_cell BK470.out 5).trans rfl, (blk_cell BK470.out 6).trans rfl, (blk_cell BK470.out 7).trans rfl, (blk_cell BK470.out 8).trans rfl⟩ (fun hHeld => ?_)
                 clear hK K
                 refine norm_ (a' := ?_) ?_ ?_
                 rotate_left
                 ·show Act.put _ (some 62) _ = _
                  simp only [Act.put, List.setIfInBounds_toArray, List.set_cons_zero, List.set_cons_succ, i64_w, i32_w]
                  rfl
                 refine one_ (i := 3) (N := some 60) (bm_ 9 63) rfl rfl (one_of HT_.out (by kernel_rfl)) (by decide) (fun K hK => ?_)
                 refine goes_ Try.func71 (by kernel_rfl) rfl #[.pointer (some ⟨g, 0, none⟩), .int .i64 32] (by rfl) rfl rfl d0_ ?_
                 with_reducible refine (spec_l1Below.calls g s0_0 x1001_3 x1002_3 32 t497 t498 t499 w0 _ ?side1 ?side2 A61.out).mono ?_
                 (case side1 => repeat (first | (with_reducible first | exact HI0.out | apply IsS102.alloc | apply IsS102.drewN | apply IsS102.drew | apply IsS102.set_1 | apply IsS102.set_2 | refine IsS102.far ?_ NB0_435.out _ | refine IsS102.far ?_ NB0_470.out _) | exact HI0.out))
                 (case side2 => exact (have := GeI.mk (IsS102.ge HI0.out); bw_ HB.out))
                 rintro e w75 ⟨rfl, hi, hb, hk⟩
                 refine ⟨_, rfl, ?_⟩
                 replace HO_471000 := A_ (Kd.R_mono (Kd.R_keep (IsS102.apart (show IsS102 w0 _ g s0_0 x1001_3 x1002_3 from by repeat (first | (with_reducible first | exact HI0.out | apply IsS102.alloc | apply IsS102.drewN | apply IsS102.drew | apply IsS102.set_1 | apply IsS102.set_2 | refine IsS102.far ?_ NB0_435.out _ | refine IsS102.far ?_ NB0_470.out _) | exact HI0.out)) (kr_ HO_471000.out) (by decide)) hk (fun _ h => h.2)) (fun _ h => h.1))
                 replace HO_471001 := A_ (Kd.R_mono (Kd.R_keep (IsS102.apart (show IsS102 w0 _ g s0_0 x1001_3 x1002_3 from by repeat (first | (with_reducible first | exact HI0.out | apply IsS102.alloc | apply IsS102.drewN | apply IsS102.drew | apply IsS102.set_1 | apply IsS102.set_2 | refine IsS102.far ?_ NB0_435.out _ | refine IsS102.far ?_ NB0_470.out _) | exact HI0.out)) (kr_ HO_471001.out) (by decide)) hk (fun _ h => h.2)) (fun _ h => h.1))
                 replace HO_471006 := A_ (Kd.R_mono (Kd.R_keep (IsS102.apart (show IsS102 w0 _ g s0_0 x1001_3 x1002_3 from by repeat (first | (with_reducible first | exact HI0.out | apply IsS102.alloc | apply IsS102.drewN | apply IsS102.drew | apply IsS102.set_1 | apply IsS102.set_2 | refine IsS102.far ?_ NB0_435.out _ | refine IsS102.far ?_ NB0_470.out _) | exact HI0.out)) (kr_ HO_471006.out) (by decide)) hk (fun _ h => h.2)) (fun _ h => h.1))
                 replace HO_471007 := A_ (Kd.R_mono (Kd.R_keep (IsS102.apart (show IsS102 w0 _ g s0_0 x1001_3 x1002_3 from by repeat (first | (with_reducible first | exact HI0.out | apply IsS102.alloc | apply IsS102.drewN | apply IsS102.drew | apply IsS102.set_1 | apply IsS102.set_2 | refine IsS102.far ?_ NB0_435.out _ | refine IsS102.far ?_ NB0_470.out _) | exact HI0.out)) (kr_ HO_471007.out) (by decide)) hk (fun _ h => h.2)) (fun _ h => h.1))
                 replace BK435 := A_ (KeepBut.blk hk (bk_ BK435.out) NB435_0.out (by simp))
                 replace BK470 := A_ (KeepBut.blk hk (bk_ BK470.out) NB470_0.out (by simp))
                 replace HO502 := A_ (Kd.R_mono (Kd.R_keep (IsS102.apart (show IsS102 w0 _ g s0_0 x1001_3 x1002_3 from by repeat (first | (with_reducible first | exact HI0.out | apply IsS102.alloc | apply IsS102.drewN | apply IsS102.drew | apply IsS102.set_1 | apply IsS102.set_2 | refine IsS102.far ?_ NB0_435.out _ | refine IsS102.far ?_ NB0_470.out _) | exact HI0.out)) (kr_ HO502.out) (by decide)) hk (fun _ h => h.2)) (fun _ h => h.1))
                 replace HK := A_ (KeepBut.trans d2_ hk (.inl rfl))
                 replace HB := A_ (hb)
                 replace HI0 := A_ (hi)
                 (try clear hb)
                 (try clear hb2)
                 (try clear hk)
                 (try clear hi)
                 refine hK.out _ _ ⟨(blk_cell BK470.out 0).trans rfl, (blk_cell BK470.out 1).trans rfl, (blk_cell BK470.out 2).trans rfl, (blk_cell BK470.out 3).trans rfl, (blk_cell BK470.out 4).trans rfl, (blk_cell BK470.out 5).trans rfl, (blk_cell BK470.out 6).trans rfl, (blk_cell BK470.out 7).trans rfl, (blk_cell BK470.out 8).trans rfl⟩ (fun hHeld => ?_)
                 clear hK K
                 refine norm_ (a' := ?_) ?_ ?_
                 rotate_left
                 ·show Act.put _ (some 60) _ = _
                  simp only [Act.put, List.setIfInBounds_toArray, List.set_cons_zero, List.set_cons_succ, i64_w, i32_w]
                  rfl
                 exact norm_ d20_ (hCont (v501) _ ⟨hHeld, (kr_ (Kd.R_mono HO502.out (fun _ hk => ⟨hk.1.1.1.2, ⟨hk.1.1.2, ⟨hk.1.2, hk.2⟩⟩⟩))), (kr_ (Kd.R_mono HO_471000.out (fun _ hk => ⟨hk.2, ⟨hk.1.1, ⟨hk.1.2.1, hk.1.2.2⟩⟩⟩))), (kr_ (Kd.R_mono HO_471001.out (fun _ hk => ⟨hk.2, ⟨hk.1.1, ⟨hk.1.2.1, hk.1.2.2⟩⟩⟩))), (kr_ (Kd.R_mono HO_471006.out (fun _ hk => ⟨hk.2, ⟨hk.1.1, ⟨hk.1.2.1, hk.1.2.2⟩⟩⟩))), (kr_ (Kd.R_mono HO_471007.out (fun _ hk => ⟨hk.2, ⟨hk.1.1, ⟨hk.1.2.1, hk.1.2.2⟩⟩⟩))), (bk_ BK435.out), (bk_ BK470.out), d10_, d2_, (have := GeI.mk (IsS102.ge HI0.out); bw_ HB.out)⟩)
               rintro v501 w76 ⟨hS_, h0_, h1_, h2_, h3_, h4_, h5_, h6_, h7_, h8_, h9_⟩
               have n0_ : Aside0 (Kd.R (Kd.int .i64) 3 w76 w.heap.size (fun k_ => some k_ ≠ (u471000 : Value).ownBlock ∧ some k_ ≠ (u471001 : Value).ownBlock ∧ some k_ ≠ (u471006 : Value).ownBlock ∧ some k_ ≠ (u471007 : Value).ownBlock) v501 y500) := ⟨h0_⟩
               have n1_ : Aside0 (Kd.R (Kd.int .i64) 3 w76 w.heap.size (fun k_ => some k_ ≠ (v501 : Value).ownBlock ∧ some k_ ≠ (u471001 : Value).ownBlock ∧ some k_ ≠ (u471006 : Value).ownBlock ∧ some k_ ≠ (u471007 : Value).ownBlock) u471000 x471000_3) := ⟨h1_⟩
               have n2_ : Aside0 (Kd.R (Kd.int .i64) 3 w76 w.heap.size (fun k_ => some k_ ≠ (v501 : Value).ownBlock ∧ some k_ ≠ (u471000 : Value).ownBlock ∧ some k_ ≠ (u471006 : Value).ownBlock ∧ some k_ ≠ (u471007 : Value).ownBlock) u471001 x471001_3) := ⟨h2_⟩
               have n3_ : Aside0 (Kd.R (Kd.int .i64) 3 w76 w.heap.size (fun k_ => some k_ ≠ (v501 : Value).ownBlock ∧ some k_ ≠ (u471000 : Value).ownBlock ∧ some k_ ≠ (u471001 : Value).ownBlock ∧ some k_ ≠ (u471007 : Value).ownBlock) u471006 x471006_3) := ⟨h3_⟩
               have n4_ : Aside0 (Kd.R (Kd.int .i64) 3 w76 w.heap.size (fun k_ => some k_ ≠ (v501 : Value).ownBlock ∧ some k_ ≠ (u471000 : Value).ownBlock ∧ some k_ ≠ (u471001 : Value).ownBlock ∧ some k_ ≠ (u471006 : Value).ownBlock) u471007 x471007_3) := ⟨h4_⟩
               have n5_ : Aside0 (w76.heap[gb435]? = some (.cells #[.slice none 0 0, .slice none 0 0, .bool false, .bool false, .bool false, .bool false, .slice none 0 0, .slice none 0 0, .int .i64 0] 28 (0, 0))) := ⟨h5_⟩
               have n6_ : Aside0 (w76.heap[gb470]? = some (.cells #[u471000, u471001, .bool t488, .bool t491, .bool t461, .bool t494, u471006, u471007, .int .i64 t469] 28 (0, 0))) := ⟨h6_⟩
               have n7_ : Aside0 (IsS102 w0 w76 g s0_0 t498 t499) := ⟨h7_⟩
               have n8_ : Aside0 (KeepBut w w76 g none) := ⟨h8_⟩
               have n9_ : Aside0 (Below w0.heap.size w0 w76) := ⟨h9_⟩
               clear HO_471000
               clear HO_471001
               clear HO_471006
               clear HO_471007
               clear BK435
               clear BK470
               clear HI0
               clear HK
               clear HB
               clear h0_ h1_ h2_ h3_ h4_ h5_ h6_ h7_ h8_ h9_
               have HO502 := n0_
               have HO_471000 := n1_
               have HO_471001 := n2_
               have HO_471006 := n3_
               have HO_471007 := n4_
               have BK435 := n5_
               have BK470 := n6_
               have HI0 := n7_
               have HK := n8_
               have HB := n9_
               clear n0_ n1_ n2_ n3_ n4_ n5_ n6_ n7_ n8_ n9_
               have hHeld : w76.cell? ⟨gb470, 0, none⟩ = some (u471000) ∧ w76.cell? ⟨gb470, 1, none⟩ = some (u471001) ∧ w76.cell? ⟨gb470, 2, none⟩ = some (.bool t488) ∧ w76.cell? ⟨gb470, 3, none⟩ = some (.bool t491) ∧ w76.cell? ⟨gb470, 4, none⟩ = some (.bool t461) ∧ w76.cell? ⟨gb470, 5, none⟩ = some (.bool t494) ∧ w76.cell? ⟨gb470, 6, none⟩ = some (u471006) ∧ w76.cell? ⟨gb470, 7, none⟩ = some (u471007) ∧ w76.cell? ⟨gb470, 8, none⟩ = some (.int .i64 t469) := hS_
               obtain ⟨Ao77, co77, eo77⟩ := Kd.R_slice HO502.out
               (first | subst eo77 | (injection eo77 with f1_ f2_ f3_; have f4_ := f1_.symm; have f5_ := f3_.symm; clear f1_ f2_ f3_; subst f4_; subst f5_))
               refine norm_ (a' := ?_) ?_ ?_
               rotate_left
               ·simp only [putAll, Act.put, List.setIfInBounds_toArray, List.set_cons_zero, List.set_cons_succ]
                rfl
               refine one_ (i := 6) (N := some 63) (bm_ 9 127) rfl rfl (one_of HT_.out (by kernel_rfl)) (by decide) (fun K hK => ?_)
               refine goes_ Try.func72 (by kernel_rfl) rfl #[.pointer (some ⟨g, 0, none⟩), .slice Ao77 y500.length co77] (by rfl) rfl rfl d0_ ?_
               with_reducible refine (spec_l1Int.calls g s0_0 t498 t499 _ _ y500 t503 t504 t505 w0 _ ?side1 ?side2 ?side3 ?side4 ?side5 A62.out).mono ?_
               (case side1 => repeat (first | (with_reducible first | exact HI0.out | apply IsS102.alloc | apply IsS102.drewN | apply IsS102.drew | apply IsS102.set_1 | apply IsS102.set_2 | refine IsS102.far ?_ NB0_435.out _ | refine IsS102.far ?_ NB0_470.out _) | exact HI0.out))
               (case side2 => exact (have := GeI.mk (IsS102.ge HI0.out); bw_ HB.out))
               (case side3 => repeat (first | exact (Kd.R_reads' HO502.out).2.2 | (with_reducible refine Kd.C_alloc ?_ _) | (with_reducible refine Kd.C_drewN ?_ _) | (with_reducible refine Kd.C_drew ?_)))
               (case side4 => exact (Kd.R_reads' HO502.out).2.1)
               (case side5 => exact far_slice (IsS102.own_ne HI0.out HO502.out (by decide)))
               rintro e w78 ⟨rfl, hi, hb, hk⟩
               refine ⟨_, rfl, ?_⟩
               replace HO_471000 := A_ (Kd.R_mono (Kd.R_keep (IsS102.apart (show IsS102 w0 _ g s0_0 t498 t499 from by repeat (first | (with_reducible first | exact HI0.out | apply IsS102.alloc | apply IsS102.drewN | apply IsS102.drew | apply IsS102.set_1 | apply IsS102.set_2 | refine IsS102.far ?_ NB0_435.out _ | refine IsS102.far ?_ NB0_470.out _) | exact HI0.out)) (kr_ HO_471000.out) (by decide)) hk (fun _ h => h.2)) (fun _ h => h.1))
               replace HO_471001 := A_ (Kd.R_mono (Kd.R_keep (IsS102.apart (show IsS102 w0 _ g s0_0 t498 t499 from by repeat (first | (with_reducible first | exact HI0.out | apply IsS102.alloc | apply IsS102.drewN | apply IsS102.drew | apply IsS102.set_1 | apply IsS102.set_2 | refine IsS102.far ?_ NB0_435.out _ | refine IsS102.far ?_ NB0_470.out _) | exact HI0.out)) (kr_ HO_471001.out) (by decide)) hk (fun _ h => h.2)) (fun _ h => h.1))
               replace HO_471006 := A_ (Kd.R_mono (Kd.R_keep (IsS102.apart (show IsS102 w0 _ g s0_0 t498 t499 from by repeat (first | (with_reducible first | exact HI0.out | apply IsS102.alloc | apply IsS102.drewN | apply IsS102.drew | apply IsS102.set_1 | apply IsS102.set_2 | refine IsS102.far ?_ NB0_435.out _ | refine IsS102.far ?_ NB0_470.out _) | exact HI0.out)) (kr_ HO_471006.out) (by decide)) hk (fun _ h => h.2)) (fun _ h => h.1))
               replace HO_471007 := A_ (Kd.R_mono (Kd.R_keep (IsS102.apart (show IsS102 w0 _ g s0_0 t498 t499 from by repeat (first | (with_reducible first | exact HI0.out | apply IsS102.alloc | apply IsS102.drewN | apply IsS102.drew | apply IsS102.set_1 | apply IsS102.set_2 | refine IsS102.far ?_ NB0_435.out _ | refine IsS102.far ?_ NB0_470.out _) | exact HI0.out)) (kr_ HO_471007.out) (by decide)) hk (fun _ h => h.2)) (fun _ h => h.1))
               replace BK435 := A_ (KeepBut.blk hk (bk_ BK435.out) NB435_0.out (by simp))
               replace BK470 := A_ (KeepBut.blk hk (bk_ BK470.out) NB470_0.out (by simp))
               replace HO502 := A_ (Kd.R_mono (Kd.R_keep (IsS102.apart (show IsS102 w0 _ g s0_0 t498 t499 from by repeat (first | (with_reducible first | exact HI0.out | apply IsS102.alloc | apply IsS102.drewN | apply IsS102.drew | apply IsS102.set_1 | apply IsS102.set_2 | refine IsS102.far ?_ NB0_435.out _ | refine IsS102.far ?_ NB0_470.out _) | exact HI0.out)) (kr_ HO502.out) (by decide)) hk (fun _ h => h.2)) (fun _ h => h.1))
               replace HK := A_ (KeepBut.trans d2_ hk (.inl rfl))
               replace HB := A_ (hb)
               replace HI0 := A_ (hi)
               (try clear hb)
               (try clear hb2)
               (try clear hk)
               (try clear hi)
               have p65 : 0 ≤ (t497 : Int) := of_decide_eq_true d5_
               have q65 : (t497 : Int) < ((x471000_3.length : Int) : Int) := of_decide_eq_true d5_
               obtain ⟨go65, co65, eo65, gb65, gl65, cl65, HG65⟩ := Kd.R_form HO_471000.out (by omega)
               (first | cases eo65 | (injection eo65 with ea_ en_ ec_; (first | subst ea_ | (injection ea_ with ea_; subst ea_)); subst ec_; clear en_))
               have GB65 := A_ gb65
               have GG65 := A_ HG65
               clear gb65 gl65 HG65
               obtain ⟨hx65_0, hf65_0⟩ := Kd.R_celln 0 HO_471000.out (t497 : Int) p65 q65
               replace p65 := eq_true p65
               replace q65 := eq_true q65
               have HN0_go65 := A_ (show g ≠ go65 from by have h_ := IsS102.own_ne HI0.out HO_471000.out (by decide); intro e_; exact h_ (by rw [e_]; rfl))
               have HP79 := Kd.R_putn HO_471000.out (t497 : Int) t503
               rw [← Ny506.out] at HP79
               have HQ79 := A_ HP79
               clear HP79
               refine hK.out _ _ ⟨(blk_cell BK470.out 0).trans rfl, (blk_cell BK470.out 1).trans rfl, (blk_cell BK470.out 2).trans rfl, (blk_cell BK470.out 3).trans rfl, (blk_cell BK470.out 4).trans rfl, (blk_cell BK470.out 5).trans rfl, (blk_cell BK470.out 6).trans rfl, (blk_cell BK470.out 7).trans rfl, (blk_cell BK470.out 8).trans rfl⟩ (fun hHeld => ?_)
               clear hK K
               refine norm_ (a' := ?_) ?_ ?_
               rotate_left
               ·show Act.put _ (some 63) _ = _
                simp only [Act.put, List.setIfInBounds_toArray, List.set_cons_zero, List.set_cons_succ, i64_w, i32_w]
                rfl
               refine pu_ 7 (some 64) (bm_ 9 255) (any_of HT_.out (by kernel_rfl)) ?_
               refine last_ (i := 8) (N := none) (bm_ 9 511) rfl rfl (one_of HT_.out (by kernel_rfl)) (by decide) (fun K hK => ?_)
               refine skip_ (w1 := ?_) (by rfl) rfl ?_ ?_
               rotate_left
               ·go_simp
                rfl
               refine hK.out _ _ ?_
               clear hK K
               refine done_ (done_of HT_.out (by kernel_rfl)) ?_
               try go_wp2
               have n0_ : Aside0 (Kd.R (Kd.int .i64) 3 (w78.setCell ⟨go65, (t497 : Int).toNat, none⟩ (.int .i64 t503)) w.heap.size (fun k_ => some k_ ≠ (u471001 : Value).ownBlock ∧ some k_ ≠ (u471006 : Value).ownBlock ∧ some k_ ≠ (u471007 : Value).ownBlock ∧ some k_ ≠ (.slice Ao77 y500.length co77 : Value).ownBlock) (.slice (some ⟨go65, 0, none⟩) x471000_3.length co65) y506) := ⟨kr_ (Kd.R_mono HQ79.out (fun _ hk => ⟨hk.2.1, ⟨hk.2.2.1, ⟨hk.2.2.2, hk.1⟩⟩⟩))⟩
               have n1_ : Aside0 (Kd.R (Kd.int .i64) 3 (w78.setCell ⟨go65, (t497 : Int).toNat, none⟩ (.int .i64 t503)) w.heap.size (fun k_ => some k_ ≠ (.slice (some ⟨go65, 0, none⟩) x471000_3.length co65 : Value).ownBlock ∧ some k_ ≠ (u471006 : Value).ownBlock ∧ some k_ ≠ (u471007 : Value).ownBlock ∧ some k_ ≠ (.slice Ao77 y500.length co77 : Value).ownBlock) u471001 x471001_3) := ⟨by (with_reducible repeat (first | apply Kd.R_alloc | apply Kd.R_drewN | apply Kd.R_drew)); exact Kd.R_mono (Kd.R_far (p := ⟨go65, (t497 : Int).toNat, none⟩) (Kd.R_mono HO_471001.out (fun k_ hk => (⟨hk, fun e_ => hk.2.1 (by rw [e_]; rfl)⟩ : _ ∧ k_ ≠ go65))) (fun _ hk => hk.2) (.int .i64 t503)) (fun _ hk => ⟨hk.1.2.1, ⟨hk.1.2.2.1, ⟨hk.1.2.2.2, hk.1.1⟩⟩⟩)⟩
               have n2_ : Aside0 (Kd.R (Kd.int .i64) 3 (w78.setCell ⟨go65, (t497 : Int).toNat, none⟩ (.int .i64 t503)) w.heap.size (fun k_ => some k_ ≠ (.slice (some ⟨go65, 0, none⟩) x471000_3.length co65 : Value).ownBlock ∧ some k_ ≠ (u471001 : Value).ownBlock ∧ some k_ ≠ (u471007 : Value).ownBlock ∧ some k_ ≠ (.slice Ao77 y500.length co77 : Value).ownBlock) u471006 x471006_3) := ⟨by (with_reducible repeat (first | apply Kd.R_alloc | apply Kd.R_drewN | apply Kd.R_drew)); exact Kd.R_mono (Kd.R_far (p := ⟨go65, (t497 : Int).toNat, none⟩) (Kd.R_mono HO_471006.out (fun k_ hk => (⟨hk, fun e_ => hk.2.1 (by rw [e_]; rfl)⟩ : _ ∧ k_ ≠ go65))) (fun _ hk => hk.2) (.int .i64 t503)) (fun _ hk => ⟨hk.1.2.1, ⟨hk.1.2.2.1, ⟨hk.1.2.2.2, hk.1.1⟩⟩⟩)⟩
               have n3_ : Aside0 (Kd.R (Kd.int .i64) 3 (w78.setCell ⟨go65, (t497 : Int).toNat, none⟩ (.int .i64 t503)) w.heap.size (fun k_ => some k_ ≠ (.slice (some ⟨go65, 0, none⟩) x471000_3.length co65 : Value).ownBlock ∧ some k_ ≠ (u471001 : Value).ownBlock ∧ some k_ ≠ (u471006 : Value).ownBlock ∧ some k_ ≠ (.slice Ao77 y500.length co77 : Value).ownBlock) u471007 x471007_3) := ⟨by (with_reducible repeat (first | apply Kd.R_alloc | apply Kd.R_drewN | apply Kd.R_drew)); exact Kd.R_mono (Kd.R_far (p := ⟨go65, (t497 : Int).toNat, none⟩) (Kd.R_mono HO_471007.out (fun k_ hk => (⟨hk, fun e_ => hk.2.1 (by rw [e_]; rfl)⟩ : _ ∧ k_ ≠ go65))) (fun _ hk => hk.2) (.int .i64 t503)) (fun _ hk => ⟨hk.1.2.1, ⟨hk.1.2.2.1, ⟨hk.1.2.2.2, hk.1.1⟩⟩⟩)⟩
               have n4_ : Aside0 (Kd.R (Kd.int .i64) 3 (w78.setCell ⟨go65, (t497 : Int).toNat, none⟩ (.int .i64 t503)) w.heap.size (fun k_ => some k_ ≠ (.slice (some ⟨go65, 0, none⟩) x471000_3.length co65 : Value).ownBlock ∧ some k_ ≠ (u471001 : Value).ownBlock ∧ some k_ ≠ (u471006 : Value).ownBlock ∧ some k_ ≠ (u471007 : Value).ownBlock) (.slice Ao77 y500.length co77) y500) := ⟨by (with_reducible repeat (first | apply Kd.R_alloc | apply Kd.R_drewN | apply Kd.R_drew)); exact Kd.R_mono (Kd.R_far (p := ⟨go65, (t497 : Int).toNat, none⟩) (Kd.R_mono HO502.out (fun k_ hk => (⟨hk, fun e_ => hk.1 (by rw [e_]; rfl)⟩ : _ ∧ k_ ≠ go65))) (fun _ hk => hk.2) (.int .i64 t503)) (fun _ hk => ⟨hk.1.1, ⟨hk.1.2.1, ⟨hk.1.2.2.1, hk.1.2.2.2⟩⟩⟩)⟩
               have n5_ : Aside0 ((w78.setCell ⟨go65, (t497 : Int).toNat, none⟩ (.int .i64 t503)).heap[gb435]? = some (.cells #[.slice none 0 0, .slice none 0 0, .bool false, .bool false, .bool false, .bool false, .slice none 0 0, .slice none 0 0, .int .i64 0] 28 (0, 0))) := ⟨by refine bk_ ?_; refine blk_far ?_ (by have h_ := Kd.R_ne HO_471000.out BK435.out (by decide); intro e_; exact h_ (by rw [e_]; rfl)) _; refine bk_ ?_; exact BK435.out⟩
               have n6_ : Aside0 ((w78.setCell ⟨go65, (t497 : Int).toNat, none⟩ (.int .i64 t503)).heap[gb470]? = some (.cells #[.slice (some ⟨go65, 0, none⟩) x471000_3.length co65, u471001, .bool t488, .bool t491, .bool t461, .bool t494, u471006, u471007, .int .i64 t469] 28 (0, 0))) := ⟨by refine bk_ ?_; refine blk_far ?_ (by have h_ := Kd.R_ne HO_471000.out BK470.out (by decide); intro e_; exact h_ (by rw [e_]; rfl)) _; refine bk_ ?_; exact BK470.out⟩
               have n7_ : Aside0 (IsS102 w0 (w78.setCell ⟨go65, (t497 : Int).toNat, none⟩ (.int .i64 t503)) g s0_0 t504 t505) := ⟨by repeat (first | (with_reducible first | exact HI0.out | apply IsS102.alloc | apply IsS102.drewN | apply IsS102.drew | apply IsS102.set_1 | apply IsS102.set_2 | refine IsS102.far ?_ HN0_go65.out _ | refine IsS102.far ?_ NB0_435.out _ | refine IsS102.far ?_ NB0_470.out _) | exact HI0.out)⟩
               have n8_ : Aside0 (KeepBut w (w78.setCell ⟨go65, (t497 : Int).toNat, none⟩ (.int .i64 t503)) g none) := ⟨by repeat (first | (with_reducible first | exact HK.out | apply KeepBut.set_ | apply keep_drewN | apply keep_drew | apply keep_alloc | refine keep_far ?_ GB65.out _ | refine keep_far ?_ GW435.out _ | refine keep_far ?_ GW470.out _) | exact HK.out)⟩
               have n9_ : Aside0 (Below w0.heap.size w0 (w78.setCell ⟨go65, (t497 : Int).toNat, none⟩ (.int .i64 t503))) := ⟨by repeat (first | (with_reducible first | exact HB.out | apply below_alloc | apply pw_below_drewN | apply below_drew1 | refine below_set ?_ (Nat.le_trans HL.out GB65.out) | refine below_set ?_ (IsS102.ge HI0.out) | refine below_set ?_ GE435.out | refine below_set ?_ GE470.out) | exact HB.out)⟩
               (try clear HO_471000)
               (try clear HO_471001)
               (try clear HO_471006)
               (try clear HO_471007)
               (try clear HO502)
               (try clear BK435)
               (try clear BK470)
               (try clear HI0)
               (try clear HK)
               (try clear HB)
               try rw [show (w78.drewN nd).setCell ⟨go65, (t497 : Int).toNat, none⟩ (.int .i64 t503) = (w78.setCell ⟨go65, (t497 : Int).toNat, none⟩ (.int .i64 t503)).drewN nd from rfl]
               generalize (w78.setCell ⟨go65, (t497 : Int).toNat, none⟩ (.int .i64 t503)) = w80 at n0_ n1_ n2_ n3_ n4_ n5_ n6_ n7_ n8_ n9_ ⊢
               have HO_471000 := n0_
               have HO_471001 := n1_
               have HO_471006 := n2_
               have HO_471007 := n3_
               have HO502 := n4_
               have BK435 := n5_
               have BK470 := n6_
               have HI0 := n7_
               have HK := n8_
               have HB := n9_
               clear n0_ n1_ n2_ n3_ n4_ n5_ n6_ n7_ n8_ n9_
               replace HO_471000 := A_ (Kd.R_drew HO_471000.out)
               replace HO_471001 := A_ (Kd.R_drew HO_471001.out)
               replace HO_471006 := A_ (Kd.R_drew HO_471006.out)
               replace HO_471007 := A_ (Kd.R_drew HO_471007.out)
               replace HO502 := A_ (Kd.R_drew HO502.out)
               replace BK435 := A_ (blk_drew BK435.out)
               replace BK470 := A_ (blk_drew BK470.out)
               replace HI0 := A_ (IsS102.drew HI0.out)
               replace HK := A_ (keep_drew HK.out)
               replace HB := A_ (below_drew1 HB.out)
               refine start_ (n := 9) (S := fun w' => w'.cell? ⟨gb470, 0, none⟩ = some (.slice (some ⟨go65, 0, none⟩) x471000_3.length co65) ∧ w'.cell? ⟨gb470, 1, none⟩ = some (u471001) ∧ w'.cell? ⟨gb470, 2, none⟩ = some (.bool t488) ∧ w'.cell? ⟨gb470, 3, none⟩ = some (.bool t491) ∧ w'.cell? ⟨gb470, 4, none⟩ = some (.bool t461) ∧ w'.cell? ⟨gb470, 5, none⟩ = some (.bool t494) ∧ w'.cell? ⟨gb470, 6, none⟩ = some (u471006) ∧ w'.cell? ⟨gb470, 7, none⟩ = some (u471007) ∧ w'.cell? ⟨gb470, 8, none⟩ = some (.int .i64 t469)) (ds := [8]) #[false, false, false, false, false, false, false, false, false] (by kernel_rfl) rfl rfl ⟨(blk_cell BK470.out 0).trans rfl, (blk_cell BK470.out 1).trans rfl, (blk_cell BK470.out 2).trans rfl, (blk_cell BK470.out 3).trans rfl, (blk_cell BK470.out 4).trans rfl, (blk_cell BK470.out 5).trans rfl, (blk_cell BK470.out 6).trans rfl, (blk_cell BK470.out 7).trans rfl, (blk_cell BK470.out 8).trans rfl⟩ (fun hHeld => ?_); refine with_tabW spec_l5Draw.tab19 spec_l5Draw.bits19 (fun HT_ HW_ => ?_)
               generalize w80.drew = w81 at HO_471000 HO_471001 HO_471006 HO_471007 HO502 BK435 BK470 HI0 HK HB HQ79 hHeld ⊢
               refine pu_ 0 (some 65) (bm_ 9 1) (any_of HT_.out (by kernel_rfl)) ?_
               refine pu_ 2 (some 67) (bm_ 9 5) (any_of HT_.out (by kernel_rfl)) ?_
               refine pu_ 5 (some 70) (bm_ 9 37) (any_of HT_.out (by kernel_rfl)) ?_
               refine take_ (i := 1) (N := some 66) (v := ?_) (a' := ?_) (bm_ 9 39) rfl rfl (take_ofW HT_.out HW_.out (by kernel_rfl)) (fun _ _ _ h => h) (Or.inl ⟨by rfl, ?_⟩) hHeld ?_ ?_
               rotate_left
               ·rintro w' ⟨s0, s1, s2, s3, s4, s5, s6, s7, s8⟩
                go_simp
                with_reducible rfl
               rotate_left
               ·simp only [Act.put, List.setIfInBounds_toArray, List.set_cons_zero, List.set_cons_succ, i64_w, i32_w]
                rfl
               refine one_ (i := 3) (N := some 68) (bm_ 9 47) rfl rfl (one_of HT_.out (by kernel_rfl)) (by decide) (fun K hK => ?_)
               refine goes_ Try.func71 (by kernel_rfl) rfl #[.pointer (some ⟨g, 0, none⟩), .int .i64 60] (by rfl) rfl rfl d0_ ?_
               with_reducible refine (spec_l1Below.calls g s0_0 t504 t505 60 t507 t508 t509 w0 _ ?side1 ?side2 A66.out).mono ?_
               (case side1 => repeat (first | (with_reducible first | exact HI0.out | apply IsS102.alloc | apply IsS102.drewN | apply IsS102.drew | apply IsS102.set_1 | apply IsS102.set_2 | refine IsS102.far ?_ NB0_435.out _ | refine IsS102.far ?_ NB0_470.out _) | exact HI0.out))
               (case side2 => exact (have := GeI.mk (IsS102.ge HI0.out); bw_ HB.out))
               rintro e w82 ⟨rfl, hi, hb, hk⟩
               refine ⟨_, rfl, ?_⟩
               replace HO_471000 := A_ (Kd.R_mono (Kd.R_keep (IsS102.apart (show IsS102 w0 _ g s0_0 t504 t505 from by repeat (first | (with_reducible first | exact HI0.out | apply IsS102.alloc | apply IsS102.drewN | apply IsS102.drew | apply IsS102.set_1 | apply IsS102.set_2 | refine IsS102.far ?_ NB0_435.out _ | refine IsS102.far ?_ NB0_470.out _) | exact HI0.out)) (kr_ HO_471000.out) (by decide)) hk (fun _ h => h.2)) (fun _ h => h.1))
               replace HO_471001 := A_ (Kd.R_mono (Kd.R_keep (IsS102.apart (show IsS102 w0 _ g s0_0 t504 t505 from by repeat (first | (with_reducible first | exact HI0.out | apply IsS102.alloc | apply IsS102.drewN | apply IsS102.drew | apply IsS102.set_1 | apply IsS102.set_2 | refine IsS102.far ?_ NB0_435.out _ | refine IsS102.far ?_ NB0_470.out _) | exact HI0.out)) (kr_ HO_471001.out) (by decide)) hk (fun _ h => h.2)) (fun _ h => h.1))
               replace HO_471006 := A_ (Kd.R_mono (Kd.R_keep (IsS102.apart (show IsS102 w0 _ g s0_0 t504 t505 from by repeat (first | (with_reducible first | exact HI0.out | apply IsS102.alloc | apply IsS102.drewN | apply IsS102.drew | apply IsS102.set_1 | apply IsS102.set_2 | refine IsS102.far ?_ NB0_435.out _ | refine IsS102.far ?_ NB0_470.out _) | exact HI0.out)) (kr_ HO_471006.out) (by decide)) hk (fun _ h => h.2)) (fun _ h => h.1))
               replace HO_471007 := A_ (Kd.R_mono (Kd.R_keep (IsS102.apart (show IsS102 w0 _ g s0_0 t504 t505 from by repeat (first | (with_reducible first | exact HI0.out | apply IsS102.alloc | apply IsS102.drewN | apply IsS102.drew | apply IsS102.set_1 | apply IsS102.set_2 | refine IsS102.far ?_ NB0_435.out _ | refine IsS102.far ?_ NB0_470.out _) | exact HI0.out)) (kr_ HO_471007.out) (by decide)) hk (fun _ h => h.2)) (fun _ h => h.1))
               replace BK435 := A_ (KeepBut.blk hk (bk_ BK435.out) NB435_0.out (by simp))
               replace BK470 := A_ (KeepBut.blk hk (bk_ BK470.out) NB470_0.out (by simp))
               replace HO502 := A_ (Kd.R_mono (Kd.R_keep (IsS102.apart (show IsS102 w0 _ g s0_0 t504 t505 from by repeat (first | (with_reducible first | exact HI0.out | apply IsS102.alloc | apply IsS102.drewN | apply IsS102.drew | apply IsS102.set_1 | apply IsS102.set_2 | refine IsS102.far ?_ NB0_435.out _ | refine IsS102.far ?_ NB0_470.out _) | exact HI0.out)) (kr_ HO502.out) (by decide)) hk (fun _ h => h.2)) (fun _ h => h.1))
               replace HK := A_ (KeepBut.trans d2_ hk (.inl rfl))
               replace HB := A_ (hb)
               replace HI0 := A_ (hi)
               (try clear hb)
               (try clear hb2)
               (try clear hk)
               (try clear hi)
               refine hK.out _ _ ⟨(blk_cell BK470.out 0).trans rfl, (blk_cell BK470.out 1).trans rfl, (blk_cell BK470.out 2).trans rfl, (blk_cell BK470.out 3).trans rfl, (blk_cell BK470.out 4).trans rfl, (blk_cell BK470.out 5).trans rfl, (blk_cell BK470.out 6).trans rfl, (blk_cell BK470.out 7).trans rfl, (blk_cell BK470.out 8).trans rfl⟩ (fun hHeld => ?_)
               clear hK K
               refine norm_ (a' := ?_) ?_ ?_
               rotate_left
               ·show Act.put _ (some 68) _ = _
                simp only [Act.put, List.setIfInBounds_toArray, List.set_cons_zero, List.set_cons_succ, i64_w, i32_w]
                rfl
               refine pu_ 4 (some 69) (bm_ 9 63) (any_of HT_.out (by kernel_rfl)) ?_
               refine one_ (i := 6) (N := some 71) (bm_ 9 127) rfl rfl (one_of HT_.out (by kernel_rfl)) (by decide) (fun K hK => ?_)
               refine goes_ Try.func85 (by kernel_rfl) rfl #[.pointer (some ⟨g, 0, none⟩)] (by rfl) rfl rfl d0_ ?_
               with_reducible refine (spec_l1Word.calls g s0_0 t508 t509 t510 t511 t512 w0 _ ?side1 ?side2 A67.out).mono ?_
               (case side1 => repeat (first | (with_reducible first | exact HI0.out | apply IsS102.alloc | apply IsS102.drewN | apply IsS102.drew | apply IsS102.set_1 | apply IsS102.set_2 | refine IsS102.far ?_ NB0_435.out _ | refine IsS102.far ?_ NB0_470.out _) | exact HI0.out))
               (case side2 => exact (have := GeI.mk (IsS102.ge HI0.out); bw_ HB.out))
               rintro e w83 ⟨rfl, hi, hb, hk⟩
               refine ⟨_, rfl, ?_⟩
               replace HO_471000 := A_ (Kd.R_mono (Kd.R_keep (IsS102.apart (show IsS102 w0 _ g s0_0 t508 t509 from by repeat (first | (with_reducible first | exact HI0.out | apply IsS102.alloc | apply IsS102.drewN | apply IsS102.drew | apply IsS102.set_1 | apply IsS102.set_2 | refine IsS102.far ?_ NB0_435.out _ | refine IsS102.far ?_ NB0_470.out _) | exact HI0.out)) (kr_ HO_471000.out) (by decide)) hk (fun _ h => h.2)) (fun _ h => h.1))
               replace HO_471001 := A_ (Kd.R_mono (Kd.R_keep (IsS102.apart (show IsS102 w0 _ g s0_0 t508 t509 from by repeat (first | (with_reducible first | exact HI0.out | apply IsS102.alloc | apply IsS102.drewN | apply IsS102.drew | apply IsS102.set_1 | apply IsS102.set_2 | refine IsS102.far ?_ NB0_435.out _ | refine IsS102.far ?_ NB0_470.out _) | exact HI0.out)) (kr_ HO_471001.out) (by decide)) hk (fun _ h => h.2)) (fun _ h => h.1))
               replace HO_471006 := A_ (Kd.R_mono (Kd.R_keep (IsS102.apart (show IsS102 w0 _ g s0_0 t508 t509 from by repeat (first | (with_reducible first | exact HI0.out | apply IsS102.alloc | apply IsS102.drewN | apply IsS102.drew | apply IsS102.set_1 | apply IsS102.set_2 | refine IsS102.far ?_ NB0_435.out _ | refine IsS102.far ?_ NB0_470.out _) | exact HI0.out)) (kr_ HO_471006.out) (by decide)) hk (fun _ h => h.2)) (fun _ h => h.1))
               replace HO_471007 := A_ (Kd.R_mono (Kd.R_keep (IsS102.apart (show IsS102 w0 _ g s0_0 t508 t509 from by repeat (first | (with_reducible first | exact HI0.out | apply IsS102.alloc | apply IsS102.drewN | apply IsS102.drew | apply IsS102.set_1 | apply IsS102.set_2 | refine IsS102.far ?_ NB0_435.out _ | refine IsS102.far ?_ NB0_470.out _) | exact HI0.out)) (kr_ HO_471007.out) (by decide)) hk (fun _ h => h.2)) (fun _ h => h.1))
               replace BK435 := A_ (KeepBut.blk hk (bk_ BK435.out) NB435_0.out (by simp))
               replace BK470 := A_ (KeepBut.blk hk (bk_ BK470.out) NB470_0.out (by simp))
               replace HO502 := A_ (Kd.R_mono (Kd.R_keep (IsS102.apart (show IsS102 w0 _ g s0_0 t508 t509 from by repeat (first | (with_reducible first | exact HI0.out | apply IsS102.alloc | apply IsS102.drewN | apply IsS102.drew | apply IsS102.set_1 | apply IsS102.set_2 | refine IsS102.far ?_ NB0_435.out _ | refine IsS102.far ?_ NB0_470.out _) | exact HI0.out)) (kr_ HO502.out) (by decide)) hk (fun _ h => h.2)) (fun _ h => h.1))
               replace HK := A_ (KeepBut.trans d2_ hk (.inl rfl))
               replace HB := A_ (hb)
               replace HI0 := A_ (hi)
               (try clear hb)
               (try clear hb2)
               (try clear hk)
               (try clear hi)
               have p71 : 0 ≤ ((ji68) : Int) := of_decide_eq_true d5_
               have q71 : ((ji68) : Int) < ((x471000_3.length : Int) : Int) := of_decide_eq_true d5_
               obtain ⟨hx71_0, hf71_0⟩ := Kd.R_celln 0 HO_471000.out ((ji68) : Int) p71 q71
               replace p71 := eq_true p71
               replace q71 := eq_true q71
               have HN0_go65 := A_ (show g ≠ go65 from by have h_ := IsS102.own_ne HI0.out HO_471000.out (by decide); intro e_; exact h_ (by rw [e_]; rfl))
               have HP84 := Kd.R_putn HO_471000.out ((ji68) : Int) t510
               rw [← Ny513.out] at HP84
               have HQ84 := A_ HP84
               clear HP84
               refine hK.out _ _ ⟨(blk_cell BK470.out 0).trans rfl, (blk_cell BK470.out 1).trans rfl, (blk_cell BK470.out 2).trans rfl, (blk_cell BK470.out 3).trans rfl, (blk_cell BK470.out 4).trans rfl, (blk_cell BK470.out 5).trans rfl, (blk_cell BK470.out 6).trans rfl, (blk_cell BK470.out 7).trans rfl, (blk_cell BK470.out 8).trans rfl⟩ (fun hHeld => ?_)
               clear hK K
               refine norm_ (a' := ?_) ?_ ?_
               rotate_left
               ·show Act.put _ (some 71) _ = _
                simp only [Act.put, List.setIfInBounds_toArray, List.set_cons_zero, List.set_cons_succ, i64_w, i32_w]
                rfl
               refine pu_ 7 (some 72) (bm_ 9 255) (any_of HT_.out (by kernel_rfl)) ?_
               refine last_ (i := 8) (N := none) (bm_ 9 511) rfl rfl (one_of HT_.out (by kernel_rfl)) (by decide) (fun K hK => ?_)
               refine skip_ (w1 := ?_) (by rfl) rfl ?_ ?_
               rotate_left
               ·go_simp
                rfl
               refine hK.out _ _ ?_
               clear hK K
               refine done_ (done_of HT_.out (by kernel_rfl)) ?_
               try go_wp2
               go_roundg k3
               case measure => have := HK1.out; have := HK2.out; have := HK3.out; omega
               case rel => exact ⟨(wrap64 (x7_3 + 1)), (t511), (t512), (y513), (x471001_3), (x471006_3), (x471007_3), (.slice (some ⟨go65, 0, none⟩) x471000_3.length co65), (u471001), (u471006), (u471007), d3_, H', ⟨by have := HK1.out; have := HK2.out; have := HK3.out; omega⟩, ⟨kr_ (Kd.R_mono HQ84.out (fun _ hk => ⟨hk.1, ⟨hk.2.1, hk.2.2.1⟩⟩))⟩, ⟨by (with_reducible repeat (first | apply Kd.R_alloc | apply Kd.R_drewN | apply Kd.R_drew)); exact Kd.R_mono (Kd.R_far (p := ⟨go65, ((ji68) : Int).toNat, none⟩) (Kd.R_mono HO_471001.out (fun k_ hk => (⟨hk, fun e_ => hk.1 (by rw [e_]; rfl)⟩ : _ ∧ k_ ≠ go65))) (fun _ hk => hk.2) (.int .i64 t510)) (fun _ hk => ⟨hk.1.1, ⟨hk.1.2.1, hk.1.2.2.1⟩⟩)⟩, ⟨by (with_reducible repeat (first | apply Kd.R_alloc | apply Kd.R_drewN | apply Kd.R_drew)); exact Kd.R_mono (Kd.R_far (p := ⟨go65, ((ji68) : Int).toNat, none⟩) (Kd.R_mono HO_471006.out (fun k_ hk => (⟨hk, fun e_ => hk.1 (by rw [e_]; rfl)⟩ : _ ∧ k_ ≠ go65))) (fun _ hk => hk.2) (.int .i64 t510)) (fun _ hk => ⟨hk.1.1, ⟨hk.1.2.1, hk.1.2.2.1⟩⟩)⟩, ⟨by (with_reducible repeat (first | apply Kd.R_alloc | apply Kd.R_drewN | apply Kd.R_drew)); exact Kd.R_mono (Kd.R_far (p := ⟨go65, ((ji68) : Int).toNat, none⟩) (Kd.R_mono HO_471007.out (fun k_ hk => (⟨hk, fun e_ => hk.1 (by rw [e_]; rfl)⟩ : _ ∧ k_ ≠ go65))) (fun _ hk => hk.2) (.int .i64 t510)) (fun _ hk => ⟨hk.1.1, ⟨hk.1.2.1, hk.1.2.2.1⟩⟩)⟩, ⟨by refine bk_ ?_; refine blk_far ?_ (by have h_ := Kd.R_ne HO_471000.out BK435.out (by decide); intro e_; exact h_ (by rw [e_]; rfl)) _; refine bk_ ?_; exact BK435.out⟩, ⟨by refine bk_ ?_; refine blk_far ?_ (by have h_ := Kd.R_ne HO_471000.out BK470.out (by decide); intro e_; exact h_ (by rw [e_]; rfl)) _; refine bk_ ?_; exact BK470.out⟩, ⟨by repeat (first | (with_reducible first | exact HI0.out | apply IsS102.alloc | apply IsS102.drewN | apply IsS102.drew | apply IsS102.set_1 | apply IsS102.set_2 | refine IsS102.far ?_ HN0_go65.out _ | refine IsS102.far ?_ NB0_435.out _ | refine IsS102.far ?_ NB0_470.out _) | exact HI0.out)⟩, ⟨by repeat (first | (with_reducible first | exact HK.out | apply KeepBut.set_ | apply keep_drewN | apply keep_drew | apply keep_alloc | refine keep_far ?_ GB65.out _ | refine keep_far ?_ GW435.out _ | refine keep_far ?_ GW470.out _) | exact HK.out)⟩, ⟨by repeat (first | (with_reducible first | exact HB.out | apply below_alloc | apply pw_below_drewN | apply below_drew1 | refine below_set ?_ (Nat.le_trans HL.out GB65.out) | refine below_set ?_ (IsS102.ge HI0.out) | refine below_set ?_ GE435.out | refine below_set ?_ GE470.out) | exact HB.out)⟩⟩
              ·rw [if_neg c70] at H
               exact absurd H (by simp)
             ·rw [if_neg c69] at H
              exact absurd H (by simp)
            ·rw [if_neg c64] at H
             exact absurd H (by simp)
           ·rw [if_neg c63] at H
            exact absurd H (by simp)
          ·rw [if_neg c60] at H
           have c60b0 := decide_eq_false c60
           clear c60
           simp only [Option.some.injEq, Prod.mk.injEq] at H
           obtain ⟨rfl, rfl, rfl, rfl, rfl, rfl, rfl, rfl, rfl, rfl, rfl⟩ := H
           have hnb85 := NB470_435.out
           have hnc85 := NB435_470.out
           have hnb86 := NB470_0.out
           have hnc86 := NB0_470.out
           obtain ⟨y87_0, y87_1, y87_2, y87_3, y87_4, y87_5, y87_6, y87_7, y87_8, z87_0, z87_1, z87_2, z87_3, z87_4, z87_5, z87_6, z87_7, z87_8⟩ := cz9_ BK470.out
           obtain ⟨Ao88, co88, eo88⟩ := Kd.R_slice HO_471000.out
           subst eo88
           have hnb89 := NB435_0.out
           have hnc89 := NB0_435.out
           obtain ⟨y90_0, y90_1, y90_2, y90_3, y90_4, y90_5, y90_6, y90_7, y90_8, z90_0, z90_1, z90_2, z90_3, z90_4, z90_5, z90_6, z90_7, z90_8⟩ := cz9_ BK435.out
           obtain ⟨Ao91, co91, eo91⟩ := Kd.R_slice HO_471001.out
           subst eo91
           obtain ⟨Ao92, co92, eo92⟩ := Kd.R_slice HO_471006.out
           subst eo92
           obtain ⟨Ao93, co93, eo93⟩ := Kd.R_slice HO_471007.out
           subst eo93
           go_wp2
           refine bodyPost_ret (results_cell_row rfl _ _ gb435 28 #[.slice Ao88 x471000_3.length co88, .slice Ao91 x471001_3.length co91, .bool t488, .bool t491, .bool t461, .bool t494, .slice Ao92 x471006_3.length co92, .slice Ao93 x471007_3.length co93, .int .i64 t469] (0, 0) _ rfl ?hb_ Try.underlying28 rfl (by kernel_rfl)) rfl ?_
           (case hb_ => exact bk_ (bp9_ (bk_ BK435.out)))
           exact ⟨_, _, _, _, by first | rfl | (simp [errW_none, errW_some] <;> rfl) | (simp [*, errW_none, errW_some] <;> rfl), kr_ (Kd.R_mono (rf9_ (Kd.R_types HO_471000.out BK435.out (by decide)) (fun _ hk => hk.2)) (fun _ hk => ⟨hk.1.1, ⟨hk.1.2.1, hk.1.2.2⟩⟩)), kr_ (Kd.R_mono (rf9_ (Kd.R_types HO_471001.out BK435.out (by decide)) (fun _ hk => hk.2)) (fun _ hk => ⟨hk.1.1, ⟨hk.1.2.1, hk.1.2.2⟩⟩)), kr_ (Kd.R_mono (rf9_ (Kd.R_types HO_471006.out BK435.out (by decide)) (fun _ hk => hk.2)) (fun _ hk => ⟨hk.1.1, ⟨hk.1.2.1, hk.1.2.2⟩⟩)), kr_ (Kd.R_mono (rf9_ (Kd.R_types HO_471007.out BK435.out (by decide)) (fun _ hk => hk.2)) (fun _ hk => ⟨hk.1.1, ⟨hk.1.2.1, hk.1.2.2⟩⟩)), by repeat (first | (with_reducible first | exact HI0.out | apply IsS102.alloc | apply IsS102.drewN | apply IsS102.drew | apply IsS102.set_1 | apply IsS102.set_2 | refine IsS102.far ?_ NB0_435.out _ | refine IsS102.far ?_ NB0_470.out _) | exact HI0.out), (have := GeI.mk (IsS102.ge HI0.out); bw_ HB.out), by repeat (first | (with_reducible first | exact HK.out | apply KeepBut.set_ | apply keep_drewN | apply keep_drew | apply keep_alloc | refine keep_far ?_ GW435.out _ | refine keep_far ?_ GW470.out _) | exact HK.out)⟩
       ·rw [if_neg c40] at H
        exact absurd H (by simp)

end Go.Proofs.Ytiagbfilffbljaa.PFnMachs
