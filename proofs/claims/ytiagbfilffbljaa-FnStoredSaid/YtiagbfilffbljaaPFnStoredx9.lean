-- Laid by a program of this session (a changed copy of the kit's printer); Lean checks every line.
import Derived.Test.YtiagbfilffbljaaPFnStoredx0
import Derived.Test.YtiagbfilffbljaaPFnStoredx4
import Derived.Test.YtiagbfilffbljaaPFnStoredx5
import Derived.Test.YtiagbfilffbljaaPFnStoredx6
import Derived.Test.YtiagbfilffbljaaPFnStoredx8
namespace Go.Proofs.Ytiagbfilffbljaa.PFnStored
open Go.RowKit Go.Proofs.YtiagbfilffbljaaW.PrintWords Go.Proofs.YtiagbfilffbljaaW.PrintLast Go.Proofs.YtiagbfilffbljaaW.PrintMore
attribute [local go_sem] max2_int min2_int max_two min_two max_three min_three max_four min_four   -- for this text's walks alone
set_option linter.unusedVariables false
set_option linter.unusedSimpArgs false

/-! ### spec_l5Draw: function 73 -/
mutual
def spec_l5Draw.l0 : Nat → List Int → Int → List Int → Int → Int → Option (List Int × List Int × Bool × Bool × Bool × Bool × List Int × List Int × Int × Int × Int)
 | 0, _, _, _, _, _ => none
 | k + 1, x3, x4, x1000, x1001, x1002 => if x4 > 0 then ((spec_l1Word.f x1000 x1001 x1002).bind fun bt430 => (if x3.length < 17592186044416 then (spec_l5Draw.l0 k (x3 ++ [bt430.1]) (wrap64 (x4 - 1)) x1000 bt430.2.1 bt430.2.2) else (none))) else ((spec_l4Words.f k x1000 x1001 x1002 12).bind fun bt436 => ((spec_MachNew.f k bt436.1 64 64 x3).bind fun bt441 => (spec_l5Draw.l1 k 0 x1000 bt436.2.1 bt436.2.2 bt441.1 bt441.2.1 bt441.2.2.1 bt441.2.2.2.1 bt441.2.2.2.2.1 bt441.2.2.2.2.2.1 bt441.2.2.2.2.2.2.1 bt441.2.2.2.2.2.2.2.1 bt441.2.2.2.2.2.2.2.2)))
def spec_l5Draw.l1 : Nat → Int → List Int → Int → Int → List Int → List Int → Bool → Bool → Bool → Bool → List Int → List Int → Int → Option (List Int × List Int × Bool × Bool × Bool × Bool × List Int × List Int × Int × Int × Int)
 | 0, _, _, _, _, _, _, _, _, _, _, _, _, _ => none
 | k + 1, x6, x1000, x1001, x1002, x459000, x459001, x459002, x459003, x459004, x459005, x459006, x459007, x459008 => if x6 < 6 then ((spec_l1Below.f x1000 x1001 x1002 256).bind fun bt459 => ((spec_l1Int.f x1000 bt459.2.1 bt459.2.2 (([0, 2, 100, 200, 510, 3, wrap64 (bt459.1 * 2)] : List Int))).bind fun bt465 => (if 0 ≤ x6 then (if x6 < (x459001.length : Int) then (spec_l5Draw.l1 k (wrap64 (x6 + 1)) x1000 bt465.2.1 bt465.2.2 x459000 (x459001.set (x6 : Int).toNat bt465.1) x459002 x459003 x459004 x459005 x459006 x459007 x459008) else (none)) else (none)))) else ((spec_l1Int.f x1000 x1001 x1002 (([512, 500, 400] : List Int))).bind fun bt472 => (if 6 < (x459001.length : Int) then ((spec_l1Once.f x1000 bt472.2.1 bt472.2.2 2).bind fun bt476 => ((spec_l1Once.f x1000 bt476.2.1 bt476.2.2 2).bind fun bt479 => ((spec_l1Once.f x1000 bt479.2.1 bt479.2.2 2).bind fun bt482 => (spec_l5Draw.l2 k 0 x1000 bt482.2.1 bt482.2.2 x459000 (x459001.set (6 : Int).toNat bt472.1) bt476.1 bt479.1 x459004 bt482.1 x459006 x459007 x459008)))) else (none)))
def spec_l5Draw.l2 : Nat → Int → List Int → Int → Int → List Int → List Int → Bool → Bool → Bool → Bool → List Int → List Int → Int → Option (List Int × List Int × Bool × Bool × Bool × Bool × List Int × List Int × Int × Int × Int)
 | 0, _, _, _, _, _, _, _, _, _, _, _, _, _ => none
 | k + 1, x7, x1000, x1001, x1002, x459000, x459001, x459002, x459003, x459004, x459005, x459006, x459007, x459008 => if x7 < 8 then ((spec_l1Below.f x1000 x1001 x1002 32).bind fun bt485 => ((spec_l1Int.f x1000 bt485.2.1 bt485.2.2 (([0, 2, 100, 64, 65535] : List Int))).bind fun bt491 => (if 0 ≤ bt485.1 then (if bt485.1 < (x459000.length : Int) then ((spec_l1Below.f x1000 bt491.2.1 bt491.2.2 60).bind fun bt495 => ((spec_l1Word.f x1000 bt495.2.1 bt495.2.2).bind fun bt498 => (if 0 ≤ (wrap64 (80 + bt495.1)) then (if (wrap64 (80 + bt495.1)) < (x459000.length : Int) then (spec_l5Draw.l2 k (wrap64 (x7 + 1)) x1000 bt498.2.1 bt498.2.2 ((x459000.set (bt485.1 : Int).toNat bt491.1).set ((wrap64 (80 + bt495.1)) : Int).toNat bt498.1) x459001 x459002 x459003 x459004 x459005 x459006 x459007 x459008) else (none)) else (none)))) else (none)) else (none)))) else (some (x459000, x459001, x459002, x459003, x459004, x459005, x459006, x459007, x459008, x1001, x1002))
end
def spec_l5Draw.f (k : Nat) (s0_0 : List Int) (s0_1 : Int) (s0_2 : Int) : Option (List Int × List Int × Bool × Bool × Bool × Bool × List Int × List Int × Int × Int × Int) := (spec_l1Below.f s0_0 s0_1 s0_2 4).bind fun bt427 => (spec_l5Draw.l0 k (([] : List Int)) bt427.1 s0_0 bt427.2.1 bt427.2.2)
theorem spec_l5Draw.mono_l : ∀ k, (∀ y0 y1 y2 y3 y4, LeO (spec_l5Draw.l0 k y0 y1 y2 y3 y4) (spec_l5Draw.l0 (k + 1) y0 y1 y2 y3 y4)) ∧ (∀ y0 y1 y2 y3 y4 y5 y6 y7 y8 y9 y10 y11 y12, LeO (spec_l5Draw.l1 k y0 y1 y2 y3 y4 y5 y6 y7 y8 y9 y10 y11 y12) (spec_l5Draw.l1 (k + 1) y0 y1 y2 y3 y4 y5 y6 y7 y8 y9 y10 y11 y12)) ∧ (∀ y0 y1 y2 y3 y4 y5 y6 y7 y8 y9 y10 y11 y12, LeO (spec_l5Draw.l2 k y0 y1 y2 y3 y4 y5 y6 y7 y8 y9 y10 y11 y12) (spec_l5Draw.l2 (k + 1) y0 y1 y2 y3 y4 y5 y6 y7 y8 y9 y10 y11 y12))
 | 0 => ⟨fun _ _ _ _ _ r h => by simp [spec_l5Draw.l0] at h, fun _ _ _ _ _ _ _ _ _ _ _ _ _ r h => by simp [spec_l5Draw.l1] at h, fun _ _ _ _ _ _ _ _ _ _ _ _ _ r h => by simp [spec_l5Draw.l2] at h⟩
 | k + 1 => by
  obtain ⟨ih0, ih1, ih2⟩ := spec_l5Draw.mono_l k
  refine ⟨?_, ?_, ?_⟩
  ·intro y0 y1 y2 y3 y4
   unfold spec_l5Draw.l0
   repeat' first
   | (with_reducible exact ih0 _ _ _ _ _)
   | (with_reducible exact ih1 _ _ _ _ _ _ _ _ _ _ _ _ _)
   | (with_reducible exact ih2 _ _ _ _ _ _ _ _ _ _ _ _ _)
   | (with_reducible exact spec_MachNew.mono _ _ _ _ _)
   | (with_reducible exact spec_l4Words.mono _ _ _ _ _)
   | (with_reducible exact LeO.refl _)
   | (with_reducible exact LeO.none _)
   | (with_reducible refine LeO.ite ?_ ?_)
   | (with_reducible refine LeO.bind ?_ (fun _ => ?_))
   | exact ih0 _ _ _ _ _
   | exact ih1 _ _ _ _ _ _ _ _ _ _ _ _ _
   | exact ih2 _ _ _ _ _ _ _ _ _ _ _ _ _
   | exact spec_MachNew.mono _ _ _ _ _
   | exact spec_l4Words.mono _ _ _ _ _
   | exact LeO.none _
   | refine LeO.ite ?_ ?_
   | refine LeO.bind ?_ (fun _ => ?_)
  ·intro y0 y1 y2 y3 y4 y5 y6 y7 y8 y9 y10 y11 y12
   unfold spec_l5Draw.l1
   repeat' first
   | (with_reducible exact ih0 _ _ _ _ _)
   | (with_reducible exact ih1 _ _ _ _ _ _ _ _ _ _ _ _ _)
   | (with_reducible exact ih2 _ _ _ _ _ _ _ _ _ _ _ _ _)
   | (with_reducible exact spec_MachNew.mono _ _ _ _ _)
   | (with_reducible exact spec_l4Words.mono _ _ _ _ _)
   | (with_reducible exact LeO.refl _)
   | (with_reducible exact LeO.none _)
   | (with_reducible refine LeO.ite ?_ ?_)
   | (with_reducible refine LeO.bind ?_ (fun _ => ?_))
   | exact ih0 _ _ _ _ _
   | exact ih1 _ _ _ _ _ _ _ _ _ _ _ _ _
   | exact ih2 _ _ _ _ _ _ _ _ _ _ _ _ _
   | exact spec_MachNew.mono _ _ _ _ _
   | exact spec_l4Words.mono _ _ _ _ _
   | exact LeO.none _
   | refine LeO.ite ?_ ?_
   | refine LeO.bind ?_ (fun _ => ?_)
  ·intro y0 y1 y2 y3 y4 y5 y6 y7 y8 y9 y10 y11 y12
   unfold spec_l5Draw.l2
   repeat' first
   | (with_reducible exact ih0 _ _ _ _ _)
   | (with_reducible exact ih1 _ _ _ _ _ _ _ _ _ _ _ _ _)
   | (with_reducible exact ih2 _ _ _ _ _ _ _ _ _ _ _ _ _)
   | (with_reducible exact spec_MachNew.mono _ _ _ _ _)
   | (with_reducible exact spec_l4Words.mono _ _ _ _ _)
   | (with_reducible exact LeO.refl _)
   | (with_reducible exact LeO.none _)
   | (with_reducible refine LeO.ite ?_ ?_)
   | (with_reducible refine LeO.bind ?_ (fun _ => ?_))
   | exact ih0 _ _ _ _ _
   | exact ih1 _ _ _ _ _ _ _ _ _ _ _ _ _
   | exact ih2 _ _ _ _ _ _ _ _ _ _ _ _ _
   | exact spec_MachNew.mono _ _ _ _ _
   | exact spec_l4Words.mono _ _ _ _ _
   | exact LeO.none _
   | refine LeO.ite ?_ ?_
   | refine LeO.bind ?_ (fun _ => ?_)
theorem spec_l5Draw.mono : ∀ a0 a1 a2 k, LeO (spec_l5Draw.f k a0 a1 a2) (spec_l5Draw.f (k + 1) a0 a1 a2) := by
 intro a0 a1 a2 k
 obtain ⟨ih0, ih1, ih2⟩ := spec_l5Draw.mono_l k
 unfold spec_l5Draw.f
 repeat' first
   | (with_reducible exact ih0 _ _ _ _ _)
   | (with_reducible exact ih1 _ _ _ _ _ _ _ _ _ _ _ _ _)
   | (with_reducible exact ih2 _ _ _ _ _ _ _ _ _ _ _ _ _)
   | (with_reducible exact spec_MachNew.mono _ _ _ _ _)
   | (with_reducible exact spec_l4Words.mono _ _ _ _ _)
   | (with_reducible exact LeO.refl _)
   | (with_reducible exact LeO.none _)
   | (with_reducible refine LeO.ite ?_ ?_)
   | (with_reducible refine LeO.bind ?_ (fun _ => ?_))
   | exact ih0 _ _ _ _ _
   | exact ih1 _ _ _ _ _ _ _ _ _ _ _ _ _
   | exact ih2 _ _ _ _ _ _ _ _ _ _ _ _ _
   | exact spec_MachNew.mono _ _ _ _ _
   | exact spec_l4Words.mono _ _ _ _ _
   | exact LeO.none _
   | refine LeO.ite ?_ ?_
   | refine LeO.bind ?_ (fun _ => ?_)
def spec_l5Draw.T10 : Bool × List (List Nat × List Nat) := (true, [([], []), ([0], [0]), ([], []), ([], []), ([], []), ([4], [4]), ([5], [5]), ([6], [6]), ([3, 7, 5], [3, 7]), ([1, 2, 0, 1, 2, 3, 4, 5, 6, 7, 8], [1, 2]), ([9, 8, 8, 0, 1, 2, 3, 4, 5, 6, 7, 8], [8, 9])])
def spec_l5Draw.B10 : List Nat := [0, 1, 0, 0, 0, 16, 48, 112, 248, 511, 1023]
theorem spec_l5Draw.tab10 : rtab .any (opsOf Try.f73 10) = spec_l5Draw.T10 := by kernel_rfl
theorem spec_l5Draw.bits10 : waitsOk spec_l5Draw.T10.2 spec_l5Draw.B10 = true := by kernel_rfl
def spec_l5Draw.T18 : Bool × List (List Nat × List Nat) := (true, [([], []), ([0], [0]), ([], []), ([2], [2]), ([], []), ([], []), ([4, 5, 3], [4, 5]), ([1, 3, 0, 1, 2, 3, 4, 5, 6], [1, 3]), ([7, 6, 6, 0, 1, 2, 3, 4, 5, 6], [6, 7])])
def spec_l5Draw.B18 : List Nat := [0, 1, 0, 4, 0, 0, 60, 127, 255]
theorem spec_l5Draw.tab18 : rtab .any (opsOf Try.f73 18) = spec_l5Draw.T18 := by kernel_rfl
theorem spec_l5Draw.bits18 : waitsOk spec_l5Draw.T18.2 spec_l5Draw.B18 = true := by kernel_rfl
def spec_l5Draw.T19 : Bool × List (List Nat × List Nat) := (true, [([], []), ([0], [0]), ([], []), ([2], [2]), ([3], [3]), ([], []), ([5, 3], [5]), ([1, 4, 0, 1, 2, 3, 4, 5, 6], [1, 4]), ([7, 6, 6, 0, 1, 2, 3, 4, 5, 6], [6, 7])])
def spec_l5Draw.B19 : List Nat := [0, 1, 0, 4, 12, 0, 44, 127, 255]
theorem spec_l5Draw.tab19 : rtab .any (opsOf Try.f73 19) = spec_l5Draw.T19 := by kernel_rfl
theorem spec_l5Draw.bits19 : waitsOk spec_l5Draw.T19.2 spec_l5Draw.B19 = true := by kernel_rfl
set_option maxHeartbeats 8000000 in
set_option maxRecDepth 100000 in
theorem spec_l5Draw.calls (k : Nat) (g : Nat) (s0_0 : List Int) (s0_1 : Int) (s0_2 : Int) (r1 : List Int) (r2 : List Int) (r3 : Bool) (r4 : Bool) (r5 : Bool) (r6 : Bool) (r7 : List Int) (r8 : List Int) (r9 : Int) (r10 : Int) (r11 : Int) (w0 w : World) (hI : IsS102 w0 w g s0_0 s0_1 s0_2) (hB : Below w0.heap.size w0 w) (h : spec_l5Draw.f k s0_0 s0_1 s0_2 = some (r1, r2, r3, r4, r5, r6, r7, r8, r9, r10, r11)) :
  Calls Try.prog 73 #[.pointer (some ⟨g, 0, none⟩)] w fun e w' => ∃ v0_ v1_ v6_ v7_ : Value, e = .returned (.agg #[v0_, v1_, .bool r3, .bool r4, .bool r5, .bool r6, v6_, v7_, .int .i64 r9]) ∧ Kd.R (Kd.int .i64) 3 w' w.heap.size (fun k_ => some k_ ≠ (v1_ : Value).ownBlock ∧ some k_ ≠ (v6_ : Value).ownBlock ∧ some k_ ≠ (v7_ : Value).ownBlock) v0_ r1 ∧ Kd.R (Kd.int .i64) 3 w' w.heap.size (fun k_ => some k_ ≠ (v0_ : Value).ownBlock ∧ some k_ ≠ (v6_ : Value).ownBlock ∧ some k_ ≠ (v7_ : Value).ownBlock) v1_ r2 ∧ Kd.R (Kd.int .i64) 3 w' w.heap.size (fun k_ => some k_ ≠ (v0_ : Value).ownBlock ∧ some k_ ≠ (v1_ : Value).ownBlock ∧ some k_ ≠ (v7_ : Value).ownBlock) v6_ r7 ∧ Kd.R (Kd.int .i64) 3 w' w.heap.size (fun k_ => some k_ ≠ (v0_ : Value).ownBlock ∧ some k_ ≠ (v1_ : Value).ownBlock ∧ some k_ ≠ (v6_ : Value).ownBlock) v7_ r8 ∧ IsS102 w0 w' g s0_0 r10 r11 ∧ Below w0.heap.size w0 w' ∧ KeepBut w w' g none := by
 have hu28 := Try.underlying28
 have HI0 := A_ hI
 have HK := A_ (KeepBut.refl w g none)
 have HL := A_ hB.size
 clear hI
 have HW0 := A_ hB.size
 have HB := A_ hB
 clear hB
 have H : ((spec_l1Below.f s0_0 s0_1 s0_2 4).bind fun bt427 => (spec_l5Draw.l0 k (([] : List Int)) bt427.1 s0_0 bt427.2.1 bt427.2.2)) = some (r1, r2, r3, r4, r5, r6, r7, r8, r9, r10, r11) := h
 clear h
 obtain ⟨y424, hy424⟩ : ∃ y_ : List Int, y_ = (([] : List Int)) := ⟨_, rfl⟩
 replace H : ((spec_l1Below.f s0_0 s0_1 s0_2 4).bind fun bt427 => (spec_l5Draw.l0 k y424 bt427.1 s0_0 bt427.2.1 bt427.2.2)) = some (r1, r2, r3, r4, r5, r6, r7, r8, r9, r10, r11) := by first | (rw [hy424]; with_reducible exact H) | (have H2_ := (Option.bind_some _ _).symm.trans H; rw [hy424]; with_reducible exact H2_) | (have H2_ := (Option.bind_some _ _).symm.trans H; with_reducible exact H2_) | with_reducible exact H | (rw [hy424]; exact H) | exact H
 have Ny424 := A_ hy424
 clear hy424
 replace H := Option.bind_eq_some_iff.mp H
 obtain ⟨⟨t427, t428, t429⟩, A20, H⟩ := H
 try dsimp only at H
 have A2 := A_ A20
 clear A20
 have H' := A_ H
 clear H
 go_enter Try.func73, Try.ntmps73
 go_wp2_with (first | ((with_reducible refine gate_dst (N := 2) rfl ?_); refine bx_ 2 #[.slice none 0 0, .slice none 0 0, .bool false, .bool false, .bool false, .bool false, .slice none 0 0, .slice none 0 0, .int .i64 0] 28 ?_; intro gb423 hg w3 hbox hb; replace HB := A_ (below_step (have := GeI.mk (IsS102.ge HI0.out); bw_ HB.out) hb); have BK423 := A_ (hbox); have GW423 := A_ ((d49_ : w.heap.size ≤ gb423)); have GE423 := A_ ((Nat.le_trans HW0.out (d49_ : w.heap.size ≤ gb423) : w0.heap.size ≤ gb423)); replace HK := A_ (KeepBut.trans d1_ (KeepBut.of_below hb g none) (.inl rfl)); have NB0_423 := A_ ((d12_ : g ≠ gb423)); have NB423_0 := A_ ((d13_ : gb423 ≠ g)); replace HI0 := A_ (IsS102.below d11_ hb); have GI423 := GeI.mk GE423.out; clear hb hbox hg) | ((with_reducible refine gate_dst (N := 8) rfl ?_); refine Kd.R_lit (Kd.int .i64) _ 3 ?hg (N := 8) ?hd (xs := ([] : List Int)) (inner := []) (ok := fun _ => True) (okp := fun _ => True) ?hr ?hp (fun _ hk => hk) trivial (Below.refl _ _) (Nat.le_refl _) (by simp) ?_; (case hd => rfl); (case hg => rfl); (case hr => first | (go_simp; done) | (go_simp; rfl)); (case hp => exact (Reps.none _ _)); intro v425 w4 ho5 hb hg_ hnew_; clear hg_ hnew_; (first | rw [← Ny424.out] at ho5 | (simp only [Int.reduceToNat] at ho5; rw [← Ny424.out] at ho5)); have HO426 := A_ (Kd.R_lower ho5 (keep_size (w := w) (g := g) (row := none) d10_)); replace BK423 := A_ (blk_below (bk_ BK423.out) hb); replace HK := A_ (KeepBut.trans d10_ (KeepBut.of_below hb g none) (.inl rfl)); replace HB := A_ (below_step (have := GeI.mk (IsS102.ge HI0.out); bw_ HB.out) hb); replace HI0 := A_ (IsS102.below d29_ hb); clear hb ho5) | ((with_reducible refine gate_callee (f := 71) rfl ?_); refine gL_ (some 10) Try.func71 #[.pointer (some ⟨g, 0, none⟩), .int .i64 4] ?_; (with_reducible refine (spec_l1Below.calls g s0_0 s0_1 s0_2 4 t427 t428 t429 w0 _ ?side1 ?side2 A2.out).mono ?_); (case side1 => exact hI0_); (case side2 => exact (have := GeI.mk (IsS102.ge HI0.out); bw_ HB.out)); rintro e w6 ⟨rfl, hi, hb, hk⟩; refine ⟨_, rfl, ?_⟩; replace BK423 := A_ (KeepBut.blk hk (bk_ BK423.out) NB423_0.out (by simp)); replace HO426 := kI_ (hI0_ : IsS102 w0 _ g s0_0 s0_1 s0_2) hk HO426; replace HK := A_ (KeepBut.trans d10_ hk (.inl rfl)); replace HB := A_ (hb); replace HI0 := A_ (hi); clear hb hk hi))
 go_loopg [3, 4] k (fun kq v3 v4 w' => ∃ (x3_1 : List Int) (x4_1 : Int) (x1001_1 : Int) (x1002_1 : Int), v4 = .int .i64 x4_1 ∧ Aside0 (spec_l5Draw.l0 kq x3_1 x4_1 s0_0 x1001_1 x1002_1 = some (r1, r2, r3, r4, r5, r6, r7, r8, r9, r10, r11)) ∧ Aside0 (kq ≤ k) ∧ Aside0 (Kd.R (Kd.int .i64) 3 w' w.heap.size (fun _ => True) v3 x3_1) ∧ Aside0 (w'.heap[gb423]? = some (.cells #[(.slice none 0 0), (.slice none 0 0), .bool false, .bool false, .bool false, .bool false, (.slice none 0 0), (.slice none 0 0), .int .i64 0] 28 (0, 0))) ∧ Aside0 (IsS102 w0 w' g s0_0 x1001_1 x1002_1) ∧ Aside0 (KeepBut w w' g none) ∧ Aside0 (Below w0.heap.size w0 w'))
 case atStart => exact ⟨(y424), (t427), (t428), (t429), d6_, H', ⟨Nat.le_refl _⟩, ⟨kr_ HO426.out⟩, ⟨by refine bk_ ?_; exact BK423.out⟩, ⟨hI0_⟩, ⟨by repeat (first | (with_reducible first | exact HK.out | apply KeepBut.set_ | apply keep_drewN | apply keep_drew | apply keep_alloc | refine keep_far ?_ GW423.out _) | exact HK.out)⟩, ⟨(have := GeI.mk (IsS102.ge HI0.out); bw_ HB.out)⟩⟩
 case round =>
  clear H'
  try clear p2
  obtain ⟨x3_1, x4_1, x1001_1, x1002_1, rfl, HA, HK1, HO_3, BK423, HI0, HK, HB⟩ := hrel
  cases gk with
  | zero => exact absurd HA.out (by simp [spec_l5Draw.l0])
  | succ k1 =>
   have H := HA.out
   clear HA
   simp only [spec_l5Draw.l0] at H
   by_cases c7 : x4_1 > 0
   ·rw [if_pos c7] at H
    have c7b0 := decide_eq_true c7
    clear c7
    replace H := Option.bind_eq_some_iff.mp H
    obtain ⟨⟨t430, t431, t432⟩, A80, H⟩ := H
    try dsimp only at H
    have A8 := A_ A80
    clear A80
    by_cases c9 : x3_1.length < 17592186044416
    ·rw [if_pos c9] at H
     have LMc9 := A_ c9
     clear c9
     obtain ⟨y433, hy433⟩ : ∃ y_ : List Int, y_ = (x3_1 ++ [t430]) := ⟨_, rfl⟩
     replace H : (spec_l5Draw.l0 k1 y433 (wrap64 (x4_1 - 1)) s0_0 t431 t432) = some (r1, r2, r3, r4, r5, r6, r7, r8, r9, r10, r11) := by first | (rw [hy433]; with_reducible exact H) | (have H2_ := (Option.bind_some _ _).symm.trans H; rw [hy433]; with_reducible exact H2_) | (have H2_ := (Option.bind_some _ _).symm.trans H; with_reducible exact H2_) | with_reducible exact H | (rw [hy433]; exact H) | exact H
     have Ny433 := A_ hy433
     clear hy433
     have H' := A_ H
     clear H
     go_wp2_with (first | ((with_reducible refine gate_callee (f := 85) rfl ?_); refine gL_ (some 17) Try.func85 #[.pointer (some ⟨g, 0, none⟩)] ?_; (with_reducible refine (spec_l1Word.calls g s0_0 x1001_1 x1002_1 t430 t431 t432 w0 _ ?side1 ?side2 A8.out).mono ?_); (case side1 => exact hI0_); (case side2 => exact (have := GeI.mk (IsS102.ge HI0.out); bw_ HB.out)); rintro e w10 ⟨rfl, hi, hb, hk⟩; refine ⟨_, rfl, ?_⟩; replace HO_3 := kI_ (hI0_ : IsS102 w0 _ g s0_0 x1001_1 x1002_1) hk HO_3; replace BK423 := A_ (KeepBut.blk hk (bk_ BK423.out) NB423_0.out (by simp)); replace HK := A_ (KeepBut.trans d10_ hk (.inl rfl)); replace HB := A_ (hb); replace HI0 := A_ (hi); clear hb hk hi) | ((with_reducible refine gate_builtin (b := .append) (xs := #[.tmp 15, .tmp 18]) rfl ?_); at_builtin; refine Kd.R_append (Kd.int .i64) w.heap.size rfl (.tmp 15) (.tmp 18) 22 3 (.int .i64 0) 8 rfl Try.underlying22 info3 rfl (by decide) (by omega) u3 x3_1 t430 [.int .i64 t430] (fun _ => True) (fun _ => False) rfl rfl ?aP (fun _ hk => hk.elim) ?aF ?aO (Below.refl _ _) ?aS ?aL ?_; (case aP => exact rfl); (case aF => exact (fun _ _ => trivial)); (case aO => exact (kr_ HO_3.out)); (case aS => exact (keep_size (w := w) (g := g) (row := none) d10_)); (case aL => have := LMc9.out; omega); intro v434 w11 ho hb hg hat; rw [← Ny433.out] at ho; have n0_ := A_ (blk_grown (bk_ BK423.out) hg (Kd.R_ne HO_3.out BK423.out (by decide))); have n1_ := A_ (IsS102.grown d29_ hg (IsS102.own_ne HI0.out HO_3.out (by decide))); have n2_ := A_ (below_weaken (have := GeI.mk (IsS102.ge HI0.out); bw_ HB.out) HL.out hb); have n3_ := A_ (KeepBut.trans d10_ (KeepBut.of_grown hg g) (Kd.R_base2 HO_3.out)); have n4_ := A_ (ho); clear BK423; clear HI0; clear HB; clear HK; clear HO_3; have BK423 := n0_; have HI0 := n1_; have HB := n2_; have HK := n3_; have HO435 := n4_; clear n0_ n1_ n2_ n3_ n4_; clear ho hb hg hat))
     go_roundg k1
     case measure => have := HK1.out; omega
     case rel => exact ⟨(y433), (wrap64 (x4_1 - 1)), (t431), (t432), d6_, H', ⟨by have := HK1.out; omega⟩, ⟨kr_ HO435.out⟩, ⟨by refine bk_ ?_; exact BK423.out⟩, ⟨hI0_⟩, ⟨by repeat (first | (with_reducible first | exact HK.out | apply KeepBut.set_ | apply keep_drewN | apply keep_drew | apply keep_alloc | refine keep_far ?_ GW423.out _) | exact HK.out)⟩, ⟨(have := GeI.mk (IsS102.ge HI0.out); bw_ HB.out)⟩⟩
    ·rw [if_neg c9] at H
     exact absurd H (by simp)
   ·rw [if_neg c7] at H
    have c7b0 := decide_eq_false c7
    clear c7
    replace H := Option.bind_eq_some_iff.mp H
    obtain ⟨⟨t436, t439, t440⟩, A120, H⟩ := H
    try dsimp only at H
    have A12 := A_ A120
    clear A120
    replace H := Option.bind_eq_some_iff.mp H
    obtain ⟨⟨t441, t444, t447, t448, t449, t450, t451, t454, t457⟩, A130, H⟩ := H
    try dsimp only at H
    have A13 := A_ A130
    clear A130
    have H' := A_ H
    clear H
    go_wp2_with (first | ((with_reducible refine gate_callee (f := 70) rfl ?_); refine gL_ (some 21) Try.func70 #[.pointer (some ⟨g, 0, none⟩), .int .i64 12] ?_; (with_reducible refine (spec_l4Words.calls k1 g s0_0 x1001_1 x1002_1 12 t436 t439 t440 w0 _ ?side1 ?side2 A12.out).mono ?_); (case side1 => exact hI0_); (case side2 => exact (have := GeI.mk (IsS102.ge HI0.out); bw_ HB.out)); rintro e w14 ⟨v437, rfl, ho0, hi, hb, hk⟩; refine ⟨_, rfl, ?_⟩; replace BK423 := A_ (KeepBut.blk hk (bk_ BK423.out) NB423_0.out (by simp)); have HO438 := A_ (Kd.R_lower (Kd.R_new' ho0 (Kd.R_lt (kr_ HO_3.out))) (keep_size (w := w) (g := g) (row := none) d10_)); replace HO_3 := A_ (Kd.R_mono (Kd.R_told (Kd.R_oldK (IsS102.apart (hI0_ : IsS102 w0 _ g s0_0 x1001_1 x1002_1) (kr_ HO_3.out) (by decide)) hk) (Kd.R_base ho0)) (fun _ h_ => h_.1)); replace HK := A_ (KeepBut.trans d10_ hk (.inl rfl)); replace HB := A_ (hb); replace HI0 := A_ (hi); clear hb hk hi; (try clear ho0); obtain ⟨Ao15, co15, eo15⟩ := Kd.R_slice HO438.out; subst eo15; obtain ⟨Ao16, co16, eo16⟩ := Kd.R_slice HO_3.out; subst eo16) | ((with_reducible refine gate_callee (f := 27) rfl ?_); refine gL_ (some 23) Try.func27 #[.slice Ao15 t436.length co15, .int .i64 64, .int .i64 64, .slice Ao16 x3_1.length co16] ?_; (with_reducible refine (spec_MachNew.calls k1 _ _ t436 64 64 _ _ x3_1 t441 t444 t447 t448 t449 t450 t451 t454 t457 _ ?side1 ?side2 ?side3 ?side4 A13.out).mono ?_); (case side1 => repeat (first | exact (Kd.R_reads' HO438.out).2.2 | (with_reducible refine Kd.C_alloc ?_ _) | (with_reducible refine Kd.C_drewN ?_ _) | (with_reducible refine Kd.C_drew ?_))); (case side2 => exact (Kd.R_reads' HO438.out).2.1); (case side3 => repeat (first | exact (Kd.R_reads' HO_3.out).2.2 | (with_reducible refine Kd.C_alloc ?_ _) | (with_reducible refine Kd.C_drewN ?_ _) | (with_reducible refine Kd.C_drew ?_))); (case side4 => exact (Kd.R_reads' HO_3.out).2.1); rintro e w17 ⟨v442, v445, v452, v455, rfl, ho0, ho1, ho2, ho3, hb⟩; refine ⟨_, rfl, ?_⟩; have HO443 := A_ (Kd.R_lower (Kd.R_new' (Kd.R_new' ho0 (Kd.R_lt (kr_ HO_3.out))) (Kd.R_lt (kr_ HO438.out))) (keep_size (w := w) (g := g) (row := none) d10_)); have HO446 := A_ (Kd.R_lower (Kd.R_new' (Kd.R_new' ho1 (Kd.R_lt (kr_ HO_3.out))) (Kd.R_lt (kr_ HO438.out))) (keep_size (w := w) (g := g) (row := none) d10_)); have HO453 := A_ (Kd.R_lower (Kd.R_new' (Kd.R_new' ho2 (Kd.R_lt (kr_ HO_3.out))) (Kd.R_lt (kr_ HO438.out))) (keep_size (w := w) (g := g) (row := none) d10_)); have HO456 := A_ (Kd.R_lower (Kd.R_new' (Kd.R_new' ho3 (Kd.R_lt (kr_ HO_3.out))) (Kd.R_lt (kr_ HO438.out))) (keep_size (w := w) (g := g) (row := none) d10_)); replace HO_3 := A_ (Kd.R_mono (Kd.R_told (Kd.R_told (Kd.R_told (Kd.R_told (Kd.R_old (kr_ HO_3.out) hb) (Kd.R_base ho0)) (Kd.R_base ho1)) (Kd.R_base ho2)) (Kd.R_base ho3)) (fun _ h_ => h_.1)); replace HO438 := A_ (Kd.R_mono (Kd.R_told (Kd.R_told (Kd.R_told (Kd.R_told (Kd.R_old (kr_ HO438.out) hb) (Kd.R_base ho0)) (Kd.R_base ho1)) (Kd.R_base ho2)) (Kd.R_base ho3)) (fun _ h_ => h_.1)); replace BK423 := A_ (blk_below (bk_ BK423.out) hb); replace HK := A_ (KeepBut.trans d10_ (KeepBut.of_below hb g none) (.inl rfl)); replace HB := A_ (below_step (have := GeI.mk (IsS102.ge HI0.out); bw_ HB.out) hb); replace HI0 := A_ (IsS102.below d29_ hb); clear hb; (try clear ho0); (try clear ho1); (try clear ho2); (try clear ho3)) | ((with_reducible refine gate_dst (N := 5) rfl ?_); refine bx_ 5 #[.slice none 0 0, .slice none 0 0, .bool false, .bool false, .bool false, .bool false, .slice none 0 0, .slice none 0 0, .int .i64 0] 28 ?_; intro gb458 hg w18 hbox hb; have n0_ := A_ (Kd.R_below (kr_ HO_3.out) hb); have n1_ := A_ (Kd.R_below (kr_ HO438.out) hb); have n2_ := A_ (Kd.R_below (kr_ HO443.out) hb); have n3_ := A_ (Kd.R_below (kr_ HO446.out) hb); have n4_ := A_ (Kd.R_below (kr_ HO453.out) hb); have n5_ := A_ (Kd.R_below (kr_ HO456.out) hb); have n6_ := A_ (blk_below (bk_ BK423.out) hb); have n7_ := A_ (IsS102.below d29_ hb); have n8_ := A_ (KeepBut.trans d10_ (KeepBut.of_below hb g none) (.inl rfl)); have n9_ := A_ (below_step (have := GeI.mk (IsS102.ge HI0.out); bw_ HB.out) hb); have n10_ := A_ (hbox); have n11_ := A_ ((by rw [hg]; exact (keep_size (w := w) (g := g) (row := none) d10_) : w.heap.size ≤ gb458)); have n12_ := A_ ((Nat.le_trans HW0.out (by rw [hg]; exact (keep_size (w := w) (g := g) (row := none) d10_) : w.heap.size ≤ gb458) : w0.heap.size ≤ gb458)); have n13_ := A_ ((by rw [hg]; exact Nat.ne_of_lt (blk_lt (bk_ BK423.out)) : gb423 ≠ gb458)); have n14_ := A_ n13_.out.symm; have n15_ := A_ ((by rw [hg]; exact Nat.ne_of_lt (IsS102.lt (hI0_ : IsS102 w0 _ g s0_0 t439 t440)) : g ≠ gb458)); have n16_ := A_ ((by rw [hg]; exact Nat.ne_of_gt (IsS102.lt (hI0_ : IsS102 w0 _ g s0_0 t439 t440)) : gb458 ≠ g)); clear HO_3; clear HO438; clear HO443; clear HO446; clear HO453; clear HO456; clear BK423; clear HI0; clear HK; clear HB; have HO_3 := n0_; have HO438 := n1_; have HO443 := n2_; have HO446 := n3_; have HO453 := n4_; have HO456 := n5_; have BK423 := n6_; have HI0 := n7_; have HK := n8_; have HB := n9_; have BK458 := n10_; have GW458 := n11_; have GE458 := n12_; have GI458 := GeI.mk GE458.out; have NB423_458 := n13_; have NB458_423 := n14_; have NB0_458 := n15_; have NB458_0 := n16_; clear n0_ n1_ n2_ n3_ n4_ n5_ n6_ n7_ n8_ n9_ n10_ n11_ n12_ n13_ n14_ n15_ n16_; clear hb hbox hg; obtain ⟨Ao19, co19, eo19⟩ := Kd.R_slice HO443.out; subst eo19; have hnb20 := NB458_423.out; have hnc20 := NB423_458.out; have hnb21 := NB458_0.out; have hnc21 := NB0_458.out; obtain ⟨y22_0, y22_1, y22_2, y22_3, y22_4, y22_5, y22_6, y22_7, y22_8, z22_0, z22_1, z22_2, z22_3, z22_4, z22_5, z22_6, z22_7, z22_8⟩ := cz9_ BK458.out; obtain ⟨Ao23, co23, eo23⟩ := Kd.R_slice HO446.out; subst eo23; obtain ⟨Ao24, co24, eo24⟩ := Kd.R_slice HO453.out; subst eo24; obtain ⟨Ao25, co25, eo25⟩ := Kd.R_slice HO456.out; subst eo25))
    go_loopg [6] k1 (fun kq v6 w' => ∃ (x6_2 : Int) (x1001_2 : Int) (x1002_2 : Int) (x459000_2 : List Int) (x459001_2 : List Int) (x459006_2 : List Int) (x459007_2 : List Int) (u459000 : Value) (u459001 : Value) (u459006 : Value) (u459007 : Value), v6 = .int .i64 x6_2 ∧ Aside0 (spec_l5Draw.l1 kq x6_2 s0_0 x1001_2 x1002_2 x459000_2 x459001_2 t447 t448 t449 t450 x459006_2 x459007_2 t457 = some (r1, r2, r3, r4, r5, r6, r7, r8, r9, r10, r11)) ∧ Aside0 (kq ≤ k1) ∧ Aside0 (Kd.R (Kd.int .i64) 3 w' w.heap.size (fun k_ => some k_ ≠ (u459001 : Value).ownBlock ∧ some k_ ≠ (u459006 : Value).ownBlock ∧ some k_ ≠ (u459007 : Value).ownBlock) u459000 x459000_2) ∧ Aside0 (Kd.R (Kd.int .i64) 3 w' w.heap.size (fun k_ => some k_ ≠ (u459000 : Value).ownBlock ∧ some k_ ≠ (u459006 : Value).ownBlock ∧ some k_ ≠ (u459007 : Value).ownBlock) u459001 x459001_2) ∧ Aside0 (Kd.R (Kd.int .i64) 3 w' w.heap.size (fun k_ => some k_ ≠ (u459000 : Value).ownBlock ∧ some k_ ≠ (u459001 : Value).ownBlock ∧ some k_ ≠ (u459007 : Value).ownBlock) u459006 x459006_2) ∧ Aside0 (Kd.R (Kd.int .i64) 3 w' w.heap.size (fun k_ => some k_ ≠ (u459000 : Value).ownBlock ∧ some k_ ≠ (u459001 : Value).ownBlock ∧ some k_ ≠ (u459006 : Value).ownBlock) u459007 x459007_2) ∧ Aside0 (w'.heap[gb423]? = some (.cells #[(.slice none 0 0), (.slice none 0 0), .bool false, .bool false, .bool false, .bool false, (.slice none 0 0), (.slice none 0 0), .int .i64 0] 28 (0, 0))) ∧ Aside0 (w'.heap[gb458]? = some (.cells #[u459000, u459001, .bool t447, .bool t448, .bool t449, .bool t450, u459006, u459007, .int .i64 t457] 28 (0, 0))) ∧ Aside0 (IsS102 w0 w' g s0_0 x1001_2 x1002_2) ∧ Aside0 (KeepBut w w' g none) ∧ Aside0 (Below w0.heap.size w0 w'))
    case atStart => exact ⟨(0), (t439), (t440), (t441), (t444), (t451), (t454), (.slice Ao19 t441.length co19), (.slice Ao23 t444.length co23), (.slice Ao24 t451.length co24), (.slice Ao25 t454.length co25), d6_, H', ⟨Nat.le_refl _⟩, ⟨kr_ (Kd.R_mono (rf9_ (Kd.R_types HO443.out BK458.out (by decide)) (fun _ hk => hk.2)) (fun _ hk => ⟨hk.1.1.1.1, ⟨hk.1.1.1.2.1, hk.1.1.1.2.2⟩⟩))⟩, ⟨kr_ (Kd.R_mono (rf9_ (Kd.R_types HO446.out BK458.out (by decide)) (fun _ hk => hk.2)) (fun _ hk => ⟨hk.1.1.1.1, ⟨hk.1.1.1.2.1, hk.1.1.1.2.2⟩⟩))⟩, ⟨kr_ (Kd.R_mono (rf9_ (Kd.R_types HO453.out BK458.out (by decide)) (fun _ hk => hk.2)) (fun _ hk => ⟨hk.1.1.1.1, ⟨hk.1.1.1.2.1, hk.1.1.1.2.2⟩⟩))⟩, ⟨kr_ (Kd.R_mono (rf9_ (Kd.R_types HO456.out BK458.out (by decide)) (fun _ hk => hk.2)) (fun _ hk => ⟨hk.1.1.1.1, ⟨hk.1.1.1.2.1, hk.1.1.1.2.2⟩⟩))⟩, ⟨by refine bk_ ?_; refine blk_far ?_ NB423_458.out _; refine bk_ ?_; refine blk_far ?_ NB423_458.out _; refine bk_ ?_; refine blk_far ?_ NB423_458.out _; refine bk_ ?_; refine blk_far ?_ NB423_458.out _; refine bk_ ?_; refine blk_far ?_ NB423_458.out _; refine bk_ ?_; refine blk_far ?_ NB423_458.out _; refine bk_ ?_; refine blk_far ?_ NB423_458.out _; refine bk_ ?_; refine blk_far ?_ NB423_458.out _; refine bk_ ?_; refine blk_far ?_ NB423_458.out _; refine bk_ ?_; exact BK423.out⟩, ⟨by exact bk_ (bp9_ (bk_ BK458.out))⟩, ⟨hI0_⟩, ⟨by repeat (first | (with_reducible first | exact HK.out | apply KeepBut.set_ | apply keep_drewN | apply keep_drew | apply keep_alloc | refine keep_far ?_ GW423.out _ | refine keep_far ?_ GW458.out _) | exact HK.out)⟩, ⟨(have := GeI.mk (IsS102.ge HI0.out); bw_ HB.out)⟩⟩
    case round =>
     clear H'
     try clear c2
     try clear p2
     try clear p6
     try clear c7
     try clear c7b0
     try clear c8
     try clear c9
     try clear c20
     try clear c21
     try clear y22_0 y22_1 y22_2 y22_3 y22_4 y22_5 y22_6 y22_7 y22_8 z22_0 z22_1 z22_2 z22_3 z22_4 z22_5 z22_6 z22_7 z22_8
     try clear p2
     obtain ⟨x6_2, x1001_2, x1002_2, x459000_2, x459001_2, x459006_2, x459007_2, u459000, u459001, u459006, u459007, rfl, HA, HK2, HO_459000, HO_459001, HO_459006, HO_459007, BK423, BK458, HI0, HK, HB⟩ := hrel
     cases gk with
     | zero => exact absurd HA.out (by simp [spec_l5Draw.l1])
     | succ k2 =>
      have H := HA.out
      clear HA
      simp only [spec_l5Draw.l1] at H
      by_cases c26 : x6_2 < 6
      ·rw [if_pos c26] at H
       have c26b0 := decide_eq_true c26
       clear c26
       replace H := Option.bind_eq_some_iff.mp H
       obtain ⟨⟨t459, t460, t461⟩, A270, H⟩ := H
       try dsimp only at H
       have A27 := A_ A270
       clear A270
       obtain ⟨y462, hy462⟩ : ∃ y_ : List Int, y_ = (([0, 2, 100, 200, 510, 3, wrap64 (t459 * 2)] : List Int)) := ⟨_, rfl⟩
       replace H : ((spec_l1Int.f s0_0 t460 t461 y462).bind fun bt465 => (if 0 ≤ x6_2 then (if x6_2 < (x459001_2.length : Int) then (spec_l5Draw.l1 k2 (wrap64 (x6_2 + 1)) s0_0 bt465.2.1 bt465.2.2 x459000_2 (x459001_2.set (x6_2 : Int).toNat bt465.1) t447 t448 t449 t450 x459006_2 x459007_2 t457) else (none)) else (none))) = some (r1, r2, r3, r4, r5, r6, r7, r8, r9, r10, r11) := by first | (rw [hy462]; with_reducible exact H) | (have H2_ := (Option.bind_some _ _).symm.trans H; rw [hy462]; with_reducible exact H2_) | (have H2_ := (Option.bind_some _ _).symm.trans H; with_reducible exact H2_) | with_reducible exact H | (rw [hy462]; exact H) | exact H
       have Ny462 := A_ hy462
       clear hy462
       replace H := Option.bind_eq_some_iff.mp H
       obtain ⟨⟨t465, t466, t467⟩, A280, H⟩ := H
       try dsimp only at H
       have A28 := A_ A280
       clear A280
       by_cases c29 : 0 ≤ x6_2
       ·rw [if_pos c29] at H
        have c29b0 := decide_eq_true c29
        clear c29
        by_cases c30 : x6_2 < (x459001_2.length : Int)
        ·rw [if_pos c30] at H
         have c30b0 := decide_eq_true c30
         clear c30
         obtain ⟨y468, hy468⟩ : ∃ y_ : List Int, y_ = (x459001_2.set (x6_2 : Int).toNat t465) := ⟨_, rfl⟩
         replace H : (spec_l5Draw.l1 k2 (wrap64 (x6_2 + 1)) s0_0 t466 t467 x459000_2 y468 t447 t448 t449 t450 x459006_2 x459007_2 t457) = some (r1, r2, r3, r4, r5, r6, r7, r8, r9, r10, r11) := by first | (rw [hy468]; with_reducible exact H) | (have H2_ := (Option.bind_some _ _).symm.trans H; rw [hy468]; with_reducible exact H2_) | (have H2_ := (Option.bind_some _ _).symm.trans H; with_reducible exact H2_) | with_reducible exact H | (rw [hy468]; exact H) | exact H
         have Ny468 := A_ hy468
         clear hy468
         have H' := A_ H
         clear H
         try go_wp2
         replace HO_459000 := A_ (Kd.R_drew HO_459000.out)
         replace HO_459001 := A_ (Kd.R_drew HO_459001.out)
         replace HO_459006 := A_ (Kd.R_drew HO_459006.out)
         replace HO_459007 := A_ (Kd.R_drew HO_459007.out)
         replace BK423 := A_ (blk_drew BK423.out)
         replace BK458 := A_ (blk_drew BK458.out)
         replace HI0 := A_ (IsS102.drew HI0.out)
         replace HK := A_ (keep_drew HK.out)
         replace HB := A_ (below_drew1 HB.out)
         refine start_ (n := 11) (S := fun w' => w'.cell? ⟨gb458, 0, none⟩ = some (u459000) ∧ w'.cell? ⟨gb458, 1, none⟩ = some (u459001) ∧ w'.cell? ⟨gb458, 2, none⟩ = some (.bool t447) ∧ w'.cell? ⟨gb458, 3, none⟩ = some (.bool t448) ∧ w'.cell? ⟨gb458, 4, none⟩ = some (.bool t449) ∧ w'.cell? ⟨gb458, 5, none⟩ = some (.bool t450) ∧ w'.cell? ⟨gb458, 6, none⟩ = some (u459006) ∧ w'.cell? ⟨gb458, 7, none⟩ = some (u459007) ∧ w'.cell? ⟨gb458, 8, none⟩ = some (.int .i64 t457)) (ds := [10]) #[false, false, false, false, false, false, false, false, false, false, false] (by kernel_rfl) rfl rfl (c9_ BK458) (fun hHeld => ?_); refine with_tabW spec_l5Draw.tab10 spec_l5Draw.bits10 (fun HT_ HW_ => ?_)
         generalize wr.drew = w32 at HO_459000 HO_459001 HO_459006 HO_459007 BK423 BK458 HI0 HK HB hHeld ⊢
         refine pu_ 0 (some 28) (bm_ 11 1) (any_of HT_.out (by kernel_rfl)) ?_
         refine pu_ 2 (some 30) (bm_ 11 5) (any_of HT_.out (by kernel_rfl)) ?_
         refine pu_ 3 (some 31) (bm_ 11 13) (any_of HT_.out (by kernel_rfl)) ?_
         refine pu_ 4 (some 32) (bm_ 11 29) (any_of HT_.out (by kernel_rfl)) ?_
         refine take_ (i := 1) (N := some 29) (v := ?_) (a' := ?_) (bm_ 11 31) rfl rfl (take_ofW HT_.out HW_.out (by kernel_rfl)) (fun _ _ _ h => h) (Or.inl ⟨by rfl, ?_⟩) hHeld ?_ ?_
         rotate_left
         ·rintro w' ⟨s0, s1, s2, s3, s4, s5, s6, s7, s8⟩
          go_simp
          with_reducible rfl
         rotate_left
         ·simp only [Act.put, List.setIfInBounds_toArray, List.set_cons_zero, List.set_cons_succ, i64_w, i32_w]
          rfl
         refine one_ (i := 5) (N := some 33) (bm_ 11 63) rfl rfl (one_of HT_.out (by kernel_rfl)) (by decide) (fun K hK => ?_)
         refine goes_ Try.func71 (by kernel_rfl) rfl #[.pointer (some ⟨g, 0, none⟩), .int .i64 256] (by rfl) rfl rfl d9_ ?_
         with_reducible refine (spec_l1Below.calls g s0_0 x1001_2 x1002_2 256 t459 t460 t461 w0 _ ?side1 ?side2 A27.out).mono ?_
         (case side1 => exact hI0_)
         (case side2 => exact (have := GeI.mk (IsS102.ge HI0.out); bw_ HB.out))
         rintro e w33 ⟨rfl, hi, hb, hk⟩
         refine ⟨_, rfl, ?_⟩
         replace HO_459000 := kI_ (hI0_ : IsS102 w0 _ g s0_0 x1001_2 x1002_2) hk HO_459000
         replace HO_459001 := kI_ (hI0_ : IsS102 w0 _ g s0_0 x1001_2 x1002_2) hk HO_459001
         replace HO_459006 := kI_ (hI0_ : IsS102 w0 _ g s0_0 x1001_2 x1002_2) hk HO_459006
         replace HO_459007 := kI_ (hI0_ : IsS102 w0 _ g s0_0 x1001_2 x1002_2) hk HO_459007
         replace BK423 := A_ (KeepBut.blk hk (bk_ BK423.out) NB423_0.out (by simp))
         replace BK458 := A_ (KeepBut.blk hk (bk_ BK458.out) NB458_0.out (by simp))
         replace HK := A_ (KeepBut.trans d3_ hk (.inl rfl))
         replace HB := A_ (hb)
         replace HI0 := A_ (hi)
         (try clear hb)
         (try clear hb2)
         (try clear hk)
         (try clear hi)
         refine hK.out _ _ (c9_ BK458) (fun hHeld => ?_)
         clear hK K
         refine norm_ (a' := ?_) ?_ ?_
         rotate_left
         ·show Act.put _ (some 33) _ = _
          simp only [Act.put, List.setIfInBounds_toArray, List.set_cons_zero, List.set_cons_succ, i64_w, i32_w]
          rfl
         refine pu_ 6 (some 34) (bm_ 11 127) (any_of HT_.out (by kernel_rfl)) ?_
         refine one_ (i := 7) (N := some 35) (bm_ 11 255) rfl rfl (one_of HT_.out (by kernel_rfl)) (by decide) (fun K hK => ?_)
         refine Kd.R_lit_step (Kd.int .i64) _ 3 ?hg (N := 35) ?hd (xs := ([0, 2, 100, 200, 510, 3, wrap64 (t459 * 2)] : List Int)) (inner := [.int .i64 0, .int .i64 2, .int .i64 100, .int .i64 200, .int .i64 510, .int .i64 3, .int .i64 (wrap64 (t459 * 2))]) (ok := fun _ => True) (okp := fun _ => True) ?hr ?hp (fun _ hk => hk) trivial (Below.refl _ _) (Nat.le_refl _) (by simp) ?_; (case hd => rfl); (case hg => rfl); (case hr => first | (go_simp; done) | (go_simp; rfl)); (case hp => exact (Reps.one (show Kd.M (Kd.int .i64) _ _ _ 0 [.int .i64 0] from rfl) (Reps.one (show Kd.M (Kd.int .i64) _ _ _ 2 [.int .i64 2] from rfl) (Reps.one (show Kd.M (Kd.int .i64) _ _ _ 100 [.int .i64 100] from rfl) (Reps.one (show Kd.M (Kd.int .i64) _ _ _ 200 [.int .i64 200] from rfl) (Reps.one (show Kd.M (Kd.int .i64) _ _ _ 510 [.int .i64 510] from rfl) (Reps.one (show Kd.M (Kd.int .i64) _ _ _ 3 [.int .i64 3] from rfl) (Reps.one (show Kd.M (Kd.int .i64) _ _ _ (wrap64 (t459 * 2)) [.int .i64 (wrap64 (t459 * 2))] from rfl) (Reps.none _ _)))))))))
         intro v463 w34 ho35 hb hg_ hnew_
         clear hg_ hnew_
         (first | rw [← Ny462.out] at ho35 | (simp only [Int.reduceToNat] at ho35; rw [← Ny462.out] at ho35))
         have HO464 := A_ (Kd.R_lower (Kd.R_new' (Kd.R_new' (Kd.R_new' (Kd.R_new' ho35 (Kd.R_lt (kr_ HO_459000.out))) (Kd.R_lt (kr_ HO_459001.out))) (Kd.R_lt (kr_ HO_459006.out))) (Kd.R_lt (kr_ HO_459007.out))) (keep_size (w := w) (g := g) (row := none) d3_))
         replace HO_459000 := A_ (Kd.R_elder' (kr_ HO_459000.out) (Kd.R_base ho35) hb)
         replace HO_459001 := A_ (Kd.R_elder' (kr_ HO_459001.out) (Kd.R_base ho35) hb)
         replace HO_459006 := A_ (Kd.R_elder' (kr_ HO_459006.out) (Kd.R_base ho35) hb)
         replace HO_459007 := A_ (Kd.R_elder' (kr_ HO_459007.out) (Kd.R_base ho35) hb)
         replace BK423 := A_ (blk_below (bk_ BK423.out) hb)
         replace BK458 := A_ (blk_below (bk_ BK458.out) hb)
         replace HK := A_ (KeepBut.trans d3_ (KeepBut.of_below hb g none) (.inl rfl))
         replace HB := A_ (below_step (have := GeI.mk (IsS102.ge HI0.out); bw_ HB.out) hb)
         replace HI0 := A_ (IsS102.below d23_ hb)
         clear hb ho35
         obtain ⟨Ao36, co36, eo36⟩ := Kd.R_slice HO464.out
         (first | subst eo36 | (injection eo36 with f1_ f2_ f3_; have f4_ := f1_.symm; have f5_ := f3_.symm; clear f1_ f2_ f3_; subst f4_; subst f5_))
         refine hK.out _ _ (c9_ BK458) (fun hHeld => ?_)
         clear hK K
         refine norm_ (a' := ?_) ?_ ?_
         rotate_left
         ·show Act.put _ (some 35) _ = _
          simp only [Act.put, List.setIfInBounds_toArray, List.set_cons_zero, List.set_cons_succ, i64_w, i32_w]
          rfl
         refine one_ (i := 8) (N := some 36) (bm_ 11 511) rfl rfl (one_of HT_.out (by kernel_rfl)) (by decide) (fun K hK => ?_)
         refine goes_ Try.func72 (by kernel_rfl) rfl #[.pointer (some ⟨g, 0, none⟩), .slice Ao36 y462.length co36] (by rfl) rfl rfl d9_ ?_
         with_reducible refine (spec_l1Int.calls g s0_0 t460 t461 _ _ y462 t465 t466 t467 w0 _ ?side1 ?side2 ?side3 ?side4 ?side5 A28.out).mono ?_
         (case side1 => exact hI0_)
         (case side2 => exact (have := GeI.mk (IsS102.ge HI0.out); bw_ HB.out))
         (case side3 => repeat (first | exact (Kd.R_reads' HO464.out).2.2 | (with_reducible refine Kd.C_alloc ?_ _) | (with_reducible refine Kd.C_drewN ?_ _) | (with_reducible refine Kd.C_drew ?_)))
         (case side4 => exact (Kd.R_reads' HO464.out).2.1)
         (case side5 => exact far_slice (IsS102.own_ne HI0.out HO464.out (by decide)))
         rintro e w37 ⟨rfl, hi, hb, hk⟩
         refine ⟨_, rfl, ?_⟩
         replace HO_459000 := kI_ (hI0_ : IsS102 w0 _ g s0_0 t460 t461) hk HO_459000
         replace HO_459001 := kI_ (hI0_ : IsS102 w0 _ g s0_0 t460 t461) hk HO_459001
         replace HO_459006 := kI_ (hI0_ : IsS102 w0 _ g s0_0 t460 t461) hk HO_459006
         replace HO_459007 := kI_ (hI0_ : IsS102 w0 _ g s0_0 t460 t461) hk HO_459007
         replace BK423 := A_ (KeepBut.blk hk (bk_ BK423.out) NB423_0.out (by simp))
         replace BK458 := A_ (KeepBut.blk hk (bk_ BK458.out) NB458_0.out (by simp))
         replace HO464 := kI_ (hI0_ : IsS102 w0 _ g s0_0 t460 t461) hk HO464
         replace HK := A_ (KeepBut.trans d3_ hk (.inl rfl))
         replace HB := A_ (hb)
         replace HI0 := A_ (hi)
         (try clear hb)
         (try clear hb2)
         (try clear hk)
         (try clear hi)
         have p31 : 0 ≤ (x6_2 : Int) := of_decide_eq_true d8_
         have q31 : (x6_2 : Int) < ((x459001_2.length : Int) : Int) := of_decide_eq_true d8_
         obtain ⟨go31, co31, eo31, gb31, gl31, cl31, HG31⟩ := Kd.R_form HO_459001.out (by omega)
         (first | cases eo31 | (injection eo31 with ea_ en_ ec_; (first | subst ea_ | (injection ea_ with ea_; subst ea_)); subst ec_; clear en_))
         have GB31 := A_ gb31
         have GG31 := A_ HG31
         clear gb31 gl31 HG31
         obtain ⟨hx31_0, hf31_0⟩ := Kd.R_celln 0 HO_459001.out (x6_2 : Int) p31 q31
         replace p31 := eq_true p31
         replace q31 := eq_true q31
         have HN0_go31 := A_ (show g ≠ go31 from by have h_ := IsS102.own_ne HI0.out HO_459001.out (by decide); intro e_; exact h_ (by rw [e_]; rfl))
         have HP38 := Kd.R_putn HO_459001.out (x6_2 : Int) t465
         rw [← Ny468.out] at HP38
         have HQ38 := A_ HP38
         clear HP38
         refine hK.out _ _ (c9_ BK458) (fun hHeld => ?_)
         clear hK K
         refine norm_ (a' := ?_) ?_ ?_
         rotate_left
         ·show Act.put _ (some 36) _ = _
          simp only [Act.put, List.setIfInBounds_toArray, List.set_cons_zero, List.set_cons_succ, i64_w, i32_w]
          rfl
         refine pu_ 9 (some 37) (bm_ 11 1023) (any_of HT_.out (by kernel_rfl)) ?_
         refine last_ (i := 10) (N := none) (bm_ 11 2047) rfl rfl (one_of HT_.out (by kernel_rfl)) (by decide) (fun K hK => ?_)
         refine skip_ (w1 := ?_) (by rfl) rfl ?_ ?_
         rotate_left
         ·go_simp
          rfl
         refine hK.out _ _ ?_
         clear hK K
         refine done_ (done_of HT_.out (by kernel_rfl)) ?_
         try go_wp2
         go_roundg k2
         case measure => have := HK1.out; have := HK2.out; omega
         case rel => exact ⟨(wrap64 (x6_2 + 1)), (t466), (t467), (x459000_2), (y468), (x459006_2), (x459007_2), (u459000), (.slice (some ⟨go31, 0, none⟩) x459001_2.length co31), (u459006), (u459007), d6_, H', ⟨by have := HK1.out; have := HK2.out; omega⟩, ⟨by (with_reducible repeat (first | apply Kd.R_alloc | apply Kd.R_drewN | apply Kd.R_drew)); exact Kd.R_mono (Kd.R_far (p := ⟨go31, (x6_2 : Int).toNat, none⟩) (Kd.R_mono HO_459000.out (fun k_ hk => (⟨hk, fun e_ => hk.1.1 (by rw [e_]; rfl)⟩ : _ ∧ k_ ≠ go31))) (fun _ hk => hk.2) (.int .i64 t465)) (fun _ hk => ⟨hk.1.1.1, ⟨hk.1.1.2.1, hk.1.1.2.2⟩⟩)⟩, ⟨kr_ (Kd.R_mono HQ38.out (fun _ hk => ⟨hk.1.1, ⟨hk.1.2.1, hk.1.2.2⟩⟩))⟩, ⟨by (with_reducible repeat (first | apply Kd.R_alloc | apply Kd.R_drewN | apply Kd.R_drew)); exact Kd.R_mono (Kd.R_far (p := ⟨go31, (x6_2 : Int).toNat, none⟩) (Kd.R_mono HO_459006.out (fun k_ hk => (⟨hk, fun e_ => hk.1.2.1 (by rw [e_]; rfl)⟩ : _ ∧ k_ ≠ go31))) (fun _ hk => hk.2) (.int .i64 t465)) (fun _ hk => ⟨hk.1.1.1, ⟨hk.1.1.2.1, hk.1.1.2.2⟩⟩)⟩, ⟨by (with_reducible repeat (first | apply Kd.R_alloc | apply Kd.R_drewN | apply Kd.R_drew)); exact Kd.R_mono (Kd.R_far (p := ⟨go31, (x6_2 : Int).toNat, none⟩) (Kd.R_mono HO_459007.out (fun k_ hk => (⟨hk, fun e_ => hk.1.2.1 (by rw [e_]; rfl)⟩ : _ ∧ k_ ≠ go31))) (fun _ hk => hk.2) (.int .i64 t465)) (fun _ hk => ⟨hk.1.1.1, ⟨hk.1.1.2.1, hk.1.1.2.2⟩⟩)⟩, ⟨by refine bk_ ?_; refine blk_far ?_ (by have h_ := Kd.R_ne HO_459001.out BK423.out (by decide); intro e_; exact h_ (by rw [e_]; rfl)) _; refine bk_ ?_; exact BK423.out⟩, ⟨by refine bk_ ?_; refine blk_far ?_ (by have h_ := Kd.R_ne HO_459001.out BK458.out (by decide); intro e_; exact h_ (by rw [e_]; rfl)) _; refine bk_ ?_; exact BK458.out⟩, ⟨by repeat (first | (with_reducible first | exact HI0.out | apply IsS102.alloc | apply IsS102.drewN | apply IsS102.drew | apply IsS102.set_1 | apply IsS102.set_2 | refine IsS102.far ?_ HN0_go31.out _ | refine IsS102.far ?_ NB0_423.out _ | refine IsS102.far ?_ NB0_458.out _) | exact HI0.out)⟩, ⟨by repeat (first | (with_reducible first | exact HK.out | apply KeepBut.set_ | apply keep_drewN | apply keep_drew | apply keep_alloc | refine keep_far ?_ GB31.out _ | refine keep_far ?_ GW423.out _ | refine keep_far ?_ GW458.out _) | exact HK.out)⟩, ⟨by repeat (first | (with_reducible first | exact HB.out | apply below_alloc | apply pw_below_drewN | apply below_drew1 | refine below_set ?_ (Nat.le_trans HL.out GB31.out) | refine below_set ?_ (IsS102.ge HI0.out) | refine below_set ?_ GE423.out | refine below_set ?_ GE458.out) | exact HB.out)⟩⟩
        ·rw [if_neg c30] at H
         exact absurd H (by simp)
       ·rw [if_neg c29] at H
        exact absurd H (by simp)
      ·rw [if_neg c26] at H
       have c26b0 := decide_eq_false c26
       clear c26
       obtain ⟨y469, hy469⟩ : ∃ y_ : List Int, y_ = (([512, 500, 400] : List Int)) := ⟨_, rfl⟩
       replace H : ((spec_l1Int.f s0_0 x1001_2 x1002_2 y469).bind fun bt472 => (if 6 < (x459001_2.length : Int) then ((spec_l1Once.f s0_0 bt472.2.1 bt472.2.2 2).bind fun bt476 => ((spec_l1Once.f s0_0 bt476.2.1 bt476.2.2 2).bind fun bt479 => ((spec_l1Once.f s0_0 bt479.2.1 bt479.2.2 2).bind fun bt482 => (spec_l5Draw.l2 k2 0 s0_0 bt482.2.1 bt482.2.2 x459000_2 (x459001_2.set (6 : Int).toNat bt472.1) bt476.1 bt479.1 t449 bt482.1 x459006_2 x459007_2 t457)))) else (none))) = some (r1, r2, r3, r4, r5, r6, r7, r8, r9, r10, r11) := by first | (rw [hy469]; with_reducible exact H) | (have H2_ := (Option.bind_some _ _).symm.trans H; rw [hy469]; with_reducible exact H2_) | (have H2_ := (Option.bind_some _ _).symm.trans H; with_reducible exact H2_) | with_reducible exact H | (rw [hy469]; exact H) | exact H
       have Ny469 := A_ hy469
       clear hy469
       replace H := Option.bind_eq_some_iff.mp H
       obtain ⟨⟨t472, t473, t474⟩, A390, H⟩ := H
       try dsimp only at H
       have A39 := A_ A390
       clear A390
       by_cases c40 : 6 < (x459001_2.length : Int)
       ·rw [if_pos c40] at H
        have c40b0 := decide_eq_true c40
        have c40b1 : decide (6 < x459001_2.length) = true := decide_eq_true (by omega)
        clear c40
        obtain ⟨y475, hy475⟩ : ∃ y_ : List Int, y_ = (x459001_2.set (6 : Int).toNat t472) := ⟨_, rfl⟩
        replace H : ((spec_l1Once.f s0_0 t473 t474 2).bind fun bt476 => ((spec_l1Once.f s0_0 bt476.2.1 bt476.2.2 2).bind fun bt479 => ((spec_l1Once.f s0_0 bt479.2.1 bt479.2.2 2).bind fun bt482 => (spec_l5Draw.l2 k2 0 s0_0 bt482.2.1 bt482.2.2 x459000_2 y475 bt476.1 bt479.1 t449 bt482.1 x459006_2 x459007_2 t457)))) = some (r1, r2, r3, r4, r5, r6, r7, r8, r9, r10, r11) := by first | (rw [hy475]; with_reducible exact H) | (have H2_ := (Option.bind_some _ _).symm.trans H; rw [hy475]; with_reducible exact H2_) | (have H2_ := (Option.bind_some _ _).symm.trans H; with_reducible exact H2_) | with_reducible exact H | (rw [hy475]; exact H) | exact H
        have Ny475 := A_ hy475
        clear hy475
        replace H := Option.bind_eq_some_iff.mp H
        obtain ⟨⟨t476, t477, t478⟩, A420, H⟩ := H
        try dsimp only at H
        have A42 := A_ A420
        clear A420
        replace H := Option.bind_eq_some_iff.mp H
        obtain ⟨⟨t479, t480, t481⟩, A430, H⟩ := H
        try dsimp only at H
        have A43 := A_ A430
        clear A430
        replace H := Option.bind_eq_some_iff.mp H
        obtain ⟨⟨t482, t483, t484⟩, A440, H⟩ := H
        try dsimp only at H
        have A44 := A_ A440
        clear A440
        have H' := A_ H
        clear H
        try go_wp2
        replace HO_459000 := A_ (Kd.R_drew HO_459000.out)
        replace HO_459001 := A_ (Kd.R_drew HO_459001.out)
        replace HO_459006 := A_ (Kd.R_drew HO_459006.out)
        replace HO_459007 := A_ (Kd.R_drew HO_459007.out)
        replace BK423 := A_ (blk_drew BK423.out)
        replace BK458 := A_ (blk_drew BK458.out)
        replace HI0 := A_ (IsS102.drew HI0.out)
        replace HK := A_ (keep_drew HK.out)
        replace HB := A_ (below_drew1 HB.out)
        refine start_ (n := 7) (S := fun w' => w'.cell? ⟨gb458, 0, none⟩ = some (u459000) ∧ w'.cell? ⟨gb458, 1, none⟩ = some (u459001) ∧ w'.cell? ⟨gb458, 2, none⟩ = some (.bool t447) ∧ w'.cell? ⟨gb458, 3, none⟩ = some (.bool t448) ∧ w'.cell? ⟨gb458, 4, none⟩ = some (.bool t449) ∧ w'.cell? ⟨gb458, 5, none⟩ = some (.bool t450) ∧ w'.cell? ⟨gb458, 6, none⟩ = some (u459006) ∧ w'.cell? ⟨gb458, 7, none⟩ = some (u459007) ∧ w'.cell? ⟨gb458, 8, none⟩ = some (.int .i64 t457)) (ds := [6]) #[false, false, false, false, false, false, false] (by kernel_rfl) rfl rfl (c9_ BK458) (fun hHeld => ?_)
        generalize wr.drew = w45 at HO_459000 HO_459001 HO_459006 HO_459007 BK423 BK458 HI0 HK HB hHeld ⊢
        refine pu_ 0 (some 38) (bm_ 7 1) (by kernel_rfl) ?_
        refine pu_ 2 (some 40) (bm_ 7 5) (by kernel_rfl) ?_
        refine take_ (i := 1) (N := some 39) (v := ?_) (a' := ?_) (bm_ 7 7) rfl rfl (by kernel_rfl) (fun _ _ _ h => h) (Or.inl ⟨by rfl, ?_⟩) hHeld ?_ ?_
        rotate_left
        ·rintro w' ⟨s0, s1, s2, s3, s4, s5, s6, s7, s8⟩
         go_simp
         with_reducible rfl
        rotate_left
        ·simp only [Act.put, List.setIfInBounds_toArray, List.set_cons_zero, List.set_cons_succ, i64_w, i32_w]
         rfl
        refine one_ (i := 3) (N := some 41) (bm_ 7 15) rfl rfl (by kernel_rfl) (by decide) (fun K hK => ?_)
        refine Kd.R_lit_step (Kd.int .i64) _ 3 ?hg (N := 41) ?hd (xs := ([512, 500, 400] : List Int)) (inner := [.int .i64 512, .int .i64 500, .int .i64 400]) (ok := fun _ => True) (okp := fun _ => True) ?hr ?hp (fun _ hk => hk) trivial (Below.refl _ _) (Nat.le_refl _) (by simp) ?_; (case hd => rfl); (case hg => rfl); (case hr => first | (go_simp; done) | (go_simp; rfl)); (case hp => exact (Reps.one (show Kd.M (Kd.int .i64) _ _ _ 512 [.int .i64 512] from rfl) (Reps.one (show Kd.M (Kd.int .i64) _ _ _ 500 [.int .i64 500] from rfl) (Reps.one (show Kd.M (Kd.int .i64) _ _ _ 400 [.int .i64 400] from rfl) (Reps.none _ _)))))
        intro v470 w46 ho47 hb hg_ hnew_
        clear hg_ hnew_
        (first | rw [← Ny469.out] at ho47 | (simp only [Int.reduceToNat] at ho47; rw [← Ny469.out] at ho47))
        have HO471 := A_ (Kd.R_lower (Kd.R_new' (Kd.R_new' (Kd.R_new' (Kd.R_new' ho47 (Kd.R_lt (kr_ HO_459000.out))) (Kd.R_lt (kr_ HO_459001.out))) (Kd.R_lt (kr_ HO_459006.out))) (Kd.R_lt (kr_ HO_459007.out))) (keep_size (w := w) (g := g) (row := none) d3_))
        replace HO_459000 := A_ (Kd.R_elder' (kr_ HO_459000.out) (Kd.R_base ho47) hb)
        replace HO_459001 := A_ (Kd.R_elder' (kr_ HO_459001.out) (Kd.R_base ho47) hb)
        replace HO_459006 := A_ (Kd.R_elder' (kr_ HO_459006.out) (Kd.R_base ho47) hb)
        replace HO_459007 := A_ (Kd.R_elder' (kr_ HO_459007.out) (Kd.R_base ho47) hb)
        replace BK423 := A_ (blk_below (bk_ BK423.out) hb)
        replace BK458 := A_ (blk_below (bk_ BK458.out) hb)
        replace HK := A_ (KeepBut.trans d3_ (KeepBut.of_below hb g none) (.inl rfl))
        replace HB := A_ (below_step (have := GeI.mk (IsS102.ge HI0.out); bw_ HB.out) hb)
        replace HI0 := A_ (IsS102.below d23_ hb)
        clear hb ho47
        obtain ⟨Ao48, co48, eo48⟩ := Kd.R_slice HO471.out
        (first | subst eo48 | (injection eo48 with f1_ f2_ f3_; have f4_ := f1_.symm; have f5_ := f3_.symm; clear f1_ f2_ f3_; subst f4_; subst f5_))
        refine hK.out _ _ (c9_ BK458) (fun hHeld => ?_)
        clear hK K
        refine norm_ (a' := ?_) ?_ ?_
        rotate_left
        ·show Act.put _ (some 41) _ = _
         simp only [Act.put, List.setIfInBounds_toArray, List.set_cons_zero, List.set_cons_succ, i64_w, i32_w]
         rfl
        refine one_ (i := 4) (N := some 42) (bm_ 7 31) rfl rfl (by kernel_rfl) (by decide) (fun K hK => ?_)
        refine goes_ Try.func72 (by kernel_rfl) rfl #[.pointer (some ⟨g, 0, none⟩), .slice Ao48 y469.length co48] (by rfl) rfl rfl d9_ ?_
        with_reducible refine (spec_l1Int.calls g s0_0 x1001_2 x1002_2 _ _ y469 t472 t473 t474 w0 _ ?side1 ?side2 ?side3 ?side4 ?side5 A39.out).mono ?_
        (case side1 => exact hI0_)
        (case side2 => exact (have := GeI.mk (IsS102.ge HI0.out); bw_ HB.out))
        (case side3 => repeat (first | exact (Kd.R_reads' HO471.out).2.2 | (with_reducible refine Kd.C_alloc ?_ _) | (with_reducible refine Kd.C_drewN ?_ _) | (with_reducible refine Kd.C_drew ?_)))
        (case side4 => exact (Kd.R_reads' HO471.out).2.1)
        (case side5 => exact far_slice (IsS102.own_ne HI0.out HO471.out (by decide)))
        rintro e w49 ⟨rfl, hi, hb, hk⟩
        refine ⟨_, rfl, ?_⟩
        replace HO_459000 := kI_ (hI0_ : IsS102 w0 _ g s0_0 x1001_2 x1002_2) hk HO_459000
        replace HO_459001 := kI_ (hI0_ : IsS102 w0 _ g s0_0 x1001_2 x1002_2) hk HO_459001
        replace HO_459006 := kI_ (hI0_ : IsS102 w0 _ g s0_0 x1001_2 x1002_2) hk HO_459006
        replace HO_459007 := kI_ (hI0_ : IsS102 w0 _ g s0_0 x1001_2 x1002_2) hk HO_459007
        replace BK423 := A_ (KeepBut.blk hk (bk_ BK423.out) NB423_0.out (by simp))
        replace BK458 := A_ (KeepBut.blk hk (bk_ BK458.out) NB458_0.out (by simp))
        replace HO471 := kI_ (hI0_ : IsS102 w0 _ g s0_0 x1001_2 x1002_2) hk HO471
        replace HK := A_ (KeepBut.trans d3_ hk (.inl rfl))
        replace HB := A_ (hb)
        replace HI0 := A_ (hi)
        (try clear hb)
        (try clear hb2)
        (try clear hk)
        (try clear hi)
        have p41 : 0 ≤ (6 : Int) := (by omega)
        have q41 : (6 : Int) < ((x459001_2.length : Int) : Int) := of_decide_eq_true d8_
        have qi41 : (6 < x459001_2.length) = True := eq_true (by omega)
        obtain ⟨go41, co41, eo41, gb41, gl41, cl41, HG41⟩ := Kd.R_form HO_459001.out (by omega)
        (first | cases eo41 | (injection eo41 with ea_ en_ ec_; (first | subst ea_ | (injection ea_ with ea_; subst ea_)); subst ec_; clear en_))
        have GB41 := A_ gb41
        have GG41 := A_ HG41
        clear gb41 gl41 HG41
        obtain ⟨hx41_0, hf41_0⟩ := Kd.R_celln 0 HO_459001.out (6 : Int) p41 q41
        (try rw [show ((6 : Int)).toNat = 6 from rfl] at hx41_0)
        (try simp only [Nat.reduceMul, Nat.zero_mul, Nat.zero_add, Nat.reduceAdd] at hx41_0)
        (try rw [show ((6 : Int)).toNat = 6 from rfl] at hf41_0)
        (try simp only [Nat.reduceMul, Nat.zero_mul, Nat.zero_add, Nat.reduceAdd] at hf41_0)
        replace p41 := eq_true p41
        replace q41 := eq_true q41
        have HN0_go41 := A_ (show g ≠ go41 from by have h_ := IsS102.own_ne HI0.out HO_459001.out (by decide); intro e_; exact h_ (by rw [e_]; rfl))
        have HP50 := Kd.R_putn HO_459001.out (6 : Int) t472
        rw [← Ny475.out] at HP50
        have HQ50 := A_ HP50
        clear HP50
        refine hK.out _ _ (c9_ BK458) (fun hHeld => ?_)
        clear hK K
        refine norm_ (a' := ?_) ?_ ?_
        rotate_left
        ·show Act.put _ (some 42) _ = _
         simp only [Act.put, List.setIfInBounds_toArray, List.set_cons_zero, List.set_cons_succ, i64_w, i32_w]
         rfl
        refine pu_ 5 (some 43) (bm_ 7 63) (by kernel_rfl) ?_
        refine last_ (i := 6) (N := none) (bm_ 7 127) rfl rfl (by kernel_rfl) (by decide) (fun K hK => ?_)
        refine skip_ (w1 := ?_) (by rfl) rfl ?_ ?_
        rotate_left
        ·go_simp
         rfl
        refine hK.out _ _ ?_
        clear hK K
        refine done_ (by kernel_rfl) ?_
        have n0_ : Aside0 (Kd.R (Kd.int .i64) 3 (w49.setCell ⟨go41, 6, none⟩ (.int .i64 t472)) w.heap.size (fun k_ => some k_ ≠ (.slice (some ⟨go41, 0, none⟩) x459001_2.length co41 : Value).ownBlock ∧ some k_ ≠ (u459006 : Value).ownBlock ∧ some k_ ≠ (u459007 : Value).ownBlock ∧ some k_ ≠ (.slice Ao48 y469.length co48 : Value).ownBlock) u459000 x459000_2) := ⟨by (with_reducible repeat (first | apply Kd.R_alloc | apply Kd.R_drewN | apply Kd.R_drew)); exact Kd.R_mono (Kd.R_far (p := ⟨go41, 6, none⟩) (Kd.R_mono HO_459000.out (fun k_ hk => (⟨hk, fun e_ => hk.1.1 (by rw [e_]; rfl)⟩ : _ ∧ k_ ≠ go41))) (fun _ hk => hk.2) (.int .i64 t472)) (fun _ hk => ⟨hk.1.1.1, ⟨hk.1.1.2.1, ⟨hk.1.1.2.2, hk.1.2⟩⟩⟩)⟩
        have n1_ : Aside0 (Kd.R (Kd.int .i64) 3 (w49.setCell ⟨go41, 6, none⟩ (.int .i64 t472)) w.heap.size (fun k_ => some k_ ≠ (u459000 : Value).ownBlock ∧ some k_ ≠ (u459006 : Value).ownBlock ∧ some k_ ≠ (u459007 : Value).ownBlock ∧ some k_ ≠ (.slice Ao48 y469.length co48 : Value).ownBlock) (.slice (some ⟨go41, 0, none⟩) x459001_2.length co41) y475) := ⟨kr_ (Kd.R_mono HQ50.out (fun _ hk => ⟨hk.1.1, ⟨hk.1.2.1, ⟨hk.1.2.2, hk.2⟩⟩⟩))⟩
        have n2_ : Aside0 (Kd.R (Kd.int .i64) 3 (w49.setCell ⟨go41, 6, none⟩ (.int .i64 t472)) w.heap.size (fun k_ => some k_ ≠ (u459000 : Value).ownBlock ∧ some k_ ≠ (.slice (some ⟨go41, 0, none⟩) x459001_2.length co41 : Value).ownBlock ∧ some k_ ≠ (u459007 : Value).ownBlock ∧ some k_ ≠ (.slice Ao48 y469.length co48 : Value).ownBlock) u459006 x459006_2) := ⟨by (with_reducible repeat (first | apply Kd.R_alloc | apply Kd.R_drewN | apply Kd.R_drew)); exact Kd.R_mono (Kd.R_far (p := ⟨go41, 6, none⟩) (Kd.R_mono HO_459006.out (fun k_ hk => (⟨hk, fun e_ => hk.1.2.1 (by rw [e_]; rfl)⟩ : _ ∧ k_ ≠ go41))) (fun _ hk => hk.2) (.int .i64 t472)) (fun _ hk => ⟨hk.1.1.1, ⟨hk.1.1.2.1, ⟨hk.1.1.2.2, hk.1.2⟩⟩⟩)⟩
        have n3_ : Aside0 (Kd.R (Kd.int .i64) 3 (w49.setCell ⟨go41, 6, none⟩ (.int .i64 t472)) w.heap.size (fun k_ => some k_ ≠ (u459000 : Value).ownBlock ∧ some k_ ≠ (.slice (some ⟨go41, 0, none⟩) x459001_2.length co41 : Value).ownBlock ∧ some k_ ≠ (u459006 : Value).ownBlock ∧ some k_ ≠ (.slice Ao48 y469.length co48 : Value).ownBlock) u459007 x459007_2) := ⟨by (with_reducible repeat (first | apply Kd.R_alloc | apply Kd.R_drewN | apply Kd.R_drew)); exact Kd.R_mono (Kd.R_far (p := ⟨go41, 6, none⟩) (Kd.R_mono HO_459007.out (fun k_ hk => (⟨hk, fun e_ => hk.1.2.1 (by rw [e_]; rfl)⟩ : _ ∧ k_ ≠ go41))) (fun _ hk => hk.2) (.int .i64 t472)) (fun _ hk => ⟨hk.1.1.1, ⟨hk.1.1.2.1, ⟨hk.1.1.2.2, hk.1.2⟩⟩⟩)⟩
        have n4_ : Aside0 (Kd.R (Kd.int .i64) 3 (w49.setCell ⟨go41, 6, none⟩ (.int .i64 t472)) w.heap.size (fun k_ => some k_ ≠ (u459000 : Value).ownBlock ∧ some k_ ≠ (.slice (some ⟨go41, 0, none⟩) x459001_2.length co41 : Value).ownBlock ∧ some k_ ≠ (u459006 : Value).ownBlock ∧ some k_ ≠ (u459007 : Value).ownBlock) (.slice Ao48 y469.length co48) y469) := ⟨by (with_reducible repeat (first | apply Kd.R_alloc | apply Kd.R_drewN | apply Kd.R_drew)); exact Kd.R_mono (Kd.R_far (p := ⟨go41, 6, none⟩) (Kd.R_mono HO471.out (fun k_ hk => (⟨hk, fun e_ => hk.1.1.2 (by rw [e_]; rfl)⟩ : _ ∧ k_ ≠ go41))) (fun _ hk => hk.2) (.int .i64 t472)) (fun _ hk => ⟨hk.1.1.1.1.2, ⟨hk.1.1.1.2, ⟨hk.1.1.2, hk.1.2⟩⟩⟩)⟩
        have n5_ : Aside0 ((w49.setCell ⟨go41, 6, none⟩ (.int .i64 t472)).heap[gb423]? = some (.cells #[.slice none 0 0, .slice none 0 0, .bool false, .bool false, .bool false, .bool false, .slice none 0 0, .slice none 0 0, .int .i64 0] 28 (0, 0))) := ⟨by refine bk_ ?_; refine blk_far ?_ (by have h_ := Kd.R_ne HO_459001.out BK423.out (by decide); intro e_; exact h_ (by rw [e_]; rfl)) _; refine bk_ ?_; exact BK423.out⟩
        have n6_ : Aside0 ((w49.setCell ⟨go41, 6, none⟩ (.int .i64 t472)).heap[gb458]? = some (.cells #[u459000, .slice (some ⟨go41, 0, none⟩) x459001_2.length co41, .bool t447, .bool t448, .bool t449, .bool t450, u459006, u459007, .int .i64 t457] 28 (0, 0))) := ⟨by refine bk_ ?_; refine blk_far ?_ (by have h_ := Kd.R_ne HO_459001.out BK458.out (by decide); intro e_; exact h_ (by rw [e_]; rfl)) _; refine bk_ ?_; exact BK458.out⟩
        have n7_ : Aside0 (IsS102 w0 (w49.setCell ⟨go41, 6, none⟩ (.int .i64 t472)) g s0_0 t473 t474) := ⟨by repeat (first | (with_reducible first | exact HI0.out | apply IsS102.alloc | apply IsS102.drewN | apply IsS102.drew | apply IsS102.set_1 | apply IsS102.set_2 | refine IsS102.far ?_ HN0_go41.out _ | refine IsS102.far ?_ NB0_423.out _ | refine IsS102.far ?_ NB0_458.out _) | exact HI0.out)⟩
        have n8_ : Aside0 (KeepBut w (w49.setCell ⟨go41, 6, none⟩ (.int .i64 t472)) g none) := ⟨by repeat (first | (with_reducible first | exact HK.out | apply KeepBut.set_ | apply keep_drewN | apply keep_drew | apply keep_alloc | refine keep_far ?_ GB41.out _ | refine keep_far ?_ GW423.out _ | refine keep_far ?_ GW458.out _) | exact HK.out)⟩
        have n9_ : Aside0 (Below w0.heap.size w0 (w49.setCell ⟨go41, 6, none⟩ (.int .i64 t472))) := ⟨by repeat (first | (with_reducible first | exact HB.out | apply below_alloc | apply pw_below_drewN | apply below_drew1 | refine below_set ?_ (Nat.le_trans HL.out GB41.out) | refine below_set ?_ (IsS102.ge HI0.out) | refine below_set ?_ GE423.out | refine below_set ?_ GE458.out) | exact HB.out)⟩
        (try clear HO_459000)
        (try clear HO_459001)
        (try clear HO_459006)
        (try clear HO_459007)
        (try clear HO471)
        (try clear BK423)
        (try clear BK458)
        (try clear HI0)
        (try clear HK)
        (try clear HB)
        try rw [show (w49.drewN nd).setCell ⟨go41, 6, none⟩ (.int .i64 t472) = (w49.setCell ⟨go41, 6, none⟩ (.int .i64 t472)).drewN nd from rfl]
        generalize (w49.setCell ⟨go41, 6, none⟩ (.int .i64 t472)) = w51 at n0_ n1_ n2_ n3_ n4_ n5_ n6_ n7_ n8_ n9_ ⊢
        have HO_459000 := n0_
        have HO_459001 := n1_
        have HO_459006 := n2_
        have HO_459007 := n3_
        have HO471 := n4_
        have BK423 := n5_
        have BK458 := n6_
        have HI0 := n7_
        have HK := n8_
        have HB := n9_
        clear n0_ n1_ n2_ n3_ n4_ n5_ n6_ n7_ n8_ n9_
        try go_wp2_with (first | ((with_reducible refine gate_callee (f := 81) rfl ?_); refine gL_ (some 45) Try.func81 #[.pointer (some ⟨g, 0, none⟩), .int .i64 2] ?_; (with_reducible refine (spec_l1Once.calls g s0_0 t473 t474 2 t476 t477 t478 w0 _ ?side1 ?side2 A42.out).mono ?_); (case side1 => exact hI0_); (case side2 => exact (have := GeI.mk (IsS102.ge HI0.out); bw_ HB.out)); rintro e w52 ⟨rfl, hi, hb, hk⟩; refine ⟨_, rfl, ?_⟩; replace HO_459000 := kI_ (hI0_ : IsS102 w0 _ g s0_0 t473 t474) hk HO_459000; replace HO_459001 := kI_ (hI0_ : IsS102 w0 _ g s0_0 t473 t474) hk HO_459001; replace HO_459006 := kI_ (hI0_ : IsS102 w0 _ g s0_0 t473 t474) hk HO_459006; replace HO_459007 := kI_ (hI0_ : IsS102 w0 _ g s0_0 t473 t474) hk HO_459007; replace BK423 := A_ (KeepBut.blk hk (bk_ BK423.out) NB423_0.out (by simp)); replace BK458 := A_ (KeepBut.blk hk (bk_ BK458.out) NB458_0.out (by simp)); replace HO471 := kI_ (hI0_ : IsS102 w0 _ g s0_0 t473 t474) hk HO471; replace HK := A_ (KeepBut.trans d3_ hk (.inl rfl)); replace HB := A_ (hb); replace HI0 := A_ (hi); clear hb hk hi; have hnb53 := NB458_423.out; have hnc53 := NB423_458.out; have hnb54 := NB458_0.out; have hnc54 := NB0_458.out; obtain ⟨y55_0, y55_1, y55_2, y55_3, y55_4, y55_5, y55_6, y55_7, y55_8, z55_0, z55_1, z55_2, z55_3, z55_4, z55_5, z55_6, z55_7, z55_8⟩ := cz9_ BK458.out) | ((with_reducible refine gate_callee (f := 81) rfl ?_); refine gL_ (some 48) Try.func81 #[.pointer (some ⟨g, 0, none⟩), .int .i64 2] ?_; (with_reducible refine (spec_l1Once.calls g s0_0 t477 t478 2 t479 t480 t481 w0 _ ?side1 ?side2 A43.out).mono ?_); (case side1 => exact hI0_); (case side2 => exact (have := GeI.mk (IsS102.ge HI0.out); bw_ HB.out)); rintro e w56 ⟨rfl, hi, hb, hk⟩; refine ⟨_, rfl, ?_⟩; replace HO_459000 := A_ (Kd.R_mono (Kd.R_keep (IsS102.apart (hI0_ : IsS102 w0 _ g s0_0 t477 t478) (kr_ (Kd.R_mono (Kd.R_far (p := ⟨gb458, 2, none⟩) (Kd.R_types HO_459000.out BK458.out (by decide)) (fun _ hk => hk.2) (.bool t476)) (fun _ h_ => h_.1))) (by decide)) hk (fun _ h => h.2)) (fun _ h => h.1)); replace HO_459001 := A_ (Kd.R_mono (Kd.R_keep (IsS102.apart (hI0_ : IsS102 w0 _ g s0_0 t477 t478) (kr_ (Kd.R_mono (Kd.R_far (p := ⟨gb458, 2, none⟩) (Kd.R_types HO_459001.out BK458.out (by decide)) (fun _ hk => hk.2) (.bool t476)) (fun _ h_ => h_.1))) (by decide)) hk (fun _ h => h.2)) (fun _ h => h.1)); replace HO_459006 := A_ (Kd.R_mono (Kd.R_keep (IsS102.apart (hI0_ : IsS102 w0 _ g s0_0 t477 t478) (kr_ (Kd.R_mono (Kd.R_far (p := ⟨gb458, 2, none⟩) (Kd.R_types HO_459006.out BK458.out (by decide)) (fun _ hk => hk.2) (.bool t476)) (fun _ h_ => h_.1))) (by decide)) hk (fun _ h => h.2)) (fun _ h => h.1)); replace HO_459007 := A_ (Kd.R_mono (Kd.R_keep (IsS102.apart (hI0_ : IsS102 w0 _ g s0_0 t477 t478) (kr_ (Kd.R_mono (Kd.R_far (p := ⟨gb458, 2, none⟩) (Kd.R_types HO_459007.out BK458.out (by decide)) (fun _ hk => hk.2) (.bool t476)) (fun _ h_ => h_.1))) (by decide)) hk (fun _ h => h.2)) (fun _ h => h.1)); replace BK423 := A_ (KeepBut.blk hk (g' := gb423) (o := .cells #[.slice none 0 0, .slice none 0 0, .bool false, .bool false, .bool false, .bool false, .slice none 0 0, .slice none 0 0, .int .i64 0] 28 (0, 0)) (by refine bk_ ?_; refine blk_far ?_ NB423_458.out _; refine bk_ ?_; exact BK423.out) NB423_0.out (by simp)); replace HO471 := A_ (Kd.R_mono (Kd.R_keep (IsS102.apart (hI0_ : IsS102 w0 _ g s0_0 t477 t478) (kr_ (Kd.R_mono (Kd.R_far (p := ⟨gb458, 2, none⟩) (Kd.R_types HO471.out BK458.out (by decide)) (fun _ hk => hk.2) (.bool t476)) (fun _ h_ => h_.1))) (by decide)) hk (fun _ h => h.2)) (fun _ h => h.1)); replace BK458 := A_ (KeepBut.blk hk (g' := gb458) (o := .cells #[u459000, .slice (some ⟨go41, 0, none⟩) x459001_2.length co41, .bool t476, .bool t448, .bool t449, .bool t450, u459006, u459007, .int .i64 t457] 28 (0, 0)) (by refine bk_ ?_; refine blk_put (cs := #[u459000, .slice (some ⟨go41, 0, none⟩) x459001_2.length co41, .bool t447, .bool t448, .bool t449, .bool t450, u459006, u459007, .int .i64 t457]) ?_ 2 _ rfl; refine bk_ ?_; exact BK458.out) NB458_0.out (by simp)); replace HK := A_ (KeepBut.trans d3_ hk (.inl rfl)); replace HB := A_ (hb); replace HI0 := A_ (hi); clear hb hk hi; obtain ⟨y57_0, y57_1, y57_2, y57_3, y57_4, y57_5, y57_6, y57_7, y57_8, z57_0, z57_1, z57_2, z57_3, z57_4, z57_5, z57_6, z57_7, z57_8⟩ := cz9_ BK458.out) | ((with_reducible refine gate_callee (f := 81) rfl ?_); refine gL_ (some 51) Try.func81 #[.pointer (some ⟨g, 0, none⟩), .int .i64 2] ?_; (with_reducible refine (spec_l1Once.calls g s0_0 t480 t481 2 t482 t483 t484 w0 _ ?side1 ?side2 A44.out).mono ?_); (case side1 => exact hI0_); (case side2 => exact (have := GeI.mk (IsS102.ge HI0.out); bw_ HB.out)); rintro e w58 ⟨rfl, hi, hb, hk⟩; refine ⟨_, rfl, ?_⟩; replace HO_459000 := A_ (Kd.R_mono (Kd.R_keep (IsS102.apart (hI0_ : IsS102 w0 _ g s0_0 t480 t481) (kr_ (Kd.R_mono (Kd.R_far (p := ⟨gb458, 3, none⟩) (Kd.R_types HO_459000.out BK458.out (by decide)) (fun _ hk => hk.2) (.bool t479)) (fun _ h_ => h_.1))) (by decide)) hk (fun _ h => h.2)) (fun _ h => h.1)); replace HO_459001 := A_ (Kd.R_mono (Kd.R_keep (IsS102.apart (hI0_ : IsS102 w0 _ g s0_0 t480 t481) (kr_ (Kd.R_mono (Kd.R_far (p := ⟨gb458, 3, none⟩) (Kd.R_types HO_459001.out BK458.out (by decide)) (fun _ hk => hk.2) (.bool t479)) (fun _ h_ => h_.1))) (by decide)) hk (fun _ h => h.2)) (fun _ h => h.1)); replace HO_459006 := A_ (Kd.R_mono (Kd.R_keep (IsS102.apart (hI0_ : IsS102 w0 _ g s0_0 t480 t481) (kr_ (Kd.R_mono (Kd.R_far (p := ⟨gb458, 3, none⟩) (Kd.R_types HO_459006.out BK458.out (by decide)) (fun _ hk => hk.2) (.bool t479)) (fun _ h_ => h_.1))) (by decide)) hk (fun _ h => h.2)) (fun _ h => h.1)); replace HO_459007 := A_ (Kd.R_mono (Kd.R_keep (IsS102.apart (hI0_ : IsS102 w0 _ g s0_0 t480 t481) (kr_ (Kd.R_mono (Kd.R_far (p := ⟨gb458, 3, none⟩) (Kd.R_types HO_459007.out BK458.out (by decide)) (fun _ hk => hk.2) (.bool t479)) (fun _ h_ => h_.1))) (by decide)) hk (fun _ h => h.2)) (fun _ h => h.1)); replace BK423 := A_ (KeepBut.blk hk (g' := gb423) (o := .cells #[.slice none 0 0, .slice none 0 0, .bool false, .bool false, .bool false, .bool false, .slice none 0 0, .slice none 0 0, .int .i64 0] 28 (0, 0)) (by refine bk_ ?_; refine blk_far ?_ NB423_458.out _; refine bk_ ?_; exact BK423.out) NB423_0.out (by simp)); replace HO471 := A_ (Kd.R_mono (Kd.R_keep (IsS102.apart (hI0_ : IsS102 w0 _ g s0_0 t480 t481) (kr_ (Kd.R_mono (Kd.R_far (p := ⟨gb458, 3, none⟩) (Kd.R_types HO471.out BK458.out (by decide)) (fun _ hk => hk.2) (.bool t479)) (fun _ h_ => h_.1))) (by decide)) hk (fun _ h => h.2)) (fun _ h => h.1)); replace BK458 := A_ (KeepBut.blk hk (g' := gb458) (o := .cells #[u459000, .slice (some ⟨go41, 0, none⟩) x459001_2.length co41, .bool t476, .bool t479, .bool t449, .bool t450, u459006, u459007, .int .i64 t457] 28 (0, 0)) (by refine bk_ ?_; refine blk_put (cs := #[u459000, .slice (some ⟨go41, 0, none⟩) x459001_2.length co41, .bool t476, .bool t448, .bool t449, .bool t450, u459006, u459007, .int .i64 t457]) ?_ 3 _ rfl; refine bk_ ?_; exact BK458.out) NB458_0.out (by simp)); replace HK := A_ (KeepBut.trans d3_ hk (.inl rfl)); replace HB := A_ (hb); replace HI0 := A_ (hi); clear hb hk hi; obtain ⟨y59_0, y59_1, y59_2, y59_3, y59_4, y59_5, y59_6, y59_7, y59_8, z59_0, z59_1, z59_2, z59_3, z59_4, z59_5, z59_6, z59_7, z59_8⟩ := cz9_ BK458.out))
        go_loopg [7] k2 (fun kq v7 w' => ∃ (x7_3 : Int) (x1001_3 : Int) (x1002_3 : Int) (x459000_3 : List Int) (x459001_3 : List Int) (x459006_3 : List Int) (x459007_3 : List Int) (u459000 : Value) (u459001 : Value) (u459006 : Value) (u459007 : Value), v7 = .int .i64 x7_3 ∧ Aside0 (spec_l5Draw.l2 kq x7_3 s0_0 x1001_3 x1002_3 x459000_3 x459001_3 t476 t479 t449 t482 x459006_3 x459007_3 t457 = some (r1, r2, r3, r4, r5, r6, r7, r8, r9, r10, r11)) ∧ Aside0 (kq ≤ k2) ∧ Aside0 (Kd.R (Kd.int .i64) 3 w' w.heap.size (fun k_ => some k_ ≠ (u459001 : Value).ownBlock ∧ some k_ ≠ (u459006 : Value).ownBlock ∧ some k_ ≠ (u459007 : Value).ownBlock) u459000 x459000_3) ∧ Aside0 (Kd.R (Kd.int .i64) 3 w' w.heap.size (fun k_ => some k_ ≠ (u459000 : Value).ownBlock ∧ some k_ ≠ (u459006 : Value).ownBlock ∧ some k_ ≠ (u459007 : Value).ownBlock) u459001 x459001_3) ∧ Aside0 (Kd.R (Kd.int .i64) 3 w' w.heap.size (fun k_ => some k_ ≠ (u459000 : Value).ownBlock ∧ some k_ ≠ (u459001 : Value).ownBlock ∧ some k_ ≠ (u459007 : Value).ownBlock) u459006 x459006_3) ∧ Aside0 (Kd.R (Kd.int .i64) 3 w' w.heap.size (fun k_ => some k_ ≠ (u459000 : Value).ownBlock ∧ some k_ ≠ (u459001 : Value).ownBlock ∧ some k_ ≠ (u459006 : Value).ownBlock) u459007 x459007_3) ∧ Aside0 (w'.heap[gb423]? = some (.cells #[(.slice none 0 0), (.slice none 0 0), .bool false, .bool false, .bool false, .bool false, (.slice none 0 0), (.slice none 0 0), .int .i64 0] 28 (0, 0))) ∧ Aside0 (w'.heap[gb458]? = some (.cells #[u459000, u459001, .bool t476, .bool t479, .bool t449, .bool t482, u459006, u459007, .int .i64 t457] 28 (0, 0))) ∧ Aside0 (IsS102 w0 w' g s0_0 x1001_3 x1002_3) ∧ Aside0 (KeepBut w w' g none) ∧ Aside0 (Below w0.heap.size w0 w'))
        case atStart => exact ⟨(0), (t483), (t484), (x459000_2), (y475), (x459006_2), (x459007_2), (u459000), (.slice (some ⟨go41, 0, none⟩) x459001_2.length co41), (u459006), (u459007), d6_, H', ⟨Nat.le_refl _⟩, ⟨kr_ (Kd.R_mono (Kd.R_far (p := ⟨gb458, 5, none⟩) (Kd.R_types HO_459000.out BK458.out (by decide)) (fun _ hk => hk.2) (.bool t482)) (fun _ hk => ⟨hk.1.1, ⟨hk.1.2.1, hk.1.2.2.1⟩⟩))⟩, ⟨kr_ (Kd.R_mono (Kd.R_far (p := ⟨gb458, 5, none⟩) (Kd.R_types HO_459001.out BK458.out (by decide)) (fun _ hk => hk.2) (.bool t482)) (fun _ hk => ⟨hk.1.1, ⟨hk.1.2.1, hk.1.2.2.1⟩⟩))⟩, ⟨kr_ (Kd.R_mono (Kd.R_far (p := ⟨gb458, 5, none⟩) (Kd.R_types HO_459006.out BK458.out (by decide)) (fun _ hk => hk.2) (.bool t482)) (fun _ hk => ⟨hk.1.1, ⟨hk.1.2.1, hk.1.2.2.1⟩⟩))⟩, ⟨kr_ (Kd.R_mono (Kd.R_far (p := ⟨gb458, 5, none⟩) (Kd.R_types HO_459007.out BK458.out (by decide)) (fun _ hk => hk.2) (.bool t482)) (fun _ hk => ⟨hk.1.1, ⟨hk.1.2.1, hk.1.2.2.1⟩⟩))⟩, ⟨by refine bk_ ?_; refine blk_far ?_ NB423_458.out _; refine bk_ ?_; exact BK423.out⟩, ⟨by refine bk_ ?_; refine blk_put (cs := #[u459000, .slice (some ⟨go41, 0, none⟩) x459001_2.length co41, .bool t476, .bool t479, .bool t449, .bool t450, u459006, u459007, .int .i64 t457]) ?_ 5 _ rfl; refine bk_ ?_; exact BK458.out⟩, ⟨hI0_⟩, ⟨by repeat (first | (with_reducible first | exact HK.out | apply KeepBut.set_ | apply keep_drewN | apply keep_drew | apply keep_alloc | refine keep_far ?_ GW423.out _ | refine keep_far ?_ GW458.out _) | exact HK.out)⟩, ⟨(have := GeI.mk (IsS102.ge HI0.out); bw_ HB.out)⟩⟩
        case round =>
         clear H'
         try clear c2
         try clear p2
         try clear c3
         try clear p3
         try clear q3
         try clear hx3
         try clear hf3
         try clear c4
         try clear p4
         try clear q4
         try clear hx4
         try clear qi4
         try clear hf4
         try clear c5
         try clear p6
         try clear c7
         try clear c7b0
         try clear c8
         try clear c9
         try clear c20
         try clear c21
         try clear c26
         try clear c26b0
         try clear c27
         try clear c29
         try clear c29b0
         try clear c30
         try clear c30b0
         try clear p31
         try clear q31
         try clear hx31
         try clear hf31
         try clear c40
         try clear c40b0
         try clear c40b1
         try clear p41
         try clear q41
         try clear hx41
         try clear qi41
         try clear hf41
         try clear c53
         try clear c54
         try clear y22_0 y22_1 y22_2 y22_3 y22_4 y22_5 y22_6 y22_7 y22_8 z22_0 z22_1 z22_2 z22_3 z22_4 z22_5 z22_6 z22_7 z22_8
         try clear y55_0 y55_1 y55_2 y55_3 y55_4 y55_5 y55_6 y55_7 y55_8 z55_0 z55_1 z55_2 z55_3 z55_4 z55_5 z55_6 z55_7 z55_8
         try clear y57_0 y57_1 y57_2 y57_3 y57_4 y57_5 y57_6 y57_7 y57_8 z57_0 z57_1 z57_2 z57_3 z57_4 z57_5 z57_6 z57_7 z57_8
         try clear y59_0 y59_1 y59_2 y59_3 y59_4 y59_5 y59_6 y59_7 y59_8 z59_0 z59_1 z59_2 z59_3 z59_4 z59_5 z59_6 z59_7 z59_8
         try clear hx31_0
         try clear hx41_0
         try clear p2
         try clear p31
         try clear p41
         try clear p6
         try clear q31
         try clear q41
         obtain ⟨x7_3, x1001_3, x1002_3, x459000_3, x459001_3, x459006_3, x459007_3, u459000, u459001, u459006, u459007, rfl, HA, HK3, HO_459000, HO_459001, HO_459006, HO_459007, BK423, BK458, HI0, HK, HB⟩ := hrel
         cases gk with
         | zero => exact absurd HA.out (by simp [spec_l5Draw.l2])
         | succ k3 =>
          have H := HA.out
          clear HA
          simp only [spec_l5Draw.l2] at H
          by_cases c60 : x7_3 < 8
          ·rw [if_pos c60] at H
           have c60b0 := decide_eq_true c60
           clear c60
           replace H := Option.bind_eq_some_iff.mp H
           obtain ⟨⟨t485, t486, t487⟩, A610, H⟩ := H
           try dsimp only at H
           have A61 := A_ A610
           clear A610
           obtain ⟨y488, hy488⟩ : ∃ y_ : List Int, y_ = (([0, 2, 100, 64, 65535] : List Int)) := ⟨_, rfl⟩
           replace H : ((spec_l1Int.f s0_0 t486 t487 y488).bind fun bt491 => (if 0 ≤ t485 then (if t485 < (x459000_3.length : Int) then ((spec_l1Below.f s0_0 bt491.2.1 bt491.2.2 60).bind fun bt495 => ((spec_l1Word.f s0_0 bt495.2.1 bt495.2.2).bind fun bt498 => (if 0 ≤ (wrap64 (80 + bt495.1)) then (if (wrap64 (80 + bt495.1)) < (x459000_3.length : Int) then (spec_l5Draw.l2 k3 (wrap64 (x7_3 + 1)) s0_0 bt498.2.1 bt498.2.2 ((x459000_3.set (t485 : Int).toNat bt491.1).set ((wrap64 (80 + bt495.1)) : Int).toNat bt498.1) x459001_3 t476 t479 t449 t482 x459006_3 x459007_3 t457) else (none)) else (none)))) else (none)) else (none))) = some (r1, r2, r3, r4, r5, r6, r7, r8, r9, r10, r11) := by first | (rw [hy488]; with_reducible exact H) | (have H2_ := (Option.bind_some _ _).symm.trans H; rw [hy488]; with_reducible exact H2_) | (have H2_ := (Option.bind_some _ _).symm.trans H; with_reducible exact H2_) | with_reducible exact H | (rw [hy488]; exact H) | exact H
           have Ny488 := A_ hy488
           clear hy488
           replace H := Option.bind_eq_some_iff.mp H
           obtain ⟨⟨t491, t492, t493⟩, A620, H⟩ := H
           try dsimp only at H
           have A62 := A_ A620
           clear A620
           by_cases c63 : 0 ≤ t485
           ·rw [if_pos c63] at H
            have c63b0 := decide_eq_true c63
            clear c63
            by_cases c64 : t485 < (x459000_3.length : Int)
            ·rw [if_pos c64] at H
             have c64b0 := decide_eq_true c64
             clear c64
             obtain ⟨y494, hy494⟩ : ∃ y_ : List Int, y_ = (x459000_3.set (t485 : Int).toNat t491) := ⟨_, rfl⟩
             replace H : ((spec_l1Below.f s0_0 t492 t493 60).bind fun bt495 => ((spec_l1Word.f s0_0 bt495.2.1 bt495.2.2).bind fun bt498 => (if 0 ≤ (wrap64 (80 + bt495.1)) then (if (wrap64 (80 + bt495.1)) < (x459000_3.length : Int) then (spec_l5Draw.l2 k3 (wrap64 (x7_3 + 1)) s0_0 bt498.2.1 bt498.2.2 (y494.set ((wrap64 (80 + bt495.1)) : Int).toNat bt498.1) x459001_3 t476 t479 t449 t482 x459006_3 x459007_3 t457) else (none)) else (none)))) = some (r1, r2, r3, r4, r5, r6, r7, r8, r9, r10, r11) := by first | (rw [hy494]; with_reducible exact H) | (have H2_ := (Option.bind_some _ _).symm.trans H; rw [hy494]; with_reducible exact H2_) | (have H2_ := (Option.bind_some _ _).symm.trans H; with_reducible exact H2_) | with_reducible exact H | (rw [hy494]; exact H) | exact H
             have Ny494 := A_ hy494
             clear hy494
             replace H := Option.bind_eq_some_iff.mp H
             obtain ⟨⟨t495, t496, t497⟩, A660, H⟩ := H
             try dsimp only at H
             have A66 := A_ A660
             clear A660
             replace H := Option.bind_eq_some_iff.mp H
             obtain ⟨⟨t498, t499, t500⟩, A670, H⟩ := H
             try dsimp only at H
             have A67 := A_ A670
             clear A670
             obtain ⟨ji68, hji68⟩ : ∃ j_ : Int, (wrap64 (80 + t495)) = j_ := ⟨_, rfl⟩
             replace H : (if 0 ≤ (ji68) then (if (ji68) < (x459000_3.length : Int) then (spec_l5Draw.l2 k3 (wrap64 (x7_3 + 1)) s0_0 t499 t500 (y494.set ((ji68) : Int).toNat t498) x459001_3 t476 t479 t449 t482 x459006_3 x459007_3 t457) else (none)) else (none)) = some (r1, r2, r3, r4, r5, r6, r7, r8, r9, r10, r11) := by first | (rw [hji68] at H; exact H) | (simp only [hji68] at H ⊢; exact H)
             (try rw [hji68] at A61)
             (try rw [hji68] at A62)
             (try rw [hji68] at A66)
             (try rw [hji68] at A67)
             have hji68w : (IntKind.i64.wrap (80 + t495)) = ji68 := (i64_w _).trans hji68
             by_cases c69 : 0 ≤ (ji68)
             ·rw [if_pos c69] at H
              have c69b0 := decide_eq_true c69
              clear c69
              by_cases c70 : (ji68) < (x459000_3.length : Int)
              ·rw [if_pos c70] at H
               have c70b0 := decide_eq_true c70
               clear c70
               obtain ⟨y501, hy501⟩ : ∃ y_ : List Int, y_ = (y494.set ((ji68) : Int).toNat t498) := ⟨_, rfl⟩
               replace H : (spec_l5Draw.l2 k3 (wrap64 (x7_3 + 1)) s0_0 t499 t500 y501 x459001_3 t476 t479 t449 t482 x459006_3 x459007_3 t457) = some (r1, r2, r3, r4, r5, r6, r7, r8, r9, r10, r11) := by first | (rw [hy501]; with_reducible exact H) | (have H2_ := (Option.bind_some _ _).symm.trans H; rw [hy501]; with_reducible exact H2_) | (have H2_ := (Option.bind_some _ _).symm.trans H; with_reducible exact H2_) | with_reducible exact H | (rw [hy501]; exact H) | exact H
               have Ny501 := A_ hy501
               clear hy501
               have H' := A_ H
               clear H
               try go_wp2
               replace HO_459000 := A_ (Kd.R_drew HO_459000.out)
               replace HO_459001 := A_ (Kd.R_drew HO_459001.out)
               replace HO_459006 := A_ (Kd.R_drew HO_459006.out)
               replace HO_459007 := A_ (Kd.R_drew HO_459007.out)
               replace BK423 := A_ (blk_drew BK423.out)
               replace BK458 := A_ (blk_drew BK458.out)
               replace HI0 := A_ (IsS102.drew HI0.out)
               replace HK := A_ (keep_drew HK.out)
               replace HB := A_ (below_drew1 HB.out)
               refine start_ (n := 9) (S := fun w' => w'.cell? ⟨gb458, 0, none⟩ = some (u459000) ∧ w'.cell? ⟨gb458, 1, none⟩ = some (u459001) ∧ w'.cell? ⟨gb458, 2, none⟩ = some (.bool t476) ∧ w'.cell? ⟨gb458, 3, none⟩ = some (.bool t479) ∧ w'.cell? ⟨gb458, 4, none⟩ = some (.bool t449) ∧ w'.cell? ⟨gb458, 5, none⟩ = some (.bool t482) ∧ w'.cell? ⟨gb458, 6, none⟩ = some (u459006) ∧ w'.cell? ⟨gb458, 7, none⟩ = some (u459007) ∧ w'.cell? ⟨gb458, 8, none⟩ = some (.int .i64 t457)) (ds := [8]) #[false, false, false, false, false, false, false, false, false] (by kernel_rfl) rfl rfl (c9_ BK458) (fun hHeld => ?_); refine with_tabW spec_l5Draw.tab18 spec_l5Draw.bits18 (fun HT_ HW_ => ?_)
               generalize wr.drew = w72 at HO_459000 HO_459001 HO_459006 HO_459007 BK423 BK458 HI0 HK HB hHeld ⊢
               refine pu_ 0 (some 57) (bm_ 9 1) (any_of HT_.out (by kernel_rfl)) ?_
               refine pu_ 2 (some 59) (bm_ 9 5) (any_of HT_.out (by kernel_rfl)) ?_
               refine pu_ 4 (some 61) (bm_ 9 21) (any_of HT_.out (by kernel_rfl)) ?_
               refine take_ (i := 1) (N := some 58) (v := ?_) (a' := ?_) (bm_ 9 23) rfl rfl (take_ofW HT_.out HW_.out (by kernel_rfl)) (fun _ _ _ h => h) (Or.inl ⟨by rfl, ?_⟩) hHeld ?_ ?_
               rotate_left
               ·rintro w' ⟨s0, s1, s2, s3, s4, s5, s6, s7, s8⟩
                go_simp
                with_reducible rfl
               rotate_left
               ·simp only [Act.put, List.setIfInBounds_toArray, List.set_cons_zero, List.set_cons_succ, i64_w, i32_w]
                rfl
               refine join_ (σ := Value) 3 (bm_ 9 63) (fun s_ => [(60, .int .i64 t485), (62, s_)]) (fun s_ w' => (w'.cell? ⟨gb458, 0, none⟩ = some (u459000) ∧ w'.cell? ⟨gb458, 1, none⟩ = some (u459001) ∧ w'.cell? ⟨gb458, 2, none⟩ = some (.bool t476) ∧ w'.cell? ⟨gb458, 3, none⟩ = some (.bool t479) ∧ w'.cell? ⟨gb458, 4, none⟩ = some (.bool t449) ∧ w'.cell? ⟨gb458, 5, none⟩ = some (.bool t482) ∧ w'.cell? ⟨gb458, 6, none⟩ = some (u459006) ∧ w'.cell? ⟨gb458, 7, none⟩ = some (u459007) ∧ w'.cell? ⟨gb458, 8, none⟩ = some (.int .i64 t457)) ∧ (Kd.R (Kd.int .i64) 3 w' w.heap.size (fun k_ => some k_ ≠ (u459000 : Value).ownBlock ∧ some k_ ≠ (u459001 : Value).ownBlock ∧ some k_ ≠ (u459006 : Value).ownBlock ∧ some k_ ≠ (u459007 : Value).ownBlock) s_ y488) ∧ (Kd.R (Kd.int .i64) 3 w' w.heap.size (fun k_ => some k_ ≠ (s_ : Value).ownBlock ∧ some k_ ≠ (u459001 : Value).ownBlock ∧ some k_ ≠ (u459006 : Value).ownBlock ∧ some k_ ≠ (u459007 : Value).ownBlock) u459000 x459000_3) ∧ (Kd.R (Kd.int .i64) 3 w' w.heap.size (fun k_ => some k_ ≠ (s_ : Value).ownBlock ∧ some k_ ≠ (u459000 : Value).ownBlock ∧ some k_ ≠ (u459006 : Value).ownBlock ∧ some k_ ≠ (u459007 : Value).ownBlock) u459001 x459001_3) ∧ (Kd.R (Kd.int .i64) 3 w' w.heap.size (fun k_ => some k_ ≠ (s_ : Value).ownBlock ∧ some k_ ≠ (u459000 : Value).ownBlock ∧ some k_ ≠ (u459001 : Value).ownBlock ∧ some k_ ≠ (u459007 : Value).ownBlock) u459006 x459006_3) ∧ (Kd.R (Kd.int .i64) 3 w' w.heap.size (fun k_ => some k_ ≠ (s_ : Value).ownBlock ∧ some k_ ≠ (u459000 : Value).ownBlock ∧ some k_ ≠ (u459001 : Value).ownBlock ∧ some k_ ≠ (u459006 : Value).ownBlock) u459007 x459007_3) ∧ (w'.heap[gb423]? = some (.cells #[.slice none 0 0, .slice none 0 0, .bool false, .bool false, .bool false, .bool false, .slice none 0 0, .slice none 0 0, .int .i64 0] 28 (0, 0))) ∧ (w'.heap[gb458]? = some (.cells #[u459000, u459001, .bool t476, .bool t479, .bool t449, .bool t482, u459006, u459007, .int .i64 t457] 28 (0, 0))) ∧ (IsS102 w0 w' g s0_0 t486 t487) ∧ (KeepBut w w' g none) ∧ (Below w0.heap.size w0 w')) ?_ ?_
               rotate_left
               ·intro hCont
                refine two_ (i := 3) (j := 5) (Ni := some 60) (Nj := some 62) (bm_ 9 31) (bm_ 9 55) rfl rfl rfl rfl (two_of HT_.out (by kernel_rfl)) (by decide) (by decide) (fun K hK => ?_) (fun K hK => ?_)
                ·skip
                 refine goes_ Try.func71 (by kernel_rfl) rfl #[.pointer (some ⟨g, 0, none⟩), .int .i64 32] (by rfl) rfl rfl d9_ ?_
                 with_reducible refine (spec_l1Below.calls g s0_0 x1001_3 x1002_3 32 t485 t486 t487 w0 _ ?side1 ?side2 A61.out).mono ?_
                 (case side1 => exact hI0_)
                 (case side2 => exact (have := GeI.mk (IsS102.ge HI0.out); bw_ HB.out))
                 rintro e w73 ⟨rfl, hi, hb, hk⟩
                 refine ⟨_, rfl, ?_⟩
                 replace HO_459000 := kI_ (hI0_ : IsS102 w0 _ g s0_0 x1001_3 x1002_3) hk HO_459000
                 replace HO_459001 := kI_ (hI0_ : IsS102 w0 _ g s0_0 x1001_3 x1002_3) hk HO_459001
                 replace HO_459006 := kI_ (hI0_ : IsS102 w0 _ g s0_0 x1001_3 x1002_3) hk HO_459006
                 replace HO_459007 := kI_ (hI0_ : IsS102 w0 _ g s0_0 x1001_3 x1002_3) hk HO_459007
                 replace BK423 := A_ (KeepBut.blk hk (bk_ BK423.out) NB423_0.out (by simp))
                 replace BK458 := A_ (KeepBut.blk hk (bk_ BK458.out) NB458_0.out (by simp))
                 replace HK := A_ (KeepBut.trans d3_ hk (.inl rfl))
                 replace HB := A_ (hb)
                 replace HI0 := A_ (hi)
                 (try clear hb)
                 (try clear hb2)
                 (try clear hk)
                 (try clear hi)
                 refine hK.out _ _ (c9_ BK458) (fun hHeld => ?_)
                 clear hK K
                 refine norm_ (a' := ?_) ?_ ?_
                 rotate_left
                 ·show Act.put _ (some 60) _ = _
                  simp only [Act.put, List.setIfInBounds_toArray, List.set_cons_zero, List.set_cons_succ, i64_w, i32_w]
                  rfl
                 refine one_ (i := 5) (N := some 62) (bm_ 9 63) rfl rfl (one_of HT_.out (by kernel_rfl)) (by decide) (fun K hK => ?_)
                 refine Kd.R_lit_step (Kd.int .i64) _ 3 ?hg (N := 62) ?hd (xs := ([0, 2, 100, 64, 65535] : List Int)) (inner := [.int .i64 0, .int .i64 2, .int .i64 100, .int .i64 64, .int .i64 65535]) (ok := fun _ => True) (okp := fun _ => True) ?hr ?hp (fun _ hk => hk) trivial (Below.refl _ _) (Nat.le_refl _) (by simp) ?_; (case hd => rfl); (case hg => rfl); (case hr => first | (go_simp; done) | (go_simp; rfl)); (case hp => exact (Reps.one (show Kd.M (Kd.int .i64) _ _ _ 0 [.int .i64 0] from rfl) (Reps.one (show Kd.M (Kd.int .i64) _ _ _ 2 [.int .i64 2] from rfl) (Reps.one (show Kd.M (Kd.int .i64) _ _ _ 100 [.int .i64 100] from rfl) (Reps.one (show Kd.M (Kd.int .i64) _ _ _ 64 [.int .i64 64] from rfl) (Reps.one (show Kd.M (Kd.int .i64) _ _ _ 65535 [.int .i64 65535] from rfl) (Reps.none _ _)))))))
                 intro v489 w74 ho75 hb hg_ hnew_
                 clear hg_ hnew_
                 (first | rw [← Ny488.out] at ho75 | (simp only [Int.reduceToNat] at ho75; rw [← Ny488.out] at ho75))
                 have HO490 := A_ (Kd.R_lower (Kd.R_new' (Kd.R_new' (Kd.R_new' (Kd.R_new' ho75 (Kd.R_lt (kr_ HO_459000.out))) (Kd.R_lt (kr_ HO_459001.out))) (Kd.R_lt (kr_ HO_459006.out))) (Kd.R_lt (kr_ HO_459007.out))) (keep_size (w := w) (g := g) (row := none) d3_))
                 replace HO_459000 := A_ (Kd.R_elder' (kr_ HO_459000.out) (Kd.R_base ho75) hb)
                 replace HO_459001 := A_ (Kd.R_elder' (kr_ HO_459001.out) (Kd.R_base ho75) hb)
                 replace HO_459006 := A_ (Kd.R_elder' (kr_ HO_459006.out) (Kd.R_base ho75) hb)
                 replace HO_459007 := A_ (Kd.R_elder' (kr_ HO_459007.out) (Kd.R_base ho75) hb)
                 replace BK423 := A_ (blk_below (bk_ BK423.out) hb)
                 replace BK458 := A_ (blk_below (bk_ BK458.out) hb)
                 replace HK := A_ (KeepBut.trans d3_ (KeepBut.of_below hb g none) (.inl rfl))
                 replace HB := A_ (below_step (have := GeI.mk (IsS102.ge HI0.out); bw_ HB.out) hb)
                 replace HI0 := A_ (IsS102.below d23_ hb)
                 clear hb ho75
                 refine hK.out _ _ (c9_ BK458) (fun hHeld => ?_)
                 clear hK K
                 refine norm_ (a' := ?_) ?_ ?_
                 rotate_left
                 ·show Act.put _ (some 62) _ = _
                  simp only [Act.put, List.setIfInBounds_toArray, List.set_cons_zero, List.set_cons_succ, i64_w, i32_w]
                  rfl
                 exact norm_ d38_ (hCont (v489) _ ⟨hHeld, (kr_ (Kd.R_mono HO490.out (fun _ hk => ⟨hk.1.1.1.2, ⟨hk.1.1.2, ⟨hk.1.2, hk.2⟩⟩⟩))), (kr_ (Kd.R_mono HO_459000.out (fun _ hk => ⟨hk.2, ⟨hk.1.1, ⟨hk.1.2.1, hk.1.2.2⟩⟩⟩))), (kr_ (Kd.R_mono HO_459001.out (fun _ hk => ⟨hk.2, ⟨hk.1.1, ⟨hk.1.2.1, hk.1.2.2⟩⟩⟩))), (kr_ (Kd.R_mono HO_459006.out (fun _ hk => ⟨hk.2, ⟨hk.1.1, ⟨hk.1.2.1, hk.1.2.2⟩⟩⟩))), (kr_ (Kd.R_mono HO_459007.out (fun _ hk => ⟨hk.2, ⟨hk.1.1, ⟨hk.1.2.1, hk.1.2.2⟩⟩⟩))), (bk_ BK423.out), (bk_ BK458.out), d23_, d3_, (have := GeI.mk (IsS102.ge HI0.out); bw_ HB.out)⟩)
                ·skip
                 refine Kd.R_lit_step (Kd.int .i64) _ 3 ?hg (N := 62) ?hd (xs := ([0, 2, 100, 64, 65535] : List Int)) (inner := [.int .i64 0, .int .i64 2, .int .i64 100, .int .i64 64, .int .i64 65535]) (ok := fun _ => True) (okp := fun _ => True) ?hr ?hp (fun _ hk => hk) trivial (Below.refl _ _) (Nat.le_refl _) (by simp) ?_; (case hd => rfl); (case hg => rfl); (case hr => first | (go_simp; done) | (go_simp; rfl)); (case hp => exact (Reps.one (show Kd.M (Kd.int .i64) _ _ _ 0 [.int .i64 0] from rfl) (Reps.one (show Kd.M (Kd.int .i64) _ _ _ 2 [.int .i64 2] from rfl) (Reps.one (show Kd.M (Kd.int .i64) _ _ _ 100 [.int .i64 100] from rfl) (Reps.one (show Kd.M (Kd.int .i64) _ _ _ 64 [.int .i64 64] from rfl) (Reps.one (show Kd.M (Kd.int .i64) _ _ _ 65535 [.int .i64 65535] from rfl) (Reps.none _ _)))))))
                 intro v489 w73 ho74 hb hg_ hnew_
                 clear hg_ hnew_
                 (first | rw [← Ny488.out] at ho74 | (simp only [Int.reduceToNat] at ho74; rw [← Ny488.out] at ho74))
                 have HO490 := A_ (Kd.R_lower (Kd.R_new' (Kd.R_new' (Kd.R_new' (Kd.R_new' ho74 (Kd.R_lt (kr_ HO_459000.out))) (Kd.R_lt (kr_ HO_459001.out))) (Kd.R_lt (kr_ HO_459006.out))) (Kd.R_lt (kr_ HO_459007.out))) (keep_size (w := w) (g := g) (row := none) d3_))
                 replace HO_459000 := A_ (Kd.R_elder' (kr_ HO_459000.out) (Kd.R_base ho74) hb)
                 replace HO_459001 := A_ (Kd.R_elder' (kr_ HO_459001.out) (Kd.R_base ho74) hb)
                 replace HO_459006 := A_ (Kd.R_elder' (kr_ HO_459006.out) (Kd.R_base ho74) hb)
                 replace HO_459007 := A_ (Kd.R_elder' (kr_ HO_459007.out) (Kd.R_base ho74) hb)
                 replace BK423 := A_ (blk_below (bk_ BK423.out) hb)
                 replace BK458 := A_ (blk_below (bk_ BK458.out) hb)
                 replace HK := A_ (KeepBut.trans d3_ (KeepBut.of_below hb g none) (.inl rfl))
                 replace HB := A_ (below_step (have := GeI.mk (IsS102.ge HI0.out); bw_ HB.out) hb)
                 replace HI0 := A_ (IsS102.below d23_ hb)
                 clear hb ho74
                 refine hK.out _ _ (c9_ BK458) (fun hHeld => ?_)
                 clear hK K
                 refine norm_ (a' := ?_) ?_ ?_
                 rotate_left
                 ·show Act.put _ (some 62) _ = _
                  simp only [Act.put, List.setIfInBounds_toArray, List.set_cons_zero, List.set_cons_succ, i64_w, i32_w]
                  rfl
                 refine one_ (i := 3) (N := some 60) (bm_ 9 63) rfl rfl (one_of HT_.out (by kernel_rfl)) (by decide) (fun K hK => ?_)
                 refine goes_ Try.func71 (by kernel_rfl) rfl #[.pointer (some ⟨g, 0, none⟩), .int .i64 32] (by rfl) rfl rfl d9_ ?_
                 with_reducible refine (spec_l1Below.calls g s0_0 x1001_3 x1002_3 32 t485 t486 t487 w0 _ ?side1 ?side2 A61.out).mono ?_
                 (case side1 => exact hI0_)
                 (case side2 => exact (have := GeI.mk (IsS102.ge HI0.out); bw_ HB.out))
                 rintro e w75 ⟨rfl, hi, hb, hk⟩
                 refine ⟨_, rfl, ?_⟩
                 replace HO_459000 := kI_ (hI0_ : IsS102 w0 _ g s0_0 x1001_3 x1002_3) hk HO_459000
                 replace HO_459001 := kI_ (hI0_ : IsS102 w0 _ g s0_0 x1001_3 x1002_3) hk HO_459001
                 replace HO_459006 := kI_ (hI0_ : IsS102 w0 _ g s0_0 x1001_3 x1002_3) hk HO_459006
                 replace HO_459007 := kI_ (hI0_ : IsS102 w0 _ g s0_0 x1001_3 x1002_3) hk HO_459007
                 replace BK423 := A_ (KeepBut.blk hk (bk_ BK423.out) NB423_0.out (by simp))
                 replace BK458 := A_ (KeepBut.blk hk (bk_ BK458.out) NB458_0.out (by simp))
                 replace HO490 := kI_ (hI0_ : IsS102 w0 _ g s0_0 x1001_3 x1002_3) hk HO490
                 replace HK := A_ (KeepBut.trans d3_ hk (.inl rfl))
                 replace HB := A_ (hb)
                 replace HI0 := A_ (hi)
                 (try clear hb)
                 (try clear hb2)
                 (try clear hk)
                 (try clear hi)
                 refine hK.out _ _ (c9_ BK458) (fun hHeld => ?_)
                 clear hK K
                 refine norm_ (a' := ?_) ?_ ?_
                 rotate_left
                 ·show Act.put _ (some 60) _ = _
                  simp only [Act.put, List.setIfInBounds_toArray, List.set_cons_zero, List.set_cons_succ, i64_w, i32_w]
                  rfl
                 exact norm_ d38_ (hCont (v489) _ ⟨hHeld, (kr_ (Kd.R_mono HO490.out (fun _ hk => ⟨hk.1.1.1.2, ⟨hk.1.1.2, ⟨hk.1.2, hk.2⟩⟩⟩))), (kr_ (Kd.R_mono HO_459000.out (fun _ hk => ⟨hk.2, ⟨hk.1.1, ⟨hk.1.2.1, hk.1.2.2⟩⟩⟩))), (kr_ (Kd.R_mono HO_459001.out (fun _ hk => ⟨hk.2, ⟨hk.1.1, ⟨hk.1.2.1, hk.1.2.2⟩⟩⟩))), (kr_ (Kd.R_mono HO_459006.out (fun _ hk => ⟨hk.2, ⟨hk.1.1, ⟨hk.1.2.1, hk.1.2.2⟩⟩⟩))), (kr_ (Kd.R_mono HO_459007.out (fun _ hk => ⟨hk.2, ⟨hk.1.1, ⟨hk.1.2.1, hk.1.2.2⟩⟩⟩))), (bk_ BK423.out), (bk_ BK458.out), d23_, d3_, (have := GeI.mk (IsS102.ge HI0.out); bw_ HB.out)⟩)
               rintro v489 w76 ⟨hS_, h0_, h1_, h2_, h3_, h4_, h5_, h6_, h7_, h8_, h9_⟩
               have n0_ : Aside0 (Kd.R (Kd.int .i64) 3 w76 w.heap.size (fun k_ => some k_ ≠ (u459000 : Value).ownBlock ∧ some k_ ≠ (u459001 : Value).ownBlock ∧ some k_ ≠ (u459006 : Value).ownBlock ∧ some k_ ≠ (u459007 : Value).ownBlock) v489 y488) := ⟨h0_⟩
               have n1_ : Aside0 (Kd.R (Kd.int .i64) 3 w76 w.heap.size (fun k_ => some k_ ≠ (v489 : Value).ownBlock ∧ some k_ ≠ (u459001 : Value).ownBlock ∧ some k_ ≠ (u459006 : Value).ownBlock ∧ some k_ ≠ (u459007 : Value).ownBlock) u459000 x459000_3) := ⟨h1_⟩
               have n2_ : Aside0 (Kd.R (Kd.int .i64) 3 w76 w.heap.size (fun k_ => some k_ ≠ (v489 : Value).ownBlock ∧ some k_ ≠ (u459000 : Value).ownBlock ∧ some k_ ≠ (u459006 : Value).ownBlock ∧ some k_ ≠ (u459007 : Value).ownBlock) u459001 x459001_3) := ⟨h2_⟩
               have n3_ : Aside0 (Kd.R (Kd.int .i64) 3 w76 w.heap.size (fun k_ => some k_ ≠ (v489 : Value).ownBlock ∧ some k_ ≠ (u459000 : Value).ownBlock ∧ some k_ ≠ (u459001 : Value).ownBlock ∧ some k_ ≠ (u459007 : Value).ownBlock) u459006 x459006_3) := ⟨h3_⟩
               have n4_ : Aside0 (Kd.R (Kd.int .i64) 3 w76 w.heap.size (fun k_ => some k_ ≠ (v489 : Value).ownBlock ∧ some k_ ≠ (u459000 : Value).ownBlock ∧ some k_ ≠ (u459001 : Value).ownBlock ∧ some k_ ≠ (u459006 : Value).ownBlock) u459007 x459007_3) := ⟨h4_⟩
               have n5_ : Aside0 (w76.heap[gb423]? = some (.cells #[.slice none 0 0, .slice none 0 0, .bool false, .bool false, .bool false, .bool false, .slice none 0 0, .slice none 0 0, .int .i64 0] 28 (0, 0))) := ⟨h5_⟩
               have n6_ : Aside0 (w76.heap[gb458]? = some (.cells #[u459000, u459001, .bool t476, .bool t479, .bool t449, .bool t482, u459006, u459007, .int .i64 t457] 28 (0, 0))) := ⟨h6_⟩
               have n7_ : Aside0 (IsS102 w0 w76 g s0_0 t486 t487) := ⟨h7_⟩
               have n8_ : Aside0 (KeepBut w w76 g none) := ⟨h8_⟩
               have n9_ : Aside0 (Below w0.heap.size w0 w76) := ⟨h9_⟩
               clear HO_459000
               clear HO_459001
               clear HO_459006
               clear HO_459007
               clear BK423
               clear BK458
               clear HI0
               clear HK
               clear HB
               clear h0_ h1_ h2_ h3_ h4_ h5_ h6_ h7_ h8_ h9_
               have HO490 := n0_
               have HO_459000 := n1_
               have HO_459001 := n2_
               have HO_459006 := n3_
               have HO_459007 := n4_
               have BK423 := n5_
               have BK458 := n6_
               have HI0 := n7_
               have HK := n8_
               have HB := n9_
               clear n0_ n1_ n2_ n3_ n4_ n5_ n6_ n7_ n8_ n9_
               have hHeld : w76.cell? ⟨gb458, 0, none⟩ = some (u459000) ∧ w76.cell? ⟨gb458, 1, none⟩ = some (u459001) ∧ w76.cell? ⟨gb458, 2, none⟩ = some (.bool t476) ∧ w76.cell? ⟨gb458, 3, none⟩ = some (.bool t479) ∧ w76.cell? ⟨gb458, 4, none⟩ = some (.bool t449) ∧ w76.cell? ⟨gb458, 5, none⟩ = some (.bool t482) ∧ w76.cell? ⟨gb458, 6, none⟩ = some (u459006) ∧ w76.cell? ⟨gb458, 7, none⟩ = some (u459007) ∧ w76.cell? ⟨gb458, 8, none⟩ = some (.int .i64 t457) := hS_
               obtain ⟨Ao77, co77, eo77⟩ := Kd.R_slice HO490.out
               (first | subst eo77 | (injection eo77 with f1_ f2_ f3_; have f4_ := f1_.symm; have f5_ := f3_.symm; clear f1_ f2_ f3_; subst f4_; subst f5_))
               refine norm_ (a' := ?_) ?_ ?_
               rotate_left
               ·simp only [putAll, Act.put, List.setIfInBounds_toArray, List.set_cons_zero, List.set_cons_succ]
                rfl
               refine one_ (i := 6) (N := some 63) (bm_ 9 127) rfl rfl (one_of HT_.out (by kernel_rfl)) (by decide) (fun K hK => ?_)
               refine goes_ Try.func72 (by kernel_rfl) rfl #[.pointer (some ⟨g, 0, none⟩), .slice Ao77 y488.length co77] (by rfl) rfl rfl d9_ ?_
               with_reducible refine (spec_l1Int.calls g s0_0 t486 t487 _ _ y488 t491 t492 t493 w0 _ ?side1 ?side2 ?side3 ?side4 ?side5 A62.out).mono ?_
               (case side1 => exact hI0_)
               (case side2 => exact (have := GeI.mk (IsS102.ge HI0.out); bw_ HB.out))
               (case side3 => repeat (first | exact (Kd.R_reads' HO490.out).2.2 | (with_reducible refine Kd.C_alloc ?_ _) | (with_reducible refine Kd.C_drewN ?_ _) | (with_reducible refine Kd.C_drew ?_)))
               (case side4 => exact (Kd.R_reads' HO490.out).2.1)
               (case side5 => exact far_slice (IsS102.own_ne HI0.out HO490.out (by decide)))
               rintro e w78 ⟨rfl, hi, hb, hk⟩
               refine ⟨_, rfl, ?_⟩
               replace HO_459000 := kI_ (hI0_ : IsS102 w0 _ g s0_0 t486 t487) hk HO_459000
               replace HO_459001 := kI_ (hI0_ : IsS102 w0 _ g s0_0 t486 t487) hk HO_459001
               replace HO_459006 := kI_ (hI0_ : IsS102 w0 _ g s0_0 t486 t487) hk HO_459006
               replace HO_459007 := kI_ (hI0_ : IsS102 w0 _ g s0_0 t486 t487) hk HO_459007
               replace BK423 := A_ (KeepBut.blk hk (bk_ BK423.out) NB423_0.out (by simp))
               replace BK458 := A_ (KeepBut.blk hk (bk_ BK458.out) NB458_0.out (by simp))
               replace HO490 := kI_ (hI0_ : IsS102 w0 _ g s0_0 t486 t487) hk HO490
               replace HK := A_ (KeepBut.trans d3_ hk (.inl rfl))
               replace HB := A_ (hb)
               replace HI0 := A_ (hi)
               (try clear hb)
               (try clear hb2)
               (try clear hk)
               (try clear hi)
               have p65 : 0 ≤ (t485 : Int) := of_decide_eq_true d8_
               have q65 : (t485 : Int) < ((x459000_3.length : Int) : Int) := of_decide_eq_true d8_
               obtain ⟨go65, co65, eo65, gb65, gl65, cl65, HG65⟩ := Kd.R_form HO_459000.out (by omega)
               (first | cases eo65 | (injection eo65 with ea_ en_ ec_; (first | subst ea_ | (injection ea_ with ea_; subst ea_)); subst ec_; clear en_))
               have GB65 := A_ gb65
               have GG65 := A_ HG65
               clear gb65 gl65 HG65
               obtain ⟨hx65_0, hf65_0⟩ := Kd.R_celln 0 HO_459000.out (t485 : Int) p65 q65
               replace p65 := eq_true p65
               replace q65 := eq_true q65
               have HN0_go65 := A_ (show g ≠ go65 from by have h_ := IsS102.own_ne HI0.out HO_459000.out (by decide); intro e_; exact h_ (by rw [e_]; rfl))
               have HP79 := Kd.R_putn HO_459000.out (t485 : Int) t491
               rw [← Ny494.out] at HP79
               have HQ79 := A_ HP79
               clear HP79
               refine hK.out _ _ (c9_ BK458) (fun hHeld => ?_)
               clear hK K
               refine norm_ (a' := ?_) ?_ ?_
               rotate_left
               ·show Act.put _ (some 63) _ = _
                simp only [Act.put, List.setIfInBounds_toArray, List.set_cons_zero, List.set_cons_succ, i64_w, i32_w]
                rfl
               refine pu_ 7 (some 64) (bm_ 9 255) (any_of HT_.out (by kernel_rfl)) ?_
               refine last_ (i := 8) (N := none) (bm_ 9 511) rfl rfl (one_of HT_.out (by kernel_rfl)) (by decide) (fun K hK => ?_)
               refine skip_ (w1 := ?_) (by rfl) rfl ?_ ?_
               rotate_left
               ·go_simp
                rfl
               refine hK.out _ _ ?_
               clear hK K
               refine done_ (done_of HT_.out (by kernel_rfl)) ?_
               try go_wp2
               have n0_ : Aside0 (Kd.R (Kd.int .i64) 3 (w78.setCell ⟨go65, (t485 : Int).toNat, none⟩ (.int .i64 t491)) w.heap.size (fun k_ => some k_ ≠ (u459001 : Value).ownBlock ∧ some k_ ≠ (u459006 : Value).ownBlock ∧ some k_ ≠ (u459007 : Value).ownBlock ∧ some k_ ≠ (.slice Ao77 y488.length co77 : Value).ownBlock) (.slice (some ⟨go65, 0, none⟩) x459000_3.length co65) y494) := ⟨kr_ (Kd.R_mono HQ79.out (fun _ hk => ⟨hk.2.1, ⟨hk.2.2.1, ⟨hk.2.2.2, hk.1⟩⟩⟩))⟩
               have n1_ : Aside0 (Kd.R (Kd.int .i64) 3 (w78.setCell ⟨go65, (t485 : Int).toNat, none⟩ (.int .i64 t491)) w.heap.size (fun k_ => some k_ ≠ (.slice (some ⟨go65, 0, none⟩) x459000_3.length co65 : Value).ownBlock ∧ some k_ ≠ (u459006 : Value).ownBlock ∧ some k_ ≠ (u459007 : Value).ownBlock ∧ some k_ ≠ (.slice Ao77 y488.length co77 : Value).ownBlock) u459001 x459001_3) := ⟨by (with_reducible repeat (first | apply Kd.R_alloc | apply Kd.R_drewN | apply Kd.R_drew)); exact Kd.R_mono (Kd.R_far (p := ⟨go65, (t485 : Int).toNat, none⟩) (Kd.R_mono HO_459001.out (fun k_ hk => (⟨hk, fun e_ => hk.2.1 (by rw [e_]; rfl)⟩ : _ ∧ k_ ≠ go65))) (fun _ hk => hk.2) (.int .i64 t491)) (fun _ hk => ⟨hk.1.2.1, ⟨hk.1.2.2.1, ⟨hk.1.2.2.2, hk.1.1⟩⟩⟩)⟩
               have n2_ : Aside0 (Kd.R (Kd.int .i64) 3 (w78.setCell ⟨go65, (t485 : Int).toNat, none⟩ (.int .i64 t491)) w.heap.size (fun k_ => some k_ ≠ (.slice (some ⟨go65, 0, none⟩) x459000_3.length co65 : Value).ownBlock ∧ some k_ ≠ (u459001 : Value).ownBlock ∧ some k_ ≠ (u459007 : Value).ownBlock ∧ some k_ ≠ (.slice Ao77 y488.length co77 : Value).ownBlock) u459006 x459006_3) := ⟨by (with_reducible repeat (first | apply Kd.R_alloc | apply Kd.R_drewN | apply Kd.R_drew)); exact Kd.R_mono (Kd.R_far (p := ⟨go65, (t485 : Int).toNat, none⟩) (Kd.R_mono HO_459006.out (fun k_ hk => (⟨hk, fun e_ => hk.2.1 (by rw [e_]; rfl)⟩ : _ ∧ k_ ≠ go65))) (fun _ hk => hk.2) (.int .i64 t491)) (fun _ hk => ⟨hk.1.2.1, ⟨hk.1.2.2.1, ⟨hk.1.2.2.2, hk.1.1⟩⟩⟩)⟩
               have n3_ : Aside0 (Kd.R (Kd.int .i64) 3 (w78.setCell ⟨go65, (t485 : Int).toNat, none⟩ (.int .i64 t491)) w.heap.size (fun k_ => some k_ ≠ (.slice (some ⟨go65, 0, none⟩) x459000_3.length co65 : Value).ownBlock ∧ some k_ ≠ (u459001 : Value).ownBlock ∧ some k_ ≠ (u459006 : Value).ownBlock ∧ some k_ ≠ (.slice Ao77 y488.length co77 : Value).ownBlock) u459007 x459007_3) := ⟨by (with_reducible repeat (first | apply Kd.R_alloc | apply Kd.R_drewN | apply Kd.R_drew)); exact Kd.R_mono (Kd.R_far (p := ⟨go65, (t485 : Int).toNat, none⟩) (Kd.R_mono HO_459007.out (fun k_ hk => (⟨hk, fun e_ => hk.2.1 (by rw [e_]; rfl)⟩ : _ ∧ k_ ≠ go65))) (fun _ hk => hk.2) (.int .i64 t491)) (fun _ hk => ⟨hk.1.2.1, ⟨hk.1.2.2.1, ⟨hk.1.2.2.2, hk.1.1⟩⟩⟩)⟩
               have n4_ : Aside0 (Kd.R (Kd.int .i64) 3 (w78.setCell ⟨go65, (t485 : Int).toNat, none⟩ (.int .i64 t491)) w.heap.size (fun k_ => some k_ ≠ (.slice (some ⟨go65, 0, none⟩) x459000_3.length co65 : Value).ownBlock ∧ some k_ ≠ (u459001 : Value).ownBlock ∧ some k_ ≠ (u459006 : Value).ownBlock ∧ some k_ ≠ (u459007 : Value).ownBlock) (.slice Ao77 y488.length co77) y488) := ⟨by (with_reducible repeat (first | apply Kd.R_alloc | apply Kd.R_drewN | apply Kd.R_drew)); exact Kd.R_mono (Kd.R_far (p := ⟨go65, (t485 : Int).toNat, none⟩) (Kd.R_mono HO490.out (fun k_ hk => (⟨hk, fun e_ => hk.1 (by rw [e_]; rfl)⟩ : _ ∧ k_ ≠ go65))) (fun _ hk => hk.2) (.int .i64 t491)) (fun _ hk => ⟨hk.1.1, ⟨hk.1.2.1, ⟨hk.1.2.2.1, hk.1.2.2.2⟩⟩⟩)⟩
               have n5_ : Aside0 ((w78.setCell ⟨go65, (t485 : Int).toNat, none⟩ (.int .i64 t491)).heap[gb423]? = some (.cells #[.slice none 0 0, .slice none 0 0, .bool false, .bool false, .bool false, .bool false, .slice none 0 0, .slice none 0 0, .int .i64 0] 28 (0, 0))) := ⟨by refine bk_ ?_; refine blk_far ?_ (by have h_ := Kd.R_ne HO_459000.out BK423.out (by decide); intro e_; exact h_ (by rw [e_]; rfl)) _; refine bk_ ?_; exact BK423.out⟩
               have n6_ : Aside0 ((w78.setCell ⟨go65, (t485 : Int).toNat, none⟩ (.int .i64 t491)).heap[gb458]? = some (.cells #[.slice (some ⟨go65, 0, none⟩) x459000_3.length co65, u459001, .bool t476, .bool t479, .bool t449, .bool t482, u459006, u459007, .int .i64 t457] 28 (0, 0))) := ⟨by refine bk_ ?_; refine blk_far ?_ (by have h_ := Kd.R_ne HO_459000.out BK458.out (by decide); intro e_; exact h_ (by rw [e_]; rfl)) _; refine bk_ ?_; exact BK458.out⟩
               have n7_ : Aside0 (IsS102 w0 (w78.setCell ⟨go65, (t485 : Int).toNat, none⟩ (.int .i64 t491)) g s0_0 t492 t493) := ⟨by repeat (first | (with_reducible first | exact HI0.out | apply IsS102.alloc | apply IsS102.drewN | apply IsS102.drew | apply IsS102.set_1 | apply IsS102.set_2 | refine IsS102.far ?_ HN0_go65.out _ | refine IsS102.far ?_ NB0_423.out _ | refine IsS102.far ?_ NB0_458.out _) | exact HI0.out)⟩
               have n8_ : Aside0 (KeepBut w (w78.setCell ⟨go65, (t485 : Int).toNat, none⟩ (.int .i64 t491)) g none) := ⟨by repeat (first | (with_reducible first | exact HK.out | apply KeepBut.set_ | apply keep_drewN | apply keep_drew | apply keep_alloc | refine keep_far ?_ GB65.out _ | refine keep_far ?_ GW423.out _ | refine keep_far ?_ GW458.out _) | exact HK.out)⟩
               have n9_ : Aside0 (Below w0.heap.size w0 (w78.setCell ⟨go65, (t485 : Int).toNat, none⟩ (.int .i64 t491))) := ⟨by repeat (first | (with_reducible first | exact HB.out | apply below_alloc | apply pw_below_drewN | apply below_drew1 | refine below_set ?_ (Nat.le_trans HL.out GB65.out) | refine below_set ?_ (IsS102.ge HI0.out) | refine below_set ?_ GE423.out | refine below_set ?_ GE458.out) | exact HB.out)⟩
               (try clear HO_459000)
               (try clear HO_459001)
               (try clear HO_459006)
               (try clear HO_459007)
               (try clear HO490)
               (try clear BK423)
               (try clear BK458)
               (try clear HI0)
               (try clear HK)
               (try clear HB)
               try rw [show (w78.drewN nd).setCell ⟨go65, (t485 : Int).toNat, none⟩ (.int .i64 t491) = (w78.setCell ⟨go65, (t485 : Int).toNat, none⟩ (.int .i64 t491)).drewN nd from rfl]
               generalize (w78.setCell ⟨go65, (t485 : Int).toNat, none⟩ (.int .i64 t491)) = w80 at n0_ n1_ n2_ n3_ n4_ n5_ n6_ n7_ n8_ n9_ ⊢
               have HO_459000 := n0_
               have HO_459001 := n1_
               have HO_459006 := n2_
               have HO_459007 := n3_
               have HO490 := n4_
               have BK423 := n5_
               have BK458 := n6_
               have HI0 := n7_
               have HK := n8_
               have HB := n9_
               clear n0_ n1_ n2_ n3_ n4_ n5_ n6_ n7_ n8_ n9_
               replace HO_459000 := A_ (Kd.R_drew HO_459000.out)
               replace HO_459001 := A_ (Kd.R_drew HO_459001.out)
               replace HO_459006 := A_ (Kd.R_drew HO_459006.out)
               replace HO_459007 := A_ (Kd.R_drew HO_459007.out)
               replace HO490 := A_ (Kd.R_drew HO490.out)
               replace BK423 := A_ (blk_drew BK423.out)
               replace BK458 := A_ (blk_drew BK458.out)
               replace HI0 := A_ (IsS102.drew HI0.out)
               replace HK := A_ (keep_drew HK.out)
               replace HB := A_ (below_drew1 HB.out)
               refine start_ (n := 9) (S := fun w' => w'.cell? ⟨gb458, 0, none⟩ = some (.slice (some ⟨go65, 0, none⟩) x459000_3.length co65) ∧ w'.cell? ⟨gb458, 1, none⟩ = some (u459001) ∧ w'.cell? ⟨gb458, 2, none⟩ = some (.bool t476) ∧ w'.cell? ⟨gb458, 3, none⟩ = some (.bool t479) ∧ w'.cell? ⟨gb458, 4, none⟩ = some (.bool t449) ∧ w'.cell? ⟨gb458, 5, none⟩ = some (.bool t482) ∧ w'.cell? ⟨gb458, 6, none⟩ = some (u459006) ∧ w'.cell? ⟨gb458, 7, none⟩ = some (u459007) ∧ w'.cell? ⟨gb458, 8, none⟩ = some (.int .i64 t457)) (ds := [8]) #[false, false, false, false, false, false, false, false, false] (by kernel_rfl) rfl rfl (c9_ BK458) (fun hHeld => ?_); refine with_tabW spec_l5Draw.tab19 spec_l5Draw.bits19 (fun HT_ HW_ => ?_)
               generalize w80.drew = w81 at HO_459000 HO_459001 HO_459006 HO_459007 HO490 BK423 BK458 HI0 HK HB HQ79 hHeld ⊢
               refine pu_ 0 (some 65) (bm_ 9 1) (any_of HT_.out (by kernel_rfl)) ?_
               refine pu_ 2 (some 67) (bm_ 9 5) (any_of HT_.out (by kernel_rfl)) ?_
               refine pu_ 5 (some 70) (bm_ 9 37) (any_of HT_.out (by kernel_rfl)) ?_
               refine take_ (i := 1) (N := some 66) (v := ?_) (a' := ?_) (bm_ 9 39) rfl rfl (take_ofW HT_.out HW_.out (by kernel_rfl)) (fun _ _ _ h => h) (Or.inl ⟨by rfl, ?_⟩) hHeld ?_ ?_
               rotate_left
               ·rintro w' ⟨s0, s1, s2, s3, s4, s5, s6, s7, s8⟩
                go_simp
                with_reducible rfl
               rotate_left
               ·simp only [Act.put, List.setIfInBounds_toArray, List.set_cons_zero, List.set_cons_succ, i64_w, i32_w]
                rfl
               refine one_ (i := 3) (N := some 68) (bm_ 9 47) rfl rfl (one_of HT_.out (by kernel_rfl)) (by decide) (fun K hK => ?_)
               refine goes_ Try.func71 (by kernel_rfl) rfl #[.pointer (some ⟨g, 0, none⟩), .int .i64 60] (by rfl) rfl rfl d9_ ?_
               with_reducible refine (spec_l1Below.calls g s0_0 t492 t493 60 t495 t496 t497 w0 _ ?side1 ?side2 A66.out).mono ?_
               (case side1 => exact hI0_)
               (case side2 => exact (have := GeI.mk (IsS102.ge HI0.out); bw_ HB.out))
               rintro e w82 ⟨rfl, hi, hb, hk⟩
               refine ⟨_, rfl, ?_⟩
               replace HO_459000 := kI_ (hI0_ : IsS102 w0 _ g s0_0 t492 t493) hk HO_459000
               replace HO_459001 := kI_ (hI0_ : IsS102 w0 _ g s0_0 t492 t493) hk HO_459001
               replace HO_459006 := kI_ (hI0_ : IsS102 w0 _ g s0_0 t492 t493) hk HO_459006
               replace HO_459007 := kI_ (hI0_ : IsS102 w0 _ g s0_0 t492 t493) hk HO_459007
               replace BK423 := A_ (KeepBut.blk hk (bk_ BK423.out) NB423_0.out (by simp))
               replace BK458 := A_ (KeepBut.blk hk (bk_ BK458.out) NB458_0.out (by simp))
               replace HO490 := kI_ (hI0_ : IsS102 w0 _ g s0_0 t492 t493) hk HO490
               replace HK := A_ (KeepBut.trans d3_ hk (.inl rfl))
               replace HB := A_ (hb)
               replace HI0 := A_ (hi)
               (try clear hb)
               (try clear hb2)
               (try clear hk)
               (try clear hi)
               refine hK.out _ _ (c9_ BK458) (fun hHeld => ?_)
               clear hK K
               refine norm_ (a' := ?_) ?_ ?_
               rotate_left
               ·show Act.put _ (some 68) _ = _
                simp only [Act.put, List.setIfInBounds_toArray, List.set_cons_zero, List.set_cons_succ, i64_w, i32_w]
                rfl
               refine pu_ 4 (some 69) (bm_ 9 63) (any_of HT_.out (by kernel_rfl)) ?_
               refine one_ (i := 6) (N := some 71) (bm_ 9 127) rfl rfl (one_of HT_.out (by kernel_rfl)) (by decide) (fun K hK => ?_)
               refine goes_ Try.func85 (by kernel_rfl) rfl #[.pointer (some ⟨g, 0, none⟩)] (by rfl) rfl rfl d9_ ?_
               with_reducible refine (spec_l1Word.calls g s0_0 t496 t497 t498 t499 t500 w0 _ ?side1 ?side2 A67.out).mono ?_
               (case side1 => exact hI0_)
               (case side2 => exact (have := GeI.mk (IsS102.ge HI0.out); bw_ HB.out))
               rintro e w83 ⟨rfl, hi, hb, hk⟩
               refine ⟨_, rfl, ?_⟩
               replace HO_459000 := kI_ (hI0_ : IsS102 w0 _ g s0_0 t496 t497) hk HO_459000
               replace HO_459001 := kI_ (hI0_ : IsS102 w0 _ g s0_0 t496 t497) hk HO_459001
               replace HO_459006 := kI_ (hI0_ : IsS102 w0 _ g s0_0 t496 t497) hk HO_459006
               replace HO_459007 := kI_ (hI0_ : IsS102 w0 _ g s0_0 t496 t497) hk HO_459007
               replace BK423 := A_ (KeepBut.blk hk (bk_ BK423.out) NB423_0.out (by simp))
               replace BK458 := A_ (KeepBut.blk hk (bk_ BK458.out) NB458_0.out (by simp))
               replace HO490 := kI_ (hI0_ : IsS102 w0 _ g s0_0 t496 t497) hk HO490
               replace HK := A_ (KeepBut.trans d3_ hk (.inl rfl))
               replace HB := A_ (hb)
               replace HI0 := A_ (hi)
               (try clear hb)
               (try clear hb2)
               (try clear hk)
               (try clear hi)
               have p71 : 0 ≤ ((ji68) : Int) := of_decide_eq_true d8_
               have q71 : ((ji68) : Int) < ((x459000_3.length : Int) : Int) := of_decide_eq_true d8_
               obtain ⟨hx71_0, hf71_0⟩ := Kd.R_celln 0 HO_459000.out ((ji68) : Int) p71 q71
               replace p71 := eq_true p71
               replace q71 := eq_true q71
               have HN0_go65 := A_ (show g ≠ go65 from by have h_ := IsS102.own_ne HI0.out HO_459000.out (by decide); intro e_; exact h_ (by rw [e_]; rfl))
               have HP84 := Kd.R_putn HO_459000.out ((ji68) : Int) t498
               rw [← Ny501.out] at HP84
               have HQ84 := A_ HP84
               clear HP84
               refine hK.out _ _ (c9_ BK458) (fun hHeld => ?_)
               clear hK K
               refine norm_ (a' := ?_) ?_ ?_
               rotate_left
               ·show Act.put _ (some 71) _ = _
                simp only [Act.put, List.setIfInBounds_toArray, List.set_cons_zero, List.set_cons_succ, i64_w, i32_w]
                rfl
               refine pu_ 7 (some 72) (bm_ 9 255) (any_of HT_.out (by kernel_rfl)) ?_
               refine last_ (i := 8) (N := none) (bm_ 9 511) rfl rfl (one_of HT_.out (by kernel_rfl)) (by decide) (fun K hK => ?_)
               refine skip_ (w1 := ?_) (by rfl) rfl ?_ ?_
               rotate_left
               ·go_simp
                rfl
               refine hK.out _ _ ?_
               clear hK K
               refine done_ (done_of HT_.out (by kernel_rfl)) ?_
               try go_wp2
               go_roundg k3
               case measure => have := HK1.out; have := HK2.out; have := HK3.out; omega
               case rel => exact ⟨(wrap64 (x7_3 + 1)), (t499), (t500), (y501), (x459001_3), (x459006_3), (x459007_3), (.slice (some ⟨go65, 0, none⟩) x459000_3.length co65), (u459001), (u459006), (u459007), d6_, H', ⟨by have := HK1.out; have := HK2.out; have := HK3.out; omega⟩, ⟨kr_ (Kd.R_mono HQ84.out (fun _ hk => ⟨hk.1, ⟨hk.2.1, hk.2.2.1⟩⟩))⟩, ⟨by (with_reducible repeat (first | apply Kd.R_alloc | apply Kd.R_drewN | apply Kd.R_drew)); exact Kd.R_mono (Kd.R_far (p := ⟨go65, ((ji68) : Int).toNat, none⟩) (Kd.R_mono HO_459001.out (fun k_ hk => (⟨hk, fun e_ => hk.1 (by rw [e_]; rfl)⟩ : _ ∧ k_ ≠ go65))) (fun _ hk => hk.2) (.int .i64 t498)) (fun _ hk => ⟨hk.1.1, ⟨hk.1.2.1, hk.1.2.2.1⟩⟩)⟩, ⟨by (with_reducible repeat (first | apply Kd.R_alloc | apply Kd.R_drewN | apply Kd.R_drew)); exact Kd.R_mono (Kd.R_far (p := ⟨go65, ((ji68) : Int).toNat, none⟩) (Kd.R_mono HO_459006.out (fun k_ hk => (⟨hk, fun e_ => hk.1 (by rw [e_]; rfl)⟩ : _ ∧ k_ ≠ go65))) (fun _ hk => hk.2) (.int .i64 t498)) (fun _ hk => ⟨hk.1.1, ⟨hk.1.2.1, hk.1.2.2.1⟩⟩)⟩, ⟨by (with_reducible repeat (first | apply Kd.R_alloc | apply Kd.R_drewN | apply Kd.R_drew)); exact Kd.R_mono (Kd.R_far (p := ⟨go65, ((ji68) : Int).toNat, none⟩) (Kd.R_mono HO_459007.out (fun k_ hk => (⟨hk, fun e_ => hk.1 (by rw [e_]; rfl)⟩ : _ ∧ k_ ≠ go65))) (fun _ hk => hk.2) (.int .i64 t498)) (fun _ hk => ⟨hk.1.1, ⟨hk.1.2.1, hk.1.2.2.1⟩⟩)⟩, ⟨by refine bk_ ?_; refine blk_far ?_ (by have h_ := Kd.R_ne HO_459000.out BK423.out (by decide); intro e_; exact h_ (by rw [e_]; rfl)) _; refine bk_ ?_; exact BK423.out⟩, ⟨by refine bk_ ?_; refine blk_far ?_ (by have h_ := Kd.R_ne HO_459000.out BK458.out (by decide); intro e_; exact h_ (by rw [e_]; rfl)) _; refine bk_ ?_; exact BK458.out⟩, ⟨by repeat (first | (with_reducible first | exact HI0.out | apply IsS102.alloc | apply IsS102.drewN | apply IsS102.drew | apply IsS102.set_1 | apply IsS102.set_2 | refine IsS102.far ?_ HN0_go65.out _ | refine IsS102.far ?_ NB0_423.out _ | refine IsS102.far ?_ NB0_458.out _) | exact HI0.out)⟩, ⟨by repeat (first | (with_reducible first | exact HK.out | apply KeepBut.set_ | apply keep_drewN | apply keep_drew | apply keep_alloc | refine keep_far ?_ GB65.out _ | refine keep_far ?_ GW423.out _ | refine keep_far ?_ GW458.out _) | exact HK.out)⟩, ⟨by repeat (first | (with_reducible first | exact HB.out | apply below_alloc | apply pw_below_drewN | apply below_drew1 | refine below_set ?_ (Nat.le_trans HL.out GB65.out) | refine below_set ?_ (IsS102.ge HI0.out) | refine below_set ?_ GE423.out | refine below_set ?_ GE458.out) | exact HB.out)⟩⟩
              ·rw [if_neg c70] at H
               exact absurd H (by simp)
             ·rw [if_neg c69] at H
              exact absurd H (by simp)
            ·rw [if_neg c64] at H
             exact absurd H (by simp)
           ·rw [if_neg c63] at H
            exact absurd H (by simp)
          ·rw [if_neg c60] at H
           have c60b0 := decide_eq_false c60
           clear c60
           simp only [Option.some.injEq, Prod.mk.injEq] at H
           obtain ⟨rfl, rfl, rfl, rfl, rfl, rfl, rfl, rfl, rfl, rfl, rfl⟩ := H
           have hnb85 := NB458_423.out
           have hnc85 := NB423_458.out
           have hnb86 := NB458_0.out
           have hnc86 := NB0_458.out
           obtain ⟨y87_0, y87_1, y87_2, y87_3, y87_4, y87_5, y87_6, y87_7, y87_8, z87_0, z87_1, z87_2, z87_3, z87_4, z87_5, z87_6, z87_7, z87_8⟩ := cz9_ BK458.out
           obtain ⟨Ao88, co88, eo88⟩ := Kd.R_slice HO_459000.out
           subst eo88
           have hnb89 := NB423_0.out
           have hnc89 := NB0_423.out
           obtain ⟨y90_0, y90_1, y90_2, y90_3, y90_4, y90_5, y90_6, y90_7, y90_8, z90_0, z90_1, z90_2, z90_3, z90_4, z90_5, z90_6, z90_7, z90_8⟩ := cz9_ BK423.out
           obtain ⟨Ao91, co91, eo91⟩ := Kd.R_slice HO_459001.out
           subst eo91
           obtain ⟨Ao92, co92, eo92⟩ := Kd.R_slice HO_459006.out
           subst eo92
           obtain ⟨Ao93, co93, eo93⟩ := Kd.R_slice HO_459007.out
           subst eo93
           go_wp2
           refine bodyPost_ret (results_cell_row rfl _ _ gb423 28 #[.slice Ao88 x459000_3.length co88, .slice Ao91 x459001_3.length co91, .bool t476, .bool t479, .bool t449, .bool t482, .slice Ao92 x459006_3.length co92, .slice Ao93 x459007_3.length co93, .int .i64 t457] (0, 0) _ rfl ?hb_ Try.underlying28 rfl (by kernel_rfl)) rfl ?_
           (case hb_ => exact bk_ (bp9_ (bk_ BK423.out)))
           exact ⟨_, _, _, _, by first | rfl | (simp [errW_none, errW_some] <;> rfl) | (simp [*, errW_none, errW_some] <;> rfl), kr_ (Kd.R_mono (rf9_ (Kd.R_types HO_459000.out BK423.out (by decide)) (fun _ hk => hk.2)) (fun _ hk => ⟨hk.1.1, ⟨hk.1.2.1, hk.1.2.2⟩⟩)), kr_ (Kd.R_mono (rf9_ (Kd.R_types HO_459001.out BK423.out (by decide)) (fun _ hk => hk.2)) (fun _ hk => ⟨hk.1.1, ⟨hk.1.2.1, hk.1.2.2⟩⟩)), kr_ (Kd.R_mono (rf9_ (Kd.R_types HO_459006.out BK423.out (by decide)) (fun _ hk => hk.2)) (fun _ hk => ⟨hk.1.1, ⟨hk.1.2.1, hk.1.2.2⟩⟩)), kr_ (Kd.R_mono (rf9_ (Kd.R_types HO_459007.out BK423.out (by decide)) (fun _ hk => hk.2)) (fun _ hk => ⟨hk.1.1, ⟨hk.1.2.1, hk.1.2.2⟩⟩)), hI0_, (have := GeI.mk (IsS102.ge HI0.out); bw_ HB.out), by repeat (first | (with_reducible first | exact HK.out | apply KeepBut.set_ | apply keep_drewN | apply keep_drew | apply keep_alloc | refine keep_far ?_ GW423.out _ | refine keep_far ?_ GW458.out _) | exact HK.out)⟩
       ·rw [if_neg c40] at H
        exact absurd H (by simp)

end Go.Proofs.Ytiagbfilffbljaa.PFnStored
