-- Laid by a program of this session (a changed copy of the kit's printer); Lean checks every line.
import Derived.Test.YtcpnhlhigpgonaaPFnPutInx0
import Derived.Test.YtcpnhlhigpgonaaPFnPutInx11
namespace Go.Proofs.Ytcpnhlhigpgonaa.PFnPutIn
open Go.RowKit Go.Proofs.YtcpnhlhigpgonaaW.PrintWords Go.Proofs.YtcpnhlhigpgonaaW.PrintLast Go.Proofs.YtcpnhlhigpgonaaW.PrintMore
attribute [local go_sem] max2_int min2_int max_two min_two max_three min_three max_four min_four   -- for this text's walks alone
set_option linter.unusedVariables false
set_option linter.unusedSimpArgs false

/-! ### spec_l10Leaf: function 84 -/
mutual
def spec_l10Leaf.j0 : Nat → Bool → Int → Bool → List Int → Int → Int → Option (Int × Int × ByteArray × (List (S29)) × Int × Int)
 | 0, _, _, _, _, _, _ => none
 | k + 1, x1, x6, x7, x1000, x1001, x1002 => if x7 = true then ((spec_l1Int.f x1000 x1001 x1002 (([0, 1, 2, 5, 8, 100, 65535] : List Int))).bind fun bt374 => ((spec_l10Num.f bt374.1).bind fun bt377 => (some (bt377.1, bt377.2.1, bt377.2.2.1, bt377.2.2.2, bt374.2.1, bt374.2.2)))) else (if x6 = 2 then (spec_l10Leaf.j1 k x1 x6 (x6 == 2) x1000 x1001 x1002) else (spec_l10Leaf.j1 k x1 x6 (x6 == 3) x1000 x1001 x1002))
def spec_l10Leaf.j1 : Nat → Bool → Int → Bool → List Int → Int → Int → Option (Int × Int × ByteArray × (List (S29)) × Int × Int)
 | 0, _, _, _, _, _, _ => none
 | k + 1, x1, x6, x14, x1000, x1001, x1002 => if x14 = true then ((spec_l1Str.f x1000 x1001 x1002 (([(⟨#[97]⟩ : ByteArray), (⟨#[98]⟩ : ByteArray), (⟨#[99]⟩ : ByteArray)] : List ByteArray))).bind fun bt386 => (some (2, 0, bt386.1, ([] : List (S29)), bt386.2.1, bt386.2.2))) else (if x6 = 4 then (some (3, 0, (⟨#[]⟩ : ByteArray), ([] : List (S29)), x1001, x1002)) else (if x1 = true then ((spec_l1Word.f x1000 x1001 x1002).bind fun bt389 => ((spec_l10Num.f bt389.1).bind fun bt392 => (some (bt392.1, bt392.2.1, bt392.2.2.1, bt392.2.2.2, bt389.2.1, bt389.2.2)))) else ((spec_l1Once.f x1000 x1001 x1002 2).bind fun bt398 => (if bt398.1 = true then ((spec_l1Below.f x1000 bt398.2.1 bt398.2.2 3).bind fun bt401 => (some (11, bt401.1, (⟨#[]⟩ : ByteArray), ([] : List (S29)), bt401.2.1, bt401.2.2))) else ((spec_l1Str.f x1000 bt398.2.1 bt398.2.2 (([(⟨#[103]⟩ : ByteArray), (⟨#[104]⟩ : ByteArray)] : List ByteArray))).bind fun bt407 => (some (12, 0, bt407.1, ([] : List (S29)), bt407.2.1, bt407.2.2)))))))
end
def spec_l10Leaf.f (k : Nat) (s0_0 : List Int) (s0_1 : Int) (s0_2 : Int) (a1 : Bool) : Option (Int × Int × ByteArray × (List (S29)) × Int × Int) := (spec_l1Below.f s0_0 s0_1 s0_2 7).bind fun bt368 => (if bt368.1 = 0 then (spec_l10Leaf.j0 k a1 bt368.1 (bt368.1 == 0) s0_0 bt368.2.1 bt368.2.2) else (spec_l10Leaf.j0 k a1 bt368.1 (bt368.1 == 1) s0_0 bt368.2.1 bt368.2.2))
theorem spec_l10Leaf.mono_l : ∀ k, (∀ y0 y1 y2 y3 y4 y5, LeO (spec_l10Leaf.j0 k y0 y1 y2 y3 y4 y5) (spec_l10Leaf.j0 (k + 1) y0 y1 y2 y3 y4 y5)) ∧ (∀ y0 y1 y2 y3 y4 y5, LeO (spec_l10Leaf.j1 k y0 y1 y2 y3 y4 y5) (spec_l10Leaf.j1 (k + 1) y0 y1 y2 y3 y4 y5))
 | 0 => ⟨fun _ _ _ _ _ _ r h => by simp [spec_l10Leaf.j0] at h, fun _ _ _ _ _ _ r h => by simp [spec_l10Leaf.j1] at h⟩
 | k + 1 => by
  obtain ⟨ih0, ih1⟩ := spec_l10Leaf.mono_l k
  refine ⟨?_, ?_⟩
  ·intro y0 y1 y2 y3 y4 y5
   unfold spec_l10Leaf.j0
   repeat' first
   | (with_reducible exact ih0 _ _ _ _ _ _)
   | (with_reducible exact ih1 _ _ _ _ _ _)
   | (with_reducible exact LeO.refl _)
   | (with_reducible exact LeO.none _)
   | (with_reducible refine LeO.ite ?_ ?_)
   | (with_reducible refine LeO.bind ?_ (fun _ => ?_))
   | exact ih0 _ _ _ _ _ _
   | exact ih1 _ _ _ _ _ _
   | exact LeO.none _
   | refine LeO.ite ?_ ?_
   | refine LeO.bind ?_ (fun _ => ?_)
  ·intro y0 y1 y2 y3 y4 y5
   unfold spec_l10Leaf.j1
   repeat' first
   | (with_reducible exact ih0 _ _ _ _ _ _)
   | (with_reducible exact ih1 _ _ _ _ _ _)
   | (with_reducible exact LeO.refl _)
   | (with_reducible exact LeO.none _)
   | (with_reducible refine LeO.ite ?_ ?_)
   | (with_reducible refine LeO.bind ?_ (fun _ => ?_))
   | exact ih0 _ _ _ _ _ _
   | exact ih1 _ _ _ _ _ _
   | exact LeO.none _
   | refine LeO.ite ?_ ?_
   | refine LeO.bind ?_ (fun _ => ?_)
theorem spec_l10Leaf.mono : ∀ a0 a1 a2 a3 k, LeO (spec_l10Leaf.f k a0 a1 a2 a3) (spec_l10Leaf.f (k + 1) a0 a1 a2 a3) := by
 intro a0 a1 a2 a3 k
 obtain ⟨ih0, ih1⟩ := spec_l10Leaf.mono_l k
 unfold spec_l10Leaf.f
 repeat' first
   | (with_reducible exact ih0 _ _ _ _ _ _)
   | (with_reducible exact ih1 _ _ _ _ _ _)
   | (with_reducible exact LeO.refl _)
   | (with_reducible exact LeO.none _)
   | (with_reducible refine LeO.ite ?_ ?_)
   | (with_reducible refine LeO.bind ?_ (fun _ => ?_))
   | exact ih0 _ _ _ _ _ _
   | exact ih1 _ _ _ _ _ _
   | exact LeO.none _
   | refine LeO.ite ?_ ?_
   | refine LeO.bind ?_ (fun _ => ?_)
set_option maxHeartbeats 8000000 in
set_option maxRecDepth 100000 in
theorem spec_l10Leaf.calls (k : Nat) (g : Nat) (s0_0 : List Int) (s0_1 : Int) (s0_2 : Int) (a1 : Bool) (r1 : Int) (r2 : Int) (r3 : ByteArray) (r4 : List (S29)) (r5 : Int) (r6 : Int) (w0 w : World) (hI : IsS77 w0 w g s0_0 s0_1 s0_2) (hB : Below w0.heap.size w0 w) (h : spec_l10Leaf.f k s0_0 s0_1 s0_2 a1 = some (r1, r2, r3, r4, r5, r6)) :
  Calls Try.prog 84 #[.pointer (some ⟨g, 0, none⟩), .bool a1] w fun e w' => ∃ v3_ : Value, e = .returned (.agg #[.int .i64 r1, .int .i64 r2, .string r3, v3_]) ∧ Kd.R k29 29 w' w.heap.size (fun _ => True) v3_ r4 ∧ IsS77 w0 w' g s0_0 r5 r6 ∧ Below w0.heap.size w0 w' ∧ KeepBut w w' g none := by
 have hu29 := Try.underlying29
 have HI0 := A_ hI
 have HK := A_ (KeepBut.refl w g none)
 have HL := A_ hB.size
 clear hI
 have HW0 := A_ hB.size
 have HB := A_ hB
 clear hB
 have H : ((spec_l1Below.f s0_0 s0_1 s0_2 7).bind fun bt368 => (if bt368.1 = 0 then (spec_l10Leaf.j0 k a1 bt368.1 (bt368.1 == 0) s0_0 bt368.2.1 bt368.2.2) else (spec_l10Leaf.j0 k a1 bt368.1 (bt368.1 == 1) s0_0 bt368.2.1 bt368.2.2))) = some (r1, r2, r3, r4, r5, r6) := h
 clear h
 replace H := Option.bind_eq_some_iff.mp H
 obtain ⟨⟨t368, t369, t370⟩, A30, H⟩ := H
 try dsimp only at H
 have A3 := A_ A30
 clear A30
 have HC4 := A_ H
 clear H
 go_enter Try.func84, Try.ntmps84
 go_upto_if 7 with (first | ((with_reducible refine gate_dst (N := 4) rfl ?_); refine bx_ 4 #[.int .i64 0, .int .i64 0, .string (⟨#[]⟩ : ByteArray), .slice none 0 0] 29 ?_; intro gb367 hg w5 hbox hb; replace HB := A_ (below_step (have := GeI.mk (IsS77.ge HI0.out); bw_ HB.out) hb); have BK367 := A_ (hbox); have GW367 := A_ ((d52_ : w.heap.size ≤ gb367)); have GE367 := A_ ((Nat.le_trans HW0.out (d52_ : w.heap.size ≤ gb367) : w0.heap.size ≤ gb367)); replace HK := A_ (KeepBut.trans d2_ (KeepBut.of_below hb g none) (.inl rfl)); have NB0_367 := A_ ((d17_ : g ≠ gb367)); have NB367_0 := A_ ((d18_ : gb367 ≠ g)); replace HI0 := A_ (IsS77.below d19_ hb); have GI367 := GeI.mk GE367.out; clear hb hbox hg) | ((with_reducible refine gate_callee (f := 62) rfl ?_); refine gL_ (some 6) Try.func62 #[.pointer (some ⟨g, 0, none⟩), .int .i64 7] ?_; (with_reducible refine (spec_l1Below.calls g s0_0 s0_1 s0_2 7 t368 t369 t370 w0 _ ?side1 ?side2 A3.out).mono ?_); (case side1 => exact hI0_); (case side2 => exact (have := GeI.mk (IsS77.ge HI0.out); bw_ HB.out)); rintro e w6 ⟨rfl, hi, hb, hk⟩; refine ⟨_, rfl, ?_⟩; replace BK367 := A_ (KeepBut.blk hk (bk_ BK367.out) NB367_0.out (by simp)); replace HK := A_ (KeepBut.trans d8_ hk (.inl rfl)); replace HB := A_ (hb); replace HI0 := A_ (hi); clear hb hk hi))
 (try simp only [Act.put, List.setIfInBounds_toArray, List.set_cons_zero, List.set_cons_succ])
 go_cut [7] (fun v7 wc => ∃ (kq : Nat) (x7_3 : Bool), v7 = .bool x7_3 ∧ Aside0 (spec_l10Leaf.j0 kq a1 t368 x7_3 s0_0 t369 t370 = some (r1, r2, r3, r4, r5, r6)) ∧ Aside0 (kq ≤ k) ∧ Aside0 (wc.heap[gb367]? = some (.cells #[.int .i64 0, .int .i64 0, .string (⟨#[]⟩ : ByteArray), (.slice none 0 0)] 29 (0, 0))) ∧ Aside0 (IsS77 w0 wc g s0_0 t369 t370) ∧ Aside0 (KeepBut w wc g none) ∧ Aside0 (Below w0.heap.size w0 wc))
 case first =>
  have H := HC4.out
  clear HC4
  by_cases c7 : t368 = 0
  ·rw [if_pos c7] at H
   have c7b0 := beq_iff_eq.mpr c7
   have c7b1 := bne_eq_false_iff_eq.mpr c7
   clear c7
   (first | rw [c7b0] | (simp only [i64_w, i32_w]; rw [c7b0]) | skip)
   have H' := A_ H
   clear H
   go_wp2
   go_meet
   case rel => exact ⟨_, ((t368 == 0)), d7_, H', ⟨by first | omega | exact Nat.le_refl _⟩, ⟨by refine bk_ ?_; exact BK367.out⟩, ⟨hI0_⟩, ⟨by repeat (first | (with_reducible first | exact HK.out | apply KeepBut.set_ | apply keep_drewN | apply keep_drew | apply keep_alloc | refine keep_far ?_ GW367.out _) | exact HK.out)⟩, ⟨(have := GeI.mk (IsS77.ge HI0.out); bw_ HB.out)⟩⟩
  ·rw [if_neg c7] at H
   have c7b0 := beq_eq_false_iff_ne.mpr c7
   have c7b1 := bne_iff_ne.mpr c7
   (first | rw [c7b0] | (simp only [i64_w, i32_w]; rw [c7b0]) | skip)
   have H' := A_ H
   clear H
   go_wp2
   go_meet
   case rel => exact ⟨_, ((t368 == 1)), d7_, H', ⟨by first | omega | exact Nat.le_refl _⟩, ⟨by refine bk_ ?_; exact BK367.out⟩, ⟨hI0_⟩, ⟨by repeat (first | (with_reducible first | exact HK.out | apply KeepBut.set_ | apply keep_drewN | apply keep_drew | apply keep_alloc | refine keep_far ?_ GW367.out _) | exact HK.out)⟩, ⟨(have := GeI.mk (IsS77.ge HI0.out); bw_ HB.out)⟩⟩
 case rest =>
  clear HC4
  try clear p2
  try clear c6
  try clear c7
  try clear c7b0
  try clear c7b1
  obtain ⟨kq, x7_3, rfl, HA, HJ3, BK367, HI0, HK, HB⟩ := hcut
  cases kq with
  | zero => exact absurd HA.out (by simp [spec_l10Leaf.j0])
  | succ kj3 =>
   have H := HA.out
   clear HA
   simp only [spec_l10Leaf.j0] at H
   by_cases c8 : x7_3 = true
   ·subst c8
    rw [if_pos rfl] at H
    obtain ⟨y371, hy371⟩ : ∃ y_ : List Int, y_ = (([0, 1, 2, 5, 8, 100, 65535] : List Int)) := ⟨_, rfl⟩
    replace H : ((spec_l1Int.f s0_0 t369 t370 y371).bind fun bt374 => ((spec_l10Num.f bt374.1).bind fun bt377 => (some (bt377.1, bt377.2.1, bt377.2.2.1, bt377.2.2.2, bt374.2.1, bt374.2.2)))) = some (r1, r2, r3, r4, r5, r6) := by first | (rw [hy371]; with_reducible exact H) | (have H2_ := (Option.bind_some _ _).symm.trans H; rw [hy371]; with_reducible exact H2_) | (have H2_ := (Option.bind_some _ _).symm.trans H; with_reducible exact H2_) | with_reducible exact H | (rw [hy371]; exact H) | exact H
    have Ny371 := A_ hy371
    clear hy371
    replace H := Option.bind_eq_some_iff.mp H
    obtain ⟨⟨t374, t375, t376⟩, A90, H⟩ := H
    try dsimp only at H
    have A9 := A_ A90
    clear A90
    replace H := Option.bind_eq_some_iff.mp H
    obtain ⟨⟨t377, t378, t379, t380⟩, A100, H⟩ := H
    try dsimp only at H
    have A10 := A_ A100
    clear A100
    simp only [Option.some.injEq, Prod.mk.injEq] at H
    obtain ⟨rfl, rfl, rfl, rfl, rfl, rfl⟩ := H
    go_wp2_with (first | ((with_reducible refine gate_dst (N := 11) rfl ?_); refine Kd.R_lit (Kd.int .i64) _ 3 ?hg (N := 11) ?hd (xs := ([0, 1, 2, 5, 8, 100, 65535] : List Int)) (inner := [.int .i64 0, .int .i64 1, .int .i64 2, .int .i64 5, .int .i64 8, .int .i64 100, .int .i64 65535]) (ok := fun _ => True) (okp := fun _ => True) ?hr ?hp (fun _ hk => hk) trivial (Below.refl _ _) (Nat.le_refl _) (by simp) ?_; (case hd => rfl); (case hg => rfl); (case hr => first | (go_simp; done) | (go_simp; rfl)); (case hp => exact (Reps.one (show Kd.M (Kd.int .i64) _ _ _ 0 [.int .i64 0] from rfl) (Reps.one (show Kd.M (Kd.int .i64) _ _ _ 1 [.int .i64 1] from rfl) (Reps.one (show Kd.M (Kd.int .i64) _ _ _ 2 [.int .i64 2] from rfl) (Reps.one (show Kd.M (Kd.int .i64) _ _ _ 5 [.int .i64 5] from rfl) (Reps.one (show Kd.M (Kd.int .i64) _ _ _ 8 [.int .i64 8] from rfl) (Reps.one (show Kd.M (Kd.int .i64) _ _ _ 100 [.int .i64 100] from rfl) (Reps.one (show Kd.M (Kd.int .i64) _ _ _ 65535 [.int .i64 65535] from rfl) (Reps.none _ _))))))))); intro v372 w11 ho12 hb hg_ hnew_; clear hg_ hnew_; (first | rw [← Ny371.out] at ho12 | (simp only [Int.reduceToNat] at ho12; rw [← Ny371.out] at ho12)); have HO373 := A_ (Kd.R_lower ho12 (keep_size (w := w) (g := g) (row := none) d8_)); replace BK367 := A_ (blk_below (bk_ BK367.out) hb); replace HK := A_ (KeepBut.trans d8_ (KeepBut.of_below hb g none) (.inl rfl)); replace HB := A_ (below_step (have := GeI.mk (IsS77.ge HI0.out); bw_ HB.out) hb); replace HI0 := A_ (IsS77.below d28_ hb); clear hb ho12; obtain ⟨Ao13, co13, eo13⟩ := Kd.R_slice HO373.out; subst eo13) | ((with_reducible refine gate_callee (f := 66) rfl ?_); refine gL_ (some 12) Try.func66 #[.pointer (some ⟨g, 0, none⟩), .slice Ao13 y371.length co13] ?_; (with_reducible refine (spec_l1Int.calls g s0_0 t369 t370 _ _ y371 t374 t375 t376 w0 _ ?side1 ?side2 ?side3 ?side4 ?side5 A9.out).mono ?_); (case side1 => exact hI0_); (case side2 => exact (have := GeI.mk (IsS77.ge HI0.out); bw_ HB.out)); (case side3 => repeat (first | exact (Kd.R_reads' HO373.out).2.2 | (with_reducible refine Kd.C_alloc ?_ _) | (with_reducible refine Kd.C_drewN ?_ _) | (with_reducible refine Kd.C_drew ?_))); (case side4 => exact (Kd.R_reads' HO373.out).2.1); (case side5 => exact far_slice (IsS77.own_ne HI0.out HO373.out (by decide))); rintro e w14 ⟨rfl, hi, hb, hk⟩; refine ⟨_, rfl, ?_⟩; replace BK367 := A_ (KeepBut.blk hk (bk_ BK367.out) NB367_0.out (by simp)); replace HO373 := kI_ (hI0_ : IsS77 w0 _ g s0_0 t369 t370) hk HO373; replace HK := A_ (KeepBut.trans d8_ hk (.inl rfl)); replace HB := A_ (hb); replace HI0 := A_ (hi); clear hb hk hi) | ((with_reducible refine gate_callee (f := 79) rfl ?_); refine gL_ (some 13) Try.func79 #[.int .i64 t374] ?_; (with_reducible refine (spec_l10Num.calls t374 t377 t378 t379 t380 _ A10.out).mono ?_); rintro e w15 ⟨v381, rfl, ho0, hb⟩; refine ⟨_, rfl, ?_⟩; replace HO373 := A_ (Kd.R_below (kr_ HO373.out) hb); have HO382 := A_ (Kd.R_lower (Kd.R_newB ho0 (bk_ BK367.out)) (keep_size (w := w) (g := g) (row := none) d8_)); replace BK367 := A_ (blk_below (bk_ BK367.out) hb); replace HK := A_ (KeepBut.trans d8_ (KeepBut.of_below hb g none) (.inl rfl)); replace HB := A_ (below_step (have := GeI.mk (IsS77.ge HI0.out); bw_ HB.out) hb); replace HI0 := A_ (IsS77.below d28_ hb); clear hb; (try clear ho0); have hnb16 := NB367_0.out; have hnc16 := NB0_367.out; obtain ⟨y17_0, y17_1, y17_2, y17_3, z17_0, z17_1, z17_2, z17_3⟩ := cz4_ BK367.out; obtain ⟨Ao18, co18, eo18⟩ := Kd.R_slice HO382.out; subst eo18))
    refine bodyPost_ret (results_cell_row rfl _ _ gb367 29 #[.int .i64 t377, .int .i64 t378, .string t379, .slice Ao18 t380.length co18] (0, 0) _ rfl ?hb_ Try.underlying29 rfl (by kernel_rfl)) rfl ?_
    (case hb_ => exact bk_ (bp4_ (bk_ BK367.out)))
    exact ⟨_, by first | rfl | (simp [errW_none, errW_some] <;> rfl) | (simp [*, errW_none, errW_some] <;> rfl), kr_ (Kd.R_mono (rf4_ (Kd.R_mono HO382.out (fun k_ hk => (⟨hk, hk.2⟩ : _ ∧ k_ ≠ gb367))) (fun _ hk => hk.2)) (fun _ hk => trivial)), hI0_, (have := GeI.mk (IsS77.ge HI0.out); bw_ HB.out), by repeat (first | (with_reducible first | exact HK.out | apply KeepBut.set_ | apply keep_drewN | apply keep_drew | apply keep_alloc | refine keep_far ?_ GW367.out _) | exact HK.out)⟩
   ·replace c8 := Bool.eq_false_iff.mpr c8
    subst c8
    rw [if_neg (show ¬ (false = true) by decide)] at H
    have HC19 := A_ H
    clear H
    go_upto_if 14 with (fail)
    go_cut [14] (fun v14 wc => ∃ (kq : Nat) (x14_18 : Bool), v14 = .bool x14_18 ∧ Aside0 (spec_l10Leaf.j1 kq a1 t368 x14_18 s0_0 t369 t370 = some (r1, r2, r3, r4, r5, r6)) ∧ Aside0 (kq ≤ kj3) ∧ Aside0 (wc.heap[gb367]? = some (.cells #[.int .i64 0, .int .i64 0, .string (⟨#[]⟩ : ByteArray), (.slice none 0 0)] 29 (0, 0))) ∧ Aside0 (IsS77 w0 wc g s0_0 t369 t370) ∧ Aside0 (KeepBut w wc g none) ∧ Aside0 (Below w0.heap.size w0 wc))
    case first =>
     have H := HC19.out
     clear HC19
     by_cases c20 : t368 = 2
     ·rw [if_pos c20] at H
      have c20b0 := beq_iff_eq.mpr c20
      have c20b1 := bne_eq_false_iff_eq.mpr c20
      clear c20
      (first | rw [c20b0] | (simp only [i64_w, i32_w]; rw [c20b0]) | skip)
      have H' := A_ H
      clear H
      go_wp2
      go_meet
      case rel => exact ⟨_, ((t368 == 2)), d7_, H', ⟨by have := HJ3.out; first | omega | exact Nat.le_refl _⟩, ⟨by refine bk_ ?_; exact BK367.out⟩, ⟨hI0_⟩, ⟨by repeat (first | (with_reducible first | exact HK.out | apply KeepBut.set_ | apply keep_drewN | apply keep_drew | apply keep_alloc | refine keep_far ?_ GW367.out _) | exact HK.out)⟩, ⟨(have := GeI.mk (IsS77.ge HI0.out); bw_ HB.out)⟩⟩
     ·rw [if_neg c20] at H
      have c20b0 := beq_eq_false_iff_ne.mpr c20
      have c20b1 := bne_iff_ne.mpr c20
      (first | rw [c20b0] | (simp only [i64_w, i32_w]; rw [c20b0]) | skip)
      have H' := A_ H
      clear H
      go_wp2
      go_meet
      case rel => exact ⟨_, ((t368 == 3)), d7_, H', ⟨by have := HJ3.out; first | omega | exact Nat.le_refl _⟩, ⟨by refine bk_ ?_; exact BK367.out⟩, ⟨hI0_⟩, ⟨by repeat (first | (with_reducible first | exact HK.out | apply KeepBut.set_ | apply keep_drewN | apply keep_drew | apply keep_alloc | refine keep_far ?_ GW367.out _) | exact HK.out)⟩, ⟨(have := GeI.mk (IsS77.ge HI0.out); bw_ HB.out)⟩⟩
    case rest =>
     clear HC19
     try clear c1
     try clear c2
     try clear p2
     try clear c6
     try clear c7
     try clear c7b0
     try clear c7b1
     try clear c8
     try clear c16
     try clear c20
     try clear c20b0
     try clear c20b1
     try clear y17_0 y17_1 y17_2 y17_3 z17_0 z17_1 z17_2 z17_3
     try clear p2
     obtain ⟨kq, x14_18, rfl, HA, HJ18, BK367, HI0, HK, HB⟩ := hcut
     cases kq with
     | zero => exact absurd HA.out (by simp [spec_l10Leaf.j1])
     | succ kj18 =>
      have H := HA.out
      clear HA
      simp only [spec_l10Leaf.j1] at H
      by_cases c21 : x14_18 = true
      ·subst c21
       rw [if_pos rfl] at H
       obtain ⟨y383, hy383⟩ : ∃ y_ : List ByteArray, y_ = (([(⟨#[97]⟩ : ByteArray), (⟨#[98]⟩ : ByteArray), (⟨#[99]⟩ : ByteArray)] : List ByteArray)) := ⟨_, rfl⟩
       replace H : ((spec_l1Str.f s0_0 t369 t370 y383).bind fun bt386 => (some (2, 0, bt386.1, ([] : List (S29)), bt386.2.1, bt386.2.2))) = some (r1, r2, r3, r4, r5, r6) := by first | (rw [hy383]; with_reducible exact H) | (have H2_ := (Option.bind_some _ _).symm.trans H; rw [hy383]; with_reducible exact H2_) | (have H2_ := (Option.bind_some _ _).symm.trans H; with_reducible exact H2_) | with_reducible exact H | (rw [hy383]; exact H) | exact H
       have Ny383 := A_ hy383
       clear hy383
       replace H := Option.bind_eq_some_iff.mp H
       obtain ⟨⟨t386, t387, t388⟩, A220, H⟩ := H
       try dsimp only at H
       have A22 := A_ A220
       clear A220
       simp only [Option.some.injEq, Prod.mk.injEq] at H
       obtain ⟨rfl, rfl, rfl, rfl, rfl, rfl⟩ := H
       go_wp2_with (first | ((with_reducible refine gate_dst (N := 18) rfl ?_); refine Kd.R_lit Kd.string _ 9 ?hg (N := 18) ?hd (xs := ([(⟨#[97]⟩ : ByteArray), (⟨#[98]⟩ : ByteArray), (⟨#[99]⟩ : ByteArray)] : List ByteArray)) (inner := [.string (⟨#[97]⟩ : ByteArray), .string (⟨#[98]⟩ : ByteArray), .string (⟨#[99]⟩ : ByteArray)]) (ok := fun _ => True) (okp := fun _ => True) ?hr ?hp (fun _ hk => hk) trivial (Below.refl _ _) (Nat.le_refl _) (by simp) ?_; (case hd => rfl); (case hg => rfl); (case hr => first | (go_simp; done) | (go_simp; rfl)); (case hp => exact (Reps.one (show Kd.M Kd.string _ _ _ (⟨#[97]⟩ : ByteArray) [.string (⟨#[97]⟩ : ByteArray)] from rfl) (Reps.one (show Kd.M Kd.string _ _ _ (⟨#[98]⟩ : ByteArray) [.string (⟨#[98]⟩ : ByteArray)] from rfl) (Reps.one (show Kd.M Kd.string _ _ _ (⟨#[99]⟩ : ByteArray) [.string (⟨#[99]⟩ : ByteArray)] from rfl) (Reps.none _ _))))); intro v384 w23 ho24 hb hg_ hnew_; clear hg_ hnew_; (first | rw [← Ny383.out] at ho24 | (simp only [Int.reduceToNat] at ho24; rw [← Ny383.out] at ho24)); have HO385 := A_ (Kd.R_lower ho24 (keep_size (w := w) (g := g) (row := none) d8_)); replace BK367 := A_ (blk_below (bk_ BK367.out) hb); replace HK := A_ (KeepBut.trans d8_ (KeepBut.of_below hb g none) (.inl rfl)); replace HB := A_ (below_step (have := GeI.mk (IsS77.ge HI0.out); bw_ HB.out) hb); replace HI0 := A_ (IsS77.below d28_ hb); clear hb ho24; obtain ⟨Ao25, co25, eo25⟩ := Kd.R_slice HO385.out; subst eo25) | ((with_reducible refine gate_callee (f := 72) rfl ?_); refine gL_ (some 19) Try.func72 #[.pointer (some ⟨g, 0, none⟩), .slice Ao25 y383.length co25] ?_; (with_reducible refine (spec_l1Str.calls g s0_0 t369 t370 _ _ y383 t386 t387 t388 w0 _ ?side1 ?side2 ?side3 ?side4 ?side5 A22.out).mono ?_); (case side1 => exact hI0_); (case side2 => exact (have := GeI.mk (IsS77.ge HI0.out); bw_ HB.out)); (case side3 => repeat (first | exact (Kd.R_reads' HO385.out).2.2 | (with_reducible refine Kd.C_alloc ?_ _) | (with_reducible refine Kd.C_drewN ?_ _) | (with_reducible refine Kd.C_drew ?_))); (case side4 => exact (Kd.R_reads' HO385.out).2.1); (case side5 => exact far_slice (IsS77.own_ne HI0.out HO385.out (by decide))); rintro e w26 ⟨rfl, hi, hb, hk⟩; refine ⟨_, rfl, ?_⟩; replace BK367 := A_ (KeepBut.blk hk (bk_ BK367.out) NB367_0.out (by simp)); replace HO385 := kI_ (hI0_ : IsS77 w0 _ g s0_0 t369 t370) hk HO385; replace HK := A_ (KeepBut.trans d8_ hk (.inl rfl)); replace HB := A_ (hb); replace HI0 := A_ (hi); clear hb hk hi; have hnb27 := NB367_0.out; have hnc27 := NB0_367.out; obtain ⟨y28_0, y28_1, y28_2, y28_3, z28_0, z28_1, z28_2, z28_3⟩ := cz4_ BK367.out))
       refine bodyPost_ret (results_cell_row rfl _ _ gb367 29 #[.int .i64 2, .int .i64 0, .string t386, .slice none 0 0] (0, 0) _ rfl ?hb_ Try.underlying29 rfl (by kernel_rfl)) rfl ?_
       (case hb_ => exact bk_ (bp4_ (bk_ BK367.out)))
       exact ⟨_, by first | rfl | (simp [errW_none, errW_some] <;> rfl) | (simp [*, errW_none, errW_some] <;> rfl), by first | exact Kd.R_nil _ _ _ _ _ | exact Kd.N_nil _ _ _ _ _ | exact Kd.V_nil _ _ _ _ _ | exact Kd.Q_nil _ _ _ _ _ | exact Kd.S_nil _ _ _ _ _, hI0_, (have := GeI.mk (IsS77.ge HI0.out); bw_ HB.out), by repeat (first | (with_reducible first | exact HK.out | apply KeepBut.set_ | apply keep_drewN | apply keep_drew | apply keep_alloc | refine keep_far ?_ GW367.out _) | exact HK.out)⟩
      ·replace c21 := Bool.eq_false_iff.mpr c21
       subst c21
       rw [if_neg (show ¬ (false = true) by decide)] at H
       by_cases c29 : t368 = 4
       ·rw [if_pos c29] at H
        have c29b0 := beq_iff_eq.mpr c29
        have c29b1 := bne_eq_false_iff_eq.mpr c29
        clear c29
        simp only [Option.some.injEq, Prod.mk.injEq] at H
        obtain ⟨rfl, rfl, rfl, rfl, rfl, rfl⟩ := H
        have hnb30 := NB367_0.out
        have hnc30 := NB0_367.out
        obtain ⟨y31_0, y31_1, y31_2, y31_3, z31_0, z31_1, z31_2, z31_3⟩ := cz4_ BK367.out
        go_wp2
        refine bodyPost_ret (results_cell_row rfl _ _ gb367 29 #[.int .i64 3, .int .i64 0, .string (⟨#[]⟩ : ByteArray), .slice none 0 0] (0, 0) _ rfl ?hb_ Try.underlying29 rfl (by kernel_rfl)) rfl ?_
        (case hb_ => exact bk_ (bp4_ (bk_ BK367.out)))
        exact ⟨_, by first | rfl | (simp [errW_none, errW_some] <;> rfl) | (simp [*, errW_none, errW_some] <;> rfl), by first | exact Kd.R_nil _ _ _ _ _ | exact Kd.N_nil _ _ _ _ _ | exact Kd.V_nil _ _ _ _ _ | exact Kd.Q_nil _ _ _ _ _ | exact Kd.S_nil _ _ _ _ _, hI0_, (have := GeI.mk (IsS77.ge HI0.out); bw_ HB.out), by repeat (first | (with_reducible first | exact HK.out | apply KeepBut.set_ | apply keep_drewN | apply keep_drew | apply keep_alloc | refine keep_far ?_ GW367.out _) | exact HK.out)⟩
       ·rw [if_neg c29] at H
        have c29b0 := beq_eq_false_iff_ne.mpr c29
        have c29b1 := bne_iff_ne.mpr c29
        by_cases c32 : a1 = true
        ·subst c32
         rw [if_pos rfl] at H
         replace H := Option.bind_eq_some_iff.mp H
         obtain ⟨⟨t389, t390, t391⟩, A330, H⟩ := H
         try dsimp only at H
         have A33 := A_ A330
         clear A330
         replace H := Option.bind_eq_some_iff.mp H
         obtain ⟨⟨t392, t393, t394, t395⟩, A340, H⟩ := H
         try dsimp only at H
         have A34 := A_ A340
         clear A340
         simp only [Option.some.injEq, Prod.mk.injEq] at H
         obtain ⟨rfl, rfl, rfl, rfl, rfl, rfl⟩ := H
         go_wp2_with (first | ((with_reducible refine gate_callee (f := 64) rfl ?_); refine gL_ (some 26) Try.func64 #[.pointer (some ⟨g, 0, none⟩)] ?_; (with_reducible refine (spec_l1Word.calls g s0_0 t369 t370 t389 t390 t391 w0 _ ?side1 ?side2 A33.out).mono ?_); (case side1 => exact hI0_); (case side2 => exact (have := GeI.mk (IsS77.ge HI0.out); bw_ HB.out)); rintro e w35 ⟨rfl, hi, hb, hk⟩; refine ⟨_, rfl, ?_⟩; replace BK367 := A_ (KeepBut.blk hk (bk_ BK367.out) NB367_0.out (by simp)); replace HK := A_ (KeepBut.trans d8_ hk (.inl rfl)); replace HB := A_ (hb); replace HI0 := A_ (hi); clear hb hk hi) | ((with_reducible refine gate_callee (f := 79) rfl ?_); refine gL_ (some 27) Try.func79 #[.int .i64 t389] ?_; (with_reducible refine (spec_l10Num.calls t389 t392 t393 t394 t395 _ A34.out).mono ?_); rintro e w36 ⟨v396, rfl, ho0, hb⟩; refine ⟨_, rfl, ?_⟩; have HO397 := A_ (Kd.R_lower (Kd.R_newB ho0 (bk_ BK367.out)) (keep_size (w := w) (g := g) (row := none) d8_)); replace BK367 := A_ (blk_below (bk_ BK367.out) hb); replace HK := A_ (KeepBut.trans d8_ (KeepBut.of_below hb g none) (.inl rfl)); replace HB := A_ (below_step (have := GeI.mk (IsS77.ge HI0.out); bw_ HB.out) hb); replace HI0 := A_ (IsS77.below d28_ hb); clear hb; (try clear ho0); have hnb37 := NB367_0.out; have hnc37 := NB0_367.out; obtain ⟨y38_0, y38_1, y38_2, y38_3, z38_0, z38_1, z38_2, z38_3⟩ := cz4_ BK367.out; obtain ⟨Ao39, co39, eo39⟩ := Kd.R_slice HO397.out; subst eo39))
         refine bodyPost_ret (results_cell_row rfl _ _ gb367 29 #[.int .i64 t392, .int .i64 t393, .string t394, .slice Ao39 t395.length co39] (0, 0) _ rfl ?hb_ Try.underlying29 rfl (by kernel_rfl)) rfl ?_
         (case hb_ => exact bk_ (bp4_ (bk_ BK367.out)))
         exact ⟨_, by first | rfl | (simp [errW_none, errW_some] <;> rfl) | (simp [*, errW_none, errW_some] <;> rfl), kr_ (Kd.R_mono (rf4_ (Kd.R_mono HO397.out (fun k_ hk => (⟨hk, hk.2⟩ : _ ∧ k_ ≠ gb367))) (fun _ hk => hk.2)) (fun _ hk => trivial)), hI0_, (have := GeI.mk (IsS77.ge HI0.out); bw_ HB.out), by repeat (first | (with_reducible first | exact HK.out | apply KeepBut.set_ | apply keep_drewN | apply keep_drew | apply keep_alloc | refine keep_far ?_ GW367.out _) | exact HK.out)⟩
        ·replace c32 := Bool.eq_false_iff.mpr c32
         subst c32
         rw [if_neg (show ¬ (false = true) by decide)] at H
         replace H := Option.bind_eq_some_iff.mp H
         obtain ⟨⟨t398, t399, t400⟩, A400, H⟩ := H
         try dsimp only at H
         have A40 := A_ A400
         clear A400
         by_cases c41 : t398 = true
         ·subst c41
          rw [if_pos rfl] at H
          replace H := Option.bind_eq_some_iff.mp H
          obtain ⟨⟨t401, t402, t403⟩, A420, H⟩ := H
          try dsimp only at H
          have A42 := A_ A420
          clear A420
          simp only [Option.some.injEq, Prod.mk.injEq] at H
          obtain ⟨rfl, rfl, rfl, rfl, rfl, rfl⟩ := H
          go_wp2_with (first | ((with_reducible refine gate_callee (f := 50) rfl ?_); refine gL_ (some 29) Try.func50 #[.pointer (some ⟨g, 0, none⟩), .int .i64 2] ?_; (with_reducible refine (spec_l1Once.calls g s0_0 t369 t370 2 true t399 t400 w0 _ ?side1 ?side2 A40.out).mono ?_); (case side1 => exact hI0_); (case side2 => exact (have := GeI.mk (IsS77.ge HI0.out); bw_ HB.out)); rintro e w43 ⟨rfl, hi, hb, hk⟩; refine ⟨_, rfl, ?_⟩; replace BK367 := A_ (KeepBut.blk hk (bk_ BK367.out) NB367_0.out (by simp)); replace HK := A_ (KeepBut.trans d8_ hk (.inl rfl)); replace HB := A_ (hb); replace HI0 := A_ (hi); clear hb hk hi) | ((with_reducible refine gate_callee (f := 62) rfl ?_); refine gL_ (some 31) Try.func62 #[.pointer (some ⟨g, 0, none⟩), .int .i64 3] ?_; (with_reducible refine (spec_l1Below.calls g s0_0 t399 t400 3 t401 t402 t403 w0 _ ?side1 ?side2 A42.out).mono ?_); (case side1 => exact hI0_); (case side2 => exact (have := GeI.mk (IsS77.ge HI0.out); bw_ HB.out)); rintro e w44 ⟨rfl, hi, hb, hk⟩; refine ⟨_, rfl, ?_⟩; replace BK367 := A_ (KeepBut.blk hk (bk_ BK367.out) NB367_0.out (by simp)); replace HK := A_ (KeepBut.trans d8_ hk (.inl rfl)); replace HB := A_ (hb); replace HI0 := A_ (hi); clear hb hk hi; have hnb45 := NB367_0.out; have hnc45 := NB0_367.out; obtain ⟨y46_0, y46_1, y46_2, y46_3, z46_0, z46_1, z46_2, z46_3⟩ := cz4_ BK367.out))
          refine bodyPost_ret (results_cell_row rfl _ _ gb367 29 #[.int .i64 11, .int .i64 t401, .string (⟨#[]⟩ : ByteArray), .slice none 0 0] (0, 0) _ rfl ?hb_ Try.underlying29 rfl (by kernel_rfl)) rfl ?_
          (case hb_ => exact bk_ (bp4_ (bk_ BK367.out)))
          exact ⟨_, by first | rfl | (simp [errW_none, errW_some] <;> rfl) | (simp [*, errW_none, errW_some] <;> rfl), by first | exact Kd.R_nil _ _ _ _ _ | exact Kd.N_nil _ _ _ _ _ | exact Kd.V_nil _ _ _ _ _ | exact Kd.Q_nil _ _ _ _ _ | exact Kd.S_nil _ _ _ _ _, hI0_, (have := GeI.mk (IsS77.ge HI0.out); bw_ HB.out), by repeat (first | (with_reducible first | exact HK.out | apply KeepBut.set_ | apply keep_drewN | apply keep_drew | apply keep_alloc | refine keep_far ?_ GW367.out _) | exact HK.out)⟩
         ·replace c41 := Bool.eq_false_iff.mpr c41
          subst c41
          rw [if_neg (show ¬ (false = true) by decide)] at H
          obtain ⟨y404, hy404⟩ : ∃ y_ : List ByteArray, y_ = (([(⟨#[103]⟩ : ByteArray), (⟨#[104]⟩ : ByteArray)] : List ByteArray)) := ⟨_, rfl⟩
          replace H : ((spec_l1Str.f s0_0 t399 t400 y404).bind fun bt407 => (some (12, 0, bt407.1, ([] : List (S29)), bt407.2.1, bt407.2.2))) = some (r1, r2, r3, r4, r5, r6) := by first | (rw [hy404]; with_reducible exact H) | (have H2_ := (Option.bind_some _ _).symm.trans H; rw [hy404]; with_reducible exact H2_) | (have H2_ := (Option.bind_some _ _).symm.trans H; with_reducible exact H2_) | with_reducible exact H | (rw [hy404]; exact H) | exact H
          have Ny404 := A_ hy404
          clear hy404
          replace H := Option.bind_eq_some_iff.mp H
          obtain ⟨⟨t407, t408, t409⟩, A470, H⟩ := H
          try dsimp only at H
          have A47 := A_ A470
          clear A470
          simp only [Option.some.injEq, Prod.mk.injEq] at H
          obtain ⟨rfl, rfl, rfl, rfl, rfl, rfl⟩ := H
          go_wp2_with (first | ((with_reducible refine gate_callee (f := 50) rfl ?_); refine gL_ (some 29) Try.func50 #[.pointer (some ⟨g, 0, none⟩), .int .i64 2] ?_; (with_reducible refine (spec_l1Once.calls g s0_0 t369 t370 2 false t399 t400 w0 _ ?side1 ?side2 A40.out).mono ?_); (case side1 => exact hI0_); (case side2 => exact (have := GeI.mk (IsS77.ge HI0.out); bw_ HB.out)); rintro e w48 ⟨rfl, hi, hb, hk⟩; refine ⟨_, rfl, ?_⟩; replace BK367 := A_ (KeepBut.blk hk (bk_ BK367.out) NB367_0.out (by simp)); replace HK := A_ (KeepBut.trans d8_ hk (.inl rfl)); replace HB := A_ (hb); replace HI0 := A_ (hi); clear hb hk hi) | ((with_reducible refine gate_dst (N := 34) rfl ?_); refine Kd.R_lit Kd.string _ 9 ?hg (N := 34) ?hd (xs := ([(⟨#[103]⟩ : ByteArray), (⟨#[104]⟩ : ByteArray)] : List ByteArray)) (inner := [.string (⟨#[103]⟩ : ByteArray), .string (⟨#[104]⟩ : ByteArray)]) (ok := fun _ => True) (okp := fun _ => True) ?hr ?hp (fun _ hk => hk) trivial (Below.refl _ _) (Nat.le_refl _) (by simp) ?_; (case hd => rfl); (case hg => rfl); (case hr => first | (go_simp; done) | (go_simp; rfl)); (case hp => exact (Reps.one (show Kd.M Kd.string _ _ _ (⟨#[103]⟩ : ByteArray) [.string (⟨#[103]⟩ : ByteArray)] from rfl) (Reps.one (show Kd.M Kd.string _ _ _ (⟨#[104]⟩ : ByteArray) [.string (⟨#[104]⟩ : ByteArray)] from rfl) (Reps.none _ _)))); intro v405 w49 ho50 hb hg_ hnew_; clear hg_ hnew_; (first | rw [← Ny404.out] at ho50 | (simp only [Int.reduceToNat] at ho50; rw [← Ny404.out] at ho50)); have HO406 := A_ (Kd.R_lower ho50 (keep_size (w := w) (g := g) (row := none) d8_)); replace BK367 := A_ (blk_below (bk_ BK367.out) hb); replace HK := A_ (KeepBut.trans d8_ (KeepBut.of_below hb g none) (.inl rfl)); replace HB := A_ (below_step (have := GeI.mk (IsS77.ge HI0.out); bw_ HB.out) hb); replace HI0 := A_ (IsS77.below d28_ hb); clear hb ho50; obtain ⟨Ao51, co51, eo51⟩ := Kd.R_slice HO406.out; subst eo51) | ((with_reducible refine gate_callee (f := 72) rfl ?_); refine gL_ (some 35) Try.func72 #[.pointer (some ⟨g, 0, none⟩), .slice Ao51 y404.length co51] ?_; (with_reducible refine (spec_l1Str.calls g s0_0 t399 t400 _ _ y404 t407 t408 t409 w0 _ ?side1 ?side2 ?side3 ?side4 ?side5 A47.out).mono ?_); (case side1 => exact hI0_); (case side2 => exact (have := GeI.mk (IsS77.ge HI0.out); bw_ HB.out)); (case side3 => repeat (first | exact (Kd.R_reads' HO406.out).2.2 | (with_reducible refine Kd.C_alloc ?_ _) | (with_reducible refine Kd.C_drewN ?_ _) | (with_reducible refine Kd.C_drew ?_))); (case side4 => exact (Kd.R_reads' HO406.out).2.1); (case side5 => exact far_slice (IsS77.own_ne HI0.out HO406.out (by decide))); rintro e w52 ⟨rfl, hi, hb, hk⟩; refine ⟨_, rfl, ?_⟩; replace BK367 := A_ (KeepBut.blk hk (bk_ BK367.out) NB367_0.out (by simp)); replace HO406 := kI_ (hI0_ : IsS77 w0 _ g s0_0 t399 t400) hk HO406; replace HK := A_ (KeepBut.trans d8_ hk (.inl rfl)); replace HB := A_ (hb); replace HI0 := A_ (hi); clear hb hk hi; have hnb53 := NB367_0.out; have hnc53 := NB0_367.out; obtain ⟨y54_0, y54_1, y54_2, y54_3, z54_0, z54_1, z54_2, z54_3⟩ := cz4_ BK367.out))
          refine bodyPost_ret (results_cell_row rfl _ _ gb367 29 #[.int .i64 12, .int .i64 0, .string t407, .slice none 0 0] (0, 0) _ rfl ?hb_ Try.underlying29 rfl (by kernel_rfl)) rfl ?_
          (case hb_ => exact bk_ (bp4_ (bk_ BK367.out)))
          exact ⟨_, by first | rfl | (simp [errW_none, errW_some] <;> rfl) | (simp [*, errW_none, errW_some] <;> rfl), by first | exact Kd.R_nil _ _ _ _ _ | exact Kd.N_nil _ _ _ _ _ | exact Kd.V_nil _ _ _ _ _ | exact Kd.Q_nil _ _ _ _ _ | exact Kd.S_nil _ _ _ _ _, hI0_, (have := GeI.mk (IsS77.ge HI0.out); bw_ HB.out), by repeat (first | (with_reducible first | exact HK.out | apply KeepBut.set_ | apply keep_drewN | apply keep_drew | apply keep_alloc | refine keep_far ?_ GW367.out _) | exact HK.out)⟩

/-! ### spec_l10Draw: function 61 -/
mutual
def spec_l10Draw.j0 : Nat → Int → Bool → Bool → List Int → Int → Int → Option (Int × Int × ByteArray × (List (S29)) × Int × Int)
 | 0, _, _, _, _, _, _ => none
 | k + 1, x1, x2, x15, x1000, x1001, x1002 => if x15 = true then ((spec_l10Leaf.f k x1000 x1001 x1002 x2).bind fun bt414 => (some (bt414.1, bt414.2.1, bt414.2.2.1, bt414.2.2.2.1, bt414.2.2.2.2.1, bt414.2.2.2.2.2))) else ((spec_l1Int.f x1000 x1001 x1002 (([5, 5, 5, 6, 6, 4, 7, 8, 9, 10] : List Int))).bind fun bt425 => ((spec_l10Draw.f k x1000 bt425.2.1 bt425.2.2 (wrap64 (x1 - 1)) x2).bind fun bt428 => (if bt425.1 = 4 then (some (bt425.1, 0, (⟨#[]⟩ : ByteArray), (([(⟨bt428.1, bt428.2.1, bt428.2.2.1, bt428.2.2.2.1⟩ : S29)] : List (S29))), bt428.2.2.2.2.1, bt428.2.2.2.2.2)) else ((spec_l10Draw.f k x1000 bt428.2.2.2.2.1 bt428.2.2.2.2.2 (wrap64 (x1 - 1)) x2).bind fun bt440 => (some (bt425.1, 0, (⟨#[]⟩ : ByteArray), (([(⟨bt428.1, bt428.2.1, bt428.2.2.1, bt428.2.2.2.1⟩ : S29), (⟨bt440.1, bt440.2.1, bt440.2.2.1, bt440.2.2.2.1⟩ : S29)] : List (S29))), bt440.2.2.2.2.1, bt440.2.2.2.2.2))))))
def spec_l10Draw.f : Nat → List Int → Int → Int → Int → Bool → Option (Int × Int × ByteArray × (List (S29)) × Int × Int)
 | 0, _, _, _, _, _ => none
 | k + 1, s0_0, s0_1, s0_2, a1, a2 => if a1 = 0 then (spec_l10Draw.j0 k a1 a2 true s0_0 s0_1 s0_2) else ((spec_l1Once.f s0_0 s0_1 s0_2 3).bind fun bt411 => (spec_l10Draw.j0 k a1 a2 bt411.1 s0_0 bt411.2.1 bt411.2.2))
end
theorem spec_l10Draw.mono_l : ∀ k, (∀ y0 y1 y2 y3 y4, LeO (spec_l10Draw.f k y0 y1 y2 y3 y4) (spec_l10Draw.f (k + 1) y0 y1 y2 y3 y4)) ∧ (∀ y0 y1 y2 y3 y4 y5, LeO (spec_l10Draw.j0 k y0 y1 y2 y3 y4 y5) (spec_l10Draw.j0 (k + 1) y0 y1 y2 y3 y4 y5))
 | 0 => ⟨fun _ _ _ _ _ r h => by simp [spec_l10Draw.f] at h, fun _ _ _ _ _ _ r h => by simp [spec_l10Draw.j0] at h⟩
 | k + 1 => by
  obtain ⟨ih0, ih1⟩ := spec_l10Draw.mono_l k
  refine ⟨?_, ?_⟩
  ·intro y0 y1 y2 y3 y4
   unfold spec_l10Draw.f
   repeat' first
   | (with_reducible exact ih0 _ _ _ _ _)
   | (with_reducible exact ih1 _ _ _ _ _ _)
   | (with_reducible exact spec_l10Leaf.mono _ _ _ _ _)
   | (with_reducible exact LeO.refl _)
   | (with_reducible exact LeO.none _)
   | (with_reducible refine LeO.ite ?_ ?_)
   | (with_reducible refine LeO.bind ?_ (fun _ => ?_))
   | exact ih0 _ _ _ _ _
   | exact ih1 _ _ _ _ _ _
   | exact spec_l10Leaf.mono _ _ _ _ _
   | exact LeO.none _
   | refine LeO.ite ?_ ?_
   | refine LeO.bind ?_ (fun _ => ?_)
  ·intro y0 y1 y2 y3 y4 y5
   unfold spec_l10Draw.j0
   repeat' first
   | (with_reducible exact ih0 _ _ _ _ _)
   | (with_reducible exact ih1 _ _ _ _ _ _)
   | (with_reducible exact spec_l10Leaf.mono _ _ _ _ _)
   | (with_reducible exact LeO.refl _)
   | (with_reducible exact LeO.none _)
   | (with_reducible refine LeO.ite ?_ ?_)
   | (with_reducible refine LeO.bind ?_ (fun _ => ?_))
   | exact ih0 _ _ _ _ _
   | exact ih1 _ _ _ _ _ _
   | exact spec_l10Leaf.mono _ _ _ _ _
   | exact LeO.none _
   | refine LeO.ite ?_ ?_
   | refine LeO.bind ?_ (fun _ => ?_)
theorem spec_l10Draw.mono : ∀ a0 a1 a2 a3 a4 k, LeO (spec_l10Draw.f k a0 a1 a2 a3 a4) (spec_l10Draw.f (k + 1) a0 a1 a2 a3 a4) := by
 intro a0 a1 a2 a3 a4 k
 obtain ⟨ih0, ih1⟩ := spec_l10Draw.mono_l k
 exact ih0 a0 a1 a2 a3 a4
set_option maxHeartbeats 8000000 in
set_option maxRecDepth 100000 in
theorem spec_l10Draw.calls (k : Nat) : ∀ (g : Nat) (s0_0 : List Int) (s0_1 : Int) (s0_2 : Int) (a1 : Int) (a2 : Bool) (r1 : Int) (r2 : Int) (r3 : ByteArray) (r4 : List (S29)) (r5 : Int) (r6 : Int) (w0 w : World) (hI : IsS77 w0 w g s0_0 s0_1 s0_2) (hB : Below w0.heap.size w0 w) (h : spec_l10Draw.f k s0_0 s0_1 s0_2 a1 a2 = some (r1, r2, r3, r4, r5, r6)),
  Calls Try.prog 61 #[.pointer (some ⟨g, 0, none⟩), .int .i64 a1, .bool a2] w fun e w' => ∃ v3_ : Value, e = .returned (.agg #[.int .i64 r1, .int .i64 r2, .string r3, v3_]) ∧ Kd.N k29 29 w' w.heap.size (fun k_ => (w.heap.size ≤ k_)) v3_ r4 ∧ IsS77 w0 w' g s0_0 r5 r6 ∧ Below w0.heap.size w0 w' ∧ KeepBut w w' g none := by
 induction k using Nat.strongRecOn with
 | _ k ih =>
 intro g s0_0 s0_1 s0_2 a1 a2 r1 r2 r3 r4 r5 r6 w0 w hI hB h
 cases k with
 | zero => exact absurd h (by simp [spec_l10Draw.f])
 | succ k =>
 simp only [spec_l10Draw.f] at h
 have hu29 := Try.underlying29
 have HI0 := A_ hI
 have HK := A_ (KeepBut.refl w g none)
 have HL := A_ hB.size
 clear hI
 have HW0 := A_ hB.size
 have HB := A_ hB
 clear hB
 have H : (if a1 = 0 then (spec_l10Draw.j0 k a1 a2 true s0_0 s0_1 s0_2) else ((spec_l1Once.f s0_0 s0_1 s0_2 3).bind fun bt411 => (spec_l10Draw.j0 k a1 a2 bt411.1 s0_0 bt411.2.1 bt411.2.2))) = some (r1, r2, r3, r4, r5, r6) := h
 clear h
 have HC4 := A_ H
 clear H
 go_enter Try.func61, Try.ntmps61
 go_upto_region 1 with (first | ((with_reducible refine gate_dst (N := 6) rfl ?_); refine bx_ 6 #[.int .i64 0, .int .i64 0, .string (⟨#[]⟩ : ByteArray), .slice none 0 0] 29 ?_; intro gb410 hg w5 hbox hb; replace HB := A_ (below_step (have := GeI.mk (IsS77.ge HI0.out); bw_ HB.out) hb); have BK410 := A_ (hbox); have GW410 := A_ ((d52_ : w.heap.size ≤ gb410)); have GE410 := A_ ((Nat.le_trans HW0.out (d52_ : w.heap.size ≤ gb410) : w0.heap.size ≤ gb410)); replace HK := A_ (KeepBut.trans d2_ (KeepBut.of_below hb g none) (.inl rfl)); have NB0_410 := A_ ((d17_ : g ≠ gb410)); have NB410_0 := A_ ((d18_ : gb410 ≠ g)); replace HI0 := A_ (IsS77.below d19_ hb); have GI410 := GeI.mk GE410.out; clear hb hbox hg))
 (try simp only [Act.put, List.setIfInBounds_toArray, List.set_cons_zero, List.set_cons_succ])
 go_cut [15] (fun v15 wc => ∃ (kq : Nat) (x15_3 : Bool) (x1001_3 : Int) (x1002_3 : Int), v15 = .bool x15_3 ∧ Aside0 (spec_l10Draw.j0 kq a1 a2 x15_3 s0_0 x1001_3 x1002_3 = some (r1, r2, r3, r4, r5, r6)) ∧ Aside0 (kq ≤ k) ∧ Aside0 (wc.heap[gb410]? = some (.cells #[.int .i64 0, .int .i64 0, .string (⟨#[]⟩ : ByteArray), (.slice none 0 0)] 29 (0, 0))) ∧ Aside0 (IsS77 w0 wc g s0_0 x1001_3 x1002_3) ∧ Aside0 (KeepBut w wc g none) ∧ Aside0 (Below w0.heap.size w0 wc))
 case first =>
  have H := HC4.out
  clear HC4
  by_cases c6 : a1 = 0
  ·rw [if_pos c6] at H
   have c6b0 := beq_iff_eq.mpr c6
   have c6b1 := bne_eq_false_iff_eq.mpr c6
   clear c6
   (first | rw [c6b0] | (simp only [i64_w, i32_w]; rw [c6b0]) | skip)
   have H' := A_ H
   clear H
   go_wp2
   go_meet
   case rel => exact ⟨_, (true), (s0_1), (s0_2), d7_, H', ⟨by first | omega | exact Nat.le_refl _⟩, ⟨by refine bk_ ?_; exact BK410.out⟩, ⟨hI0_⟩, ⟨by repeat (first | (with_reducible first | exact HK.out | apply KeepBut.set_ | apply keep_drewN | apply keep_drew | apply keep_alloc | refine keep_far ?_ GW410.out _) | exact HK.out)⟩, ⟨(have := GeI.mk (IsS77.ge HI0.out); bw_ HB.out)⟩⟩
  ·rw [if_neg c6] at H
   have c6b0 := beq_eq_false_iff_ne.mpr c6
   have c6b1 := bne_iff_ne.mpr c6
   (first | rw [c6b0] | (simp only [i64_w, i32_w]; rw [c6b0]) | skip)
   replace H := Option.bind_eq_some_iff.mp H
   obtain ⟨⟨t411, t412, t413⟩, A70, H⟩ := H
   try dsimp only at H
   have A7 := A_ A70
   clear A70
   have H' := A_ H
   clear H
   go_wp2_with (first | (go_at_call 50; (with_reducible refine (spec_l1Once.calls g s0_0 s0_1 s0_2 3 t411 t412 t413 w0 _ ?side1 ?side2 A7.out).mono ?_); (case side1 => exact hI0_); (case side2 => exact (have := GeI.mk (IsS77.ge HI0.out); bw_ HB.out)); rintro e w8 ⟨rfl, hi, hb, hk⟩; replace BK410 := A_ (KeepBut.blk hk (bk_ BK410.out) NB410_0.out (by simp)); replace HK := A_ (KeepBut.trans d4_ hk (.inl rfl)); replace HB := A_ (hb); replace HI0 := A_ (hi); clear hb hk hi))
   go_meet
   case rel => exact ⟨_, (t411), (t412), (t413), d7_, H', ⟨by first | omega | exact Nat.le_refl _⟩, ⟨by refine bk_ ?_; exact BK410.out⟩, ⟨hI0_⟩, ⟨by repeat (first | (with_reducible first | exact HK.out | apply KeepBut.set_ | apply keep_drewN | apply keep_drew | apply keep_alloc | refine keep_far ?_ GW410.out _) | exact HK.out)⟩, ⟨(have := GeI.mk (IsS77.ge HI0.out); bw_ HB.out)⟩⟩
 case rest =>
  clear HC4
  try clear p2
  try clear c6
  try clear c6b0
  try clear c6b1
  obtain ⟨kq, x15_3, x1001_3, x1002_3, rfl, HA, HJ3, BK410, HI0, HK, HB⟩ := hcut
  cases kq with
  | zero => exact absurd HA.out (by simp [spec_l10Draw.j0])
  | succ kj3 =>
   have H := HA.out
   clear HA
   simp only [spec_l10Draw.j0] at H
   by_cases c9 : x15_3 = true
   ·subst c9
    rw [if_pos rfl] at H
    replace H := Option.bind_eq_some_iff.mp H
    obtain ⟨⟨t414, t415, t416, t417, t420, t421⟩, A100, H⟩ := H
    try dsimp only at H
    have A10 := A_ A100
    clear A100
    simp only [Option.some.injEq, Prod.mk.injEq] at H
    obtain ⟨rfl, rfl, rfl, rfl, rfl, rfl⟩ := H
    go_wp2_with (first | ((with_reducible refine gate_callee (f := 84) rfl ?_); refine gL_ (some 18) Try.func84 #[.pointer (some ⟨g, 0, none⟩), .bool a2] ?_; (with_reducible refine (spec_l10Leaf.calls kj3 g s0_0 x1001_3 x1002_3 a2 t414 t415 t416 t417 t420 t421 w0 _ ?side1 ?side2 A10.out).mono ?_); (case side1 => exact hI0_); (case side2 => exact (have := GeI.mk (IsS77.ge HI0.out); bw_ HB.out)); rintro e w11 ⟨v418, rfl, ho0, hi, hb, hk⟩; refine ⟨_, rfl, ?_⟩; have HO419 := A_ (Kd.N_lower (Kd.N_mono (ok' := fun k_ => (w.heap.size ≤ k_) ∧ k_ ≠ gb410 ∧ k_ ≠ g) (Kd.R_N (Kd.R_bound ho0)) (fun k_ hk_ => ⟨(Nat.le_trans (keep_size (w := w) (g := g) (row := none) d4_) hk_.2.1), (Kd.freshB (bk_ BK410.out) k_ hk_.2.1), (IsS77.fresh d20_ k_ hk_.2.1)⟩)) (keep_size (w := w) (g := g) (row := none) d4_)); replace BK410 := A_ (KeepBut.blk hk (bk_ BK410.out) NB410_0.out (by simp)); replace HK := A_ (KeepBut.trans d4_ hk (.inl rfl)); replace HB := A_ (hb); replace HI0 := A_ (hi); clear hb hk hi; (try clear ho0); have hnb12 := NB410_0.out; have hnc12 := NB0_410.out; obtain ⟨y13_0, y13_1, y13_2, y13_3, z13_0, z13_1, z13_2, z13_3⟩ := cz4_ BK410.out; obtain ⟨Ao14, co14, eo14⟩ := Kd.N_slice HO419.out; subst eo14))
    refine bodyPost_ret (results_cell_row rfl _ _ gb410 29 #[.int .i64 t414, .int .i64 t415, .string t416, .slice Ao14 t417.length co14] (0, 0) _ rfl ?hb_ Try.underlying29 rfl (by kernel_rfl)) rfl ?_
    (case hb_ => exact bk_ (bp4_ (bk_ BK410.out)))
    exact ⟨_, by first | rfl | (simp [errW_none, errW_some] <;> rfl) | (simp [*, errW_none, errW_some] <;> rfl), by (with_reducible repeat (first | apply Kd.N_alloc | apply Kd.N_drewN | apply Kd.N_drew)); exact Kd.N_mono (nf4_ (Kd.N_mono HO419.out (fun k_ hk => (⟨hk, hk.2.1⟩ : _ ∧ k_ ≠ gb410))) (fun _ hk => hk.2)) (fun _ hk => hk.1.1), hI0_, (have := GeI.mk (IsS77.ge HI0.out); bw_ HB.out), by repeat (first | (with_reducible first | exact HK.out | apply KeepBut.set_ | apply keep_drewN | apply keep_drew | apply keep_alloc | refine keep_far ?_ GW410.out _) | exact HK.out)⟩
   ·replace c9 := Bool.eq_false_iff.mpr c9
    subst c9
    rw [if_neg (show ¬ (false = true) by decide)] at H
    obtain ⟨y422, hy422⟩ : ∃ y_ : List Int, y_ = (([5, 5, 5, 6, 6, 4, 7, 8, 9, 10] : List Int)) := ⟨_, rfl⟩
    replace H : ((spec_l1Int.f s0_0 x1001_3 x1002_3 y422).bind fun bt425 => ((spec_l10Draw.f kj3 s0_0 bt425.2.1 bt425.2.2 (wrap64 (a1 - 1)) a2).bind fun bt428 => (if bt425.1 = 4 then (some (bt425.1, 0, (⟨#[]⟩ : ByteArray), (([(⟨bt428.1, bt428.2.1, bt428.2.2.1, bt428.2.2.2.1⟩ : S29)] : List (S29))), bt428.2.2.2.2.1, bt428.2.2.2.2.2)) else ((spec_l10Draw.f kj3 s0_0 bt428.2.2.2.2.1 bt428.2.2.2.2.2 (wrap64 (a1 - 1)) a2).bind fun bt440 => (some (bt425.1, 0, (⟨#[]⟩ : ByteArray), (([(⟨bt428.1, bt428.2.1, bt428.2.2.1, bt428.2.2.2.1⟩ : S29), (⟨bt440.1, bt440.2.1, bt440.2.2.1, bt440.2.2.2.1⟩ : S29)] : List (S29))), bt440.2.2.2.2.1, bt440.2.2.2.2.2)))))) = some (r1, r2, r3, r4, r5, r6) := by first | (rw [hy422]; with_reducible exact H) | (have H2_ := (Option.bind_some _ _).symm.trans H; rw [hy422]; with_reducible exact H2_) | (have H2_ := (Option.bind_some _ _).symm.trans H; with_reducible exact H2_) | with_reducible exact H | (rw [hy422]; exact H) | exact H
    have Ny422 := A_ hy422
    clear hy422
    replace H := Option.bind_eq_some_iff.mp H
    obtain ⟨⟨t425, t426, t427⟩, A150, H⟩ := H
    try dsimp only at H
    have A15 := A_ A150
    clear A150
    replace H := Option.bind_eq_some_iff.mp H
    obtain ⟨⟨t428, t429, t430, t431, t434, t435⟩, A160, H⟩ := H
    try dsimp only at H
    have A16 := A_ A160
    clear A160
    by_cases c17 : t425 = 4
    ·rw [if_pos c17] at H
     have c17b0 := beq_iff_eq.mpr c17
     have c17b1 := bne_eq_false_iff_eq.mpr c17
     clear c17
     obtain ⟨y437, hy437⟩ : ∃ y_ : List (S29), y_ = (([(⟨t428, t429, t430, t431⟩ : S29)] : List (S29))) := ⟨_, rfl⟩
     replace H : (some (t425, 0, (⟨#[]⟩ : ByteArray), y437, t434, t435)) = some (r1, r2, r3, r4, r5, r6) := by first | (rw [hy437]; with_reducible exact H) | (have H2_ := (Option.bind_some _ _).symm.trans H; rw [hy437]; with_reducible exact H2_) | (have H2_ := (Option.bind_some _ _).symm.trans H; with_reducible exact H2_) | with_reducible exact H | (rw [hy437]; exact H) | exact H
     have Ny437 := A_ hy437
     clear hy437
     simp only [Option.some.injEq, Prod.mk.injEq] at H
     obtain ⟨rfl, rfl, rfl, rfl, rfl, rfl⟩ := H
     go_wp2_with (first | ((with_reducible refine gate_dst (N := 20) rfl ?_); refine Kd.R_lit (Kd.int .i64) _ 3 ?hg (N := 20) ?hd (xs := ([5, 5, 5, 6, 6, 4, 7, 8, 9, 10] : List Int)) (inner := [.int .i64 5, .int .i64 5, .int .i64 5, .int .i64 6, .int .i64 6, .int .i64 4, .int .i64 7, .int .i64 8, .int .i64 9, .int .i64 10]) (ok := fun _ => True) (okp := fun _ => True) ?hr ?hp (fun _ hk => hk) trivial (Below.refl _ _) (Nat.le_refl _) (by simp) ?_; (case hd => rfl); (case hg => rfl); (case hr => first | (go_simp; done) | (go_simp; rfl)); (case hp => exact (Reps.one (show Kd.M (Kd.int .i64) _ _ _ 5 [.int .i64 5] from rfl) (Reps.one (show Kd.M (Kd.int .i64) _ _ _ 5 [.int .i64 5] from rfl) (Reps.one (show Kd.M (Kd.int .i64) _ _ _ 5 [.int .i64 5] from rfl) (Reps.one (show Kd.M (Kd.int .i64) _ _ _ 6 [.int .i64 6] from rfl) (Reps.one (show Kd.M (Kd.int .i64) _ _ _ 6 [.int .i64 6] from rfl) (Reps.one (show Kd.M (Kd.int .i64) _ _ _ 4 [.int .i64 4] from rfl) (Reps.one (show Kd.M (Kd.int .i64) _ _ _ 7 [.int .i64 7] from rfl) (Reps.one (show Kd.M (Kd.int .i64) _ _ _ 8 [.int .i64 8] from rfl) (Reps.one (show Kd.M (Kd.int .i64) _ _ _ 9 [.int .i64 9] from rfl) (Reps.one (show Kd.M (Kd.int .i64) _ _ _ 10 [.int .i64 10] from rfl) (Reps.none _ _)))))))))))); intro v423 w18 ho19 hb hg_ hnew_; clear hg_ hnew_; (first | rw [← Ny422.out] at ho19 | (simp only [Int.reduceToNat] at ho19; rw [← Ny422.out] at ho19)); have HO424 := A_ (Kd.R_lower (Kd.R_newM (M := fun k_ => (w.heap.size ≤ k_)) ho19 (keep_size (w := w) (g := g) (row := none) d4_) (fun k_ h_ => h_)) (keep_size (w := w) (g := g) (row := none) d4_)); replace BK410 := A_ (blk_below (bk_ BK410.out) hb); replace HK := A_ (KeepBut.trans d4_ (KeepBut.of_below hb g none) (.inl rfl)); replace HB := A_ (below_step (have := GeI.mk (IsS77.ge HI0.out); bw_ HB.out) hb); replace HI0 := A_ (IsS77.below d20_ hb); clear hb ho19; obtain ⟨Ao20, co20, eo20⟩ := Kd.R_slice HO424.out; subst eo20) | ((with_reducible refine gate_callee (f := 66) rfl ?_); refine gL_ (some 21) Try.func66 #[.pointer (some ⟨g, 0, none⟩), .slice Ao20 y422.length co20] ?_; (with_reducible refine (spec_l1Int.calls g s0_0 x1001_3 x1002_3 _ _ y422 t425 t426 t427 w0 _ ?side1 ?side2 ?side3 ?side4 ?side5 A15.out).mono ?_); (case side1 => exact hI0_); (case side2 => exact (have := GeI.mk (IsS77.ge HI0.out); bw_ HB.out)); (case side3 => repeat (first | exact (Kd.R_reads' HO424.out).2.2 | (with_reducible refine Kd.C_alloc ?_ _) | (with_reducible refine Kd.C_drewN ?_ _) | (with_reducible refine Kd.C_drew ?_))); (case side4 => exact (Kd.R_reads' HO424.out).2.1); (case side5 => exact far_slice (IsS77.own_ne HI0.out HO424.out (by decide))); rintro e w21 ⟨rfl, hi, hb, hk⟩; refine ⟨_, rfl, ?_⟩; replace BK410 := A_ (KeepBut.blk hk (bk_ BK410.out) NB410_0.out (by simp)); replace HO424 := kI_ (hI0_ : IsS77 w0 _ g s0_0 x1001_3 x1002_3) hk HO424; replace HK := A_ (KeepBut.trans d4_ hk (.inl rfl)); replace HB := A_ (hb); replace HI0 := A_ (hi); clear hb hk hi) | ((with_reducible refine gate_callee (f := 61) rfl ?_); refine gL_ (some 26) Try.func61 #[.pointer (some ⟨g, 0, none⟩), .int .i64 (wrap64 (a1 - 1)), .bool a2] ?_; (with_reducible refine (ih kj3 (by have := HJ3.out; omega) g s0_0 t426 t427 (wrap64 (a1 - 1)) a2 t428 t429 t430 t431 t434 t435 w0 _ ?side1 ?side2 A16.out).mono ?_); (case side1 => exact hI0_); (case side2 => exact (have := GeI.mk (IsS77.ge HI0.out); bw_ HB.out)); rintro e w22 ⟨v432, rfl, ho0, hi, hb, hk⟩; refine ⟨_, rfl, ?_⟩; have HO433 := A_ (Kd.N_lower (Kd.N_mono (ok' := fun k_ => (w.heap.size ≤ k_) ∧ some k_ ≠ (.slice Ao20 y422.length co20 : Value).ownBlock ∧ k_ ≠ gb410 ∧ k_ ≠ g) ho0 (fun k_ hk_ => ⟨(Nat.le_trans (keep_size (w := w) (g := g) (row := none) d4_) hk_), (Kd.fresh' (Kd.R_lt (kr_ HO424.out)) k_ hk_), (Kd.freshB (bk_ BK410.out) k_ hk_), (IsS77.fresh d20_ k_ hk_)⟩)) (keep_size (w := w) (g := g) (row := none) d4_)); replace BK410 := A_ (KeepBut.blk hk (bk_ BK410.out) NB410_0.out (by simp)); replace HO424 := kI_ (hI0_ : IsS77 w0 _ g s0_0 t426 t427) hk HO424; replace HK := A_ (KeepBut.trans d4_ hk (.inl rfl)); replace HB := A_ (hb); replace HI0 := A_ (hi); clear hb hk hi; (try clear ho0)) | ((with_reducible refine gate_dst (N := 8) rfl ?_); refine bx_ 8 #[.int .i64 0, .int .i64 0, .string (⟨#[]⟩ : ByteArray), .slice none 0 0] 29 ?_; intro gb436 hg w23 hbox hb; have n0_ := A_ (Kd.R_below (kr_ HO424.out) hb); have n1_ := A_ (Kd.N_below (Kd.N_elderB d45_ gb436 (Nat.le_of_eq hg.symm)) hb); have n2_ := A_ (blk_below (bk_ BK410.out) hb); have n3_ := A_ (IsS77.below d20_ hb); have n4_ := A_ (KeepBut.trans d4_ (KeepBut.of_below hb g none) (.inl rfl)); have n5_ := A_ (below_step (have := GeI.mk (IsS77.ge HI0.out); bw_ HB.out) hb); have n6_ := A_ (hbox); have n7_ := A_ ((d54_ : w.heap.size ≤ gb436)); have n8_ := A_ ((Nat.le_trans HW0.out (d54_ : w.heap.size ≤ gb436) : w0.heap.size ≤ gb436)); have n9_ := A_ ((by rw [hg]; exact Nat.ne_of_lt (blk_lt (bk_ BK410.out)) : gb410 ≠ gb436)); have n10_ := A_ n9_.out.symm; have n11_ := A_ ((by rw [hg]; exact Nat.ne_of_lt (IsS77.lt (hI0_ : IsS77 w0 _ g s0_0 t434 t435)) : g ≠ gb436)); have n12_ := A_ ((by rw [hg]; exact Nat.ne_of_gt (IsS77.lt (hI0_ : IsS77 w0 _ g s0_0 t434 t435)) : gb436 ≠ g)); clear HO424; clear HO433; clear BK410; clear HI0; clear HK; clear HB; have HO424 := n0_; have HO433 := n1_; have BK410 := n2_; have HI0 := n3_; have HK := n4_; have HB := n5_; have BK436 := n6_; have GW436 := n7_; have GE436 := n8_; have GI436 := GeI.mk GE436.out; have NB410_436 := n9_; have NB436_410 := n10_; have NB0_436 := n11_; have NB436_0 := n12_; clear n0_ n1_ n2_ n3_ n4_ n5_ n6_ n7_ n8_ n9_ n10_ n11_ n12_; clear hb hbox hg; have hnb24 := NB436_410.out; have hnc24 := NB410_436.out; have hnb25 := NB436_0.out; have hnc25 := NB0_436.out; obtain ⟨y26_0, y26_1, y26_2, y26_3, z26_0, z26_1, z26_2, z26_3⟩ := cz4_ BK436.out; obtain ⟨Ao27, co27, eo27⟩ := Kd.N_slice HO433.out; subst eo27) | ((with_reducible refine gate_store (t := 29) (p := 8) rfl ?_); refine store_event (t := 29) (p := 8) (v := ?vo_w28) (w1 := ((((w23.setCell ⟨gb436, 0, none⟩ (.int .i64 t428)).setCell ⟨gb436, 1, none⟩ (.int .i64 t429)).setCell ⟨gb436, 2, none⟩ (.string t430)).setCell ⟨gb436, 3, none⟩ (.slice Ao27 t431.length co27))) ?hg ?ho ?hn ?hr ?_; (case ho => rfl); (case hg => rfl); (case hn => rfl); (case hr => first | (go_simp; done) | (go_simp; rfl)); intro w28 hw; have n0_ : Aside0 (Kd.R (Kd.int .i64) 3 w28 w.heap.size (fun k_ => (w.heap.size ≤ k_)) (.slice Ao20 y422.length co20) y422) := ⟨(by rw [hw]; exact (kr_ (Kd.R_mono (rf4_ (Kd.R_types HO424.out BK436.out (by decide)) (fun _ hk => hk.2)) (fun _ hk => hk.1.1))))⟩; have n1_ : Aside0 (Kd.N k29 29 w28 w.heap.size (fun k_ => (w.heap.size ≤ k_) ∧ some k_ ≠ (.slice Ao20 y422.length co20 : Value).ownBlock ∧ k_ ≠ gb410 ∧ k_ ≠ g ∧ k_ ≠ gb436) (.slice Ao27 t431.length co27) t431) := ⟨(by rw [hw]; exact (by (with_reducible repeat (first | apply Kd.N_alloc | apply Kd.N_drewN | apply Kd.N_drew)); exact Kd.N_mono (nf4_ (Kd.N_mono HO433.out (fun k_ hk => (⟨hk, hk.2⟩ : _ ∧ k_ ≠ gb436))) (fun _ hk => hk.2)) (fun _ hk => ⟨hk.1.1.1, ⟨hk.1.1.2.1, ⟨hk.1.1.2.2.1, ⟨hk.1.1.2.2.2, hk.1.2⟩⟩⟩⟩)))⟩; have n2_ : Aside0 (w28.heap[gb410]? = some (.cells #[.int .i64 0, .int .i64 0, .string (⟨#[]⟩ : ByteArray), .slice none 0 0] 29 (0, 0))) := ⟨(by rw [hw]; exact d35_)⟩; have n3_ : Aside0 (w28.heap[gb436]? = some (.cells #[.int .i64 t428, .int .i64 t429, .string t430, .slice Ao27 t431.length co27] 29 (0, 0))) := ⟨(by rw [hw]; exact (by exact bk_ (bp4_ (bk_ BK436.out))))⟩; have n4_ : Aside0 (IsS77 w0 w28 g s0_0 t434 t435) := ⟨(by rw [hw]; exact d25_)⟩; have n5_ : Aside0 (KeepBut w w28 g none) := ⟨(by rw [hw]; exact d15_)⟩; have n6_ : Aside0 (Below w0.heap.size w0 w28) := ⟨(by rw [hw]; exact (have := GeI.mk (IsS77.ge HI0.out); bw_ HB.out))⟩; clear hw; clear HO424; clear HO433; clear BK410; clear BK436; clear HI0; clear HK; clear HB; have HO424 := n0_; have HO433 := n1_; have BK410 := n2_; have BK436 := n3_; have HI0 := n4_; have HK := n5_; have HB := n6_; clear n0_ n1_ n2_ n3_ n4_ n5_ n6_; obtain ⟨y29_0, y29_1, y29_2, y29_3, z29_0, z29_1, z29_2, z29_3⟩ := cz4_ BK436.out) | ((with_reducible refine gate_dst (N := 31) rfl ?_); refine Kd.N_lit k29 _ 29 ?hg (N' := 31) ?hd (xs := ([(⟨t428, t429, t430, t431⟩ : S29)] : List (S29))) (inner := [.int .i64 t428, .int .i64 t429, .string t430, .slice Ao27 t431.length co27]) (ok := (fun k_ => (w.heap.size ≤ k_) ∧ some k_ ≠ (.slice Ao20 y422.length co20 : Value).ownBlock ∧ k_ ≠ gb410 ∧ k_ ≠ gb436 ∧ k_ ≠ g)) (okp := (fun k_ => (w.heap.size ≤ k_) ∧ some k_ ≠ (.slice Ao20 y422.length co20 : Value).ownBlock ∧ k_ ≠ gb410 ∧ k_ ≠ gb436 ∧ k_ ≠ g)) ?hr ?hp (fun _ hk => hk) ((show ∀ k_, w28.heap.size ≤ k_ → (fun k_ => (w.heap.size ≤ k_) ∧ some k_ ≠ (.slice Ao20 y422.length co20 : Value).ownBlock ∧ k_ ≠ gb410 ∧ k_ ≠ gb436 ∧ k_ ≠ g) k_ from fun k_ hk => ⟨(Nat.le_trans (keep_size (w := w) (g := g) (row := none) d15_) hk), Kd.fresh' (Kd.R_lt (kr_ HO424.out)) k_ hk, Kd.freshB (bk_ BK410.out) k_ hk, Kd.freshB (bk_ BK436.out) k_ hk, IsS77.fresh d25_ k_ hk⟩) _ (Nat.le_refl _)) (Below.refl _ _) (Nat.le_refl _) (by simp) ?_; (case hd => rfl); (case hg => rfl); (case hr => first | (go_simp; done) | (go_simp; rfl)); (case hp => exact (Reps.c4 (show Kd.FK k29 _ _ (⟨t428, t429, t430, t431⟩ : S29) [.int .i64 t428, .int .i64 t429, .string t430, .slice Ao27 t431.length co27] from (k29_mkF _ _ (⟨t428, t429, t430, t431⟩ : S29) (Kd.N_reads' (Kd.N_mono (ok' := (fun k_ => (w.heap.size ≤ k_) ∧ some k_ ≠ (.slice Ao20 y422.length co20 : Value).ownBlock ∧ k_ ≠ gb410 ∧ k_ ≠ gb436 ∧ k_ ≠ g)) (HO433.out) (fun k_ hk => ⟨hk.1, ⟨hk.2.1, ⟨hk.2.2.1, ⟨hk.2.2.2.2, hk.2.2.2.1⟩⟩⟩⟩))).2.1 (Kd.N_F (Kd.N_mono (ok' := (fun k_ => (w.heap.size ≤ k_) ∧ some k_ ≠ (.slice Ao20 y422.length co20 : Value).ownBlock ∧ k_ ≠ gb410 ∧ k_ ≠ gb436 ∧ k_ ≠ g)) (HO433.out) (fun k_ hk => ⟨hk.1, ⟨hk.2.1, ⟨hk.2.2.1, ⟨hk.2.2.2.2, hk.2.2.2.1⟩⟩⟩⟩))))) (Reps.none _ _))); intro v438 w30 ho31 hb hg_ hnew_; clear hg_ hnew_; (first | rw [← Ny437.out] at ho31 | (simp only [Int.reduceToNat] at ho31; rw [← Ny437.out] at ho31)); have n0_ := A_ (Kd.R_below (kr_ HO424.out) hb); have n1_ := A_ (Kd.N_lower ho31 (keep_size (w := w) (g := g) (row := none) d15_)); have n2_ := A_ (blk_below (bk_ BK410.out) hb); have n3_ := A_ (IsS77.below d25_ hb); have n4_ := A_ (blk_below (bk_ BK436.out) hb); have n5_ := A_ (KeepBut.trans d15_ (KeepBut.of_below hb g none) (.inl rfl)); have n6_ := A_ (below_step (have := GeI.mk (IsS77.ge HI0.out); bw_ HB.out) hb); clear HO424; clear BK410; clear HI0; clear BK436; clear HK; clear HB; clear HO433; have HO424 := n0_; have HO439 := n1_; have BK410 := n2_; have HI0 := n3_; have BK436 := n4_; have HK := n5_; have HB := n6_; clear n0_ n1_ n2_ n3_ n4_ n5_ n6_; clear hb ho31; obtain ⟨Ao32, co32, eo32⟩ := Kd.N_slice HO439.out; subst eo32; have hnb33 := NB410_0.out; have hnc33 := NB0_410.out; obtain ⟨y34_0, y34_1, y34_2, y34_3, z34_0, z34_1, z34_2, z34_3⟩ := cz4_ BK410.out))
     refine bodyPost_ret (results_cell_row rfl _ _ gb410 29 #[.int .i64 t425, .int .i64 0, .string (⟨#[]⟩ : ByteArray), .slice Ao32 y437.length co32] (0, 0) _ rfl ?hb_ Try.underlying29 rfl (by kernel_rfl)) rfl ?_
     (case hb_ => exact bk_ (bp4_ (bk_ BK410.out)))
     exact ⟨_, by first | rfl | (simp [errW_none, errW_some] <;> rfl) | (simp [*, errW_none, errW_some] <;> rfl), by (with_reducible repeat (first | apply Kd.N_alloc | apply Kd.N_drewN | apply Kd.N_drew)); exact Kd.N_mono (nf4_ (Kd.N_mono HO439.out (fun k_ hk => (⟨hk, hk.2.2.1⟩ : _ ∧ k_ ≠ gb410))) (fun _ hk => hk.2)) (fun _ hk => hk.1.1), hI0_, (have := GeI.mk (IsS77.ge HI0.out); bw_ HB.out), by repeat (first | (with_reducible first | exact HK.out | apply KeepBut.set_ | apply keep_drewN | apply keep_drew | apply keep_alloc | refine keep_far ?_ GW410.out _ | refine keep_far ?_ GW436.out _) | exact HK.out)⟩
    ·rw [if_neg c17] at H
     have c17b0 := beq_eq_false_iff_ne.mpr c17
     have c17b1 := bne_iff_ne.mpr c17
     replace H := Option.bind_eq_some_iff.mp H
     obtain ⟨⟨t440, t441, t442, t443, t446, t447⟩, A350, H⟩ := H
     try dsimp only at H
     have A35 := A_ A350
     clear A350
     obtain ⟨y449, hy449⟩ : ∃ y_ : List (S29), y_ = (([(⟨t428, t429, t430, t431⟩ : S29), (⟨t440, t441, t442, t443⟩ : S29)] : List (S29))) := ⟨_, rfl⟩
     replace H : (some (t425, 0, (⟨#[]⟩ : ByteArray), y449, t446, t447)) = some (r1, r2, r3, r4, r5, r6) := by first | (rw [hy449]; with_reducible exact H) | (have H2_ := (Option.bind_some _ _).symm.trans H; rw [hy449]; with_reducible exact H2_) | (have H2_ := (Option.bind_some _ _).symm.trans H; with_reducible exact H2_) | with_reducible exact H | (rw [hy449]; exact H) | exact H
     have Ny449 := A_ hy449
     clear hy449
     simp only [Option.some.injEq, Prod.mk.injEq] at H
     obtain ⟨rfl, rfl, rfl, rfl, rfl, rfl⟩ := H
     go_wp2_with (first | ((with_reducible refine gate_dst (N := 20) rfl ?_); refine Kd.R_lit (Kd.int .i64) _ 3 ?hg (N := 20) ?hd (xs := ([5, 5, 5, 6, 6, 4, 7, 8, 9, 10] : List Int)) (inner := [.int .i64 5, .int .i64 5, .int .i64 5, .int .i64 6, .int .i64 6, .int .i64 4, .int .i64 7, .int .i64 8, .int .i64 9, .int .i64 10]) (ok := fun _ => True) (okp := fun _ => True) ?hr ?hp (fun _ hk => hk) trivial (Below.refl _ _) (Nat.le_refl _) (by simp) ?_; (case hd => rfl); (case hg => rfl); (case hr => first | (go_simp; done) | (go_simp; rfl)); (case hp => exact (Reps.one (show Kd.M (Kd.int .i64) _ _ _ 5 [.int .i64 5] from rfl) (Reps.one (show Kd.M (Kd.int .i64) _ _ _ 5 [.int .i64 5] from rfl) (Reps.one (show Kd.M (Kd.int .i64) _ _ _ 5 [.int .i64 5] from rfl) (Reps.one (show Kd.M (Kd.int .i64) _ _ _ 6 [.int .i64 6] from rfl) (Reps.one (show Kd.M (Kd.int .i64) _ _ _ 6 [.int .i64 6] from rfl) (Reps.one (show Kd.M (Kd.int .i64) _ _ _ 4 [.int .i64 4] from rfl) (Reps.one (show Kd.M (Kd.int .i64) _ _ _ 7 [.int .i64 7] from rfl) (Reps.one (show Kd.M (Kd.int .i64) _ _ _ 8 [.int .i64 8] from rfl) (Reps.one (show Kd.M (Kd.int .i64) _ _ _ 9 [.int .i64 9] from rfl) (Reps.one (show Kd.M (Kd.int .i64) _ _ _ 10 [.int .i64 10] from rfl) (Reps.none _ _)))))))))))); intro v423 w36 ho37 hb hg_ hnew_; clear hg_ hnew_; (first | rw [← Ny422.out] at ho37 | (simp only [Int.reduceToNat] at ho37; rw [← Ny422.out] at ho37)); have HO424 := A_ (Kd.R_lower (Kd.R_newM (M := fun k_ => (w.heap.size ≤ k_)) ho37 (keep_size (w := w) (g := g) (row := none) d4_) (fun k_ h_ => h_)) (keep_size (w := w) (g := g) (row := none) d4_)); replace BK410 := A_ (blk_below (bk_ BK410.out) hb); replace HK := A_ (KeepBut.trans d4_ (KeepBut.of_below hb g none) (.inl rfl)); replace HB := A_ (below_step (have := GeI.mk (IsS77.ge HI0.out); bw_ HB.out) hb); replace HI0 := A_ (IsS77.below d20_ hb); clear hb ho37; obtain ⟨Ao38, co38, eo38⟩ := Kd.R_slice HO424.out; subst eo38) | ((with_reducible refine gate_callee (f := 66) rfl ?_); refine gL_ (some 21) Try.func66 #[.pointer (some ⟨g, 0, none⟩), .slice Ao38 y422.length co38] ?_; (with_reducible refine (spec_l1Int.calls g s0_0 x1001_3 x1002_3 _ _ y422 t425 t426 t427 w0 _ ?side1 ?side2 ?side3 ?side4 ?side5 A15.out).mono ?_); (case side1 => exact hI0_); (case side2 => exact (have := GeI.mk (IsS77.ge HI0.out); bw_ HB.out)); (case side3 => repeat (first | exact (Kd.R_reads' HO424.out).2.2 | (with_reducible refine Kd.C_alloc ?_ _) | (with_reducible refine Kd.C_drewN ?_ _) | (with_reducible refine Kd.C_drew ?_))); (case side4 => exact (Kd.R_reads' HO424.out).2.1); (case side5 => exact far_slice (IsS77.own_ne HI0.out HO424.out (by decide))); rintro e w39 ⟨rfl, hi, hb, hk⟩; refine ⟨_, rfl, ?_⟩; replace BK410 := A_ (KeepBut.blk hk (bk_ BK410.out) NB410_0.out (by simp)); replace HO424 := kI_ (hI0_ : IsS77 w0 _ g s0_0 x1001_3 x1002_3) hk HO424; replace HK := A_ (KeepBut.trans d4_ hk (.inl rfl)); replace HB := A_ (hb); replace HI0 := A_ (hi); clear hb hk hi) | ((with_reducible refine gate_callee (f := 61) rfl ?_); refine gL_ (some 26) Try.func61 #[.pointer (some ⟨g, 0, none⟩), .int .i64 (wrap64 (a1 - 1)), .bool a2] ?_; (with_reducible refine (ih kj3 (by have := HJ3.out; omega) g s0_0 t426 t427 (wrap64 (a1 - 1)) a2 t428 t429 t430 t431 t434 t435 w0 _ ?side1 ?side2 A16.out).mono ?_); (case side1 => exact hI0_); (case side2 => exact (have := GeI.mk (IsS77.ge HI0.out); bw_ HB.out)); rintro e w40 ⟨v432, rfl, ho0, hi, hb, hk⟩; refine ⟨_, rfl, ?_⟩; have HO433 := A_ (Kd.N_lower (Kd.N_mono (ok' := fun k_ => (w.heap.size ≤ k_) ∧ some k_ ≠ (.slice Ao38 y422.length co38 : Value).ownBlock ∧ k_ ≠ gb410 ∧ k_ ≠ g) ho0 (fun k_ hk_ => ⟨(Nat.le_trans (keep_size (w := w) (g := g) (row := none) d4_) hk_), (Kd.fresh' (Kd.R_lt (kr_ HO424.out)) k_ hk_), (Kd.freshB (bk_ BK410.out) k_ hk_), (IsS77.fresh d20_ k_ hk_)⟩)) (keep_size (w := w) (g := g) (row := none) d4_)); replace BK410 := A_ (KeepBut.blk hk (bk_ BK410.out) NB410_0.out (by simp)); replace HO424 := kI_ (hI0_ : IsS77 w0 _ g s0_0 t426 t427) hk HO424; replace HK := A_ (KeepBut.trans d4_ hk (.inl rfl)); replace HB := A_ (hb); replace HI0 := A_ (hi); clear hb hk hi; (try clear ho0)) | ((with_reducible refine gate_dst (N := 8) rfl ?_); refine bx_ 8 #[.int .i64 0, .int .i64 0, .string (⟨#[]⟩ : ByteArray), .slice none 0 0] 29 ?_; intro gb436 hg w41 hbox hb; have n0_ := A_ (Kd.R_below (kr_ HO424.out) hb); have n1_ := A_ (Kd.N_below (Kd.N_elderB d45_ gb436 (Nat.le_of_eq hg.symm)) hb); have n2_ := A_ (blk_below (bk_ BK410.out) hb); have n3_ := A_ (IsS77.below d20_ hb); have n4_ := A_ (KeepBut.trans d4_ (KeepBut.of_below hb g none) (.inl rfl)); have n5_ := A_ (below_step (have := GeI.mk (IsS77.ge HI0.out); bw_ HB.out) hb); have n6_ := A_ (hbox); have n7_ := A_ ((d54_ : w.heap.size ≤ gb436)); have n8_ := A_ ((Nat.le_trans HW0.out (d54_ : w.heap.size ≤ gb436) : w0.heap.size ≤ gb436)); have n9_ := A_ ((by rw [hg]; exact Nat.ne_of_lt (blk_lt (bk_ BK410.out)) : gb410 ≠ gb436)); have n10_ := A_ n9_.out.symm; have n11_ := A_ ((by rw [hg]; exact Nat.ne_of_lt (IsS77.lt (hI0_ : IsS77 w0 _ g s0_0 t434 t435)) : g ≠ gb436)); have n12_ := A_ ((by rw [hg]; exact Nat.ne_of_gt (IsS77.lt (hI0_ : IsS77 w0 _ g s0_0 t434 t435)) : gb436 ≠ g)); clear HO424; clear HO433; clear BK410; clear HI0; clear HK; clear HB; have HO424 := n0_; have HO433 := n1_; have BK410 := n2_; have HI0 := n3_; have HK := n4_; have HB := n5_; have BK436 := n6_; have GW436 := n7_; have GE436 := n8_; have GI436 := GeI.mk GE436.out; have NB410_436 := n9_; have NB436_410 := n10_; have NB0_436 := n11_; have NB436_0 := n12_; clear n0_ n1_ n2_ n3_ n4_ n5_ n6_ n7_ n8_ n9_ n10_ n11_ n12_; clear hb hbox hg; have hnb42 := NB436_410.out; have hnc42 := NB410_436.out; have hnb43 := NB436_0.out; have hnc43 := NB0_436.out; obtain ⟨y44_0, y44_1, y44_2, y44_3, z44_0, z44_1, z44_2, z44_3⟩ := cz4_ BK436.out; obtain ⟨Ao45, co45, eo45⟩ := Kd.N_slice HO433.out; subst eo45) | ((with_reducible refine gate_callee (f := 61) rfl ?_); refine gL_ (some 37) Try.func61 #[.pointer (some ⟨g, 0, none⟩), .int .i64 (wrap64 (a1 - 1)), .bool a2] ?_; (with_reducible refine (ih kj3 (by have := HJ3.out; omega) g s0_0 t434 t435 (wrap64 (a1 - 1)) a2 t440 t441 t442 t443 t446 t447 w0 _ ?side1 ?side2 A35.out).mono ?_); (case side1 => exact hI0_); (case side2 => exact (have := GeI.mk (IsS77.ge HI0.out); bw_ HB.out)); rintro e w46 ⟨v444, rfl, ho0, hi, hb, hk⟩; refine ⟨_, rfl, ?_⟩; have HO445 := A_ (Kd.N_lower (Kd.N_mono (ok' := fun k_ => (w.heap.size ≤ k_) ∧ some k_ ≠ (.slice Ao38 y422.length co38 : Value).ownBlock ∧ some k_ ≠ (.slice Ao45 t431.length co45 : Value).ownBlock ∧ k_ ≠ gb410 ∧ k_ ≠ gb436 ∧ k_ ≠ g) ho0 (fun k_ hk_ => ⟨(Nat.le_trans (keep_size (w := w) (g := g) (row := none) d15_) hk_), (Kd.fresh' (Kd.R_lt (kr_ (Kd.R_mono (rf4_ (Kd.R_types HO424.out BK436.out (by decide)) (fun _ hk => hk.2)) (fun _ h_ => h_.1)))) k_ hk_), (Kd.fresh' (Kd.N_lt (by (with_reducible repeat (first | apply Kd.N_alloc | apply Kd.N_drewN | apply Kd.N_drew)); exact (Kd.N_mono (nf4_ (Kd.N_mono HO433.out (fun k_ hk => (⟨hk, hk.2⟩ : _ ∧ k_ ≠ gb436))) (fun _ hk => hk.2)) (fun _ h_ => h_.1)))) k_ hk_), (Kd.freshB (g := gb410) (o := .cells #[.int .i64 0, .int .i64 0, .string (⟨#[]⟩ : ByteArray), .slice none 0 0] 29 (0, 0)) d35_ k_ hk_), (Kd.freshB (g := gb436) (o := .cells #[.int .i64 t428, .int .i64 t429, .string t430, .slice Ao45 t431.length co45] 29 (0, 0)) (by exact bk_ (bp4_ (bk_ BK436.out))) k_ hk_), (IsS77.fresh d25_ k_ hk_)⟩)) (keep_size (w := w) (g := g) (row := none) d15_)); replace BK410 := A_ (KeepBut.blk hk (g' := gb410) (o := .cells #[.int .i64 0, .int .i64 0, .string (⟨#[]⟩ : ByteArray), .slice none 0 0] 29 (0, 0)) d35_ NB410_0.out (by simp)); replace HO424 := A_ (Kd.R_mono (Kd.R_keep (IsS77.apart (hI0_ : IsS77 w0 _ g s0_0 t434 t435) (kr_ (Kd.R_mono (rf4_ (Kd.R_types HO424.out BK436.out (by decide)) (fun _ hk => hk.2)) (fun _ h_ => h_.1))) (by decide)) hk (fun _ h => h.2)) (fun _ h => h.1)); replace HO433 := A_ (Kd.N_mono (Kd.N_told (Kd.N_oldK (Kd.N_mono (ok := fun k_ => ((((w.heap.size ≤ k_)) ∧ (some k_ ≠ (.slice Ao38 y422.length co38 : Value).ownBlock ∧ (k_ ≠ gb410 ∧ k_ ≠ g))) ∧ k_ ≠ gb436)) (by (with_reducible repeat (first | apply Kd.N_alloc | apply Kd.N_drewN | apply Kd.N_drew)); exact (Kd.N_mono (nf4_ (Kd.N_mono HO433.out (fun k_ hk => (⟨hk, hk.2⟩ : _ ∧ k_ ≠ gb436))) (fun _ hk => hk.2)) (fun _ h_ => h_.1))) (fun k_ hk_ => (⟨hk_, hk_.1.2.2.2⟩ : _ ∧ k_ ≠ g))) hk) d50_) (fun _ h_ => h_.1)); replace BK436 := A_ (KeepBut.blk hk (g' := gb436) (o := .cells #[.int .i64 t428, .int .i64 t429, .string t430, .slice Ao45 t431.length co45] 29 (0, 0)) (by exact bk_ (bp4_ (bk_ BK436.out))) NB436_0.out (by simp)); replace HK := A_ (KeepBut.trans d15_ hk (.inl rfl)); replace HB := A_ (hb); replace HI0 := A_ (hi); clear hb hk hi; (try clear ho0)) | ((with_reducible refine gate_dst (N := 9) rfl ?_); refine bx_ 9 #[.int .i64 0, .int .i64 0, .string (⟨#[]⟩ : ByteArray), .slice none 0 0] 29 ?_; intro gb448 hg w47 hbox hb; have n0_ := A_ (Kd.R_below (kr_ HO424.out) hb); have n1_ := A_ (Kd.N_below (Kd.N_elderB d45_ gb448 (Nat.le_of_eq hg.symm)) hb); have n2_ := A_ (Kd.N_below (Kd.N_elderB (by (with_reducible repeat (first | apply Kd.N_alloc | apply Kd.N_drewN | apply Kd.N_drew)); exact HO445.out) gb448 (Nat.le_of_eq hg.symm)) hb); have n3_ := A_ (blk_below (bk_ BK410.out) hb); have n4_ := A_ (IsS77.below d25_ hb); have n5_ := A_ (blk_below (bk_ BK436.out) hb); have n6_ := A_ (KeepBut.trans d15_ (KeepBut.of_below hb g none) (.inl rfl)); have n7_ := A_ (below_step (have := GeI.mk (IsS77.ge HI0.out); bw_ HB.out) hb); have n8_ := A_ (hbox); have n9_ := A_ ((by rw [hg]; exact (keep_size (w := w) (g := g) (row := none) d15_) : w.heap.size ≤ gb448)); have n10_ := A_ ((Nat.le_trans HW0.out (by rw [hg]; exact (keep_size (w := w) (g := g) (row := none) d15_) : w.heap.size ≤ gb448) : w0.heap.size ≤ gb448)); have n11_ := A_ ((by rw [hg]; exact Nat.ne_of_lt (blk_lt (bk_ BK410.out)) : gb410 ≠ gb448)); have n12_ := A_ n11_.out.symm; have n13_ := A_ ((by rw [hg]; exact Nat.ne_of_lt (blk_lt (bk_ BK436.out)) : gb436 ≠ gb448)); have n14_ := A_ n13_.out.symm; have n15_ := A_ ((by rw [hg]; exact Nat.ne_of_lt (IsS77.lt (hI0_ : IsS77 w0 _ g s0_0 t446 t447)) : g ≠ gb448)); have n16_ := A_ ((by rw [hg]; exact Nat.ne_of_gt (IsS77.lt (hI0_ : IsS77 w0 _ g s0_0 t446 t447)) : gb448 ≠ g)); clear HO424; clear HO433; clear HO445; clear BK410; clear HI0; clear BK436; clear HK; clear HB; have HO424 := n0_; have HO433 := n1_; have HO445 := n2_; have BK410 := n3_; have HI0 := n4_; have BK436 := n5_; have HK := n6_; have HB := n7_; have BK448 := n8_; have GW448 := n9_; have GE448 := n10_; have GI448 := GeI.mk GE448.out; have NB410_448 := n11_; have NB448_410 := n12_; have NB436_448 := n13_; have NB448_436 := n14_; have NB0_448 := n15_; have NB448_0 := n16_; clear n0_ n1_ n2_ n3_ n4_ n5_ n6_ n7_ n8_ n9_ n10_ n11_ n12_ n13_ n14_ n15_ n16_; clear hb hbox hg; have hnb48 := NB448_410.out; have hnc48 := NB410_448.out; have hnb49 := NB448_436.out; have hnc49 := NB436_448.out; have hnb50 := NB448_0.out; have hnc50 := NB0_448.out; obtain ⟨y51_0, y51_1, y51_2, y51_3, z51_0, z51_1, z51_2, z51_3⟩ := cz4_ BK448.out; obtain ⟨Ao52, co52, eo52⟩ := Kd.N_slice HO445.out; subst eo52) | ((with_reducible refine gate_store (t := 29) (p := 9) rfl ?_); refine store_event (t := 29) (p := 9) (v := ?vo_w53) (w1 := ((((w47.setCell ⟨gb448, 0, none⟩ (.int .i64 t440)).setCell ⟨gb448, 1, none⟩ (.int .i64 t441)).setCell ⟨gb448, 2, none⟩ (.string t442)).setCell ⟨gb448, 3, none⟩ (.slice Ao52 t443.length co52))) ?hg ?ho ?hn ?hr ?_; (case ho => rfl); (case hg => rfl); (case hn => rfl); (case hr => first | (go_simp; done) | (go_simp; rfl)); intro w53 hw; have n0_ : Aside0 (Kd.R (Kd.int .i64) 3 w53 w.heap.size (fun k_ => (w.heap.size ≤ k_)) (.slice Ao38 y422.length co38) y422) := ⟨(by rw [hw]; exact (kr_ (Kd.R_mono (rf4_ (Kd.R_types HO424.out BK448.out (by decide)) (fun _ hk => hk.2)) (fun _ hk => hk.1.1))))⟩; have n1_ : Aside0 (Kd.N k29 29 w53 w.heap.size (fun k_ => (w.heap.size ≤ k_) ∧ some k_ ≠ (.slice Ao38 y422.length co38 : Value).ownBlock ∧ some k_ ≠ (.slice Ao52 t443.length co52 : Value).ownBlock ∧ k_ ≠ gb410 ∧ k_ ≠ g ∧ k_ ≠ gb436 ∧ k_ ≠ gb448) (.slice Ao45 t431.length co45) t431) := ⟨(by rw [hw]; exact (by (with_reducible repeat (first | apply Kd.N_alloc | apply Kd.N_drewN | apply Kd.N_drew)); exact Kd.N_mono (nf4_ (Kd.N_mono HO433.out (fun k_ hk => (⟨hk, hk.2⟩ : _ ∧ k_ ≠ gb448))) (fun _ hk => hk.2)) (fun _ hk => ⟨hk.1.1.1.1.1, ⟨hk.1.1.1.1.2.1, ⟨hk.1.1.2, ⟨hk.1.1.1.1.2.2.1, ⟨hk.1.1.1.1.2.2.2, ⟨hk.1.1.1.2, hk.1.2⟩⟩⟩⟩⟩⟩)))⟩; have n2_ : Aside0 (Kd.N k29 29 w53 w.heap.size (fun k_ => (w.heap.size ≤ k_) ∧ some k_ ≠ (.slice Ao38 y422.length co38 : Value).ownBlock ∧ some k_ ≠ (.slice Ao45 t431.length co45 : Value).ownBlock ∧ k_ ≠ gb410 ∧ k_ ≠ gb436 ∧ k_ ≠ g ∧ k_ ≠ gb448) (.slice Ao52 t443.length co52) t443) := ⟨(by rw [hw]; exact (by (with_reducible repeat (first | apply Kd.N_alloc | apply Kd.N_drewN | apply Kd.N_drew)); exact Kd.N_mono (nf4_ (Kd.N_mono HO445.out (fun k_ hk => (⟨hk, hk.2⟩ : _ ∧ k_ ≠ gb448))) (fun _ hk => hk.2)) (fun _ hk => ⟨hk.1.1.1, ⟨hk.1.1.2.1, ⟨hk.1.1.2.2.1, ⟨hk.1.1.2.2.2.1, ⟨hk.1.1.2.2.2.2.1, ⟨hk.1.1.2.2.2.2.2, hk.1.2⟩⟩⟩⟩⟩⟩)))⟩; have n3_ : Aside0 (w53.heap[gb410]? = some (.cells #[.int .i64 0, .int .i64 0, .string (⟨#[]⟩ : ByteArray), .slice none 0 0] 29 (0, 0))) := ⟨(by rw [hw]; exact (by refine bk_ ?_; refine blk_far ?_ NB410_448.out _; refine bk_ ?_; refine blk_far ?_ NB410_448.out _; refine bk_ ?_; refine blk_far ?_ NB410_448.out _; refine bk_ ?_; refine blk_far ?_ NB410_448.out _; refine bk_ ?_; exact BK410.out))⟩; have n4_ : Aside0 (w53.heap[gb436]? = some (.cells #[.int .i64 t428, .int .i64 t429, .string t430, .slice Ao45 t431.length co45] 29 (0, 0))) := ⟨(by rw [hw]; exact (by refine bk_ ?_; refine blk_far ?_ NB436_448.out _; refine bk_ ?_; refine blk_far ?_ NB436_448.out _; refine bk_ ?_; refine blk_far ?_ NB436_448.out _; refine bk_ ?_; refine blk_far ?_ NB436_448.out _; refine bk_ ?_; exact BK436.out))⟩; have n5_ : Aside0 (w53.heap[gb448]? = some (.cells #[.int .i64 t440, .int .i64 t441, .string t442, .slice Ao52 t443.length co52] 29 (0, 0))) := ⟨(by rw [hw]; exact (by exact bk_ (bp4_ (bk_ BK448.out))))⟩; have n6_ : Aside0 (IsS77 w0 w53 g s0_0 t446 t447) := ⟨(by rw [hw]; exact d32_)⟩; have n7_ : Aside0 (KeepBut w w53 g none) := ⟨(by rw [hw]; exact d29_)⟩; have n8_ : Aside0 (Below w0.heap.size w0 w53) := ⟨(by rw [hw]; exact (have := GeI.mk (IsS77.ge HI0.out); bw_ HB.out))⟩; clear hw; clear HO424; clear HO433; clear HO445; clear BK410; clear BK436; clear BK448; clear HI0; clear HK; clear HB; have HO424 := n0_; have HO433 := n1_; have HO445 := n2_; have BK410 := n3_; have BK436 := n4_; have BK448 := n5_; have HI0 := n6_; have HK := n7_; have HB := n8_; clear n0_ n1_ n2_ n3_ n4_ n5_ n6_ n7_ n8_; obtain ⟨y54_0, y54_1, y54_2, y54_3, z54_0, z54_1, z54_2, z54_3⟩ := cz4_ BK436.out; obtain ⟨y55_0, y55_1, y55_2, y55_3, z55_0, z55_1, z55_2, z55_3⟩ := cz4_ BK448.out) | ((with_reducible refine gate_dst (N := 41) rfl ?_); refine Kd.N_lit k29 _ 29 ?hg (N' := 41) ?hd (xs := ([(⟨t428, t429, t430, t431⟩ : S29), (⟨t440, t441, t442, t443⟩ : S29)] : List (S29))) (inner := [.int .i64 t428, .int .i64 t429, .string t430, .slice Ao45 t431.length co45, .int .i64 t440, .int .i64 t441, .string t442, .slice Ao52 t443.length co52]) (ok := (fun k_ => (w.heap.size ≤ k_) ∧ some k_ ≠ (.slice Ao38 y422.length co38 : Value).ownBlock ∧ k_ ≠ gb410 ∧ k_ ≠ gb436 ∧ k_ ≠ gb448 ∧ k_ ≠ g)) (okp := (fun k_ => (w.heap.size ≤ k_) ∧ some k_ ≠ (.slice Ao38 y422.length co38 : Value).ownBlock ∧ k_ ≠ gb410 ∧ k_ ≠ gb436 ∧ k_ ≠ gb448 ∧ k_ ≠ g)) ?hr ?hp (fun _ hk => hk) ((show ∀ k_, w53.heap.size ≤ k_ → (fun k_ => (w.heap.size ≤ k_) ∧ some k_ ≠ (.slice Ao38 y422.length co38 : Value).ownBlock ∧ k_ ≠ gb410 ∧ k_ ≠ gb436 ∧ k_ ≠ gb448 ∧ k_ ≠ g) k_ from fun k_ hk => ⟨(Nat.le_trans (keep_size (w := w) (g := g) (row := none) d29_) hk), Kd.fresh' (Kd.R_lt (kr_ HO424.out)) k_ hk, Kd.freshB (bk_ BK410.out) k_ hk, Kd.freshB (bk_ BK436.out) k_ hk, Kd.freshB (bk_ BK448.out) k_ hk, IsS77.fresh d32_ k_ hk⟩) _ (Nat.le_refl _)) (Below.refl _ _) (Nat.le_refl _) (by simp) ?_; (case hd => rfl); (case hg => rfl); (case hr => first | (go_simp; done) | (go_simp; rfl)); (case hp => exact (Reps.c4 (show Kd.FK k29 _ _ (⟨t428, t429, t430, t431⟩ : S29) [.int .i64 t428, .int .i64 t429, .string t430, .slice Ao45 t431.length co45] from (k29_mkF _ _ (⟨t428, t429, t430, t431⟩ : S29) (Kd.N_reads' (Kd.N_mono (ok' := (fun k_ => (w.heap.size ≤ k_) ∧ some k_ ≠ (.slice Ao38 y422.length co38 : Value).ownBlock ∧ k_ ≠ gb410 ∧ k_ ≠ gb436 ∧ k_ ≠ gb448 ∧ k_ ≠ g)) (HO433.out) (fun k_ hk => ⟨hk.1, ⟨hk.2.1, ⟨hk.2.2.2.1, ⟨hk.2.2.2.2.2.1, ⟨hk.2.2.2.2.2.2, hk.2.2.2.2.1⟩⟩⟩⟩⟩))).2.1 (Kd.N_F (Kd.N_mono (ok' := (fun k_ => (w.heap.size ≤ k_) ∧ some k_ ≠ (.slice Ao38 y422.length co38 : Value).ownBlock ∧ k_ ≠ gb410 ∧ k_ ≠ gb436 ∧ k_ ≠ gb448 ∧ k_ ≠ g)) (HO433.out) (fun k_ hk => ⟨hk.1, ⟨hk.2.1, ⟨hk.2.2.2.1, ⟨hk.2.2.2.2.2.1, ⟨hk.2.2.2.2.2.2, hk.2.2.2.2.1⟩⟩⟩⟩⟩))))) (Reps.c4 (show Kd.FK k29 _ _ (⟨t440, t441, t442, t443⟩ : S29) [.int .i64 t440, .int .i64 t441, .string t442, .slice Ao52 t443.length co52] from (k29_mkF _ _ (⟨t440, t441, t442, t443⟩ : S29) (Kd.N_reads' (Kd.N_mono (ok' := (fun k_ => (w.heap.size ≤ k_) ∧ some k_ ≠ (.slice Ao38 y422.length co38 : Value).ownBlock ∧ k_ ≠ gb410 ∧ k_ ≠ gb436 ∧ k_ ≠ gb448 ∧ k_ ≠ g)) (HO445.out) (fun k_ hk => ⟨hk.1, ⟨hk.2.1, ⟨hk.2.2.2.1, ⟨hk.2.2.2.2.1, ⟨hk.2.2.2.2.2.2, hk.2.2.2.2.2.1⟩⟩⟩⟩⟩))).2.1 (Kd.N_F (Kd.N_mono (ok' := (fun k_ => (w.heap.size ≤ k_) ∧ some k_ ≠ (.slice Ao38 y422.length co38 : Value).ownBlock ∧ k_ ≠ gb410 ∧ k_ ≠ gb436 ∧ k_ ≠ gb448 ∧ k_ ≠ g)) (HO445.out) (fun k_ hk => ⟨hk.1, ⟨hk.2.1, ⟨hk.2.2.2.1, ⟨hk.2.2.2.2.1, ⟨hk.2.2.2.2.2.2, hk.2.2.2.2.2.1⟩⟩⟩⟩⟩))))) (Reps.none _ _)))); intro v450 w56 ho57 hb hg_ hnew_; clear hg_ hnew_; (first | rw [← Ny449.out] at ho57 | (simp only [Int.reduceToNat] at ho57; rw [← Ny449.out] at ho57)); have n0_ := A_ (Kd.R_below (kr_ HO424.out) hb); have n1_ := A_ (Kd.N_lower ho57 (keep_size (w := w) (g := g) (row := none) d29_)); have n2_ := A_ (blk_below (bk_ BK410.out) hb); have n3_ := A_ (IsS77.below d32_ hb); have n4_ := A_ (blk_below (bk_ BK436.out) hb); have n5_ := A_ (blk_below (bk_ BK448.out) hb); have n6_ := A_ (KeepBut.trans d29_ (KeepBut.of_below hb g none) (.inl rfl)); have n7_ := A_ (below_step (have := GeI.mk (IsS77.ge HI0.out); bw_ HB.out) hb); clear HO424; clear BK410; clear HI0; clear BK436; clear BK448; clear HK; clear HB; clear HO433; clear HO445; have HO424 := n0_; have HO451 := n1_; have BK410 := n2_; have HI0 := n3_; have BK436 := n4_; have BK448 := n5_; have HK := n6_; have HB := n7_; clear n0_ n1_ n2_ n3_ n4_ n5_ n6_ n7_; clear hb ho57; obtain ⟨Ao58, co58, eo58⟩ := Kd.N_slice HO451.out; subst eo58; have hnb59 := NB410_0.out; have hnc59 := NB0_410.out; obtain ⟨y60_0, y60_1, y60_2, y60_3, z60_0, z60_1, z60_2, z60_3⟩ := cz4_ BK410.out))
     refine bodyPost_ret (results_cell_row rfl _ _ gb410 29 #[.int .i64 t425, .int .i64 0, .string (⟨#[]⟩ : ByteArray), .slice Ao58 y449.length co58] (0, 0) _ rfl ?hb_ Try.underlying29 rfl (by kernel_rfl)) rfl ?_
     (case hb_ => exact bk_ (bp4_ (bk_ BK410.out)))
     exact ⟨_, by first | rfl | (simp [errW_none, errW_some] <;> rfl) | (simp [*, errW_none, errW_some] <;> rfl), by (with_reducible repeat (first | apply Kd.N_alloc | apply Kd.N_drewN | apply Kd.N_drew)); exact Kd.N_mono (nf4_ (Kd.N_mono HO451.out (fun k_ hk => (⟨hk, hk.2.2.1⟩ : _ ∧ k_ ≠ gb410))) (fun _ hk => hk.2)) (fun _ hk => hk.1.1), hI0_, (have := GeI.mk (IsS77.ge HI0.out); bw_ HB.out), by repeat (first | (with_reducible first | exact HK.out | apply KeepBut.set_ | apply keep_drewN | apply keep_drew | apply keep_alloc | refine keep_far ?_ GW410.out _ | refine keep_far ?_ GW436.out _ | refine keep_far ?_ GW448.out _) | exact HK.out)⟩

/-! ### spec_l10Any: function 49 -/
def spec_l10Any.l0 : Nat → Int → List Int → Int → Int → Int → Int → ByteArray → List (S29) → Option (Int × Int × ByteArray × (List (S29)) × Int × Int)
 | 0, _, _, _, _, _, _, _, _ => none
 | k + 1, x4, x1000, x1001, x1002, x465000, x465001, x465002, x465003 => if x4 > 0 then (spec_l10Any.l0 k (wrap64 (x4 - 1)) x1000 x1001 x1002 4 0 (⟨#[]⟩ : ByteArray) (([(⟨x465000, x465001, x465002, x465003⟩ : S29)] : List (S29)))) else (some (x465000, x465001, x465002, x465003, x1001, x1002))
def spec_l10Any.f (k : Nat) (s0_0 : List Int) (s0_1 : Int) (s0_2 : Int) : Option (Int × Int × ByteArray × (List (S29)) × Int × Int) := (spec_l1Once.f s0_0 s0_1 s0_2 2).bind fun bt453 => ((spec_l10Draw.f k s0_0 bt453.2.1 bt453.2.2 3 bt453.1).bind fun bt456 => ((spec_l1Below.f s0_0 bt456.2.2.2.2.1 bt456.2.2.2.2.2 14).bind fun bt465 => (if bt465.1 = 0 then ((spec_l1Below.f s0_0 bt465.2.1 bt465.2.2 14).bind fun bt468 => (some (bt468.1, bt456.2.1, bt456.2.2.1, bt456.2.2.2.1, bt468.2.1, bt468.2.2))) else (if bt465.1 = 1 then ((spec_l1Int.f s0_0 bt465.2.1 bt465.2.2 (([(-1), 1, 65536] : List Int))).bind fun bt474 => (some (bt456.1, bt474.1, bt456.2.2.1, bt456.2.2.2.1, bt474.2.1, bt474.2.2))) else (if bt465.1 = 2 then ((spec_l1Str.f s0_0 bt465.2.1 bt465.2.2 (([(⟨#[]⟩ : ByteArray), (⟨#[97]⟩ : ByteArray), (⟨#[109, 111, 118]⟩ : ByteArray), (⟨#[65]⟩ : ByteArray)] : List ByteArray))).bind fun bt480 => (some (bt456.1, bt456.2.1, bt480.1, bt456.2.2.2.1, bt480.2.1, bt480.2.2))) else (if bt465.1 = 3 then ((spec_l1Below.f s0_0 bt465.2.1 bt465.2.2 7).bind fun bt483 => (spec_l10Any.l0 k bt483.1 s0_0 bt483.2.1 bt483.2.2 bt456.1 bt456.2.1 bt456.2.2.1 bt456.2.2.2.1)) else (some (bt456.1, bt456.2.1, bt456.2.2.1, bt456.2.2.2.1, bt465.2.1, bt465.2.2))))))))
theorem spec_l10Any.mono_l : ∀ k, (∀ y0 y1 y2 y3 y4 y5 y6 y7, LeO (spec_l10Any.l0 k y0 y1 y2 y3 y4 y5 y6 y7) (spec_l10Any.l0 (k + 1) y0 y1 y2 y3 y4 y5 y6 y7))
 | 0 => fun _ _ _ _ _ _ _ _ r h => by simp [spec_l10Any.l0] at h
 | k + 1 => by
  have ih0 := spec_l10Any.mono_l k
  ·intro y0 y1 y2 y3 y4 y5 y6 y7
   unfold spec_l10Any.l0
   repeat' first
   | (with_reducible exact ih0 _ _ _ _ _ _ _ _)
   | (with_reducible exact spec_l10Draw.mono _ _ _ _ _ _)
   | (with_reducible exact LeO.refl _)
   | (with_reducible exact LeO.none _)
   | (with_reducible refine LeO.ite ?_ ?_)
   | (with_reducible refine LeO.bind ?_ (fun _ => ?_))
   | exact ih0 _ _ _ _ _ _ _ _
   | exact spec_l10Draw.mono _ _ _ _ _ _
   | exact LeO.none _
   | refine LeO.ite ?_ ?_
   | refine LeO.bind ?_ (fun _ => ?_)
theorem spec_l10Any.mono : ∀ a0 a1 a2 k, LeO (spec_l10Any.f k a0 a1 a2) (spec_l10Any.f (k + 1) a0 a1 a2) := by
 intro a0 a1 a2 k
 have ih0 := spec_l10Any.mono_l k
 unfold spec_l10Any.f
 repeat' first
   | (with_reducible exact ih0 _ _ _ _ _ _ _ _)
   | (with_reducible exact spec_l10Draw.mono _ _ _ _ _ _)
   | (with_reducible exact LeO.refl _)
   | (with_reducible exact LeO.none _)
   | (with_reducible refine LeO.ite ?_ ?_)
   | (with_reducible refine LeO.bind ?_ (fun _ => ?_))
   | exact ih0 _ _ _ _ _ _ _ _
   | exact spec_l10Draw.mono _ _ _ _ _ _
   | exact LeO.none _
   | refine LeO.ite ?_ ?_
   | refine LeO.bind ?_ (fun _ => ?_)
set_option maxHeartbeats 8000000 in
set_option maxRecDepth 100000 in
theorem spec_l10Any.calls (k : Nat) (g : Nat) (s0_0 : List Int) (s0_1 : Int) (s0_2 : Int) (r1 : Int) (r2 : Int) (r3 : ByteArray) (r4 : List (S29)) (r5 : Int) (r6 : Int) (w0 w : World) (hI : IsS77 w0 w g s0_0 s0_1 s0_2) (hB : Below w0.heap.size w0 w) (h : spec_l10Any.f k s0_0 s0_1 s0_2 = some (r1, r2, r3, r4, r5, r6)) :
  Calls Try.prog 49 #[.pointer (some ⟨g, 0, none⟩)] w fun e w' => ∃ v3_ : Value, e = .returned (.agg #[.int .i64 r1, .int .i64 r2, .string r3, v3_]) ∧ Kd.N k29 29 w' w.heap.size (fun k_ => (w.heap.size ≤ k_)) v3_ r4 ∧ IsS77 w0 w' g s0_0 r5 r6 ∧ Below w0.heap.size w0 w' ∧ KeepBut w w' g none := by
 have hu29 := Try.underlying29
 have HI0 := A_ hI
 have HK := A_ (KeepBut.refl w g none)
 have HL := A_ hB.size
 clear hI
 have HW0 := A_ hB.size
 have HB := A_ hB
 clear hB
 have H : ((spec_l1Once.f s0_0 s0_1 s0_2 2).bind fun bt453 => ((spec_l10Draw.f k s0_0 bt453.2.1 bt453.2.2 3 bt453.1).bind fun bt456 => ((spec_l1Below.f s0_0 bt456.2.2.2.2.1 bt456.2.2.2.2.2 14).bind fun bt465 => (if bt465.1 = 0 then ((spec_l1Below.f s0_0 bt465.2.1 bt465.2.2 14).bind fun bt468 => (some (bt468.1, bt456.2.1, bt456.2.2.1, bt456.2.2.2.1, bt468.2.1, bt468.2.2))) else (if bt465.1 = 1 then ((spec_l1Int.f s0_0 bt465.2.1 bt465.2.2 (([(-1), 1, 65536] : List Int))).bind fun bt474 => (some (bt456.1, bt474.1, bt456.2.2.1, bt456.2.2.2.1, bt474.2.1, bt474.2.2))) else (if bt465.1 = 2 then ((spec_l1Str.f s0_0 bt465.2.1 bt465.2.2 (([(⟨#[]⟩ : ByteArray), (⟨#[97]⟩ : ByteArray), (⟨#[109, 111, 118]⟩ : ByteArray), (⟨#[65]⟩ : ByteArray)] : List ByteArray))).bind fun bt480 => (some (bt456.1, bt456.2.1, bt480.1, bt456.2.2.2.1, bt480.2.1, bt480.2.2))) else (if bt465.1 = 3 then ((spec_l1Below.f s0_0 bt465.2.1 bt465.2.2 7).bind fun bt483 => (spec_l10Any.l0 k bt483.1 s0_0 bt483.2.1 bt483.2.2 bt456.1 bt456.2.1 bt456.2.2.1 bt456.2.2.2.1)) else (some (bt456.1, bt456.2.1, bt456.2.2.1, bt456.2.2.2.1, bt465.2.1, bt465.2.2))))))))) = some (r1, r2, r3, r4, r5, r6) := h
 clear h
 replace H := Option.bind_eq_some_iff.mp H
 obtain ⟨⟨t453, t454, t455⟩, A20, H⟩ := H
 try dsimp only at H
 have A2 := A_ A20
 clear A20
 replace H := Option.bind_eq_some_iff.mp H
 obtain ⟨⟨t456, t457, t458, t459, t462, t463⟩, A30, H⟩ := H
 try dsimp only at H
 have A3 := A_ A30
 clear A30
 replace H := Option.bind_eq_some_iff.mp H
 obtain ⟨⟨t465, t466, t467⟩, A40, H⟩ := H
 try dsimp only at H
 have A4 := A_ A40
 clear A40
 by_cases c5 : t465 = 0
 ·rw [if_pos c5] at H
  have c5b0 := beq_iff_eq.mpr c5
  have c5b1 := bne_eq_false_iff_eq.mpr c5
  clear c5
  replace H := Option.bind_eq_some_iff.mp H
  obtain ⟨⟨t468, t469, t470⟩, A60, H⟩ := H
  try dsimp only at H
  have A6 := A_ A60
  clear A60
  simp only [Option.some.injEq, Prod.mk.injEq] at H
  obtain ⟨rfl, rfl, rfl, rfl, rfl, rfl⟩ := H
  go_enter Try.func49, Try.ntmps49
  go_wp2_with (first | ((with_reducible refine gate_dst (N := 2) rfl ?_); refine bx_ 2 #[.int .i64 0, .int .i64 0, .string (⟨#[]⟩ : ByteArray), .slice none 0 0] 29 ?_; intro gb452 hg w7 hbox hb; replace HB := A_ (below_step (have := GeI.mk (IsS77.ge HI0.out); bw_ HB.out) hb); have BK452 := A_ (hbox); have GW452 := A_ ((d52_ : w.heap.size ≤ gb452)); have GE452 := A_ ((Nat.le_trans HW0.out (d52_ : w.heap.size ≤ gb452) : w0.heap.size ≤ gb452)); replace HK := A_ (KeepBut.trans d2_ (KeepBut.of_below hb g none) (.inl rfl)); have NB0_452 := A_ ((d17_ : g ≠ gb452)); have NB452_0 := A_ ((d18_ : gb452 ≠ g)); replace HI0 := A_ (IsS77.below d19_ hb); have GI452 := GeI.mk GE452.out; clear hb hbox hg) | ((with_reducible refine gate_callee (f := 50) rfl ?_); refine gL_ (some 7) Try.func50 #[.pointer (some ⟨g, 0, none⟩), .int .i64 2] ?_; (with_reducible refine (spec_l1Once.calls g s0_0 s0_1 s0_2 2 t453 t454 t455 w0 _ ?side1 ?side2 A2.out).mono ?_); (case side1 => exact hI0_); (case side2 => exact (have := GeI.mk (IsS77.ge HI0.out); bw_ HB.out)); rintro e w8 ⟨rfl, hi, hb, hk⟩; refine ⟨_, rfl, ?_⟩; replace BK452 := A_ (KeepBut.blk hk (bk_ BK452.out) NB452_0.out (by simp)); replace HK := A_ (KeepBut.trans d1_ hk (.inl rfl)); replace HB := A_ (hb); replace HI0 := A_ (hi); clear hb hk hi) | ((with_reducible refine gate_callee (f := 61) rfl ?_); refine gL_ (some 8) Try.func61 #[.pointer (some ⟨g, 0, none⟩), .int .i64 3, .bool t453] ?_; (with_reducible refine (spec_l10Draw.calls k g s0_0 t454 t455 3 t453 t456 t457 t458 t459 t462 t463 w0 _ ?side1 ?side2 A3.out).mono ?_); (case side1 => exact hI0_); (case side2 => exact (have := GeI.mk (IsS77.ge HI0.out); bw_ HB.out)); rintro e w9 ⟨v460, rfl, ho0, hi, hb, hk⟩; refine ⟨_, rfl, ?_⟩; have HO461 := A_ (Kd.N_lower (Kd.N_mono (ok' := fun k_ => (w.heap.size ≤ k_) ∧ k_ ≠ gb452 ∧ k_ ≠ g) ho0 (fun k_ hk_ => ⟨(Nat.le_trans (keep_size (w := w) (g := g) (row := none) d1_) hk_), (Kd.freshB (bk_ BK452.out) k_ hk_), (IsS77.fresh d16_ k_ hk_)⟩)) (keep_size (w := w) (g := g) (row := none) d1_)); replace BK452 := A_ (KeepBut.blk hk (bk_ BK452.out) NB452_0.out (by simp)); replace HK := A_ (KeepBut.trans d1_ hk (.inl rfl)); replace HB := A_ (hb); replace HI0 := A_ (hi); clear hb hk hi; (try clear ho0)) | ((with_reducible refine gate_dst (N := 3) rfl ?_); refine bx_ 3 #[.int .i64 0, .int .i64 0, .string (⟨#[]⟩ : ByteArray), .slice none 0 0] 29 ?_; intro gb464 hg w10 hbox hb; have n0_ := A_ (Kd.N_below (Kd.N_elderB d24_ gb464 (Nat.le_of_eq hg.symm)) hb); have n1_ := A_ (IsS77.below d16_ hb); have n2_ := A_ (blk_below (bk_ BK452.out) hb); have n3_ := A_ (KeepBut.trans d1_ (KeepBut.of_below hb g none) (.inl rfl)); have n4_ := A_ (below_step (have := GeI.mk (IsS77.ge HI0.out); bw_ HB.out) hb); have n5_ := A_ (hbox); have n6_ := A_ ((d53_ : w.heap.size ≤ gb464)); have n7_ := A_ ((Nat.le_trans HW0.out (d53_ : w.heap.size ≤ gb464) : w0.heap.size ≤ gb464)); have n8_ := A_ ((d42_ : gb452 ≠ gb464)); have n9_ := A_ n8_.out.symm; have n10_ := A_ ((d21_ : g ≠ gb464)); have n11_ := A_ ((d22_ : gb464 ≠ g)); clear HO461; clear HI0; clear BK452; clear HK; clear HB; have HO461 := n0_; have HI0 := n1_; have BK452 := n2_; have HK := n3_; have HB := n4_; have BK464 := n5_; have GW464 := n6_; have GE464 := n7_; have GI464 := GeI.mk GE464.out; have NB452_464 := n8_; have NB464_452 := n9_; have NB0_464 := n10_; have NB464_0 := n11_; clear n0_ n1_ n2_ n3_ n4_ n5_ n6_ n7_ n8_ n9_ n10_ n11_; clear hb hbox hg; have hnb11 := NB464_452.out; have hnc11 := NB452_464.out; have hnb12 := NB464_0.out; have hnc12 := NB0_464.out; obtain ⟨y13_0, y13_1, y13_2, y13_3, z13_0, z13_1, z13_2, z13_3⟩ := cz4_ BK464.out; obtain ⟨Ao14, co14, eo14⟩ := Kd.N_slice HO461.out; subst eo14) | ((with_reducible refine gate_callee (f := 62) rfl ?_); refine gL_ (some 10) Try.func62 #[.pointer (some ⟨g, 0, none⟩), .int .i64 14] ?_; (with_reducible refine (spec_l1Below.calls g s0_0 t462 t463 14 t465 t466 t467 w0 _ ?side1 ?side2 A4.out).mono ?_); (case side1 => exact hI0_); (case side2 => exact (have := GeI.mk (IsS77.ge HI0.out); bw_ HB.out)); rintro e w15 ⟨rfl, hi, hb, hk⟩; refine ⟨_, rfl, ?_⟩; replace BK452 := A_ (KeepBut.blk hk (g' := gb452) (o := .cells #[.int .i64 0, .int .i64 0, .string (⟨#[]⟩ : ByteArray), .slice none 0 0] 29 (0, 0)) d26_ NB452_0.out (by simp)); replace HO461 := A_ (Kd.N_mono (Kd.N_keep (Kd.N_mono (ok := fun k_ => ((((w.heap.size ≤ k_)) ∧ (k_ ≠ gb452 ∧ k_ ≠ g)) ∧ k_ ≠ gb464)) d27_ (fun k_ hk_ => (⟨hk_, hk_.1.2.2⟩ : _ ∧ k_ ≠ g))) hk (fun _ h => h.2)) (fun _ h => h.1)); replace BK464 := A_ (KeepBut.blk hk (g' := gb464) (o := .cells #[.int .i64 t456, .int .i64 t457, .string t458, .slice Ao14 t459.length co14] 29 (0, 0)) d51_ NB464_0.out (by simp)); replace HK := A_ (KeepBut.trans d6_ hk (.inl rfl)); replace HB := A_ (hb); replace HI0 := A_ (hi); clear hb hk hi) | ((with_reducible refine gate_callee (f := 62) rfl ?_); refine gL_ (some 14) Try.func62 #[.pointer (some ⟨g, 0, none⟩), .int .i64 14] ?_; (with_reducible refine (spec_l1Below.calls g s0_0 t466 t467 14 t468 t469 t470 w0 _ ?side1 ?side2 A6.out).mono ?_); (case side1 => exact hI0_); (case side2 => exact (have := GeI.mk (IsS77.ge HI0.out); bw_ HB.out)); rintro e w16 ⟨rfl, hi, hb, hk⟩; refine ⟨_, rfl, ?_⟩; replace BK452 := A_ (KeepBut.blk hk (bk_ BK452.out) NB452_0.out (by simp)); replace HO461 := A_ (Kd.N_mono (Kd.N_keep (Kd.N_mono (ok := fun k_ => ((((w.heap.size ≤ k_)) ∧ (k_ ≠ gb452 ∧ k_ ≠ g)) ∧ k_ ≠ gb464)) d24_ (fun k_ hk_ => (⟨hk_, hk_.1.2.2⟩ : _ ∧ k_ ≠ g))) hk (fun _ h => h.2)) (fun _ h => h.1)); replace BK464 := A_ (KeepBut.blk hk (bk_ BK464.out) NB464_0.out (by simp)); replace HK := A_ (KeepBut.trans d6_ hk (.inl rfl)); replace HB := A_ (hb); replace HI0 := A_ (hi); clear hb hk hi; obtain ⟨y17_0, y17_1, y17_2, y17_3, z17_0, z17_1, z17_2, z17_3⟩ := cz4_ BK464.out; have hnb18 := NB452_0.out; have hnc18 := NB0_452.out; obtain ⟨y19_0, y19_1, y19_2, y19_3, z19_0, z19_1, z19_2, z19_3⟩ := cz4_ BK452.out))
  refine bodyPost_ret (results_cell_row rfl _ _ gb452 29 #[.int .i64 t468, .int .i64 t457, .string t458, .slice Ao14 t459.length co14] (0, 0) _ rfl ?hb_ Try.underlying29 rfl (by kernel_rfl)) rfl ?_
  (case hb_ => refine bk_ ?_; refine blk_put (cs := #[.int .i64 t468, .int .i64 t457, .string t458, .slice none 0 0]) ?_ 3 _ rfl; refine bk_ ?_; refine blk_put (cs := #[.int .i64 t468, .int .i64 t457, .string (⟨#[]⟩ : ByteArray), .slice none 0 0]) ?_ 2 _ rfl; refine bk_ ?_; refine blk_put (cs := #[.int .i64 t468, .int .i64 0, .string (⟨#[]⟩ : ByteArray), .slice none 0 0]) ?_ 1 _ rfl; refine bk_ ?_; refine blk_put (cs := #[.int .i64 0, .int .i64 0, .string (⟨#[]⟩ : ByteArray), .slice none 0 0]) ?_ 0 _ rfl; refine bk_ ?_; refine blk_far ?_ NB452_464.out _; refine bk_ ?_; exact BK452.out)
  exact ⟨_, by first | rfl | (simp [errW_none, errW_some] <;> rfl) | (simp [*, errW_none, errW_some] <;> rfl), by (with_reducible repeat (first | apply Kd.N_alloc | apply Kd.N_drewN | apply Kd.N_drew)); exact Kd.N_mono (nf4_ (Kd.N_far (p := ⟨gb464, 0, none⟩) (Kd.N_mono (Kd.N_mono HO461.out (fun k_ hk => (⟨hk, hk.2⟩ : _ ∧ k_ ≠ gb464))) (fun k_ hk => (⟨hk, hk.1.1.2.1⟩ : _ ∧ k_ ≠ gb452))) (fun _ hk => hk.1.2) (.int .i64 t468)) (fun _ hk => hk.2)) (fun _ hk => hk.1.1.1.1), hI0_, (have := GeI.mk (IsS77.ge HI0.out); bw_ HB.out), by repeat (first | (with_reducible first | exact HK.out | apply KeepBut.set_ | apply keep_drewN | apply keep_drew | apply keep_alloc | refine keep_far ?_ GW452.out _ | refine keep_far ?_ GW464.out _) | exact HK.out)⟩
 ·rw [if_neg c5] at H
  have c5b0 := beq_eq_false_iff_ne.mpr c5
  have c5b1 := bne_iff_ne.mpr c5
  by_cases c20 : t465 = 1
  ·rw [if_pos c20] at H
   have c20b0 := beq_iff_eq.mpr c20
   have c20b1 := bne_eq_false_iff_eq.mpr c20
   clear c20
   obtain ⟨y471, hy471⟩ : ∃ y_ : List Int, y_ = (([(-1), 1, 65536] : List Int)) := ⟨_, rfl⟩
   replace H : ((spec_l1Int.f s0_0 t466 t467 y471).bind fun bt474 => (some (t456, bt474.1, t458, t459, bt474.2.1, bt474.2.2))) = some (r1, r2, r3, r4, r5, r6) := by first | (rw [hy471]; with_reducible exact H) | (have H2_ := (Option.bind_some _ _).symm.trans H; rw [hy471]; with_reducible exact H2_) | (have H2_ := (Option.bind_some _ _).symm.trans H; with_reducible exact H2_) | with_reducible exact H | (rw [hy471]; exact H) | exact H
   have Ny471 := A_ hy471
   clear hy471
   replace H := Option.bind_eq_some_iff.mp H
   obtain ⟨⟨t474, t475, t476⟩, A210, H⟩ := H
   try dsimp only at H
   have A21 := A_ A210
   clear A210
   simp only [Option.some.injEq, Prod.mk.injEq] at H
   obtain ⟨rfl, rfl, rfl, rfl, rfl, rfl⟩ := H
   go_enter Try.func49, Try.ntmps49
   go_wp2_with (first | ((with_reducible refine gate_dst (N := 2) rfl ?_); refine bx_ 2 #[.int .i64 0, .int .i64 0, .string (⟨#[]⟩ : ByteArray), .slice none 0 0] 29 ?_; intro gb452 hg w22 hbox hb; replace HB := A_ (below_step (have := GeI.mk (IsS77.ge HI0.out); bw_ HB.out) hb); have BK452 := A_ (hbox); have GW452 := A_ ((d52_ : w.heap.size ≤ gb452)); have GE452 := A_ ((Nat.le_trans HW0.out (d52_ : w.heap.size ≤ gb452) : w0.heap.size ≤ gb452)); replace HK := A_ (KeepBut.trans d2_ (KeepBut.of_below hb g none) (.inl rfl)); have NB0_452 := A_ ((d17_ : g ≠ gb452)); have NB452_0 := A_ ((d18_ : gb452 ≠ g)); replace HI0 := A_ (IsS77.below d19_ hb); have GI452 := GeI.mk GE452.out; clear hb hbox hg) | ((with_reducible refine gate_callee (f := 50) rfl ?_); refine gL_ (some 7) Try.func50 #[.pointer (some ⟨g, 0, none⟩), .int .i64 2] ?_; (with_reducible refine (spec_l1Once.calls g s0_0 s0_1 s0_2 2 t453 t454 t455 w0 _ ?side1 ?side2 A2.out).mono ?_); (case side1 => exact hI0_); (case side2 => exact (have := GeI.mk (IsS77.ge HI0.out); bw_ HB.out)); rintro e w23 ⟨rfl, hi, hb, hk⟩; refine ⟨_, rfl, ?_⟩; replace BK452 := A_ (KeepBut.blk hk (bk_ BK452.out) NB452_0.out (by simp)); replace HK := A_ (KeepBut.trans d1_ hk (.inl rfl)); replace HB := A_ (hb); replace HI0 := A_ (hi); clear hb hk hi) | ((with_reducible refine gate_callee (f := 61) rfl ?_); refine gL_ (some 8) Try.func61 #[.pointer (some ⟨g, 0, none⟩), .int .i64 3, .bool t453] ?_; (with_reducible refine (spec_l10Draw.calls k g s0_0 t454 t455 3 t453 t456 t457 t458 t459 t462 t463 w0 _ ?side1 ?side2 A3.out).mono ?_); (case side1 => exact hI0_); (case side2 => exact (have := GeI.mk (IsS77.ge HI0.out); bw_ HB.out)); rintro e w24 ⟨v460, rfl, ho0, hi, hb, hk⟩; refine ⟨_, rfl, ?_⟩; have HO461 := A_ (Kd.N_lower (Kd.N_mono (ok' := fun k_ => (w.heap.size ≤ k_) ∧ k_ ≠ gb452 ∧ k_ ≠ g) ho0 (fun k_ hk_ => ⟨(Nat.le_trans (keep_size (w := w) (g := g) (row := none) d1_) hk_), (Kd.freshB (bk_ BK452.out) k_ hk_), (IsS77.fresh d16_ k_ hk_)⟩)) (keep_size (w := w) (g := g) (row := none) d1_)); replace BK452 := A_ (KeepBut.blk hk (bk_ BK452.out) NB452_0.out (by simp)); replace HK := A_ (KeepBut.trans d1_ hk (.inl rfl)); replace HB := A_ (hb); replace HI0 := A_ (hi); clear hb hk hi; (try clear ho0)) | ((with_reducible refine gate_dst (N := 3) rfl ?_); refine bx_ 3 #[.int .i64 0, .int .i64 0, .string (⟨#[]⟩ : ByteArray), .slice none 0 0] 29 ?_; intro gb464 hg w25 hbox hb; have n0_ := A_ (Kd.N_below (Kd.N_elderB d24_ gb464 (Nat.le_of_eq hg.symm)) hb); have n1_ := A_ (IsS77.below d16_ hb); have n2_ := A_ (blk_below (bk_ BK452.out) hb); have n3_ := A_ (KeepBut.trans d1_ (KeepBut.of_below hb g none) (.inl rfl)); have n4_ := A_ (below_step (have := GeI.mk (IsS77.ge HI0.out); bw_ HB.out) hb); have n5_ := A_ (hbox); have n6_ := A_ ((d53_ : w.heap.size ≤ gb464)); have n7_ := A_ ((Nat.le_trans HW0.out (d53_ : w.heap.size ≤ gb464) : w0.heap.size ≤ gb464)); have n8_ := A_ ((d42_ : gb452 ≠ gb464)); have n9_ := A_ n8_.out.symm; have n10_ := A_ ((d21_ : g ≠ gb464)); have n11_ := A_ ((d22_ : gb464 ≠ g)); clear HO461; clear HI0; clear BK452; clear HK; clear HB; have HO461 := n0_; have HI0 := n1_; have BK452 := n2_; have HK := n3_; have HB := n4_; have BK464 := n5_; have GW464 := n6_; have GE464 := n7_; have GI464 := GeI.mk GE464.out; have NB452_464 := n8_; have NB464_452 := n9_; have NB0_464 := n10_; have NB464_0 := n11_; clear n0_ n1_ n2_ n3_ n4_ n5_ n6_ n7_ n8_ n9_ n10_ n11_; clear hb hbox hg; have hnb26 := NB464_452.out; have hnc26 := NB452_464.out; have hnb27 := NB464_0.out; have hnc27 := NB0_464.out; obtain ⟨y28_0, y28_1, y28_2, y28_3, z28_0, z28_1, z28_2, z28_3⟩ := cz4_ BK464.out; obtain ⟨Ao29, co29, eo29⟩ := Kd.N_slice HO461.out; subst eo29) | ((with_reducible refine gate_callee (f := 62) rfl ?_); refine gL_ (some 10) Try.func62 #[.pointer (some ⟨g, 0, none⟩), .int .i64 14] ?_; (with_reducible refine (spec_l1Below.calls g s0_0 t462 t463 14 t465 t466 t467 w0 _ ?side1 ?side2 A4.out).mono ?_); (case side1 => exact hI0_); (case side2 => exact (have := GeI.mk (IsS77.ge HI0.out); bw_ HB.out)); rintro e w30 ⟨rfl, hi, hb, hk⟩; refine ⟨_, rfl, ?_⟩; replace BK452 := A_ (KeepBut.blk hk (g' := gb452) (o := .cells #[.int .i64 0, .int .i64 0, .string (⟨#[]⟩ : ByteArray), .slice none 0 0] 29 (0, 0)) d26_ NB452_0.out (by simp)); replace HO461 := A_ (Kd.N_mono (Kd.N_keep (Kd.N_mono (ok := fun k_ => ((((w.heap.size ≤ k_)) ∧ (k_ ≠ gb452 ∧ k_ ≠ g)) ∧ k_ ≠ gb464)) d27_ (fun k_ hk_ => (⟨hk_, hk_.1.2.2⟩ : _ ∧ k_ ≠ g))) hk (fun _ h => h.2)) (fun _ h => h.1)); replace BK464 := A_ (KeepBut.blk hk (g' := gb464) (o := .cells #[.int .i64 t456, .int .i64 t457, .string t458, .slice Ao29 t459.length co29] 29 (0, 0)) d51_ NB464_0.out (by simp)); replace HK := A_ (KeepBut.trans d6_ hk (.inl rfl)); replace HB := A_ (hb); replace HI0 := A_ (hi); clear hb hk hi) | ((with_reducible refine gate_dst (N := 19) rfl ?_); refine Kd.R_lit (Kd.int .i64) _ 3 ?hg (N := 19) ?hd (xs := ([(-1), 1, 65536] : List Int)) (inner := [.int .i64 (-1), .int .i64 1, .int .i64 65536]) (ok := fun _ => True) (okp := fun _ => True) ?hr ?hp (fun _ hk => hk) trivial (Below.refl _ _) (Nat.le_refl _) (by simp) ?_; (case hd => rfl); (case hg => rfl); (case hr => first | (go_simp; done) | (go_simp; rfl)); (case hp => exact (Reps.one (show Kd.M (Kd.int .i64) _ _ _ (-1) [.int .i64 (-1)] from rfl) (Reps.one (show Kd.M (Kd.int .i64) _ _ _ 1 [.int .i64 1] from rfl) (Reps.one (show Kd.M (Kd.int .i64) _ _ _ 65536 [.int .i64 65536] from rfl) (Reps.none _ _))))); intro v472 w31 ho32 hb hg_ hnew_; clear hg_ hnew_; (first | rw [← Ny471.out] at ho32 | (simp only [Int.reduceToNat] at ho32; rw [← Ny471.out] at ho32)); replace HO461 := A_ (Kd.N_elder' d24_ (Kd.R_base ho32) hb); have HO473 := A_ (Kd.R_lower (Kd.R_newM (M := fun k_ => (w.heap.size ≤ k_)) ho32 (keep_size (w := w) (g := g) (row := none) d6_) (fun k_ h_ => h_)) (keep_size (w := w) (g := g) (row := none) d6_)); replace BK452 := A_ (blk_below (bk_ BK452.out) hb); replace BK464 := A_ (blk_below (bk_ BK464.out) hb); replace HK := A_ (KeepBut.trans d6_ (KeepBut.of_below hb g none) (.inl rfl)); replace HB := A_ (below_step (have := GeI.mk (IsS77.ge HI0.out); bw_ HB.out) hb); replace HI0 := A_ (IsS77.below d30_ hb); clear hb ho32; obtain ⟨Ao33, co33, eo33⟩ := Kd.R_slice HO473.out; subst eo33) | ((with_reducible refine gate_callee (f := 66) rfl ?_); refine gL_ (some 20) Try.func66 #[.pointer (some ⟨g, 0, none⟩), .slice Ao33 y471.length co33] ?_; (with_reducible refine (spec_l1Int.calls g s0_0 t466 t467 _ _ y471 t474 t475 t476 w0 _ ?side1 ?side2 ?side3 ?side4 ?side5 A21.out).mono ?_); (case side1 => exact hI0_); (case side2 => exact (have := GeI.mk (IsS77.ge HI0.out); bw_ HB.out)); (case side3 => repeat (first | exact (Kd.R_reads' HO473.out).2.2 | (with_reducible refine Kd.C_alloc ?_ _) | (with_reducible refine Kd.C_drewN ?_ _) | (with_reducible refine Kd.C_drew ?_))); (case side4 => exact (Kd.R_reads' HO473.out).2.1); (case side5 => exact far_slice (IsS77.own_ne HI0.out HO473.out (by decide))); rintro e w34 ⟨rfl, hi, hb, hk⟩; refine ⟨_, rfl, ?_⟩; replace BK452 := A_ (KeepBut.blk hk (bk_ BK452.out) NB452_0.out (by simp)); replace HO461 := A_ (Kd.N_mono (Kd.N_keep (Kd.N_mono (ok := fun k_ => (((((w.heap.size ≤ k_)) ∧ (k_ ≠ gb452 ∧ k_ ≠ g)) ∧ k_ ≠ gb464) ∧ some k_ ≠ (.slice Ao33 y471.length co33 : Value).ownBlock)) d24_ (fun k_ hk_ => (⟨hk_, hk_.1.1.2.2⟩ : _ ∧ k_ ≠ g))) hk (fun _ h => h.2)) (fun _ h => h.1)); replace BK464 := A_ (KeepBut.blk hk (bk_ BK464.out) NB464_0.out (by simp)); replace HO473 := kI_ (hI0_ : IsS77 w0 _ g s0_0 t466 t467) hk HO473; replace HK := A_ (KeepBut.trans d6_ hk (.inl rfl)); replace HB := A_ (hb); replace HI0 := A_ (hi); clear hb hk hi; obtain ⟨y35_0, y35_1, y35_2, y35_3, z35_0, z35_1, z35_2, z35_3⟩ := cz4_ BK464.out; have hnb36 := NB452_0.out; have hnc36 := NB0_452.out; obtain ⟨y37_0, y37_1, y37_2, y37_3, z37_0, z37_1, z37_2, z37_3⟩ := cz4_ BK452.out))
   refine bodyPost_ret (results_cell_row rfl _ _ gb452 29 #[.int .i64 t456, .int .i64 t474, .string t458, .slice Ao29 t459.length co29] (0, 0) _ rfl ?hb_ Try.underlying29 rfl (by kernel_rfl)) rfl ?_
   (case hb_ => refine bk_ ?_; refine blk_put (cs := #[.int .i64 t456, .int .i64 t474, .string t458, .slice none 0 0]) ?_ 3 _ rfl; refine bk_ ?_; refine blk_put (cs := #[.int .i64 t456, .int .i64 t474, .string (⟨#[]⟩ : ByteArray), .slice none 0 0]) ?_ 2 _ rfl; refine bk_ ?_; refine blk_put (cs := #[.int .i64 t456, .int .i64 0, .string (⟨#[]⟩ : ByteArray), .slice none 0 0]) ?_ 1 _ rfl; refine bk_ ?_; refine blk_put (cs := #[.int .i64 0, .int .i64 0, .string (⟨#[]⟩ : ByteArray), .slice none 0 0]) ?_ 0 _ rfl; refine bk_ ?_; refine blk_far ?_ NB452_464.out _; refine bk_ ?_; exact BK452.out)
   exact ⟨_, by first | rfl | (simp [errW_none, errW_some] <;> rfl) | (simp [*, errW_none, errW_some] <;> rfl), by (with_reducible repeat (first | apply Kd.N_alloc | apply Kd.N_drewN | apply Kd.N_drew)); exact Kd.N_mono (nf4_ (Kd.N_far (p := ⟨gb464, 1, none⟩) (Kd.N_mono (Kd.N_mono HO461.out (fun k_ hk => (⟨hk, hk.1.2⟩ : _ ∧ k_ ≠ gb464))) (fun k_ hk => (⟨hk, hk.1.1.1.2.1⟩ : _ ∧ k_ ≠ gb452))) (fun _ hk => hk.1.2) (.int .i64 t474)) (fun _ hk => hk.2)) (fun _ hk => hk.1.1.1.1.1), hI0_, (have := GeI.mk (IsS77.ge HI0.out); bw_ HB.out), by repeat (first | (with_reducible first | exact HK.out | apply KeepBut.set_ | apply keep_drewN | apply keep_drew | apply keep_alloc | refine keep_far ?_ GW452.out _ | refine keep_far ?_ GW464.out _) | exact HK.out)⟩
  ·rw [if_neg c20] at H
   have c20b0 := beq_eq_false_iff_ne.mpr c20
   have c20b1 := bne_iff_ne.mpr c20
   by_cases c38 : t465 = 2
   ·rw [if_pos c38] at H
    have c38b0 := beq_iff_eq.mpr c38
    have c38b1 := bne_eq_false_iff_eq.mpr c38
    clear c38
    obtain ⟨y477, hy477⟩ : ∃ y_ : List ByteArray, y_ = (([(⟨#[]⟩ : ByteArray), (⟨#[97]⟩ : ByteArray), (⟨#[109, 111, 118]⟩ : ByteArray), (⟨#[65]⟩ : ByteArray)] : List ByteArray)) := ⟨_, rfl⟩
    replace H : ((spec_l1Str.f s0_0 t466 t467 y477).bind fun bt480 => (some (t456, t457, bt480.1, t459, bt480.2.1, bt480.2.2))) = some (r1, r2, r3, r4, r5, r6) := by first | (rw [hy477]; with_reducible exact H) | (have H2_ := (Option.bind_some _ _).symm.trans H; rw [hy477]; with_reducible exact H2_) | (have H2_ := (Option.bind_some _ _).symm.trans H; with_reducible exact H2_) | with_reducible exact H | (rw [hy477]; exact H) | exact H
    have Ny477 := A_ hy477
    clear hy477
    replace H := Option.bind_eq_some_iff.mp H
    obtain ⟨⟨t480, t481, t482⟩, A390, H⟩ := H
    try dsimp only at H
    have A39 := A_ A390
    clear A390
    simp only [Option.some.injEq, Prod.mk.injEq] at H
    obtain ⟨rfl, rfl, rfl, rfl, rfl, rfl⟩ := H
    go_enter Try.func49, Try.ntmps49
    go_wp2_with (first | ((with_reducible refine gate_dst (N := 2) rfl ?_); refine bx_ 2 #[.int .i64 0, .int .i64 0, .string (⟨#[]⟩ : ByteArray), .slice none 0 0] 29 ?_; intro gb452 hg w40 hbox hb; replace HB := A_ (below_step (have := GeI.mk (IsS77.ge HI0.out); bw_ HB.out) hb); have BK452 := A_ (hbox); have GW452 := A_ ((d52_ : w.heap.size ≤ gb452)); have GE452 := A_ ((Nat.le_trans HW0.out (d52_ : w.heap.size ≤ gb452) : w0.heap.size ≤ gb452)); replace HK := A_ (KeepBut.trans d2_ (KeepBut.of_below hb g none) (.inl rfl)); have NB0_452 := A_ ((d17_ : g ≠ gb452)); have NB452_0 := A_ ((d18_ : gb452 ≠ g)); replace HI0 := A_ (IsS77.below d19_ hb); have GI452 := GeI.mk GE452.out; clear hb hbox hg) | ((with_reducible refine gate_callee (f := 50) rfl ?_); refine gL_ (some 7) Try.func50 #[.pointer (some ⟨g, 0, none⟩), .int .i64 2] ?_; (with_reducible refine (spec_l1Once.calls g s0_0 s0_1 s0_2 2 t453 t454 t455 w0 _ ?side1 ?side2 A2.out).mono ?_); (case side1 => exact hI0_); (case side2 => exact (have := GeI.mk (IsS77.ge HI0.out); bw_ HB.out)); rintro e w41 ⟨rfl, hi, hb, hk⟩; refine ⟨_, rfl, ?_⟩; replace BK452 := A_ (KeepBut.blk hk (bk_ BK452.out) NB452_0.out (by simp)); replace HK := A_ (KeepBut.trans d1_ hk (.inl rfl)); replace HB := A_ (hb); replace HI0 := A_ (hi); clear hb hk hi) | ((with_reducible refine gate_callee (f := 61) rfl ?_); refine gL_ (some 8) Try.func61 #[.pointer (some ⟨g, 0, none⟩), .int .i64 3, .bool t453] ?_; (with_reducible refine (spec_l10Draw.calls k g s0_0 t454 t455 3 t453 t456 t457 t458 t459 t462 t463 w0 _ ?side1 ?side2 A3.out).mono ?_); (case side1 => exact hI0_); (case side2 => exact (have := GeI.mk (IsS77.ge HI0.out); bw_ HB.out)); rintro e w42 ⟨v460, rfl, ho0, hi, hb, hk⟩; refine ⟨_, rfl, ?_⟩; have HO461 := A_ (Kd.N_lower (Kd.N_mono (ok' := fun k_ => (w.heap.size ≤ k_) ∧ k_ ≠ gb452 ∧ k_ ≠ g) ho0 (fun k_ hk_ => ⟨(Nat.le_trans (keep_size (w := w) (g := g) (row := none) d1_) hk_), (Kd.freshB (bk_ BK452.out) k_ hk_), (IsS77.fresh d16_ k_ hk_)⟩)) (keep_size (w := w) (g := g) (row := none) d1_)); replace BK452 := A_ (KeepBut.blk hk (bk_ BK452.out) NB452_0.out (by simp)); replace HK := A_ (KeepBut.trans d1_ hk (.inl rfl)); replace HB := A_ (hb); replace HI0 := A_ (hi); clear hb hk hi; (try clear ho0)) | ((with_reducible refine gate_dst (N := 3) rfl ?_); refine bx_ 3 #[.int .i64 0, .int .i64 0, .string (⟨#[]⟩ : ByteArray), .slice none 0 0] 29 ?_; intro gb464 hg w43 hbox hb; have n0_ := A_ (Kd.N_below (Kd.N_elderB d24_ gb464 (Nat.le_of_eq hg.symm)) hb); have n1_ := A_ (IsS77.below d16_ hb); have n2_ := A_ (blk_below (bk_ BK452.out) hb); have n3_ := A_ (KeepBut.trans d1_ (KeepBut.of_below hb g none) (.inl rfl)); have n4_ := A_ (below_step (have := GeI.mk (IsS77.ge HI0.out); bw_ HB.out) hb); have n5_ := A_ (hbox); have n6_ := A_ ((d53_ : w.heap.size ≤ gb464)); have n7_ := A_ ((Nat.le_trans HW0.out (d53_ : w.heap.size ≤ gb464) : w0.heap.size ≤ gb464)); have n8_ := A_ ((d42_ : gb452 ≠ gb464)); have n9_ := A_ n8_.out.symm; have n10_ := A_ ((d21_ : g ≠ gb464)); have n11_ := A_ ((d22_ : gb464 ≠ g)); clear HO461; clear HI0; clear BK452; clear HK; clear HB; have HO461 := n0_; have HI0 := n1_; have BK452 := n2_; have HK := n3_; have HB := n4_; have BK464 := n5_; have GW464 := n6_; have GE464 := n7_; have GI464 := GeI.mk GE464.out; have NB452_464 := n8_; have NB464_452 := n9_; have NB0_464 := n10_; have NB464_0 := n11_; clear n0_ n1_ n2_ n3_ n4_ n5_ n6_ n7_ n8_ n9_ n10_ n11_; clear hb hbox hg; have hnb44 := NB464_452.out; have hnc44 := NB452_464.out; have hnb45 := NB464_0.out; have hnc45 := NB0_464.out; obtain ⟨y46_0, y46_1, y46_2, y46_3, z46_0, z46_1, z46_2, z46_3⟩ := cz4_ BK464.out; obtain ⟨Ao47, co47, eo47⟩ := Kd.N_slice HO461.out; subst eo47) | ((with_reducible refine gate_callee (f := 62) rfl ?_); refine gL_ (some 10) Try.func62 #[.pointer (some ⟨g, 0, none⟩), .int .i64 14] ?_; (with_reducible refine (spec_l1Below.calls g s0_0 t462 t463 14 t465 t466 t467 w0 _ ?side1 ?side2 A4.out).mono ?_); (case side1 => exact hI0_); (case side2 => exact (have := GeI.mk (IsS77.ge HI0.out); bw_ HB.out)); rintro e w48 ⟨rfl, hi, hb, hk⟩; refine ⟨_, rfl, ?_⟩; replace BK452 := A_ (KeepBut.blk hk (g' := gb452) (o := .cells #[.int .i64 0, .int .i64 0, .string (⟨#[]⟩ : ByteArray), .slice none 0 0] 29 (0, 0)) d26_ NB452_0.out (by simp)); replace HO461 := A_ (Kd.N_mono (Kd.N_keep (Kd.N_mono (ok := fun k_ => ((((w.heap.size ≤ k_)) ∧ (k_ ≠ gb452 ∧ k_ ≠ g)) ∧ k_ ≠ gb464)) d27_ (fun k_ hk_ => (⟨hk_, hk_.1.2.2⟩ : _ ∧ k_ ≠ g))) hk (fun _ h => h.2)) (fun _ h => h.1)); replace BK464 := A_ (KeepBut.blk hk (g' := gb464) (o := .cells #[.int .i64 t456, .int .i64 t457, .string t458, .slice Ao47 t459.length co47] 29 (0, 0)) d51_ NB464_0.out (by simp)); replace HK := A_ (KeepBut.trans d6_ hk (.inl rfl)); replace HB := A_ (hb); replace HI0 := A_ (hi); clear hb hk hi) | ((with_reducible refine gate_dst (N := 25) rfl ?_); refine Kd.R_lit Kd.string _ 9 ?hg (N := 25) ?hd (xs := ([(⟨#[]⟩ : ByteArray), (⟨#[97]⟩ : ByteArray), (⟨#[109, 111, 118]⟩ : ByteArray), (⟨#[65]⟩ : ByteArray)] : List ByteArray)) (inner := [.string (⟨#[]⟩ : ByteArray), .string (⟨#[97]⟩ : ByteArray), .string (⟨#[109, 111, 118]⟩ : ByteArray), .string (⟨#[65]⟩ : ByteArray)]) (ok := fun _ => True) (okp := fun _ => True) ?hr ?hp (fun _ hk => hk) trivial (Below.refl _ _) (Nat.le_refl _) (by simp) ?_; (case hd => rfl); (case hg => rfl); (case hr => first | (go_simp; done) | (go_simp; rfl)); (case hp => exact (Reps.one (show Kd.M Kd.string _ _ _ (⟨#[]⟩ : ByteArray) [.string (⟨#[]⟩ : ByteArray)] from rfl) (Reps.one (show Kd.M Kd.string _ _ _ (⟨#[97]⟩ : ByteArray) [.string (⟨#[97]⟩ : ByteArray)] from rfl) (Reps.one (show Kd.M Kd.string _ _ _ (⟨#[109, 111, 118]⟩ : ByteArray) [.string (⟨#[109, 111, 118]⟩ : ByteArray)] from rfl) (Reps.one (show Kd.M Kd.string _ _ _ (⟨#[65]⟩ : ByteArray) [.string (⟨#[65]⟩ : ByteArray)] from rfl) (Reps.none _ _)))))); intro v478 w49 ho50 hb hg_ hnew_; clear hg_ hnew_; (first | rw [← Ny477.out] at ho50 | (simp only [Int.reduceToNat] at ho50; rw [← Ny477.out] at ho50)); replace HO461 := A_ (Kd.N_elder' d24_ (Kd.R_base ho50) hb); have HO479 := A_ (Kd.R_lower (Kd.R_newM (M := fun k_ => (w.heap.size ≤ k_)) ho50 (keep_size (w := w) (g := g) (row := none) d6_) (fun k_ h_ => h_)) (keep_size (w := w) (g := g) (row := none) d6_)); replace BK452 := A_ (blk_below (bk_ BK452.out) hb); replace BK464 := A_ (blk_below (bk_ BK464.out) hb); replace HK := A_ (KeepBut.trans d6_ (KeepBut.of_below hb g none) (.inl rfl)); replace HB := A_ (below_step (have := GeI.mk (IsS77.ge HI0.out); bw_ HB.out) hb); replace HI0 := A_ (IsS77.below d30_ hb); clear hb ho50; obtain ⟨Ao51, co51, eo51⟩ := Kd.R_slice HO479.out; subst eo51) | ((with_reducible refine gate_callee (f := 72) rfl ?_); refine gL_ (some 26) Try.func72 #[.pointer (some ⟨g, 0, none⟩), .slice Ao51 y477.length co51] ?_; (with_reducible refine (spec_l1Str.calls g s0_0 t466 t467 _ _ y477 t480 t481 t482 w0 _ ?side1 ?side2 ?side3 ?side4 ?side5 A39.out).mono ?_); (case side1 => exact hI0_); (case side2 => exact (have := GeI.mk (IsS77.ge HI0.out); bw_ HB.out)); (case side3 => repeat (first | exact (Kd.R_reads' HO479.out).2.2 | (with_reducible refine Kd.C_alloc ?_ _) | (with_reducible refine Kd.C_drewN ?_ _) | (with_reducible refine Kd.C_drew ?_))); (case side4 => exact (Kd.R_reads' HO479.out).2.1); (case side5 => exact far_slice (IsS77.own_ne HI0.out HO479.out (by decide))); rintro e w52 ⟨rfl, hi, hb, hk⟩; refine ⟨_, rfl, ?_⟩; replace BK452 := A_ (KeepBut.blk hk (bk_ BK452.out) NB452_0.out (by simp)); replace HO461 := A_ (Kd.N_mono (Kd.N_keep (Kd.N_mono (ok := fun k_ => (((((w.heap.size ≤ k_)) ∧ (k_ ≠ gb452 ∧ k_ ≠ g)) ∧ k_ ≠ gb464) ∧ some k_ ≠ (.slice Ao51 y477.length co51 : Value).ownBlock)) d24_ (fun k_ hk_ => (⟨hk_, hk_.1.1.2.2⟩ : _ ∧ k_ ≠ g))) hk (fun _ h => h.2)) (fun _ h => h.1)); replace BK464 := A_ (KeepBut.blk hk (bk_ BK464.out) NB464_0.out (by simp)); replace HO479 := kI_ (hI0_ : IsS77 w0 _ g s0_0 t466 t467) hk HO479; replace HK := A_ (KeepBut.trans d6_ hk (.inl rfl)); replace HB := A_ (hb); replace HI0 := A_ (hi); clear hb hk hi; obtain ⟨y53_0, y53_1, y53_2, y53_3, z53_0, z53_1, z53_2, z53_3⟩ := cz4_ BK464.out; have hnb54 := NB452_0.out; have hnc54 := NB0_452.out; obtain ⟨y55_0, y55_1, y55_2, y55_3, z55_0, z55_1, z55_2, z55_3⟩ := cz4_ BK452.out))
    refine bodyPost_ret (results_cell_row rfl _ _ gb452 29 #[.int .i64 t456, .int .i64 t457, .string t480, .slice Ao47 t459.length co47] (0, 0) _ rfl ?hb_ Try.underlying29 rfl (by kernel_rfl)) rfl ?_
    (case hb_ => refine bk_ ?_; refine blk_put (cs := #[.int .i64 t456, .int .i64 t457, .string t480, .slice none 0 0]) ?_ 3 _ rfl; refine bk_ ?_; refine blk_put (cs := #[.int .i64 t456, .int .i64 t457, .string (⟨#[]⟩ : ByteArray), .slice none 0 0]) ?_ 2 _ rfl; refine bk_ ?_; refine blk_put (cs := #[.int .i64 t456, .int .i64 0, .string (⟨#[]⟩ : ByteArray), .slice none 0 0]) ?_ 1 _ rfl; refine bk_ ?_; refine blk_put (cs := #[.int .i64 0, .int .i64 0, .string (⟨#[]⟩ : ByteArray), .slice none 0 0]) ?_ 0 _ rfl; refine bk_ ?_; refine blk_far ?_ NB452_464.out _; refine bk_ ?_; exact BK452.out)
    exact ⟨_, by first | rfl | (simp [errW_none, errW_some] <;> rfl) | (simp [*, errW_none, errW_some] <;> rfl), by (with_reducible repeat (first | apply Kd.N_alloc | apply Kd.N_drewN | apply Kd.N_drew)); exact Kd.N_mono (nf4_ (Kd.N_far (p := ⟨gb464, 2, none⟩) (Kd.N_mono (Kd.N_mono HO461.out (fun k_ hk => (⟨hk, hk.1.2⟩ : _ ∧ k_ ≠ gb464))) (fun k_ hk => (⟨hk, hk.1.1.1.2.1⟩ : _ ∧ k_ ≠ gb452))) (fun _ hk => hk.1.2) (.string t480)) (fun _ hk => hk.2)) (fun _ hk => hk.1.1.1.1.1), hI0_, (have := GeI.mk (IsS77.ge HI0.out); bw_ HB.out), by repeat (first | (with_reducible first | exact HK.out | apply KeepBut.set_ | apply keep_drewN | apply keep_drew | apply keep_alloc | refine keep_far ?_ GW452.out _ | refine keep_far ?_ GW464.out _) | exact HK.out)⟩
   ·rw [if_neg c38] at H
    have c38b0 := beq_eq_false_iff_ne.mpr c38
    have c38b1 := bne_iff_ne.mpr c38
    by_cases c56 : t465 = 3
    ·rw [if_pos c56] at H
     have c56b0 := beq_iff_eq.mpr c56
     have c56b1 := bne_eq_false_iff_eq.mpr c56
     clear c56
     replace H := Option.bind_eq_some_iff.mp H
     obtain ⟨⟨t483, t484, t485⟩, A570, H⟩ := H
     try dsimp only at H
     have A57 := A_ A570
     clear A570
     have H' := A_ H
     clear H
     go_enter Try.func49, Try.ntmps49
     go_wp2_with (first | ((with_reducible refine gate_dst (N := 2) rfl ?_); refine bx_ 2 #[.int .i64 0, .int .i64 0, .string (⟨#[]⟩ : ByteArray), .slice none 0 0] 29 ?_; intro gb452 hg w58 hbox hb; replace HB := A_ (below_step (have := GeI.mk (IsS77.ge HI0.out); bw_ HB.out) hb); have BK452 := A_ (hbox); have GW452 := A_ ((d52_ : w.heap.size ≤ gb452)); have GE452 := A_ ((Nat.le_trans HW0.out (d52_ : w.heap.size ≤ gb452) : w0.heap.size ≤ gb452)); replace HK := A_ (KeepBut.trans d2_ (KeepBut.of_below hb g none) (.inl rfl)); have NB0_452 := A_ ((d17_ : g ≠ gb452)); have NB452_0 := A_ ((d18_ : gb452 ≠ g)); replace HI0 := A_ (IsS77.below d19_ hb); have GI452 := GeI.mk GE452.out; clear hb hbox hg) | ((with_reducible refine gate_callee (f := 50) rfl ?_); refine gL_ (some 7) Try.func50 #[.pointer (some ⟨g, 0, none⟩), .int .i64 2] ?_; (with_reducible refine (spec_l1Once.calls g s0_0 s0_1 s0_2 2 t453 t454 t455 w0 _ ?side1 ?side2 A2.out).mono ?_); (case side1 => exact hI0_); (case side2 => exact (have := GeI.mk (IsS77.ge HI0.out); bw_ HB.out)); rintro e w59 ⟨rfl, hi, hb, hk⟩; refine ⟨_, rfl, ?_⟩; replace BK452 := A_ (KeepBut.blk hk (bk_ BK452.out) NB452_0.out (by simp)); replace HK := A_ (KeepBut.trans d1_ hk (.inl rfl)); replace HB := A_ (hb); replace HI0 := A_ (hi); clear hb hk hi) | ((with_reducible refine gate_callee (f := 61) rfl ?_); refine gL_ (some 8) Try.func61 #[.pointer (some ⟨g, 0, none⟩), .int .i64 3, .bool t453] ?_; (with_reducible refine (spec_l10Draw.calls k g s0_0 t454 t455 3 t453 t456 t457 t458 t459 t462 t463 w0 _ ?side1 ?side2 A3.out).mono ?_); (case side1 => exact hI0_); (case side2 => exact (have := GeI.mk (IsS77.ge HI0.out); bw_ HB.out)); rintro e w60 ⟨v460, rfl, ho0, hi, hb, hk⟩; refine ⟨_, rfl, ?_⟩; have HO461 := A_ (Kd.N_lower (Kd.N_mono (ok' := fun k_ => (w.heap.size ≤ k_) ∧ k_ ≠ gb452 ∧ k_ ≠ g) ho0 (fun k_ hk_ => ⟨(Nat.le_trans (keep_size (w := w) (g := g) (row := none) d1_) hk_), (Kd.freshB (bk_ BK452.out) k_ hk_), (IsS77.fresh d16_ k_ hk_)⟩)) (keep_size (w := w) (g := g) (row := none) d1_)); replace BK452 := A_ (KeepBut.blk hk (bk_ BK452.out) NB452_0.out (by simp)); replace HK := A_ (KeepBut.trans d1_ hk (.inl rfl)); replace HB := A_ (hb); replace HI0 := A_ (hi); clear hb hk hi; (try clear ho0)) | ((with_reducible refine gate_dst (N := 3) rfl ?_); refine bx_ 3 #[.int .i64 0, .int .i64 0, .string (⟨#[]⟩ : ByteArray), .slice none 0 0] 29 ?_; intro gb464 hg w61 hbox hb; have n0_ := A_ (Kd.N_below (Kd.N_elderB d24_ gb464 (Nat.le_of_eq hg.symm)) hb); have n1_ := A_ (IsS77.below d16_ hb); have n2_ := A_ (blk_below (bk_ BK452.out) hb); have n3_ := A_ (KeepBut.trans d1_ (KeepBut.of_below hb g none) (.inl rfl)); have n4_ := A_ (below_step (have := GeI.mk (IsS77.ge HI0.out); bw_ HB.out) hb); have n5_ := A_ (hbox); have n6_ := A_ ((d53_ : w.heap.size ≤ gb464)); have n7_ := A_ ((Nat.le_trans HW0.out (d53_ : w.heap.size ≤ gb464) : w0.heap.size ≤ gb464)); have n8_ := A_ ((d42_ : gb452 ≠ gb464)); have n9_ := A_ n8_.out.symm; have n10_ := A_ ((d21_ : g ≠ gb464)); have n11_ := A_ ((d22_ : gb464 ≠ g)); clear HO461; clear HI0; clear BK452; clear HK; clear HB; have HO461 := n0_; have HI0 := n1_; have BK452 := n2_; have HK := n3_; have HB := n4_; have BK464 := n5_; have GW464 := n6_; have GE464 := n7_; have GI464 := GeI.mk GE464.out; have NB452_464 := n8_; have NB464_452 := n9_; have NB0_464 := n10_; have NB464_0 := n11_; clear n0_ n1_ n2_ n3_ n4_ n5_ n6_ n7_ n8_ n9_ n10_ n11_; clear hb hbox hg; have hnb62 := NB464_452.out; have hnc62 := NB452_464.out; have hnb63 := NB464_0.out; have hnc63 := NB0_464.out; obtain ⟨y64_0, y64_1, y64_2, y64_3, z64_0, z64_1, z64_2, z64_3⟩ := cz4_ BK464.out; obtain ⟨Ao65, co65, eo65⟩ := Kd.N_slice HO461.out; subst eo65) | ((with_reducible refine gate_callee (f := 62) rfl ?_); refine gL_ (some 10) Try.func62 #[.pointer (some ⟨g, 0, none⟩), .int .i64 14] ?_; (with_reducible refine (spec_l1Below.calls g s0_0 t462 t463 14 t465 t466 t467 w0 _ ?side1 ?side2 A4.out).mono ?_); (case side1 => exact hI0_); (case side2 => exact (have := GeI.mk (IsS77.ge HI0.out); bw_ HB.out)); rintro e w66 ⟨rfl, hi, hb, hk⟩; refine ⟨_, rfl, ?_⟩; replace BK452 := A_ (KeepBut.blk hk (g' := gb452) (o := .cells #[.int .i64 0, .int .i64 0, .string (⟨#[]⟩ : ByteArray), .slice none 0 0] 29 (0, 0)) d26_ NB452_0.out (by simp)); replace HO461 := A_ (Kd.N_mono (Kd.N_keep (Kd.N_mono (ok := fun k_ => ((((w.heap.size ≤ k_)) ∧ (k_ ≠ gb452 ∧ k_ ≠ g)) ∧ k_ ≠ gb464)) d27_ (fun k_ hk_ => (⟨hk_, hk_.1.2.2⟩ : _ ∧ k_ ≠ g))) hk (fun _ h => h.2)) (fun _ h => h.1)); replace BK464 := A_ (KeepBut.blk hk (g' := gb464) (o := .cells #[.int .i64 t456, .int .i64 t457, .string t458, .slice Ao65 t459.length co65] 29 (0, 0)) d51_ NB464_0.out (by simp)); replace HK := A_ (KeepBut.trans d6_ hk (.inl rfl)); replace HB := A_ (hb); replace HI0 := A_ (hi); clear hb hk hi) | ((with_reducible refine gate_callee (f := 62) rfl ?_); refine gL_ (some 31) Try.func62 #[.pointer (some ⟨g, 0, none⟩), .int .i64 7] ?_; (with_reducible refine (spec_l1Below.calls g s0_0 t466 t467 7 t483 t484 t485 w0 _ ?side1 ?side2 A57.out).mono ?_); (case side1 => exact hI0_); (case side2 => exact (have := GeI.mk (IsS77.ge HI0.out); bw_ HB.out)); rintro e w67 ⟨rfl, hi, hb, hk⟩; refine ⟨_, rfl, ?_⟩; replace BK452 := A_ (KeepBut.blk hk (bk_ BK452.out) NB452_0.out (by simp)); replace HO461 := A_ (Kd.N_mono (Kd.N_keep (Kd.N_mono (ok := fun k_ => ((((w.heap.size ≤ k_)) ∧ (k_ ≠ gb452 ∧ k_ ≠ g)) ∧ k_ ≠ gb464)) d24_ (fun k_ hk_ => (⟨hk_, hk_.1.2.2⟩ : _ ∧ k_ ≠ g))) hk (fun _ h => h.2)) (fun _ h => h.1)); replace BK464 := A_ (KeepBut.blk hk (bk_ BK464.out) NB464_0.out (by simp)); replace HK := A_ (KeepBut.trans d6_ hk (.inl rfl)); replace HB := A_ (hb); replace HI0 := A_ (hi); clear hb hk hi))
     go_loopg [4] k (fun kq v4 w' => ∃ (x4_1 : Int) (x465000_1 : Int) (x465001_1 : Int) (x465002_1 : ByteArray) (x465003_1 : List (S29)) (u465003 : Value), v4 = .int .i64 x4_1 ∧ Aside0 (spec_l10Any.l0 kq x4_1 s0_0 t484 t485 x465000_1 x465001_1 x465002_1 x465003_1 = some (r1, r2, r3, r4, r5, r6)) ∧ Aside0 (kq ≤ k) ∧ Aside0 (Kd.N k29 29 w' w.heap.size (fun k_ => (w.heap.size ≤ k_) ∧ k_ ≠ gb452 ∧ k_ ≠ gb464 ∧ k_ ≠ g) u465003 x465003_1) ∧ Aside0 (w'.heap[gb452]? = some (.cells #[.int .i64 0, .int .i64 0, .string (⟨#[]⟩ : ByteArray), (.slice none 0 0)] 29 (0, 0))) ∧ Aside0 (w'.heap[gb464]? = some (.cells #[.int .i64 x465000_1, .int .i64 x465001_1, .string x465002_1, u465003] 29 (0, 0))) ∧ Aside0 (IsS77 w0 w' g s0_0 t484 t485) ∧ Aside0 (KeepBut w w' g none) ∧ Aside0 (Below w0.heap.size w0 w'))
     case atStart => exact ⟨(t483), (t456), (t457), (t458), (t459), (.slice Ao65 t459.length co65), d7_, H', ⟨Nat.le_refl _⟩, ⟨by (with_reducible repeat (first | apply Kd.N_alloc | apply Kd.N_drewN | apply Kd.N_drew)); exact Kd.N_mono HO461.out (fun _ hk => ⟨hk.1.1, ⟨hk.1.2.1, ⟨hk.2, hk.1.2.2⟩⟩⟩)⟩, ⟨by refine bk_ ?_; exact BK452.out⟩, ⟨by refine bk_ ?_; exact BK464.out⟩, ⟨hI0_⟩, ⟨by repeat (first | (with_reducible first | exact HK.out | apply KeepBut.set_ | apply keep_drewN | apply keep_drew | apply keep_alloc | refine keep_far ?_ GW452.out _ | refine keep_far ?_ GW464.out _) | exact HK.out)⟩, ⟨(have := GeI.mk (IsS77.ge HI0.out); bw_ HB.out)⟩⟩
     case round =>
      clear H'
      try clear c1
      try clear c2
      try clear p2
      try clear c3
      try clear c4
      try clear c5
      try clear c5b0
      try clear c5b1
      try clear c6
      try clear c7
      try clear c11
      try clear c12
      try clear c18
      try clear c20
      try clear c20b0
      try clear c20b1
      try clear c26
      try clear c27
      try clear c36
      try clear c38
      try clear c38b0
      try clear c38b1
      try clear c44
      try clear c45
      try clear c49
      try clear c50
      try clear c54
      try clear c56
      try clear c56b0
      try clear c56b1
      try clear c61
      try clear c62
      try clear c63
      try clear c66
      try clear y13_0 y13_1 y13_2 y13_3 z13_0 z13_1 z13_2 z13_3
      try clear y17_0 y17_1 y17_2 y17_3 z17_0 z17_1 z17_2 z17_3
      try clear y19_0 y19_1 y19_2 y19_3 z19_0 z19_1 z19_2 z19_3
      try clear y28_0 y28_1 y28_2 y28_3 z28_0 z28_1 z28_2 z28_3
      try clear y35_0 y35_1 y35_2 y35_3 z35_0 z35_1 z35_2 z35_3
      try clear y37_0 y37_1 y37_2 y37_3 z37_0 z37_1 z37_2 z37_3
      try clear y46_0 y46_1 y46_2 y46_3 z46_0 z46_1 z46_2 z46_3
      try clear y53_0 y53_1 y53_2 y53_3 z53_0 z53_1 z53_2 z53_3
      try clear y55_0 y55_1 y55_2 y55_3 z55_0 z55_1 z55_2 z55_3
      try clear y64_0 y64_1 y64_2 y64_3 z64_0 z64_1 z64_2 z64_3
      obtain ⟨x4_1, x465000_1, x465001_1, x465002_1, x465003_1, u465003, rfl, HA, HK1, HO_465003, BK452, BK464, HI0, HK, HB⟩ := hrel
      cases gk with
      | zero => exact absurd HA.out (by simp [spec_l10Any.l0])
      | succ k1 =>
       have H := HA.out
       clear HA
       simp only [spec_l10Any.l0] at H
       by_cases c68 : x4_1 > 0
       ·rw [if_pos c68] at H
        have c68b0 := decide_eq_true c68
        clear c68
        obtain ⟨y486, hy486⟩ : ∃ y_ : List (S29), y_ = (([(⟨x465000_1, x465001_1, x465002_1, x465003_1⟩ : S29)] : List (S29))) := ⟨_, rfl⟩
        replace H : (spec_l10Any.l0 k1 (wrap64 (x4_1 - 1)) s0_0 t484 t485 4 0 (⟨#[]⟩ : ByteArray) y486) = some (r1, r2, r3, r4, r5, r6) := by first | (rw [hy486]; with_reducible exact H) | (have H2_ := (Option.bind_some _ _).symm.trans H; rw [hy486]; with_reducible exact H2_) | (have H2_ := (Option.bind_some _ _).symm.trans H; with_reducible exact H2_) | with_reducible exact H | (rw [hy486]; exact H) | exact H
        have Ny486 := A_ hy486
        clear hy486
        have H' := A_ H
        clear H
        have hnb69 := NB464_452.out
        have hnc69 := NB452_464.out
        have hnb70 := NB464_0.out
        have hnc70 := NB0_464.out
        obtain ⟨y71_0, y71_1, y71_2, y71_3, z71_0, z71_1, z71_2, z71_3⟩ := cz4_ BK464.out
        obtain ⟨Ao72, co72, eo72⟩ := Kd.N_slice HO_465003.out
        subst eo72
        go_wp2_with (first | ((with_reducible refine gate_dst (N := 37) rfl ?_); refine Kd.N_lit k29 _ 29 ?hg (N' := 37) ?hd (xs := ([(⟨x465000_1, x465001_1, x465002_1, x465003_1⟩ : S29)] : List (S29))) (inner := [.int .i64 x465000_1, .int .i64 x465001_1, .string x465002_1, .slice Ao72 x465003_1.length co72]) (ok := (fun k_ => (w.heap.size ≤ k_) ∧ k_ ≠ gb452 ∧ k_ ≠ gb464 ∧ k_ ≠ g)) (okp := (fun k_ => (w.heap.size ≤ k_) ∧ k_ ≠ gb452 ∧ k_ ≠ gb464 ∧ k_ ≠ g)) ?hr ?hp (fun _ hk => hk) ((show ∀ k_, wr.heap.size ≤ k_ → (fun k_ => (w.heap.size ≤ k_) ∧ k_ ≠ gb452 ∧ k_ ≠ gb464 ∧ k_ ≠ g) k_ from fun k_ hk => ⟨(Nat.le_trans (keep_size (w := w) (g := g) (row := none) d6_) hk), Kd.freshB (bk_ BK452.out) k_ hk, Kd.freshB (bk_ BK464.out) k_ hk, IsS77.fresh d30_ k_ hk⟩) _ (Nat.le_refl _)) (Below.refl _ _) (Nat.le_refl _) (by simp) ?_; (case hd => rfl); (case hg => rfl); (case hr => first | (go_simp; done) | (go_simp; rfl)); (case hp => exact (Reps.c4 (show Kd.FK k29 _ _ (⟨x465000_1, x465001_1, x465002_1, x465003_1⟩ : S29) [.int .i64 x465000_1, .int .i64 x465001_1, .string x465002_1, .slice Ao72 x465003_1.length co72] from (k29_mkF _ _ (⟨x465000_1, x465001_1, x465002_1, x465003_1⟩ : S29) (Kd.N_reads' (Kd.N_mono (ok' := (fun k_ => (w.heap.size ≤ k_) ∧ k_ ≠ gb452 ∧ k_ ≠ gb464 ∧ k_ ≠ g)) (HO_465003.out) (fun k_ hk => ⟨hk.1, ⟨hk.2.1, ⟨hk.2.2.1, hk.2.2.2⟩⟩⟩))).2.1 (Kd.N_F (Kd.N_mono (ok' := (fun k_ => (w.heap.size ≤ k_) ∧ k_ ≠ gb452 ∧ k_ ≠ gb464 ∧ k_ ≠ g)) (HO_465003.out) (fun k_ hk => ⟨hk.1, ⟨hk.2.1, ⟨hk.2.2.1, hk.2.2.2⟩⟩⟩))))) (Reps.none _ _))); intro v487 w73 ho74 hb hg_ hnew_; clear hg_ hnew_; (first | rw [← Ny486.out] at ho74 | (simp only [Int.reduceToNat] at ho74; rw [← Ny486.out] at ho74)); have n0_ := A_ (Kd.N_lower ho74 (keep_size (w := w) (g := g) (row := none) d6_)); have n1_ := A_ (blk_below (bk_ BK452.out) hb); have n2_ := A_ (blk_below (bk_ BK464.out) hb); have n3_ := A_ (IsS77.below d30_ hb); have n4_ := A_ (KeepBut.trans d6_ (KeepBut.of_below hb g none) (.inl rfl)); have n5_ := A_ (below_step (have := GeI.mk (IsS77.ge HI0.out); bw_ HB.out) hb); clear BK452; clear BK464; clear HI0; clear HK; clear HB; clear HO_465003; have HO488 := n0_; have BK452 := n1_; have BK464 := n2_; have HI0 := n3_; have HK := n4_; have HB := n5_; clear n0_ n1_ n2_ n3_ n4_ n5_; clear hb ho74; obtain ⟨Ao75, co75, eo75⟩ := Kd.N_slice HO488.out; subst eo75; obtain ⟨y76_0, y76_1, y76_2, y76_3, z76_0, z76_1, z76_2, z76_3⟩ := cz4_ BK464.out))
        go_roundg k1
        case measure => have := HK1.out; omega
        case rel => exact ⟨(wrap64 (x4_1 - 1)), (4), (0), ((⟨#[]⟩ : ByteArray)), (y486), (.slice Ao75 y486.length co75), d7_, H', ⟨by have := HK1.out; omega⟩, ⟨by (with_reducible repeat (first | apply Kd.N_alloc | apply Kd.N_drewN | apply Kd.N_drew)); exact Kd.N_mono (nf4_ (Kd.N_mono HO488.out (fun k_ hk => (⟨hk, hk.2.2.1⟩ : _ ∧ k_ ≠ gb464))) (fun _ hk => hk.2)) (fun _ hk => ⟨hk.1.1, ⟨hk.1.2.1, ⟨hk.1.2.2.1, hk.1.2.2.2⟩⟩⟩)⟩, ⟨by refine bk_ ?_; refine blk_far ?_ NB452_464.out _; refine bk_ ?_; refine blk_far ?_ NB452_464.out _; refine bk_ ?_; refine blk_far ?_ NB452_464.out _; refine bk_ ?_; refine blk_far ?_ NB452_464.out _; refine bk_ ?_; exact BK452.out⟩, ⟨by exact bk_ (bp4_ (bk_ BK464.out))⟩, ⟨hI0_⟩, ⟨by repeat (first | (with_reducible first | exact HK.out | apply KeepBut.set_ | apply keep_drewN | apply keep_drew | apply keep_alloc | refine keep_far ?_ GW452.out _ | refine keep_far ?_ GW464.out _) | exact HK.out)⟩, ⟨(have := GeI.mk (IsS77.ge HI0.out); bw_ HB.out)⟩⟩
       ·rw [if_neg c68] at H
        have c68b0 := decide_eq_false c68
        clear c68
        simp only [Option.some.injEq, Prod.mk.injEq] at H
        obtain ⟨rfl, rfl, rfl, rfl, rfl, rfl⟩ := H
        have hnb77 := NB464_452.out
        have hnc77 := NB452_464.out
        have hnb78 := NB464_0.out
        have hnc78 := NB0_464.out
        obtain ⟨y79_0, y79_1, y79_2, y79_3, z79_0, z79_1, z79_2, z79_3⟩ := cz4_ BK464.out
        have hnb80 := NB452_0.out
        have hnc80 := NB0_452.out
        obtain ⟨y81_0, y81_1, y81_2, y81_3, z81_0, z81_1, z81_2, z81_3⟩ := cz4_ BK452.out
        obtain ⟨Ao82, co82, eo82⟩ := Kd.N_slice HO_465003.out
        subst eo82
        go_wp2
        refine bodyPost_ret (results_cell_row rfl _ _ gb452 29 #[.int .i64 x465000_1, .int .i64 x465001_1, .string x465002_1, .slice Ao82 x465003_1.length co82] (0, 0) _ rfl ?hb_ Try.underlying29 rfl (by kernel_rfl)) rfl ?_
        (case hb_ => exact bk_ (bp4_ (bk_ BK452.out)))
        exact ⟨_, by first | rfl | (simp [errW_none, errW_some] <;> rfl) | (simp [*, errW_none, errW_some] <;> rfl), by (with_reducible repeat (first | apply Kd.N_alloc | apply Kd.N_drewN | apply Kd.N_drew)); exact Kd.N_mono (nf4_ (Kd.N_mono HO_465003.out (fun k_ hk => (⟨hk, hk.2.1⟩ : _ ∧ k_ ≠ gb452))) (fun _ hk => hk.2)) (fun _ hk => hk.1.1), hI0_, (have := GeI.mk (IsS77.ge HI0.out); bw_ HB.out), by repeat (first | (with_reducible first | exact HK.out | apply KeepBut.set_ | apply keep_drewN | apply keep_drew | apply keep_alloc | refine keep_far ?_ GW452.out _ | refine keep_far ?_ GW464.out _) | exact HK.out)⟩
    ·rw [if_neg c56] at H
     have c56b0 := beq_eq_false_iff_ne.mpr c56
     have c56b1 := bne_iff_ne.mpr c56
     simp only [Option.some.injEq, Prod.mk.injEq] at H
     obtain ⟨rfl, rfl, rfl, rfl, rfl, rfl⟩ := H
     go_enter Try.func49, Try.ntmps49
     go_wp2_with (first | ((with_reducible refine gate_dst (N := 2) rfl ?_); refine bx_ 2 #[.int .i64 0, .int .i64 0, .string (⟨#[]⟩ : ByteArray), .slice none 0 0] 29 ?_; intro gb452 hg w83 hbox hb; replace HB := A_ (below_step (have := GeI.mk (IsS77.ge HI0.out); bw_ HB.out) hb); have BK452 := A_ (hbox); have GW452 := A_ ((d52_ : w.heap.size ≤ gb452)); have GE452 := A_ ((Nat.le_trans HW0.out (d52_ : w.heap.size ≤ gb452) : w0.heap.size ≤ gb452)); replace HK := A_ (KeepBut.trans d2_ (KeepBut.of_below hb g none) (.inl rfl)); have NB0_452 := A_ ((d17_ : g ≠ gb452)); have NB452_0 := A_ ((d18_ : gb452 ≠ g)); replace HI0 := A_ (IsS77.below d19_ hb); have GI452 := GeI.mk GE452.out; clear hb hbox hg) | ((with_reducible refine gate_callee (f := 50) rfl ?_); refine gL_ (some 7) Try.func50 #[.pointer (some ⟨g, 0, none⟩), .int .i64 2] ?_; (with_reducible refine (spec_l1Once.calls g s0_0 s0_1 s0_2 2 t453 t454 t455 w0 _ ?side1 ?side2 A2.out).mono ?_); (case side1 => exact hI0_); (case side2 => exact (have := GeI.mk (IsS77.ge HI0.out); bw_ HB.out)); rintro e w84 ⟨rfl, hi, hb, hk⟩; refine ⟨_, rfl, ?_⟩; replace BK452 := A_ (KeepBut.blk hk (bk_ BK452.out) NB452_0.out (by simp)); replace HK := A_ (KeepBut.trans d1_ hk (.inl rfl)); replace HB := A_ (hb); replace HI0 := A_ (hi); clear hb hk hi) | ((with_reducible refine gate_callee (f := 61) rfl ?_); refine gL_ (some 8) Try.func61 #[.pointer (some ⟨g, 0, none⟩), .int .i64 3, .bool t453] ?_; (with_reducible refine (spec_l10Draw.calls k g s0_0 t454 t455 3 t453 t456 t457 t458 t459 t462 t463 w0 _ ?side1 ?side2 A3.out).mono ?_); (case side1 => exact hI0_); (case side2 => exact (have := GeI.mk (IsS77.ge HI0.out); bw_ HB.out)); rintro e w85 ⟨v460, rfl, ho0, hi, hb, hk⟩; refine ⟨_, rfl, ?_⟩; have HO461 := A_ (Kd.N_lower (Kd.N_mono (ok' := fun k_ => (w.heap.size ≤ k_) ∧ k_ ≠ gb452 ∧ k_ ≠ g) ho0 (fun k_ hk_ => ⟨(Nat.le_trans (keep_size (w := w) (g := g) (row := none) d1_) hk_), (Kd.freshB (bk_ BK452.out) k_ hk_), (IsS77.fresh d16_ k_ hk_)⟩)) (keep_size (w := w) (g := g) (row := none) d1_)); replace BK452 := A_ (KeepBut.blk hk (bk_ BK452.out) NB452_0.out (by simp)); replace HK := A_ (KeepBut.trans d1_ hk (.inl rfl)); replace HB := A_ (hb); replace HI0 := A_ (hi); clear hb hk hi; (try clear ho0)) | ((with_reducible refine gate_dst (N := 3) rfl ?_); refine bx_ 3 #[.int .i64 0, .int .i64 0, .string (⟨#[]⟩ : ByteArray), .slice none 0 0] 29 ?_; intro gb464 hg w86 hbox hb; have n0_ := A_ (Kd.N_below (Kd.N_elderB d24_ gb464 (Nat.le_of_eq hg.symm)) hb); have n1_ := A_ (IsS77.below d16_ hb); have n2_ := A_ (blk_below (bk_ BK452.out) hb); have n3_ := A_ (KeepBut.trans d1_ (KeepBut.of_below hb g none) (.inl rfl)); have n4_ := A_ (below_step (have := GeI.mk (IsS77.ge HI0.out); bw_ HB.out) hb); have n5_ := A_ (hbox); have n6_ := A_ ((d53_ : w.heap.size ≤ gb464)); have n7_ := A_ ((Nat.le_trans HW0.out (d53_ : w.heap.size ≤ gb464) : w0.heap.size ≤ gb464)); have n8_ := A_ ((d42_ : gb452 ≠ gb464)); have n9_ := A_ n8_.out.symm; have n10_ := A_ ((d21_ : g ≠ gb464)); have n11_ := A_ ((d22_ : gb464 ≠ g)); clear HO461; clear HI0; clear BK452; clear HK; clear HB; have HO461 := n0_; have HI0 := n1_; have BK452 := n2_; have HK := n3_; have HB := n4_; have BK464 := n5_; have GW464 := n6_; have GE464 := n7_; have GI464 := GeI.mk GE464.out; have NB452_464 := n8_; have NB464_452 := n9_; have NB0_464 := n10_; have NB464_0 := n11_; clear n0_ n1_ n2_ n3_ n4_ n5_ n6_ n7_ n8_ n9_ n10_ n11_; clear hb hbox hg; have hnb87 := NB464_452.out; have hnc87 := NB452_464.out; have hnb88 := NB464_0.out; have hnc88 := NB0_464.out; obtain ⟨y89_0, y89_1, y89_2, y89_3, z89_0, z89_1, z89_2, z89_3⟩ := cz4_ BK464.out; obtain ⟨Ao90, co90, eo90⟩ := Kd.N_slice HO461.out; subst eo90) | ((with_reducible refine gate_callee (f := 62) rfl ?_); refine gL_ (some 10) Try.func62 #[.pointer (some ⟨g, 0, none⟩), .int .i64 14] ?_; (with_reducible refine (spec_l1Below.calls g s0_0 t462 t463 14 t465 t466 t467 w0 _ ?side1 ?side2 A4.out).mono ?_); (case side1 => exact hI0_); (case side2 => exact (have := GeI.mk (IsS77.ge HI0.out); bw_ HB.out)); rintro e w91 ⟨rfl, hi, hb, hk⟩; refine ⟨_, rfl, ?_⟩; replace BK452 := A_ (KeepBut.blk hk (g' := gb452) (o := .cells #[.int .i64 0, .int .i64 0, .string (⟨#[]⟩ : ByteArray), .slice none 0 0] 29 (0, 0)) d26_ NB452_0.out (by simp)); replace HO461 := A_ (Kd.N_mono (Kd.N_keep (Kd.N_mono (ok := fun k_ => ((((w.heap.size ≤ k_)) ∧ (k_ ≠ gb452 ∧ k_ ≠ g)) ∧ k_ ≠ gb464)) d27_ (fun k_ hk_ => (⟨hk_, hk_.1.2.2⟩ : _ ∧ k_ ≠ g))) hk (fun _ h => h.2)) (fun _ h => h.1)); replace BK464 := A_ (KeepBut.blk hk (g' := gb464) (o := .cells #[.int .i64 t456, .int .i64 t457, .string t458, .slice Ao90 t459.length co90] 29 (0, 0)) d51_ NB464_0.out (by simp)); replace HK := A_ (KeepBut.trans d6_ hk (.inl rfl)); replace HB := A_ (hb); replace HI0 := A_ (hi); clear hb hk hi; obtain ⟨y92_0, y92_1, y92_2, y92_3, z92_0, z92_1, z92_2, z92_3⟩ := cz4_ BK464.out; have hnb93 := NB452_0.out; have hnc93 := NB0_452.out; obtain ⟨y94_0, y94_1, y94_2, y94_3, z94_0, z94_1, z94_2, z94_3⟩ := cz4_ BK452.out))
     refine bodyPost_ret (results_cell_row rfl _ _ gb452 29 #[.int .i64 t456, .int .i64 t457, .string t458, .slice Ao90 t459.length co90] (0, 0) _ rfl ?hb_ Try.underlying29 rfl (by kernel_rfl)) rfl ?_
     (case hb_ => exact bk_ (bp4_ (bk_ BK452.out)))
     exact ⟨_, by first | rfl | (simp [errW_none, errW_some] <;> rfl) | (simp [*, errW_none, errW_some] <;> rfl), by (with_reducible repeat (first | apply Kd.N_alloc | apply Kd.N_drewN | apply Kd.N_drew)); exact Kd.N_mono (nf4_ (Kd.N_mono HO461.out (fun k_ hk => (⟨hk, hk.1.2.1⟩ : _ ∧ k_ ≠ gb452))) (fun _ hk => hk.2)) (fun _ hk => hk.1.1.1), hI0_, (have := GeI.mk (IsS77.ge HI0.out); bw_ HB.out), by repeat (first | (with_reducible first | exact HK.out | apply KeepBut.set_ | apply keep_drewN | apply keep_drew | apply keep_alloc | refine keep_far ?_ GW452.out _ | refine keep_far ?_ GW464.out _) | exact HK.out)⟩

-- NOT PRINTED: function 44 (spec_DrawPut)

end Go.Proofs.Ytcpnhlhigpgonaa.PFnPutIn
