-- Laid by a program of this session (a changed copy of the kit's printer); Lean checks every line.
import Derived.Test.YtcpnhlhigpgonaaPFnPutInx0
import Derived.Test.YtcpnhlhigpgonaaPFnPutInx8
import Derived.Test.YtcpnhlhigpgonaaPFnPutInx11
import Derived.Test.YtcpnhlhigpgonaaPFnPutInx12
namespace Go.Proofs.Ytcpnhlhigpgonaa.PFnPutIn
open Go.RowKit Go.Proofs.YtcpnhlhigpgonaaW.PrintWords Go.Proofs.YtcpnhlhigpgonaaW.PrintLast Go.Proofs.YtcpnhlhigpgonaaW.PrintMore
attribute [local go_sem] max2_int min2_int max_two min_two max_three min_three max_four min_four   -- for this text's walks alone
set_option linter.unusedVariables false
set_option linter.unusedSimpArgs false

/-! ### spec_l11Flat: function 63 -/
def spec_l11Flat.f (k : Nat) (s0_0 : List Int) (s0_1 : Int) (s0_2 : Int) (a1 : Int) : Option (Int × Int × ByteArray × (List (S29)) × Int × Int) := (spec_l10Draw.f k s0_0 s0_1 s0_2 a1 false).bind fun bt584 => ((spec_l10Num.f 7).bind fun bt595 => ((spec_l11Put.f k bt584.1 bt584.2.1 bt584.2.2.1 bt584.2.2.2.1 11 1 (⟨#[]⟩ : ByteArray) ([] : List (S29)) (([(⟨#[97]⟩ : ByteArray), (⟨#[98]⟩ : ByteArray), (⟨#[99]⟩ : ByteArray)] : List ByteArray)) (([(⟨bt595.1, bt595.2.1, bt595.2.2.1, bt595.2.2.2⟩ : S29), (⟨11, 0, (⟨#[]⟩ : ByteArray), ([] : List (S29))⟩ : S29), (⟨12, 0, (⟨#[103]⟩ : ByteArray), ([] : List (S29))⟩ : S29)] : List (S29)))).bind fun bt604 => (some (bt604.1, bt604.2.1, bt604.2.2.1, bt604.2.2.2, bt584.2.2.2.2.1, bt584.2.2.2.2.2))))
theorem spec_l11Flat.mono : ∀ a0 a1 a2 a3 k, LeO (spec_l11Flat.f k a0 a1 a2 a3) (spec_l11Flat.f (k + 1) a0 a1 a2 a3) := by
 intro a0 a1 a2 a3 k
 unfold spec_l11Flat.f
 repeat' first
   | (with_reducible exact spec_l10Draw.mono _ _ _ _ _ _)
   | (with_reducible exact spec_l11Put.mono _ _ _ _ _ _ _ _ _ _ _)
   | (with_reducible exact LeO.refl _)
   | (with_reducible exact LeO.none _)
   | (with_reducible refine LeO.ite ?_ ?_)
   | (with_reducible refine LeO.bind ?_ (fun _ => ?_))
   | exact spec_l10Draw.mono _ _ _ _ _ _
   | exact spec_l11Put.mono _ _ _ _ _ _ _ _ _ _ _
   | exact LeO.none _
   | refine LeO.ite ?_ ?_
   | refine LeO.bind ?_ (fun _ => ?_)
def spec_l11Flat.T2 : Bool × List (List Nat × List Nat) := (true, [([], []), ([], []), ([0, 1], [0, 1]), ([], []), ([], []), ([2], []), ([], []), ([], []), ([5, 6, 7], [5, 6, 7]), ([2, 3, 4, 8, 5], [2, 3, 4, 8]), ([9, 9, 0, 1, 2, 3, 4, 5, 6, 7, 8, 9], [9])])
def spec_l11Flat.B2 : List Nat := [0, 0, 3, 0, 0, 7, 0, 0, 231, 511, 1023]
theorem spec_l11Flat.tab2 : rtab .any (opsOf Try.f63 2) = spec_l11Flat.T2 := by kernel_rfl
theorem spec_l11Flat.bits2 : waitsOk spec_l11Flat.T2.2 spec_l11Flat.B2 = true := by kernel_rfl
set_option maxHeartbeats 8000000 in
set_option maxRecDepth 100000 in
theorem spec_l11Flat.calls (k : Nat) (g : Nat) (s0_0 : List Int) (s0_1 : Int) (s0_2 : Int) (a1 : Int) (r1 : Int) (r2 : Int) (r3 : ByteArray) (r4 : List (S29)) (r5 : Int) (r6 : Int) (w0 w : World) (hI : IsS77 w0 w g s0_0 s0_1 s0_2) (hB : Below w0.heap.size w0 w) (h : spec_l11Flat.f k s0_0 s0_1 s0_2 a1 = some (r1, r2, r3, r4, r5, r6)) :
  Calls Try.prog 63 #[.pointer (some ⟨g, 0, none⟩), .int .i64 a1] w fun e w' => ∃ v3_ : Value, e = .returned (.agg #[.int .i64 r1, .int .i64 r2, .string r3, v3_]) ∧ Kd.N k29 29 w' w.heap.size (fun k_ => (w.heap.size ≤ k_)) v3_ r4 ∧ IsS77 w0 w' g s0_0 r5 r6 ∧ Below w0.heap.size w0 w' ∧ KeepBut w w' g none := by
 have hu29 := Try.underlying29
 have HI0 := A_ hI
 have HK := A_ (KeepBut.refl w g none)
 have HL := A_ hB.size
 clear hI
 have HW0 := A_ hB.size
 have HB := A_ hB
 clear hB
 have H : ((spec_l10Draw.f k s0_0 s0_1 s0_2 a1 false).bind fun bt584 => ((spec_l10Num.f 7).bind fun bt595 => ((spec_l11Put.f k bt584.1 bt584.2.1 bt584.2.2.1 bt584.2.2.2.1 11 1 (⟨#[]⟩ : ByteArray) ([] : List (S29)) (([(⟨#[97]⟩ : ByteArray), (⟨#[98]⟩ : ByteArray), (⟨#[99]⟩ : ByteArray)] : List ByteArray)) (([(⟨bt595.1, bt595.2.1, bt595.2.2.1, bt595.2.2.2⟩ : S29), (⟨11, 0, (⟨#[]⟩ : ByteArray), ([] : List (S29))⟩ : S29), (⟨12, 0, (⟨#[103]⟩ : ByteArray), ([] : List (S29))⟩ : S29)] : List (S29)))).bind fun bt604 => (some (bt604.1, bt604.2.1, bt604.2.2.1, bt604.2.2.2, bt584.2.2.2.2.1, bt584.2.2.2.2.2))))) = some (r1, r2, r3, r4, r5, r6) := h
 clear h
 replace H := Option.bind_eq_some_iff.mp H
 obtain ⟨⟨t584, t585, t586, t587, t590, t591⟩, A30, H⟩ := H
 try dsimp only at H
 have A3 := A_ A30
 clear A30
 obtain ⟨y592, hy592⟩ : ∃ y_ : List ByteArray, y_ = (([(⟨#[97]⟩ : ByteArray), (⟨#[98]⟩ : ByteArray), (⟨#[99]⟩ : ByteArray)] : List ByteArray)) := ⟨_, rfl⟩
 replace H : ((spec_l10Num.f 7).bind fun bt595 => ((spec_l11Put.f k t584 t585 t586 t587 11 1 (⟨#[]⟩ : ByteArray) ([] : List (S29)) y592 (([(⟨bt595.1, bt595.2.1, bt595.2.2.1, bt595.2.2.2⟩ : S29), (⟨11, 0, (⟨#[]⟩ : ByteArray), ([] : List (S29))⟩ : S29), (⟨12, 0, (⟨#[103]⟩ : ByteArray), ([] : List (S29))⟩ : S29)] : List (S29)))).bind fun bt604 => (some (bt604.1, bt604.2.1, bt604.2.2.1, bt604.2.2.2, t590, t591)))) = some (r1, r2, r3, r4, r5, r6) := by first | (rw [hy592]; with_reducible exact H) | (have H2_ := (Option.bind_some _ _).symm.trans H; rw [hy592]; with_reducible exact H2_) | (have H2_ := (Option.bind_some _ _).symm.trans H; with_reducible exact H2_) | with_reducible exact H | (rw [hy592]; exact H) | exact H
 have Ny592 := A_ hy592
 clear hy592
 replace H := Option.bind_eq_some_iff.mp H
 obtain ⟨⟨t595, t596, t597, t598⟩, A40, H⟩ := H
 try dsimp only at H
 have A4 := A_ A40
 clear A40
 obtain ⟨y601, hy601⟩ : ∃ y_ : List (S29), y_ = (([(⟨t595, t596, t597, t598⟩ : S29), (⟨11, 0, (⟨#[]⟩ : ByteArray), ([] : List (S29))⟩ : S29), (⟨12, 0, (⟨#[103]⟩ : ByteArray), ([] : List (S29))⟩ : S29)] : List (S29))) := ⟨_, rfl⟩
 replace H : ((spec_l11Put.f k t584 t585 t586 t587 11 1 (⟨#[]⟩ : ByteArray) ([] : List (S29)) y592 y601).bind fun bt604 => (some (bt604.1, bt604.2.1, bt604.2.2.1, bt604.2.2.2, t590, t591))) = some (r1, r2, r3, r4, r5, r6) := by first | (rw [hy601]; with_reducible exact H) | (have H2_ := (Option.bind_some _ _).symm.trans H; rw [hy601]; with_reducible exact H2_) | (have H2_ := (Option.bind_some _ _).symm.trans H; with_reducible exact H2_) | with_reducible exact H | (rw [hy601]; exact H) | exact H
 have Ny601 := A_ hy601
 clear hy601
 replace H := Option.bind_eq_some_iff.mp H
 obtain ⟨⟨t604, t605, t606, t607⟩, A50, H⟩ := H
 try dsimp only at H
 have A5 := A_ A50
 clear A50
 simp only [Option.some.injEq, Prod.mk.injEq] at H
 obtain ⟨rfl, rfl, rfl, rfl, rfl, rfl⟩ := H
 go_enter Try.func63, Try.ntmps63
 try go_wp2_with (first | ((with_reducible refine gate_dst (N := 4) rfl ?_); refine bx_ 4 #[.int .i64 0, .int .i64 0, .string (⟨#[]⟩ : ByteArray), .slice none 0 0] 29 ?_; intro gb582 hg w6 hbox hb; replace HB := A_ (below_step (have := GeI.mk (IsS77.ge HI0.out); bw_ HB.out) hb); have BK582 := A_ (hbox); have GW582 := A_ ((d52_ : w.heap.size ≤ gb582)); have GE582 := A_ ((Nat.le_trans HW0.out (d52_ : w.heap.size ≤ gb582) : w0.heap.size ≤ gb582)); replace HK := A_ (KeepBut.trans d2_ (KeepBut.of_below hb g none) (.inl rfl)); have NB0_582 := A_ ((d17_ : g ≠ gb582)); have NB582_0 := A_ ((d18_ : gb582 ≠ g)); replace HI0 := A_ (IsS77.below d19_ hb); have GI582 := GeI.mk GE582.out; clear hb hbox hg) | ((with_reducible refine gate_dst (N := 5) rfl ?_); refine bx_ 5 #[.int .i64 0, .int .i64 0, .string (⟨#[]⟩ : ByteArray), .slice none 0 0] 29 ?_; intro gb583 hg w7 hbox hb; have n0_ := A_ (IsS77.below (hI0_) hb); have n1_ := A_ (blk_below (bk_ BK582.out) hb); have n2_ := A_ (KeepBut.trans d36_ (KeepBut.of_below hb g none) (.inl rfl)); have n3_ := A_ (below_step (have := GeI.mk (IsS77.ge HI0.out); bw_ HB.out) hb); have n4_ := A_ (hbox); have n5_ := A_ ((by rw [hg]; exact (keep_size (w := w) (g := g) (row := none) d36_) : w.heap.size ≤ gb583)); have n6_ := A_ ((Nat.le_trans HW0.out (by rw [hg]; exact (keep_size (w := w) (g := g) (row := none) d36_) : w.heap.size ≤ gb583) : w0.heap.size ≤ gb583)); have n7_ := A_ ((by rw [hg]; exact Nat.ne_of_lt (blk_lt (bk_ BK582.out)) : gb582 ≠ gb583)); have n8_ := A_ n7_.out.symm; have n9_ := A_ ((by rw [hg]; exact Nat.ne_of_lt (IsS77.lt (hI0_ : IsS77 w0 _ g s0_0 s0_1 s0_2)) : g ≠ gb583)); have n10_ := A_ ((by rw [hg]; exact Nat.ne_of_gt (IsS77.lt (hI0_ : IsS77 w0 _ g s0_0 s0_1 s0_2)) : gb583 ≠ g)); clear HI0; clear BK582; clear HK; clear HB; have HI0 := n0_; have BK582 := n1_; have HK := n2_; have HB := n3_; have BK583 := n4_; have GW583 := n5_; have GE583 := n6_; have GI583 := GeI.mk GE583.out; have NB582_583 := n7_; have NB583_582 := n8_; have NB0_583 := n9_; have NB583_0 := n10_; clear n0_ n1_ n2_ n3_ n4_ n5_ n6_ n7_ n8_ n9_ n10_; clear hb hbox hg; have hnb8 := NB583_582.out; have hnc8 := NB582_583.out; have hnb9 := NB583_0.out; have hnc9 := NB0_583.out; obtain ⟨y10_0, y10_1, y10_2, y10_3, z10_0, z10_1, z10_2, z10_3⟩ := cz4_ BK583.out))
 have n0_ : Aside0 (((((w7.setCell ⟨gb583, 0, none⟩ (.int .i64 11)).setCell ⟨gb583, 1, none⟩ (.int .i64 1)).setCell ⟨gb583, 2, none⟩ (.string (⟨#[]⟩ : ByteArray))).setCell ⟨gb583, 3, none⟩ (.slice none 0 0)).heap[gb582]? = some (.cells #[.int .i64 0, .int .i64 0, .string (⟨#[]⟩ : ByteArray), .slice none 0 0] 29 (0, 0))) := ⟨by refine bk_ ?_; refine blk_far ?_ NB582_583.out _; refine bk_ ?_; refine blk_far ?_ NB582_583.out _; refine bk_ ?_; refine blk_far ?_ NB582_583.out _; refine bk_ ?_; refine blk_far ?_ NB582_583.out _; refine bk_ ?_; exact BK582.out⟩
 have n1_ : Aside0 (((((w7.setCell ⟨gb583, 0, none⟩ (.int .i64 11)).setCell ⟨gb583, 1, none⟩ (.int .i64 1)).setCell ⟨gb583, 2, none⟩ (.string (⟨#[]⟩ : ByteArray))).setCell ⟨gb583, 3, none⟩ (.slice none 0 0)).heap[gb583]? = some (.cells #[.int .i64 11, .int .i64 1, .string (⟨#[]⟩ : ByteArray), .slice none 0 0] 29 (0, 0))) := ⟨by exact bk_ (bp4_ (bk_ BK583.out))⟩
 have n2_ : Aside0 (IsS77 w0 ((((w7.setCell ⟨gb583, 0, none⟩ (.int .i64 11)).setCell ⟨gb583, 1, none⟩ (.int .i64 1)).setCell ⟨gb583, 2, none⟩ (.string (⟨#[]⟩ : ByteArray))).setCell ⟨gb583, 3, none⟩ (.slice none 0 0)) g s0_0 s0_1 s0_2) := ⟨hI0_⟩
 have n3_ : Aside0 (KeepBut w ((((w7.setCell ⟨gb583, 0, none⟩ (.int .i64 11)).setCell ⟨gb583, 1, none⟩ (.int .i64 1)).setCell ⟨gb583, 2, none⟩ (.string (⟨#[]⟩ : ByteArray))).setCell ⟨gb583, 3, none⟩ (.slice none 0 0)) g none) := ⟨by repeat (first | (with_reducible first | exact HK.out | apply KeepBut.set_ | apply keep_drewN | apply keep_drew | apply keep_alloc | refine keep_far ?_ GW582.out _ | refine keep_far ?_ GW583.out _) | exact HK.out)⟩
 have n4_ : Aside0 (Below w0.heap.size w0 ((((w7.setCell ⟨gb583, 0, none⟩ (.int .i64 11)).setCell ⟨gb583, 1, none⟩ (.int .i64 1)).setCell ⟨gb583, 2, none⟩ (.string (⟨#[]⟩ : ByteArray))).setCell ⟨gb583, 3, none⟩ (.slice none 0 0))) := ⟨(have := GeI.mk (IsS77.ge HI0.out); bw_ HB.out)⟩
 (try clear BK582)
 (try clear BK583)
 (try clear HI0)
 (try clear HK)
 (try clear HB)
 generalize ((((w7.setCell ⟨gb583, 0, none⟩ (.int .i64 11)).setCell ⟨gb583, 1, none⟩ (.int .i64 1)).setCell ⟨gb583, 2, none⟩ (.string (⟨#[]⟩ : ByteArray))).setCell ⟨gb583, 3, none⟩ (.slice none 0 0)) = w11 at n0_ n1_ n2_ n3_ n4_ ⊢
 have BK582 := n0_
 have BK583 := n1_
 have HI0 := n2_
 have HK := n3_
 have HB := n4_
 clear n0_ n1_ n2_ n3_ n4_
 replace BK582 := A_ (blk_drew BK582.out)
 replace BK583 := A_ (blk_drew BK583.out)
 replace HI0 := A_ (IsS77.drew HI0.out)
 replace HK := A_ (keep_drew HK.out)
 replace HB := A_ (below_drew1 HB.out)
 refine start_ (n := 11) (S := fun w' => True) (ds := []) #[false, false, false, false, false, false, false, false, false, false, false] (by kernel_rfl) rfl rfl trivial (fun hHeld => ?_); refine with_tabW spec_l11Flat.tab2 spec_l11Flat.bits2 (fun HT_ HW_ => ?_)
 generalize w11.drew = w12 at BK582 BK583 HI0 HK HB hHeld ⊢
 refine pu_ 0 (some 7) (bm_ 11 1) (any_of HT_.out (by kernel_rfl)) ?_
 refine pu_ 1 (some 8) (bm_ 11 3) (any_of HT_.out (by kernel_rfl)) ?_
 refine inv_at [2, 3, 4, 5, 6, 7, 8, 9, 10] (fun a0_ b a w' => ∃ (v588 : Value) (v593 : Value) (v599 : Value) (v602 : Value) (v608 : Value) (m2_ : Value) (m5_ : Value) (m9_ : Value), a = putSel a0_ b [(2, 9, m2_), (3, 10, .agg #[.int .i64 11, .int .i64 1, .string (⟨#[]⟩ : ByteArray), .slice none 0 0]), (4, 11, v593), (5, 12, m5_), (6, 13, .agg #[.int .i64 11, .int .i64 0, .string (⟨#[]⟩ : ByteArray), .slice none 0 0]), (7, 14, .agg #[.int .i64 12, .int .i64 0, .string (⟨#[103]⟩ : ByteArray), .slice none 0 0]), (8, 15, v602), (9, 16, m9_)] ∧ (b 10 = false → w'.heap[gb582]? = some (.cells #[.int .i64 0, .int .i64 0, .string (⟨#[]⟩ : ByteArray), .slice none 0 0] 29 (0, 0))) ∧ (w'.heap[gb583]? = some (.cells #[.int .i64 11, .int .i64 1, .string (⟨#[]⟩ : ByteArray), .slice none 0 0] 29 (0, 0))) ∧ (b 2 = false → IsS77 w0 w' g s0_0 s0_1 s0_2) ∧ (KeepBut w w' g none) ∧ (Below w0.heap.size w0 w') ∧ (b 2 = true → Kd.N k29 29 w' w.heap.size (fun k_ => (w.heap.size ≤ k_) ∧ k_ ≠ g ∧ k_ ≠ gb582 ∧ k_ ≠ gb583) v588 t587) ∧ (b 2 = true → IsS77 w0 w' g s0_0 t590 t591) ∧ (b 4 = true → Kd.R Kd.string 9 w' w.heap.size (fun k_ => (w.heap.size ≤ k_)) v593 y592) ∧ (b 5 = true → b 8 = false → Kd.N k29 29 w' w.heap.size (fun k_ => (w.heap.size ≤ k_) ∧ k_ ≠ g ∧ k_ ≠ gb582 ∧ k_ ≠ gb583) v599 t598) ∧ (b 8 = true → Kd.N k29 29 w' w.heap.size (fun k_ => (w.heap.size ≤ k_) ∧ k_ ≠ g ∧ k_ ≠ gb582 ∧ k_ ≠ gb583) v602 y601) ∧ (b 9 = true → Kd.N k29 29 w' w.heap.size (fun k_ => (w.heap.size ≤ k_) ∧ k_ ≠ g ∧ k_ ≠ gb582 ∧ k_ ≠ gb583) v608 t607) ∧ (b 10 = true → w'.heap[gb582]? = some (.cells #[.int .i64 t604, .int .i64 t605, .string t606, v608] 29 (0, 0))) ∧ (b 2 = true → (m2_ : Value) = .agg #[.int .i64 t584, .int .i64 t585, .string t586, v588]) ∧ (b 5 = true → (m5_ : Value) = .agg #[.int .i64 t595, .int .i64 t596, .string t597, v599]) ∧ (b 9 = true → (m9_ : Value) = .agg #[.int .i64 t604, .int .i64 t605, .string t606, v608])) HT_.out HW_.out (by kernel_rfl) (by kernel_rfl) ?_ ?_ ?_
 ·exact ⟨.bool false, .bool false, .bool false, .bool false, .bool false, .bool false, .bool false, .bool false, by simp only [putSel, Bool.false_eq_true, if_false], fun _ => BK582.out, BK583.out, fun _ => HI0.out, HK.out, HB.out, fun h_ => absurd h_ (by decide), fun h_ => absurd h_ (by decide), fun h_ => absurd h_ (by decide), fun h_ => absurd h_ (by decide), fun h_ => absurd h_ (by decide), fun h_ => absurd h_ (by decide), fun h_ => absurd h_ (by decide), fun h_ => absurd h_ (by decide), fun h_ => absurd h_ (by decide), fun h_ => absurd h_ (by decide)⟩
 ·skip
  clear BK582 BK583 HB HI0 HK
  refine steps_cons ?_ ?_
  ·rintro b a w' ⟨v588, v593, v599, v602, v608, m2_, m5_, m9_, ha, Q_BK582, Q_BK583, Q_HI0, Q_HK, Q_HB, Q_HO589, Q_HI0_e2, Q_HO594, Q_HO600, Q_HO603, Q_HO609, Q_BK582_e10, Q_X2_, Q_X5_, Q_X9_⟩ hb_ hon hoff
   refine ⟨_, rfl, fun K hK => ?_⟩
   have e7 : a.tmps[7]? = some (.pointer (some ⟨g, 0, none⟩)) := by rw [ha]; exact (putSel_off rfl).trans rfl
   have e8 : a.tmps[8]? = some (.int .i64 a1) := by rw [ha]; exact (putSel_off rfl).trans rfl
   replace ha := A_ ha
   have BK582 := A_ (Q_BK582 (hoff 10 (by kernel_rfl)))
   have BK583 := A_ Q_BK583
   have HI0 := A_ (Q_HI0 hb_)
   have HK := A_ Q_HK
   have HB := A_ Q_HB
   refine goes_ Try.func61 (by kernel_rfl) rfl #[.pointer (some ⟨g, 0, none⟩), .int .i64 a1, .bool false] (by rfl) rfl rfl (by first | (simp only [List.map_toArray, List.map_cons, List.map_nil, Act.eval, Array.getD_eq_getD_getElem?, Option.getD_some, e7, e8]; done) | (simp only [List.map_toArray, List.map_cons, List.map_nil, Act.eval, Array.getD_eq_getD_getElem?, Option.getD_some, e7, e8]; rfl)) ?_
   with_reducible refine (spec_l10Draw.calls k g s0_0 s0_1 s0_2 a1 false t584 t585 t586 t587 t590 t591 w0 _ ?side1 ?side2 A3.out).mono ?_
   (case side1 => exact hI0_)
   (case side2 => exact (have := GeI.mk (IsS77.ge HI0.out); bw_ HB.out))
   rintro e w13 ⟨v588, rfl, ho0, hi, hb, hk⟩
   refine ⟨_, rfl, ?_⟩
   have n0_ := A_ (KeepBut.blk hk (bk_ BK582.out) NB582_0.out (by simp))
   have n1_ := A_ (KeepBut.blk hk (bk_ BK583.out) NB583_0.out (by simp))
   have n2_ := A_ (Kd.N_lower (Kd.N_mono (ok' := fun k_ => (w.heap.size ≤ k_) ∧ k_ ≠ gb582 ∧ k_ ≠ gb583 ∧ k_ ≠ g) ho0 (fun k_ hk_ => ⟨(Nat.le_trans (keep_size (w := w) (g := g) (row := none) d3_) hk_), (Kd.freshB (bk_ BK582.out) k_ hk_), (Kd.freshB (bk_ BK583.out) k_ hk_), (IsS77.fresh d10_ k_ hk_)⟩)) (keep_size (w := w) (g := g) (row := none) d3_))
   have n3_ := A_ (KeepBut.trans d3_ hk (.inl rfl))
   have n4_ := A_ (hb)
   have n5_ := A_ (hi)
   have z_HO594 := fun (h0_ : b 4 = true) => (show Kd.R Kd.string 9 w13 w.heap.size (fun k_ => (w.heap.size ≤ k_)) v593 y592 from by first | exact (Kd.R_mono (Kd.R_keep (IsS77.apart (hI0_ : IsS77 w0 _ g s0_0 s0_1 s0_2) (kr_ (Q_HO594 h0_)) (by decide)) hk (fun _ h => h.2)) (fun _ h => h.1)) | exact Kd.R_mono (Kd.R_mono (Kd.R_keep (IsS77.apart (hI0_ : IsS77 w0 _ g s0_0 s0_1 s0_2) (kr_ (Q_HO594 h0_)) (by decide)) hk (fun _ h => h.2)) (fun _ h => h.1)) (fun _ h_ => by first | trivial | exact h_ | exact h_.1))
   clear BK582
   clear BK583
   clear HK
   clear HB
   clear HI0
   have BK582 := n0_
   have BK583 := n1_
   have HO589 := n2_
   have HK := n3_
   have HB := n4_
   have HI0 := n5_
   clear n0_ n1_ n2_ n3_ n4_ n5_
   (try clear hb)
   (try clear hb2)
   (try clear hk)
   (try clear hi)
   (try clear ho0)
   refine hK.out _ _ ⟨v588, v593, v599, v602, v608, (.agg #[.int .i64 t584, .int .i64 t585, .string t586, v588]), m5_, m9_, (by rw [ha.out]; exact putSel_upk 0 hb_ rfl rfl rfl), fun _ => (bk_ BK582.out), (bk_ BK583.out), fun h0_ => absurd ((up_self b 2).symm.trans h0_) (by decide), d3_, (have := GeI.mk (IsS77.ge HI0.out); bw_ HB.out), fun _ => (by (with_reducible repeat (first | apply Kd.N_alloc | apply Kd.N_drewN | apply Kd.N_drew)); exact Kd.N_mono HO589.out (fun _ hk => by first | exact ⟨hk.1, ⟨hk.2.2.2, ⟨hk.2.1, hk.2.2.1⟩⟩⟩ | simp_all)), fun _ => d10_, z_HO594, fun h0_ _ => absurd ((hoff 5 (by kernel_rfl)).symm.trans h0_) (by decide), fun h0_ => absurd ((hoff 8 (by kernel_rfl)).symm.trans h0_) (by decide), fun h0_ => absurd ((hoff 9 (by kernel_rfl)).symm.trans h0_) (by decide), fun h0_ => absurd ((hoff 10 (by kernel_rfl)).symm.trans h0_) (by decide), fun _ => rfl, fun h0_ => absurd ((hoff 5 (by kernel_rfl)).symm.trans h0_) (by decide), fun h0_ => absurd ((hoff 9 (by kernel_rfl)).symm.trans h0_) (by decide)⟩
  refine steps_cons ?_ ?_
  ·rintro b a w' ⟨v588, v593, v599, v602, v608, m2_, m5_, m9_, ha, Q_BK582, Q_BK583, Q_HI0, Q_HK, Q_HB, Q_HO589, Q_HI0_e2, Q_HO594, Q_HO600, Q_HO603, Q_HO609, Q_BK582_e10, Q_X2_, Q_X5_, Q_X9_⟩ hb_ hon hoff
   refine ⟨_, rfl, fun K hK => ?_⟩
   have e5 : a.tmps[5]? = some (.pointer (some ⟨gb583, 0, none⟩)) := by rw [ha]; exact (putSel_off rfl).trans rfl
   replace ha := A_ ha
   have BK582 := A_ (Q_BK582 (hoff 10 (by kernel_rfl)))
   have BK583 := A_ Q_BK583
   have HK := A_ Q_HK
   have HB := A_ Q_HB
   have hc0_ : w'.cell? ⟨gb583, 0, none⟩ = some (.int .i64 11) := (blk_cell BK583.out 0).trans rfl
   have hc1_ : w'.cell? ⟨gb583, 1, none⟩ = some (.int .i64 1) := (blk_cell BK583.out 1).trans rfl
   have hc2_ : w'.cell? ⟨gb583, 2, none⟩ = some (.string (⟨#[]⟩ : ByteArray)) := (blk_cell BK583.out 2).trans rfl
   have hc3_ : w'.cell? ⟨gb583, 3, none⟩ = some (.slice none 0 0) := (blk_cell BK583.out 3).trans rfl
   refine value_ (w1 := w') (v := .agg #[.int .i64 11, .int .i64 1, .string (⟨#[]⟩ : ByteArray), .slice none 0 0]) (by rfl) rfl ?_ ?_
   ·go_simp
    (try simp only [i64_w])
    try rfl
   refine hK.out _ _ ⟨v588, v593, v599, v602, v608, m2_, m5_, m9_, (by rw [ha.out]; exact putSel_upk 1 hb_ rfl rfl rfl), Q_BK582, Q_BK583, Q_HI0, Q_HK, Q_HB, Q_HO589, Q_HI0_e2, Q_HO594, Q_HO600, Q_HO603, fun h0_ => absurd ((hoff 9 (by kernel_rfl)).symm.trans h0_) (by decide), fun h0_ => absurd ((hoff 10 (by kernel_rfl)).symm.trans h0_) (by decide), Q_X2_, Q_X5_, fun h0_ => absurd ((hoff 9 (by kernel_rfl)).symm.trans h0_) (by decide)⟩
  refine steps_cons ?_ ?_
  ·rintro b a w' ⟨v588, v593, v599, v602, v608, m2_, m5_, m9_, ha, Q_BK582, Q_BK583, Q_HI0, Q_HK, Q_HB, Q_HO589, Q_HI0_e2, Q_HO594, Q_HO600, Q_HO603, Q_HO609, Q_BK582_e10, Q_X2_, Q_X5_, Q_X9_⟩ hb_ hon hoff
   refine ⟨_, rfl, fun K hK => ?_⟩
   replace ha := A_ ha
   have BK582 := A_ (Q_BK582 (hoff 10 (by kernel_rfl)))
   have BK583 := A_ Q_BK583
   have HK := A_ Q_HK
   have HB := A_ Q_HB
   refine Kd.R_lit_step Kd.string _ 9 ?hg (N := 11) ?hd (xs := ([(⟨#[97]⟩ : ByteArray), (⟨#[98]⟩ : ByteArray), (⟨#[99]⟩ : ByteArray)] : List ByteArray)) (inner := [.string (⟨#[97]⟩ : ByteArray), .string (⟨#[98]⟩ : ByteArray), .string (⟨#[99]⟩ : ByteArray)]) (ok := fun _ => True) (okp := fun _ => True) ?hr ?hp (fun _ hk => hk) trivial (Below.refl _ _) (Nat.le_refl _) (by simp) ?_; (case hd => rfl); (case hg => rfl); (case hr => first | (go_simp; done) | (go_simp; rfl)); (case hp => exact (Reps.one (show Kd.M Kd.string _ _ _ (⟨#[97]⟩ : ByteArray) [.string (⟨#[97]⟩ : ByteArray)] from rfl) (Reps.one (show Kd.M Kd.string _ _ _ (⟨#[98]⟩ : ByteArray) [.string (⟨#[98]⟩ : ByteArray)] from rfl) (Reps.one (show Kd.M Kd.string _ _ _ (⟨#[99]⟩ : ByteArray) [.string (⟨#[99]⟩ : ByteArray)] from rfl) (Reps.none _ _)))))
   intro v593 w13 ho14 hb hg_ hnew_
   clear hg_ hnew_
   (first | rw [← Ny592.out] at ho14 | (simp only [Int.reduceToNat] at ho14; rw [← Ny592.out] at ho14))
   have n0_ := A_ (Kd.R_lower (Kd.R_newM (M := fun k_ => (w.heap.size ≤ k_)) ho14 (keep_size (w := w) (g := g) (row := none) d3_) (fun k_ h_ => h_)) (keep_size (w := w) (g := g) (row := none) d3_))
   have n2_ := A_ (blk_below (bk_ BK582.out) hb)
   have n3_ := A_ (blk_below (bk_ BK583.out) hb)
   have n4_ := A_ (KeepBut.trans d3_ (KeepBut.of_below hb g none) (.inl rfl))
   have n5_ := A_ (below_step (bw_ HB.out) hb)
   have z_HI0 := fun (h0_ : b 2 = false) => (show IsS77 w0 w13 g s0_0 s0_1 s0_2 from by first | exact (IsS77.below (by repeat (first | (with_reducible first | exact (Q_HI0 h0_) | apply IsS77.alloc | apply IsS77.drewN | apply IsS77.drew | apply IsS77.set_1 | apply IsS77.set_2 | refine IsS77.far ?_ NB0_582.out _ | refine IsS77.far ?_ NB0_583.out _) | exact (Q_HI0 h0_))) hb))
   have z_HO589 := fun (h0_ : b 2 = true) => (show Kd.N k29 29 w13 w.heap.size (fun k_ => (w.heap.size ≤ k_) ∧ k_ ≠ g ∧ k_ ≠ gb582 ∧ k_ ≠ gb583) v588 t587 from by first | exact (Kd.N_elder' (by (with_reducible repeat (first | apply Kd.N_alloc | apply Kd.N_drewN | apply Kd.N_drew)); exact (Q_HO589 h0_)) (Kd.R_base ho14) hb) | exact Kd.N_mono (Kd.N_elder' (by (with_reducible repeat (first | apply Kd.N_alloc | apply Kd.N_drewN | apply Kd.N_drew)); exact (Q_HO589 h0_)) (Kd.R_base ho14) hb) (fun _ h_ => by first | trivial | exact h_ | exact h_.1))
   have z_HI0_e2 := fun (h0_ : b 2 = true) => (show IsS77 w0 w13 g s0_0 t590 t591 from by first | exact (IsS77.below (by repeat (first | (with_reducible first | exact (Q_HI0_e2 h0_) | apply IsS77.alloc | apply IsS77.drewN | apply IsS77.drew | apply IsS77.set_1 | apply IsS77.set_2 | refine IsS77.far ?_ NB0_582.out _ | refine IsS77.far ?_ NB0_583.out _) | exact (Q_HI0_e2 h0_))) hb))
   have z_HO600 := fun (h0_ : b 5 = true) (h1_ : b 8 = false) => (show Kd.N k29 29 w13 w.heap.size (fun k_ => (w.heap.size ≤ k_) ∧ k_ ≠ g ∧ k_ ≠ gb582 ∧ k_ ≠ gb583) v599 t598 from by first | exact (Kd.N_elder' (by (with_reducible repeat (first | apply Kd.N_alloc | apply Kd.N_drewN | apply Kd.N_drew)); exact (Q_HO600 h0_ h1_)) (Kd.R_base ho14) hb) | exact Kd.N_mono (Kd.N_elder' (by (with_reducible repeat (first | apply Kd.N_alloc | apply Kd.N_drewN | apply Kd.N_drew)); exact (Q_HO600 h0_ h1_)) (Kd.R_base ho14) hb) (fun _ h_ => by first | trivial | exact h_ | exact h_.1))
   have z_HO603 := fun (h0_ : b 8 = true) => (show Kd.N k29 29 w13 w.heap.size (fun k_ => (w.heap.size ≤ k_) ∧ k_ ≠ g ∧ k_ ≠ gb582 ∧ k_ ≠ gb583) v602 y601 from by first | exact (Kd.N_elder' (by (with_reducible repeat (first | apply Kd.N_alloc | apply Kd.N_drewN | apply Kd.N_drew)); exact (Q_HO603 h0_)) (Kd.R_base ho14) hb) | exact Kd.N_mono (Kd.N_elder' (by (with_reducible repeat (first | apply Kd.N_alloc | apply Kd.N_drewN | apply Kd.N_drew)); exact (Q_HO603 h0_)) (Kd.R_base ho14) hb) (fun _ h_ => by first | trivial | exact h_ | exact h_.1))
   clear BK582
   clear BK583
   clear HK
   clear HB
   have HO594 := n0_
   have BK582 := n2_
   have BK583 := n3_
   have HK := n4_
   have HB := n5_
   clear n0_ n2_ n3_ n4_ n5_
   clear hb ho14
   refine hK.out _ _ ⟨v588, v593, v599, v602, v608, m2_, m5_, m9_, (by rw [ha.out]; exact putSel_upk 2 hb_ rfl rfl rfl), fun _ => (bk_ BK582.out), (bk_ BK583.out), z_HI0, d3_, (bw_ HB.out), z_HO589, z_HI0_e2, fun _ => (kr_ (Kd.R_mono HO594.out (fun _ hk => hk.1))), z_HO600, z_HO603, fun h0_ => absurd ((hoff 9 (by kernel_rfl)).symm.trans h0_) (by decide), fun h0_ => absurd ((hoff 10 (by kernel_rfl)).symm.trans h0_) (by decide), Q_X2_, Q_X5_, fun h0_ => absurd ((hoff 9 (by kernel_rfl)).symm.trans h0_) (by decide)⟩
  refine steps_cons ?_ ?_
  ·rintro b a w' ⟨v588, v593, v599, v602, v608, m2_, m5_, m9_, ha, Q_BK582, Q_BK583, Q_HI0, Q_HK, Q_HB, Q_HO589, Q_HI0_e2, Q_HO594, Q_HO600, Q_HO603, Q_HO609, Q_BK582_e10, Q_X2_, Q_X5_, Q_X9_⟩ hb_ hon hoff
   refine ⟨_, rfl, fun K hK => ?_⟩
   replace ha := A_ ha
   have BK582 := A_ (Q_BK582 (hoff 10 (by kernel_rfl)))
   have BK583 := A_ Q_BK583
   have HK := A_ Q_HK
   have HB := A_ Q_HB
   have HO589 := A_ (Q_HO589 (hon 2 (by kernel_rfl)))
   have HI0 := A_ (Q_HI0_e2 (hon 2 (by kernel_rfl)))
   refine goes_ Try.func79 (by kernel_rfl) rfl #[.int .i64 7] (by rfl) rfl rfl (by first | (simp only [List.map_toArray, List.map_cons, List.map_nil, Act.eval, Array.getD_eq_getD_getElem?, Option.getD_some]; done) | (simp only [List.map_toArray, List.map_cons, List.map_nil, Act.eval, Array.getD_eq_getD_getElem?, Option.getD_some]; rfl)) ?_
   with_reducible refine (spec_l10Num.calls 7 t595 t596 t597 t598 _ A4.out).mono ?_
   rintro e w15 ⟨v599, rfl, ho0, hb⟩
   refine ⟨_, rfl, ?_⟩
   have n0_ := A_ (Kd.N_elder' d33_ d50_ hb)
   have n1_ := A_ (Kd.N_lower (Kd.N_mono (ok' := fun k_ => (w.heap.size ≤ k_) ∧ some k_ ≠ (v588 : Value).ownBlock ∧ k_ ≠ gb582 ∧ k_ ≠ gb583 ∧ k_ ≠ g) (Kd.R_N (Kd.R_bound ho0)) (fun k_ hk_ => ⟨(Nat.le_trans (keep_size (w := w) (g := g) (row := none) d3_) hk_.2.1), (Kd.fresh' (Kd.N_lt d33_) k_ hk_.2.1), (Kd.freshB (bk_ BK582.out) k_ hk_.2.1), (Kd.freshB (bk_ BK583.out) k_ hk_.2.1), (IsS77.fresh d10_ k_ hk_.2.1)⟩)) (keep_size (w := w) (g := g) (row := none) d3_))
   have n2_ := A_ (IsS77.below d10_ hb)
   have n3_ := A_ (blk_below (bk_ BK582.out) hb)
   have n4_ := A_ (blk_below (bk_ BK583.out) hb)
   have n5_ := A_ (KeepBut.trans d3_ (KeepBut.of_below hb g none) (.inl rfl))
   have n6_ := A_ (below_step (have := GeI.mk (IsS77.ge HI0.out); bw_ HB.out) hb)
   have z_HO594 := fun (h0_ : b 4 = true) => (show Kd.R Kd.string 9 w15 w.heap.size (fun k_ => (w.heap.size ≤ k_)) v593 y592 from by first | exact (Kd.R_below (kr_ (Q_HO594 h0_)) hb) | exact Kd.R_mono (Kd.R_below (kr_ (Q_HO594 h0_)) hb) (fun _ h_ => by first | trivial | exact h_ | exact h_.1))
   clear HO589
   clear HI0
   clear BK582
   clear BK583
   clear HK
   clear HB
   have HO589 := n0_
   have HO600 := n1_
   have HI0 := n2_
   have BK582 := n3_
   have BK583 := n4_
   have HK := n5_
   have HB := n6_
   clear n0_ n1_ n2_ n3_ n4_ n5_ n6_
   (try clear hb)
   (try clear hb2)
   (try clear hk)
   (try clear hi)
   (try clear ho0)
   refine hK.out _ _ ⟨v588, v593, v599, v602, v608, m2_, (.agg #[.int .i64 t595, .int .i64 t596, .string t597, v599]), m9_, (by rw [ha.out]; exact putSel_upk 3 hb_ rfl rfl rfl), fun _ => (bk_ BK582.out), (bk_ BK583.out), fun h0_ => absurd ((hon 2 (by kernel_rfl)).symm.trans h0_) (by decide), d3_, (have := GeI.mk (IsS77.ge HI0.out); bw_ HB.out), fun _ => (by (with_reducible repeat (first | apply Kd.N_alloc | apply Kd.N_drewN | apply Kd.N_drew)); exact Kd.N_mono HO589.out (fun _ hk => by first | exact ⟨hk.1.1, ⟨hk.2, ⟨hk.1.2.1, ⟨hk.1.2.2.1, hk.1.2.2.2⟩⟩⟩⟩ | simp_all)), fun _ => d10_, z_HO594, fun _ _ => (by (with_reducible repeat (first | apply Kd.N_alloc | apply Kd.N_drewN | apply Kd.N_drew)); exact Kd.N_mono HO600.out (fun _ hk => by first | exact ⟨hk.1, ⟨hk.2.1, ⟨hk.2.2.2.2, ⟨hk.2.2.1, hk.2.2.2.1⟩⟩⟩⟩ | simp_all)), fun h0_ => absurd ((hoff 8 (by kernel_rfl)).symm.trans h0_) (by decide), fun h0_ => absurd ((hoff 9 (by kernel_rfl)).symm.trans h0_) (by decide), fun h0_ => absurd ((hoff 10 (by kernel_rfl)).symm.trans h0_) (by decide), Q_X2_, fun _ => rfl, fun h0_ => absurd ((hoff 9 (by kernel_rfl)).symm.trans h0_) (by decide)⟩
  refine steps_cons ?_ ?_
  ·rintro b a w' ⟨v588, v593, v599, v602, v608, m2_, m5_, m9_, ha, Q_BK582, Q_BK583, Q_HI0, Q_HK, Q_HB, Q_HO589, Q_HI0_e2, Q_HO594, Q_HO600, Q_HO603, Q_HO609, Q_BK582_e10, Q_X2_, Q_X5_, Q_X9_⟩ hb_ hon hoff
   refine ⟨_, rfl, fun K hK => ?_⟩
   replace ha := A_ ha
   have BK582 := A_ (Q_BK582 (hoff 10 (by kernel_rfl)))
   have BK583 := A_ Q_BK583
   have HK := A_ Q_HK
   have HB := A_ Q_HB
   refine value_ (w1 := w') (v := .agg #[.int .i64 11, .int .i64 0, .string (⟨#[]⟩ : ByteArray), .slice none 0 0]) (by rfl) rfl ?_ ?_
   ·go_simp
    (try simp only [i64_w])
    try rfl
   refine hK.out _ _ ⟨v588, v593, v599, v602, v608, m2_, m5_, m9_, (by rw [ha.out]; exact putSel_upk 4 hb_ rfl rfl rfl), Q_BK582, Q_BK583, Q_HI0, Q_HK, Q_HB, Q_HO589, Q_HI0_e2, Q_HO594, Q_HO600, fun h0_ => absurd ((hoff 8 (by kernel_rfl)).symm.trans h0_) (by decide), fun h0_ => absurd ((hoff 9 (by kernel_rfl)).symm.trans h0_) (by decide), fun h0_ => absurd ((hoff 10 (by kernel_rfl)).symm.trans h0_) (by decide), Q_X2_, Q_X5_, fun h0_ => absurd ((hoff 9 (by kernel_rfl)).symm.trans h0_) (by decide)⟩
  refine steps_cons ?_ ?_
  ·rintro b a w' ⟨v588, v593, v599, v602, v608, m2_, m5_, m9_, ha, Q_BK582, Q_BK583, Q_HI0, Q_HK, Q_HB, Q_HO589, Q_HI0_e2, Q_HO594, Q_HO600, Q_HO603, Q_HO609, Q_BK582_e10, Q_X2_, Q_X5_, Q_X9_⟩ hb_ hon hoff
   refine ⟨_, rfl, fun K hK => ?_⟩
   replace ha := A_ ha
   have BK582 := A_ (Q_BK582 (hoff 10 (by kernel_rfl)))
   have BK583 := A_ Q_BK583
   have HK := A_ Q_HK
   have HB := A_ Q_HB
   refine value_ (w1 := w') (v := .agg #[.int .i64 12, .int .i64 0, .string (⟨#[103]⟩ : ByteArray), .slice none 0 0]) (by rfl) rfl ?_ ?_
   ·go_simp
    (try simp only [i64_w])
    try rfl
   refine hK.out _ _ ⟨v588, v593, v599, v602, v608, m2_, m5_, m9_, (by rw [ha.out]; exact putSel_upk 5 hb_ rfl rfl rfl), Q_BK582, Q_BK583, Q_HI0, Q_HK, Q_HB, Q_HO589, Q_HI0_e2, Q_HO594, Q_HO600, fun h0_ => absurd ((hoff 8 (by kernel_rfl)).symm.trans h0_) (by decide), fun h0_ => absurd ((hoff 9 (by kernel_rfl)).symm.trans h0_) (by decide), fun h0_ => absurd ((hoff 10 (by kernel_rfl)).symm.trans h0_) (by decide), Q_X2_, Q_X5_, fun h0_ => absurd ((hoff 9 (by kernel_rfl)).symm.trans h0_) (by decide)⟩
  refine steps_cons ?_ ?_
  ·rintro b a w' ⟨v588, v593, v599, v602, v608, m2_, m5_, m9_, ha, Q_BK582, Q_BK583, Q_HI0, Q_HK, Q_HB, Q_HO589, Q_HI0_e2, Q_HO594, Q_HO600, Q_HO603, Q_HO609, Q_BK582_e10, Q_X2_, Q_X5_, Q_X9_⟩ hb_ hon hoff
   refine ⟨_, rfl, fun K hK => ?_⟩
   have e12 : a.tmps[12]? = some (m5_) := by rw [ha]; exact putSel_on (e := (5, 12, m5_)) 3 rfl rfl (hon 5 (by kernel_rfl)) rfl
   rw [Q_X5_ (hon 5 (by kernel_rfl))] at e12
   have e13 : a.tmps[13]? = some (.agg #[.int .i64 11, .int .i64 0, .string (⟨#[]⟩ : ByteArray), .slice none 0 0]) := by rw [ha]; exact putSel_on (e := (6, 13, .agg #[.int .i64 11, .int .i64 0, .string (⟨#[]⟩ : ByteArray), .slice none 0 0])) 4 rfl rfl (hon 6 (by kernel_rfl)) rfl
   have e14 : a.tmps[14]? = some (.agg #[.int .i64 12, .int .i64 0, .string (⟨#[103]⟩ : ByteArray), .slice none 0 0]) := by rw [ha]; exact putSel_on (e := (7, 14, .agg #[.int .i64 12, .int .i64 0, .string (⟨#[103]⟩ : ByteArray), .slice none 0 0])) 5 rfl rfl (hon 7 (by kernel_rfl)) rfl
   replace ha := A_ ha
   have BK582 := A_ (Q_BK582 (hoff 10 (by kernel_rfl)))
   have BK583 := A_ Q_BK583
   have HK := A_ Q_HK
   have HB := A_ Q_HB
   have HO589 := A_ (Q_HO589 (hon 2 (by kernel_rfl)))
   have HI0 := A_ (Q_HI0_e2 (hon 2 (by kernel_rfl)))
   have HO600 := A_ (Q_HO600 (hon 5 (by kernel_rfl)) hb_)
   obtain ⟨Ao16, co16, eo16⟩ := Kd.N_slice HO600.out
   (first | subst eo16 | (injection eo16 with f1_ f2_ f3_; have f4_ := f1_.symm; have f5_ := f3_.symm; clear f1_ f2_ f3_; subst f4_; subst f5_))
   refine Kd.N_lit_step k29 _ 29 ?hg (N' := 15) ?hd (xs := ([(⟨t595, t596, t597, t598⟩ : S29), (⟨11, 0, (⟨#[]⟩ : ByteArray), ([] : List (S29))⟩ : S29), (⟨12, 0, (⟨#[103]⟩ : ByteArray), ([] : List (S29))⟩ : S29)] : List (S29))) (inner := [.int .i64 t595, .int .i64 t596, .string t597, .slice Ao16 t598.length co16, .int .i64 11, .int .i64 0, .string (⟨#[]⟩ : ByteArray), .slice none 0 0, .int .i64 12, .int .i64 0, .string (⟨#[103]⟩ : ByteArray), .slice none 0 0]) (ok := (fun k_ => (w.heap.size ≤ k_) ∧ k_ ≠ gb582 ∧ k_ ≠ gb583 ∧ k_ ≠ g)) (okp := (fun k_ => (w.heap.size ≤ k_) ∧ k_ ≠ gb582 ∧ k_ ≠ gb583 ∧ k_ ≠ g)) ?hr ?hp (fun _ hk => hk) ((show ∀ k_, w'.heap.size ≤ k_ → (fun k_ => (w.heap.size ≤ k_) ∧ k_ ≠ gb582 ∧ k_ ≠ gb583 ∧ k_ ≠ g) k_ from fun k_ hk => ⟨(Nat.le_trans (keep_size (w := w) (g := g) (row := none) d3_) hk), Kd.freshB (bk_ BK582.out) k_ hk, Kd.freshB (bk_ BK583.out) k_ hk, IsS77.fresh d10_ k_ hk⟩) _ (Nat.le_refl _)) (Below.refl _ _) (Nat.le_refl _) (by simp) ?_; (case hd => rfl); (case hg => rfl); (case hr => first | (go_simp; done) | (go_simp; rfl)); (case hp => exact (Reps.c4 (show Kd.FK k29 _ _ (⟨t595, t596, t597, t598⟩ : S29) [.int .i64 t595, .int .i64 t596, .string t597, .slice Ao16 t598.length co16] from (k29_mkF _ _ (⟨t595, t596, t597, t598⟩ : S29) (Kd.N_reads' (Kd.N_mono (ok' := (fun k_ => (w.heap.size ≤ k_) ∧ k_ ≠ gb582 ∧ k_ ≠ gb583 ∧ k_ ≠ g)) (HO600.out) (fun k_ hk => by first | exact ⟨hk.1, ⟨hk.2.1, ⟨hk.2.2.2.1, ⟨hk.2.2.2.2, hk.2.2.1⟩⟩⟩⟩ | simp_all))).2.1 (Kd.N_F (Kd.N_mono (ok' := (fun k_ => (w.heap.size ≤ k_) ∧ k_ ≠ gb582 ∧ k_ ≠ gb583 ∧ k_ ≠ g)) (HO600.out) (fun k_ hk => by first | exact ⟨hk.1, ⟨hk.2.1, ⟨hk.2.2.2.1, ⟨hk.2.2.2.2, hk.2.2.1⟩⟩⟩⟩ | simp_all))))) (Reps.c4 (show Kd.FK k29 _ _ (⟨11, 0, (⟨#[]⟩ : ByteArray), ([] : List (S29))⟩ : S29) [.int .i64 11, .int .i64 0, .string (⟨#[]⟩ : ByteArray), .slice none 0 0] from (k29_mkF _ _ (⟨11, 0, (⟨#[]⟩ : ByteArray), ([] : List (S29))⟩ : S29) (Nat.le_refl _) (Kd.F_nil _ _ _))) (Reps.c4 (show Kd.FK k29 _ _ (⟨12, 0, (⟨#[103]⟩ : ByteArray), ([] : List (S29))⟩ : S29) [.int .i64 12, .int .i64 0, .string (⟨#[103]⟩ : ByteArray), .slice none 0 0] from (k29_mkF _ _ (⟨12, 0, (⟨#[103]⟩ : ByteArray), ([] : List (S29))⟩ : S29) (Nat.le_refl _) (Kd.F_nil _ _ _))) (Reps.none _ _)))))
   intro v602 w17 ho18 hb hg_ hnew_
   clear hg_ hnew_
   (first | rw [← Ny601.out] at ho18 | (simp only [Int.reduceToNat] at ho18; rw [← Ny601.out] at ho18))
   have n0_ := A_ (Kd.N_elder' d33_ (Kd.N_base ho18) hb)
   have n1_ := A_ (Kd.N_lower ho18 (keep_size (w := w) (g := g) (row := none) d3_))
   have n2_ := A_ (IsS77.below d10_ hb)
   have n3_ := A_ (blk_below (bk_ BK582.out) hb)
   have n4_ := A_ (blk_below (bk_ BK583.out) hb)
   have n5_ := A_ (KeepBut.trans d3_ (KeepBut.of_below hb g none) (.inl rfl))
   have n6_ := A_ (below_step (have := GeI.mk (IsS77.ge HI0.out); bw_ HB.out) hb)
   have z_HO594 := fun (h0_ : b 4 = true) => (show Kd.R Kd.string 9 w17 w.heap.size (fun k_ => (w.heap.size ≤ k_)) v593 y592 from by first | exact (Kd.R_below (kr_ (Q_HO594 h0_)) hb) | exact Kd.R_mono (Kd.R_below (kr_ (Q_HO594 h0_)) hb) (fun _ h_ => by first | trivial | exact h_ | exact h_.1))
   clear HO589
   clear HI0
   clear BK582
   clear BK583
   clear HK
   clear HB
   clear HO600
   have HO589 := n0_
   have HO603 := n1_
   have HI0 := n2_
   have BK582 := n3_
   have BK583 := n4_
   have HK := n5_
   have HB := n6_
   clear n0_ n1_ n2_ n3_ n4_ n5_ n6_
   clear hb ho18
   refine hK.out _ _ ⟨v588, v593, .slice Ao16 t598.length co16, v602, v608, m2_, m5_, m9_, (by rw [ha.out]; exact putSel_upk 6 hb_ rfl rfl rfl), fun _ => (bk_ BK582.out), (bk_ BK583.out), fun h0_ => absurd ((hon 2 (by kernel_rfl)).symm.trans h0_) (by decide), d3_, (have := GeI.mk (IsS77.ge HI0.out); bw_ HB.out), fun _ => (by (with_reducible repeat (first | apply Kd.N_alloc | apply Kd.N_drewN | apply Kd.N_drew)); exact Kd.N_mono HO589.out (fun _ hk => by first | exact ⟨hk.1.1, ⟨hk.2, ⟨hk.1.2.2.1, ⟨hk.1.2.2.2.1, hk.1.2.2.2.2⟩⟩⟩⟩ | simp_all)), fun _ => d10_, z_HO594, fun _ h1_ => absurd ((up_self b 8).symm.trans h1_) (by decide), fun _ => (by (with_reducible repeat (first | apply Kd.N_alloc | apply Kd.N_drewN | apply Kd.N_drew)); exact Kd.N_mono HO603.out (fun _ hk => by first | exact ⟨hk.1, ⟨hk.2.1, ⟨hk.2.2.2.2, ⟨hk.2.2.1, hk.2.2.2.1⟩⟩⟩⟩ | simp_all)), fun h0_ => absurd ((hoff 9 (by kernel_rfl)).symm.trans h0_) (by decide), fun h0_ => absurd ((hoff 10 (by kernel_rfl)).symm.trans h0_) (by decide), Q_X2_, Q_X5_, fun h0_ => absurd ((hoff 9 (by kernel_rfl)).symm.trans h0_) (by decide)⟩
  refine steps_cons ?_ ?_
  ·rintro b a w' ⟨v588, v593, v599, v602, v608, m2_, m5_, m9_, ha, Q_BK582, Q_BK583, Q_HI0, Q_HK, Q_HB, Q_HO589, Q_HI0_e2, Q_HO594, Q_HO600, Q_HO603, Q_HO609, Q_BK582_e10, Q_X2_, Q_X5_, Q_X9_⟩ hb_ hon hoff
   refine ⟨_, rfl, fun K hK => ?_⟩
   have e9 : a.tmps[9]? = some (m2_) := by rw [ha]; exact putSel_on (e := (2, 9, m2_)) 0 rfl rfl (hon 2 (by kernel_rfl)) rfl
   rw [Q_X2_ (hon 2 (by kernel_rfl))] at e9
   have e10 : a.tmps[10]? = some (.agg #[.int .i64 11, .int .i64 1, .string (⟨#[]⟩ : ByteArray), .slice none 0 0]) := by rw [ha]; exact putSel_on (e := (3, 10, .agg #[.int .i64 11, .int .i64 1, .string (⟨#[]⟩ : ByteArray), .slice none 0 0])) 1 rfl rfl (hon 3 (by kernel_rfl)) rfl
   have e11 : a.tmps[11]? = some (v593) := by rw [ha]; exact putSel_on (e := (4, 11, v593)) 2 rfl rfl (hon 4 (by kernel_rfl)) rfl
   have e15 : a.tmps[15]? = some (v602) := by rw [ha]; exact putSel_on (e := (8, 15, v602)) 6 rfl rfl (hon 8 (by kernel_rfl)) rfl
   replace ha := A_ ha
   have BK582 := A_ (Q_BK582 (hoff 10 (by kernel_rfl)))
   have BK583 := A_ Q_BK583
   have HK := A_ Q_HK
   have HB := A_ Q_HB
   have HO589 := A_ (Q_HO589 (hon 2 (by kernel_rfl)))
   have HI0 := A_ (Q_HI0_e2 (hon 2 (by kernel_rfl)))
   have HO594 := A_ (Q_HO594 (hon 4 (by kernel_rfl)))
   have HO603 := A_ (Q_HO603 (hon 8 (by kernel_rfl)))
   obtain ⟨Ao21, co21, eo21⟩ := Kd.N_slice HO589.out
   (first | subst eo21 | (injection eo21 with f1_ f2_ f3_; have f4_ := f1_.symm; have f5_ := f3_.symm; clear f1_ f2_ f3_; subst f4_; subst f5_))
   obtain ⟨Ao22, co22, eo22⟩ := Kd.R_slice HO594.out
   (first | subst eo22 | (injection eo22 with f1_ f2_ f3_; have f4_ := f1_.symm; have f5_ := f3_.symm; clear f1_ f2_ f3_; subst f4_; subst f5_))
   obtain ⟨Ao23, co23, eo23⟩ := Kd.N_slice HO603.out
   (first | subst eo23 | (injection eo23 with f1_ f2_ f3_; have f4_ := f1_.symm; have f5_ := f3_.symm; clear f1_ f2_ f3_; subst f4_; subst f5_))
   refine goes_ Try.func53 (by kernel_rfl) rfl #[.agg #[.int .i64 t584, .int .i64 t585, .string t586, .slice Ao21 t587.length co21], .agg #[.int .i64 11, .int .i64 1, .string (⟨#[]⟩ : ByteArray), .slice none 0 0], .slice Ao22 y592.length co22, .slice Ao23 y601.length co23] (by rfl) rfl rfl (by first | (simp only [List.map_toArray, List.map_cons, List.map_nil, Act.eval, Array.getD_eq_getD_getElem?, Option.getD_some, e9, e10, e11, e15]; done) | (simp only [List.map_toArray, List.map_cons, List.map_nil, Act.eval, Array.getD_eq_getD_getElem?, Option.getD_some, e9, e10, e11, e15]; rfl)) ?_
   refine (spec_l11Put.calls k t584 t585 t586 _ _ t587 11 1 (⟨#[]⟩ : ByteArray) _ _ ([] : List (S29)) _ _ y592 _ _ y601 t604 t605 t606 t607 _ ?side1 ?side2 ?side3 ?side4 ?side5 ?side6 ?side7 ?side8 A5.out).mono ?_
   (case side1 => repeat (first | exact (Kd.N_reads' HO589.out).2.2 | (with_reducible refine Kd.C_alloc ?_ _) | (with_reducible refine Kd.C_drewN ?_ _) | (with_reducible refine Kd.C_drew ?_)))
   (case side2 => exact (Kd.N_reads' HO589.out).2.1)
   (case side3 => exact Kd.C_nil _ _)
   (case side4 => exact Nat.le_refl _)
   (case side5 => repeat (first | exact (Kd.R_reads' HO594.out).2.2 | (with_reducible refine Kd.C_alloc ?_ _) | (with_reducible refine Kd.C_drewN ?_ _) | (with_reducible refine Kd.C_drew ?_)))
   (case side6 => exact (Kd.R_reads' HO594.out).2.1)
   (case side7 => repeat (first | exact (Kd.N_reads' HO603.out).2.2 | (with_reducible refine Kd.C_alloc ?_ _) | (with_reducible refine Kd.C_drewN ?_ _) | (with_reducible refine Kd.C_drew ?_)))
   (case side8 => exact (Kd.N_reads' HO603.out).2.1)
   rintro e w24 ⟨v608, rfl, ho0, hb⟩
   refine ⟨_, rfl, ?_⟩
   have HO609 := A_ (Kd.N_lower (Kd.N_mono (ok' := fun k_ => (w.heap.size ≤ k_) ∧ some k_ ≠ (.slice Ao21 t587.length co21 : Value).ownBlock ∧ some k_ ≠ (.slice Ao22 y592.length co22 : Value).ownBlock ∧ some k_ ≠ (.slice Ao23 y601.length co23 : Value).ownBlock ∧ k_ ≠ gb582 ∧ k_ ≠ gb583 ∧ k_ ≠ g) (Kd.R_N (Kd.R_bound ho0)) (fun k_ hk_ => ⟨(Nat.le_trans (keep_size (w := w) (g := g) (row := none) d3_) hk_.2.1), (Kd.fresh' (Kd.N_lt d33_) k_ hk_.2.1), (Kd.fresh' (Kd.R_lt (kr_ HO594.out)) k_ hk_.2.1), (Kd.fresh' (Kd.N_lt (by (with_reducible repeat (first | apply Kd.N_alloc | apply Kd.N_drewN | apply Kd.N_drew)); exact HO603.out)) k_ hk_.2.1), (Kd.freshB (bk_ BK582.out) k_ hk_.2.1), (Kd.freshB (bk_ BK583.out) k_ hk_.2.1), (IsS77.fresh d10_ k_ hk_.2.1)⟩)) (keep_size (w := w) (g := g) (row := none) d3_))
   replace HO589 := A_ (Kd.N_elder' d33_ d50_ hb)
   replace HO594 := A_ (Kd.R_below (kr_ HO594.out) hb)
   replace HO603 := A_ (Kd.N_elder' (by (with_reducible repeat (first | apply Kd.N_alloc | apply Kd.N_drewN | apply Kd.N_drew)); exact HO603.out) d50_ hb)
   replace BK582 := A_ (blk_below (bk_ BK582.out) hb)
   replace BK583 := A_ (blk_below (bk_ BK583.out) hb)
   replace HK := A_ (KeepBut.trans d3_ (KeepBut.of_below hb g none) (.inl rfl))
   replace HB := A_ (below_step (have := GeI.mk (IsS77.ge HI0.out); bw_ HB.out) hb)
   replace HI0 := A_ (IsS77.below d10_ hb)
   (try clear hb)
   (try clear hb2)
   (try clear hk)
   (try clear hi)
   (try clear ho0)
   refine hK.out _ _ ⟨.slice Ao21 t587.length co21, .slice Ao22 y592.length co22, v599, .slice Ao23 y601.length co23, v608, m2_, m5_, (.agg #[.int .i64 t604, .int .i64 t605, .string t606, v608]), (by rw [ha.out]; exact putSel_upk 7 hb_ rfl rfl rfl), fun _ => (bk_ BK582.out), (bk_ BK583.out), fun h0_ => absurd ((hon 2 (by kernel_rfl)).symm.trans h0_) (by decide), d3_, (have := GeI.mk (IsS77.ge HI0.out); bw_ HB.out), fun _ => (by (with_reducible repeat (first | apply Kd.N_alloc | apply Kd.N_drewN | apply Kd.N_drew)); exact Kd.N_mono HO589.out (fun _ hk => by first | exact ⟨hk.1.1, ⟨hk.1.2.1, ⟨hk.1.2.2.1, ⟨hk.2, ⟨hk.1.2.2.2.1, ⟨hk.1.2.2.2.2.1, hk.1.2.2.2.2.2⟩⟩⟩⟩⟩⟩ | simp_all)), fun _ => d10_, fun _ => (kr_ HO594.out), fun _ h1_ => absurd ((hon 8 (by kernel_rfl)).symm.trans h1_) (by decide), fun _ => (by (with_reducible repeat (first | apply Kd.N_alloc | apply Kd.N_drewN | apply Kd.N_drew)); exact Kd.N_mono HO603.out (fun _ hk => by first | exact ⟨hk.1.1, ⟨hk.1.2.1, ⟨hk.1.2.2.1, ⟨hk.2, ⟨hk.1.2.2.2.1, ⟨hk.1.2.2.2.2.1, hk.1.2.2.2.2.2⟩⟩⟩⟩⟩⟩ | simp_all)), fun _ => (by (with_reducible repeat (first | apply Kd.N_alloc | apply Kd.N_drewN | apply Kd.N_drew)); exact Kd.N_mono HO609.out (fun _ hk => by first | exact ⟨hk.1, ⟨hk.2.1, ⟨hk.2.2.1, ⟨hk.2.2.2.1, ⟨hk.2.2.2.2.2.2, ⟨hk.2.2.2.2.1, hk.2.2.2.2.2.1⟩⟩⟩⟩⟩⟩ | simp_all)), fun h0_ => absurd ((hoff 10 (by kernel_rfl)).symm.trans h0_) (by decide), Q_X2_, Q_X5_, fun _ => rfl⟩
  refine steps_cons ?_ ?_
  ·rintro b a w' ⟨v588, v593, v599, v602, v608, m2_, m5_, m9_, ha, Q_BK582, Q_BK583, Q_HI0, Q_HK, Q_HB, Q_HO589, Q_HI0_e2, Q_HO594, Q_HO600, Q_HO603, Q_HO609, Q_BK582_e10, Q_X2_, Q_X5_, Q_X9_⟩ hb_ hon hoff
   refine ⟨_, rfl, fun K hK => ?_⟩
   have e4 : a.tmps[4]? = some (.pointer (some ⟨gb582, 0, none⟩)) := by rw [ha]; exact (putSel_off rfl).trans rfl
   have e16 : a.tmps[16]? = some (m9_) := by rw [ha]; exact putSel_on (e := (9, 16, m9_)) 7 rfl rfl (hon 9 (by kernel_rfl)) rfl
   rw [Q_X9_ (hon 9 (by kernel_rfl))] at e16
   replace ha := A_ ha
   have BK582 := A_ (Q_BK582 hb_)
   have BK583 := A_ Q_BK583
   have HK := A_ Q_HK
   have HB := A_ Q_HB
   have HO589 := A_ (Q_HO589 (hon 2 (by kernel_rfl)))
   have HI0 := A_ (Q_HI0_e2 (hon 2 (by kernel_rfl)))
   have HO594 := A_ (Q_HO594 (hon 4 (by kernel_rfl)))
   have HO603 := A_ (Q_HO603 (hon 8 (by kernel_rfl)))
   have HO609 := A_ (Q_HO609 (hon 9 (by kernel_rfl)))
   obtain ⟨Ao28, co28, eo28⟩ := Kd.N_slice HO609.out
   (first | subst eo28 | (injection eo28 with f1_ f2_ f3_; have f4_ := f1_.symm; have f5_ := f3_.symm; clear f1_ f2_ f3_; subst f4_; subst f5_))
   have hs25 : w'.cell? ⟨gb582, 0, none⟩ = some (.int .i64 0) := (blk_cell BK582.out 0).trans rfl
   have hfs25 := blk_frozen BK582.out 0
   have hns25_1 := NB583_582.out
   have hms25_1 := NB582_583.out
   have hs26 : w'.cell? ⟨gb582, 1, none⟩ = some (.int .i64 0) := (blk_cell BK582.out 1).trans rfl
   have hfs26 := blk_frozen BK582.out 1
   have hns26_1 := NB583_582.out
   have hms26_1 := NB582_583.out
   have hs27 : w'.cell? ⟨gb582, 2, none⟩ = some (.string (⟨#[]⟩ : ByteArray)) := (blk_cell BK582.out 2).trans rfl
   have hfs27 := blk_frozen BK582.out 2
   have hns27_1 := NB583_582.out
   have hms27_1 := NB582_583.out
   have hs29 : w'.cell? ⟨gb582, 3, none⟩ = some (.slice none 0 0) := (blk_cell BK582.out 3).trans rfl
   have hfs29 := blk_frozen BK582.out 3
   have hns29_1 := NB583_582.out
   have hms29_1 := NB582_583.out
   refine skip_ (w1 := ?_) (by rfl) rfl ?_ ?_
   rotate_left
   ·go_simp
    rfl
   refine hK.out _ _ ⟨v588, v593, v599, v602, .slice Ao28 t607.length co28, m2_, m5_, m9_, (by rw [ha.out]; exact putSel_none (v := undef) rfl), fun h0_ => absurd ((up_self b 10).symm.trans h0_) (by decide), (by refine bk_ ?_; refine blk_far ?_ NB583_582.out _; refine bk_ ?_; refine blk_far ?_ NB583_582.out _; refine bk_ ?_; refine blk_far ?_ NB583_582.out _; refine bk_ ?_; refine blk_far ?_ NB583_582.out _; refine bk_ ?_; exact BK583.out), fun h0_ => absurd ((hon 2 (by kernel_rfl)).symm.trans h0_) (by decide), d3_, (have := GeI.mk (IsS77.ge HI0.out); bw_ HB.out), fun _ => (by (with_reducible repeat (first | apply Kd.N_alloc | apply Kd.N_drewN | apply Kd.N_drew)); exact Kd.N_mono (nf4_ (Kd.N_mono HO589.out (fun k_ hk => (⟨hk, by first | exact hk.2.2.2.2.2.1 | simp_all⟩ : _ ∧ k_ ≠ gb582))) (fun _ hk => hk.2)) (fun _ hk => by first | exact ⟨hk.1.1, ⟨hk.1.2.1, ⟨hk.1.2.2.1, ⟨hk.1.2.2.2.1, ⟨hk.1.2.2.2.2.1, ⟨hk.1.2.2.2.2.2.1, hk.1.2.2.2.2.2.2⟩⟩⟩⟩⟩⟩ | simp_all)), fun _ => d10_, fun _ => (kr_ (Kd.R_mono (rf4_ (Kd.R_types HO594.out BK582.out (by decide)) (fun _ hk => hk.2)) (fun _ hk => hk.1))), fun _ h1_ => absurd ((hon 8 (by kernel_rfl)).symm.trans h1_) (by decide), fun _ => (by (with_reducible repeat (first | apply Kd.N_alloc | apply Kd.N_drewN | apply Kd.N_drew)); exact Kd.N_mono (nf4_ (Kd.N_mono HO603.out (fun k_ hk => (⟨hk, by first | exact hk.2.2.2.2.2.1 | simp_all⟩ : _ ∧ k_ ≠ gb582))) (fun _ hk => hk.2)) (fun _ hk => by first | exact ⟨hk.1.1, ⟨hk.1.2.1, ⟨hk.1.2.2.1, ⟨hk.1.2.2.2.1, ⟨hk.1.2.2.2.2.1, ⟨hk.1.2.2.2.2.2.1, hk.1.2.2.2.2.2.2⟩⟩⟩⟩⟩⟩ | simp_all)), fun _ => (by (with_reducible repeat (first | apply Kd.N_alloc | apply Kd.N_drewN | apply Kd.N_drew)); exact Kd.N_mono (nf4_ (Kd.N_mono HO609.out (fun k_ hk => (⟨hk, by first | exact hk.2.2.2.2.2.1 | simp_all⟩ : _ ∧ k_ ≠ gb582))) (fun _ hk => hk.2)) (fun _ hk => by first | exact ⟨hk.1.1, ⟨hk.1.2.1, ⟨hk.1.2.2.1, ⟨hk.1.2.2.2.1, ⟨hk.1.2.2.2.2.1, ⟨hk.1.2.2.2.2.2.1, hk.1.2.2.2.2.2.2⟩⟩⟩⟩⟩⟩ | simp_all)), fun _ => (by exact bk_ (bp4_ (bk_ BK582.out))), Q_X2_, Q_X5_, Q_X9_⟩
  exact steps_nil
 rintro b a w29 hall ⟨v588, v593, v599, v602, v608, m2_, m5_, m9_, ha, Q_BK582, Q_BK583, Q_HI0, Q_HK, Q_HB, Q_HO589, Q_HI0_e2, Q_HO594, Q_HO600, Q_HO603, Q_HO609, Q_BK582_e10, Q_X2_, Q_X5_, Q_X9_⟩
 clear BK582 BK583 HB HI0 HK
 have hb2_ := hall 2 (by kernel_rfl)
 have hb3_ := hall 3 (by kernel_rfl)
 have hb4_ := hall 4 (by kernel_rfl)
 have hb5_ := hall 5 (by kernel_rfl)
 have hb6_ := hall 6 (by kernel_rfl)
 have hb7_ := hall 7 (by kernel_rfl)
 have hb8_ := hall 8 (by kernel_rfl)
 have hb9_ := hall 9 (by kernel_rfl)
 have hb10_ := hall 10 (by kernel_rfl)
 subst ha
 obtain rfl := Q_X2_ hb2_
 obtain rfl := Q_X5_ hb5_
 obtain rfl := Q_X9_ hb9_
 simp only [putSel, hb2_, hb3_, hb4_, hb5_, hb6_, hb7_, hb8_, hb9_, hb10_, if_true, Act.put, List.setIfInBounds_toArray, List.set_cons_zero, List.set_cons_succ]
 clear Q_BK582
 have BK583 := A_ Q_BK583
 clear Q_BK583
 clear Q_HI0
 have HK := A_ Q_HK
 clear Q_HK
 have HB := A_ Q_HB
 clear Q_HB
 have HO589 := A_ (Q_HO589 hb2_)
 clear Q_HO589
 have HI0 := A_ (Q_HI0_e2 hb2_)
 clear Q_HI0_e2
 have HO594 := A_ (Q_HO594 hb4_)
 clear Q_HO594
 clear Q_HO600
 have HO603 := A_ (Q_HO603 hb8_)
 clear Q_HO603
 have HO609 := A_ (Q_HO609 hb9_)
 clear Q_HO609
 have BK582 := A_ (Q_BK582_e10 hb10_)
 clear Q_BK582_e10
 clear hall hb2_ hb3_ hb4_ hb5_ hb6_ hb7_ hb8_ hb9_ hb10_
 try go_wp2
 refine bodyPost_ret (results_cell_row rfl _ _ gb582 29 #[.int .i64 t604, .int .i64 t605, .string t606, v608] (0, 0) _ rfl ?hb_ Try.underlying29 rfl (by kernel_rfl)) rfl ?_
 (case hb_ => refine bk_ ?_; exact BK582.out)
 exact ⟨_, by first | rfl | (simp [errW_none, errW_some] <;> rfl) | (simp [*, errW_none, errW_some] <;> rfl), by (with_reducible repeat (first | apply Kd.N_alloc | apply Kd.N_drewN | apply Kd.N_drew)); exact Kd.N_mono HO609.out (fun _ hk => hk.1), hI0_, (have := GeI.mk (IsS77.ge HI0.out); bw_ HB.out), by repeat (first | (with_reducible first | exact HK.out | apply KeepBut.set_ | apply keep_drewN | apply keep_drew | apply keep_alloc | refine keep_far ?_ GW582.out _ | refine keep_far ?_ GW583.out _) | exact HK.out)⟩

/-! ### spec_l1Num: function 65 -/
def spec_l1Num.f (s0_0 : List Int) (s0_1 : Int) (s0_2 : Int) : Option (Int × Int × Int) := (spec_l1Below.f s0_0 s0_1 s0_2 65536).bind fun bt610 => ((spec_l1Int.f s0_0 bt610.2.1 bt610.2.2 (([0, 1, 2, (-1), 7, 8, 255, 256, 32767, 32768, 65535, 65536, (-32768), (-65537), 9223372036854775807, (-9223372036854775808), bt610.1] : List Int))).bind fun bt616 => (some (bt616.1, bt616.2.1, bt616.2.2)))
set_option maxHeartbeats 8000000 in
set_option maxRecDepth 100000 in
theorem spec_l1Num.calls (g : Nat) (s0_0 : List Int) (s0_1 : Int) (s0_2 : Int) (r1 : Int) (r2 : Int) (r3 : Int) (w0 w : World) (hI : IsS77 w0 w g s0_0 s0_1 s0_2) (hB : Below w0.heap.size w0 w) (h : spec_l1Num.f s0_0 s0_1 s0_2 = some (r1, r2, r3)) :
  Calls Try.prog 65 #[.pointer (some ⟨g, 0, none⟩)] w fun e w' => e = .returned (.int .i64 r1) ∧ IsS77 w0 w' g s0_0 r2 r3 ∧ Below w0.heap.size w0 w' ∧ KeepBut w w' g none := by
 have HI0 := A_ hI
 have HK := A_ (KeepBut.refl w g none)
 have HL := A_ hB.size
 clear hI
 have HW0 := A_ hB.size
 have HB := A_ hB
 clear hB
 have H : ((spec_l1Below.f s0_0 s0_1 s0_2 65536).bind fun bt610 => ((spec_l1Int.f s0_0 bt610.2.1 bt610.2.2 (([0, 1, 2, (-1), 7, 8, 255, 256, 32767, 32768, 65535, 65536, (-32768), (-65537), 9223372036854775807, (-9223372036854775808), bt610.1] : List Int))).bind fun bt616 => (some (bt616.1, bt616.2.1, bt616.2.2)))) = some (r1, r2, r3) := h
 clear h
 replace H := Option.bind_eq_some_iff.mp H
 obtain ⟨⟨t610, t611, t612⟩, A20, H⟩ := H
 try dsimp only at H
 have A2 := A_ A20
 clear A20
 obtain ⟨y613, hy613⟩ : ∃ y_ : List Int, y_ = (([0, 1, 2, (-1), 7, 8, 255, 256, 32767, 32768, 65535, 65536, (-32768), (-65537), 9223372036854775807, (-9223372036854775808), t610] : List Int)) := ⟨_, rfl⟩
 replace H : ((spec_l1Int.f s0_0 t611 t612 y613).bind fun bt616 => (some (bt616.1, bt616.2.1, bt616.2.2))) = some (r1, r2, r3) := by first | (rw [hy613]; with_reducible exact H) | (have H2_ := (Option.bind_some _ _).symm.trans H; rw [hy613]; with_reducible exact H2_) | (have H2_ := (Option.bind_some _ _).symm.trans H; with_reducible exact H2_) | with_reducible exact H | (rw [hy613]; exact H) | exact H
 have Ny613 := A_ hy613
 clear hy613
 replace H := Option.bind_eq_some_iff.mp H
 obtain ⟨⟨t616, t617, t618⟩, A30, H⟩ := H
 try dsimp only at H
 have A3 := A_ A30
 clear A30
 simp only [Option.some.injEq, Prod.mk.injEq] at H
 obtain ⟨rfl, rfl, rfl⟩ := H
 go_enter Try.func65, Try.ntmps65
 go_wp2_with (first | ((with_reducible refine gate_callee (f := 62) rfl ?_); refine gL_ (some 5) Try.func62 #[.pointer (some ⟨g, 0, none⟩), .int .i64 65536] ?_; (with_reducible refine (spec_l1Below.calls g s0_0 s0_1 s0_2 65536 t610 t611 t612 w0 _ ?side1 ?side2 A2.out).mono ?_); (case side1 => exact hI0_); (case side2 => exact (have := GeI.mk (IsS77.ge HI0.out); bw_ HB.out)); rintro e w4 ⟨rfl, hi, hb, hk⟩; refine ⟨_, rfl, ?_⟩; replace HK := A_ (KeepBut.trans d2_ hk (.inl rfl)); replace HB := A_ (hb); replace HI0 := A_ (hi); clear hb hk hi) | ((with_reducible refine gate_dst (N := 6) rfl ?_); refine Kd.R_lit (Kd.int .i64) _ 3 ?hg (N := 6) ?hd (xs := ([0, 1, 2, (-1), 7, 8, 255, 256, 32767, 32768, 65535, 65536, (-32768), (-65537), 9223372036854775807, (-9223372036854775808), t610] : List Int)) (inner := [.int .i64 0, .int .i64 1, .int .i64 2, .int .i64 (-1), .int .i64 7, .int .i64 8, .int .i64 255, .int .i64 256, .int .i64 32767, .int .i64 32768, .int .i64 65535, .int .i64 65536, .int .i64 (-32768), .int .i64 (-65537), .int .i64 9223372036854775807, .int .i64 (-9223372036854775808), .int .i64 t610]) (ok := fun _ => True) (okp := fun _ => True) ?hr ?hp (fun _ hk => hk) trivial (Below.refl _ _) (Nat.le_refl _) (by simp) ?_; (case hd => rfl); (case hg => rfl); (case hr => first | (go_simp; done) | (go_simp; rfl)); (case hp => exact (Reps.one (show Kd.M (Kd.int .i64) _ _ _ 0 [.int .i64 0] from rfl) (Reps.one (show Kd.M (Kd.int .i64) _ _ _ 1 [.int .i64 1] from rfl) (Reps.one (show Kd.M (Kd.int .i64) _ _ _ 2 [.int .i64 2] from rfl) (Reps.one (show Kd.M (Kd.int .i64) _ _ _ (-1) [.int .i64 (-1)] from rfl) (Reps.one (show Kd.M (Kd.int .i64) _ _ _ 7 [.int .i64 7] from rfl) (Reps.one (show Kd.M (Kd.int .i64) _ _ _ 8 [.int .i64 8] from rfl) (Reps.one (show Kd.M (Kd.int .i64) _ _ _ 255 [.int .i64 255] from rfl) (Reps.one (show Kd.M (Kd.int .i64) _ _ _ 256 [.int .i64 256] from rfl) (Reps.one (show Kd.M (Kd.int .i64) _ _ _ 32767 [.int .i64 32767] from rfl) (Reps.one (show Kd.M (Kd.int .i64) _ _ _ 32768 [.int .i64 32768] from rfl) (Reps.one (show Kd.M (Kd.int .i64) _ _ _ 65535 [.int .i64 65535] from rfl) (Reps.one (show Kd.M (Kd.int .i64) _ _ _ 65536 [.int .i64 65536] from rfl) (Reps.one (show Kd.M (Kd.int .i64) _ _ _ (-32768) [.int .i64 (-32768)] from rfl) (Reps.one (show Kd.M (Kd.int .i64) _ _ _ (-65537) [.int .i64 (-65537)] from rfl) (Reps.one (show Kd.M (Kd.int .i64) _ _ _ 9223372036854775807 [.int .i64 9223372036854775807] from rfl) (Reps.one (show Kd.M (Kd.int .i64) _ _ _ (-9223372036854775808) [.int .i64 (-9223372036854775808)] from rfl) (Reps.one (show Kd.M (Kd.int .i64) _ _ _ t610 [.int .i64 t610] from rfl) (Reps.none _ _))))))))))))))))))); intro v614 w5 ho6 hb hg_ hnew_; clear hg_ hnew_; (first | rw [← Ny613.out] at ho6 | (simp only [Int.reduceToNat] at ho6; rw [← Ny613.out] at ho6)); have HO615 := A_ (Kd.R_lower ho6 (keep_size (w := w) (g := g) (row := none) d2_)); replace HK := A_ (KeepBut.trans d2_ (KeepBut.of_below hb g none) (.inl rfl)); replace HB := A_ (below_step (have := GeI.mk (IsS77.ge HI0.out); bw_ HB.out) hb); replace HI0 := A_ (IsS77.below d19_ hb); clear hb ho6; obtain ⟨Ao7, co7, eo7⟩ := Kd.R_slice HO615.out; subst eo7) | ((with_reducible refine gate_callee (f := 66) rfl ?_); refine gL_ (some 7) Try.func66 #[.pointer (some ⟨g, 0, none⟩), .slice Ao7 y613.length co7] ?_; (with_reducible refine (spec_l1Int.calls g s0_0 t611 t612 _ _ y613 t616 t617 t618 w0 _ ?side1 ?side2 ?side3 ?side4 ?side5 A3.out).mono ?_); (case side1 => exact hI0_); (case side2 => exact (have := GeI.mk (IsS77.ge HI0.out); bw_ HB.out)); (case side3 => repeat (first | exact (Kd.R_reads' HO615.out).2.2 | (with_reducible refine Kd.C_alloc ?_ _) | (with_reducible refine Kd.C_drewN ?_ _) | (with_reducible refine Kd.C_drew ?_))); (case side4 => exact (Kd.R_reads' HO615.out).2.1); (case side5 => exact far_slice (IsS77.own_ne HI0.out HO615.out (by decide))); rintro e w8 ⟨rfl, hi, hb, hk⟩; refine ⟨_, rfl, ?_⟩; replace HO615 := kI_ (hI0_ : IsS77 w0 _ g s0_0 t611 t612) hk HO615; replace HK := A_ (KeepBut.trans d2_ hk (.inl rfl)); replace HB := A_ (hb); replace HI0 := A_ (hi); clear hb hk hi))
 go_ret
 exact rt_ ⟨hI0_, (have := GeI.mk (IsS77.ge HI0.out); bw_ HB.out), by repeat (first | (with_reducible first | exact HK.out | apply KeepBut.set_ | apply keep_drewN | apply keep_drew | apply keep_alloc) | exact HK.out)⟩

-- NOT PRINTED: function 45 (spec_DrawWorth)

-- NOT PRINTED: function 11 (laws_FnPutIn)

end Go.Proofs.Ytcpnhlhigpgonaa.PFnPutIn
