-- Laid by a program of this session (a changed copy of the kit's printer); Lean checks every line.
import Derived.Test.YtcpnhlhigpgonaaPFnExactFoldx0
import Derived.Test.YtcpnhlhigpgonaaPFnExactFoldx9
import Derived.Test.YtcpnhlhigpgonaaPFnExactFoldx11
import Derived.Test.YtcpnhlhigpgonaaPFnExactFoldx13
namespace Go.Proofs.Ytcpnhlhigpgonaa.PFnExactFold
open Go.RowKit Go.Proofs.YtcpnhlhigpgonaaW.PrintWords Go.Proofs.YtcpnhlhigpgonaaW.PrintLast Go.Proofs.YtcpnhlhigpgonaaW.PrintMore
attribute [local go_sem] max2_int min2_int max_two min_two max_three min_three max_four min_four   -- for this text's walks alone
set_option linter.unusedVariables false
set_option linter.unusedSimpArgs false

/-! ### impl_fold: function 60 -/
def impl_fold.f : Nat → Int → Int → ByteArray → List (S29) → Option (Int × Int × ByteArray × (List (S29)))
 | 0, _, _, _, _ => none
 | k + 1, a0_0, a0_1, a0_2, l0_3 => if a0_0 = 4 then (if 0 < (l0_3.length : Int) then ((impl_fold.f k ((rd_T29 l0_3 0).f0) ((rd_T29 l0_3 0).f1) ((rd_T29 l0_3 0).f2) ((rd_T29 l0_3 0).f3)).bind fun bt489 => (if bt489.1 = 1 then ((impl_number.f (wrap64 (-bt489.2.1))).bind fun bt496 => (some (bt496.1, bt496.2.1, bt496.2.2.1, bt496.2.2.2))) else (some (4, 0, (⟨#[]⟩ : ByteArray), (([(⟨bt489.1, bt489.2.1, bt489.2.2.1, bt489.2.2.2⟩ : S29)] : List (S29))))))) else (none)) else ((impl_isTwo.f a0_0).bind fun t505 => (if t505 = true then (if 0 < (l0_3.length : Int) then ((impl_fold.f k ((rd_T29 l0_3 0).f0) ((rd_T29 l0_3 0).f1) ((rd_T29 l0_3 0).f2) ((rd_T29 l0_3 0).f3)).bind fun bt507 => (if 1 < (l0_3.length : Int) then ((impl_fold.f k ((rd_T29 l0_3 1).f0) ((rd_T29 l0_3 1).f1) ((rd_T29 l0_3 1).f2) ((rd_T29 l0_3 1).f3)).bind fun bt514 => ((impl_foldTwo.f k a0_0 bt507.1 bt507.2.1 bt507.2.2.1 bt507.2.2.2 bt514.1 bt514.2.1 bt514.2.2.1 bt514.2.2.2).bind fun bt520 => (some (bt520.1, bt520.2.1, bt520.2.2.1, bt520.2.2.2)))) else (none))) else (none)) else (some (a0_0, a0_1, a0_2, l0_3))))
theorem impl_fold.mono_l : ∀ k, (∀ y0 y1 y2 y3, LeO (impl_fold.f k y0 y1 y2 y3) (impl_fold.f (k + 1) y0 y1 y2 y3))
 | 0 => fun _ _ _ _ r h => by simp [impl_fold.f] at h
 | k + 1 => by
  have ih0 := impl_fold.mono_l k
  ·intro y0 y1 y2 y3
   unfold impl_fold.f
   repeat' first
   | (with_reducible exact ih0 _ _ _ _)
   | (with_reducible exact impl_foldTwo.mono _ _ _ _ _ _ _ _ _ _)
   | (with_reducible exact LeO.refl _)
   | (with_reducible exact LeO.none _)
   | (with_reducible refine LeO.ite ?_ ?_)
   | (with_reducible refine LeO.bind ?_ (fun _ => ?_))
   | exact ih0 _ _ _ _
   | exact impl_foldTwo.mono _ _ _ _ _ _ _ _ _ _
   | exact LeO.none _
   | refine LeO.ite ?_ ?_
   | refine LeO.bind ?_ (fun _ => ?_)
theorem impl_fold.mono : ∀ a0 a1 a2 a3 k, LeO (impl_fold.f k a0 a1 a2 a3) (impl_fold.f (k + 1) a0 a1 a2 a3) := by
 intro a0 a1 a2 a3 k
 have ih0 := impl_fold.mono_l k
 exact ih0 a0 a1 a2 a3
def impl_fold.T7 : Bool × List (List Nat × List Nat) := (true, [([], []), ([0], [0]), ([], []), ([2], [2]), ([3], [3]), ([4], [4]), ([5], [5]), ([], []), ([7], [7]), ([8], [8]), ([9], [9]), ([10, 6], [10]), ([1, 6, 11, 11], [1, 6, 11]), ([12, 12, 0, 1, 2, 3, 4, 5, 6, 7, 8, 9, 10, 11, 12], [12])])
def impl_fold.B7 : List Nat := [0, 1, 0, 4, 12, 28, 60, 0, 128, 384, 896, 2044, 4095, 8191]
theorem impl_fold.tab7 : rtab .any (opsOf Try.f60 7) = impl_fold.T7 := by kernel_rfl
theorem impl_fold.bits7 : waitsOk impl_fold.T7.2 impl_fold.B7 = true := by kernel_rfl
set_option maxHeartbeats 8000000 in
set_option maxRecDepth 100000 in
theorem impl_fold.calls (k : Nat) : ∀ (b0 : Nat) (a0_0 : Int) (a0_1 : Int) (a0_2 : ByteArray) (P0_3_ : Nat → Prop) (A0_3 : Option Addr) (c0_3 : Nat) (l0_3 : List (S29)) (r1 : Int) (r2 : Int) (r3 : ByteArray) (r4 : List (S29)) (w : World) (hb0 : b0 ≤ w.heap.size) (hs0_3 : Kd.S q29 29 w b0 (fun k_ => P0_3_ k_) (.slice A0_3 l0_3.length c0_3) l0_3) (h : impl_fold.f k a0_0 a0_1 a0_2 l0_3 = some (r1, r2, r3, r4)),
  Calls Try.prog 60 #[.agg #[.int .i64 a0_0, .int .i64 a0_1, .string a0_2, .slice A0_3 l0_3.length c0_3]] w fun e w' => ∃ v3_ : Value, e = .returned (.agg #[.int .i64 r1, .int .i64 r2, .string r3, v3_]) ∧ Kd.S q29 29 w' b0 (fun k_ => (P0_3_ k_ ∨ w.heap.size ≤ k_)) v3_ r4 ∧ Below w.heap.size w w' := by
 induction k using Nat.strongRecOn with
 | _ k ih =>
 intro b0 a0_0 a0_1 a0_2 P0_3_ A0_3 c0_3 l0_3 r1 r2 r3 r4 w hb0 hs0_3 h
 cases k with
 | zero => exact absurd h (by simp [impl_fold.f])
 | succ k =>
 simp only [impl_fold.f] at h
 have hu29 := Try.underlying29
 have HO0_3 := A_ (show Kd.S q29 29 w b0 (fun k_ => (P0_3_ k_ ∨ w.heap.size ≤ k_)) (.slice A0_3 l0_3.length c0_3) l0_3 from Kd.S_mono hs0_3 (fun k_ hk => .inl hk))
 have HB := A_ (Below.refl w.heap.size w)
 have H : (if a0_0 = 4 then (if 0 < (l0_3.length : Int) then ((impl_fold.f k ((rd_T29 l0_3 0).f0) ((rd_T29 l0_3 0).f1) ((rd_T29 l0_3 0).f2) ((rd_T29 l0_3 0).f3)).bind fun bt489 => (if bt489.1 = 1 then ((impl_number.f (wrap64 (-bt489.2.1))).bind fun bt496 => (some (bt496.1, bt496.2.1, bt496.2.2.1, bt496.2.2.2))) else (some (4, 0, (⟨#[]⟩ : ByteArray), (([(⟨bt489.1, bt489.2.1, bt489.2.2.1, bt489.2.2.2⟩ : S29)] : List (S29))))))) else (none)) else ((impl_isTwo.f a0_0).bind fun t505 => (if t505 = true then (if 0 < (l0_3.length : Int) then ((impl_fold.f k ((rd_T29 l0_3 0).f0) ((rd_T29 l0_3 0).f1) ((rd_T29 l0_3 0).f2) ((rd_T29 l0_3 0).f3)).bind fun bt507 => (if 1 < (l0_3.length : Int) then ((impl_fold.f k ((rd_T29 l0_3 1).f0) ((rd_T29 l0_3 1).f1) ((rd_T29 l0_3 1).f2) ((rd_T29 l0_3 1).f3)).bind fun bt514 => ((impl_foldTwo.f k a0_0 bt507.1 bt507.2.1 bt507.2.2.1 bt507.2.2.2 bt514.1 bt514.2.1 bt514.2.2.1 bt514.2.2.2).bind fun bt520 => (some (bt520.1, bt520.2.1, bt520.2.2.1, bt520.2.2.2)))) else (none))) else (none)) else (some (a0_0, a0_1, a0_2, l0_3))))) = some (r1, r2, r3, r4) := h
 clear h
 by_cases c2 : a0_0 = 4
 ·rw [if_pos c2] at H
  have c2b0 := beq_iff_eq.mpr c2
  have c2b1 := bne_eq_false_iff_eq.mpr c2
  clear c2
  by_cases c3 : 0 < (l0_3.length : Int)
  ·rw [if_pos c3] at H
   have c3b0 := decide_eq_true c3
   have c3b1 : decide (0 < l0_3.length) = true := decide_eq_true (by omega)
   clear c3
   replace H := Option.bind_eq_some_iff.mp H
   obtain ⟨⟨t489, t490, t491, t492⟩, A40, H⟩ := H
   try dsimp only at H
   have A4 := A_ A40
   clear A40
   by_cases c5 : t489 = 1
   ·rw [if_pos c5] at H
    have c5b0 := beq_iff_eq.mpr c5
    have c5b1 := bne_eq_false_iff_eq.mpr c5
    clear c5
    replace H := Option.bind_eq_some_iff.mp H
    obtain ⟨⟨t496, t497, t498, t499⟩, A60, H⟩ := H
    try dsimp only at H
    have A6 := A_ A60
    clear A60
    simp only [Option.some.injEq, Prod.mk.injEq] at H
    obtain ⟨rfl, rfl, rfl, rfl⟩ := H
    go_enter Try.func60, Try.ntmps60
    go_wp2_with (first | ((with_reducible refine gate_dst (N := 1) rfl ?_); refine bx_ 1 #[.int .i64 a0_0, .int .i64 a0_1, .string a0_2, .slice A0_3 l0_3.length c0_3] 29 ?_; intro gb486 hg w7 hbox hb; have n0_ := A_ (Kd.S_below (Kd.S_elderB (kz_ HO0_3.out) gb486 (Nat.le_of_eq hg.symm)) hb); have n1_ := A_ (below_step (bw_ HB.out) hb); have n2_ := A_ (hbox); have n3_ := A_ ((d3_ : w.heap.size ≤ gb486)); have n4_ := n3_; clear HO0_3; clear HB; have HO0_3 := n0_; have HB := n1_; have BK486 := n2_; have GW486 := n3_; have GE486 := n4_; have GI486 := GeI.mk GE486.out; clear n0_ n1_ n2_ n3_ n4_; clear hb hbox hg) | ((with_reducible refine gate_dst (N := 2) rfl ?_); refine bx_ 2 #[.int .i64 0, .int .i64 0, .string (⟨#[]⟩ : ByteArray), .slice none 0 0] 29 ?_; intro gb487 hg w8 hbox hb; have n0_ := A_ (Kd.S_below (Kd.S_elderB (kz_ HO0_3.out) gb487 (Nat.le_of_eq hg.symm)) hb); have n1_ := A_ (blk_below (bk_ BK486.out) hb); have n2_ := A_ (below_step (bw_ HB.out) hb); have n3_ := A_ (hbox); have n4_ := A_ ((d3_ : w.heap.size ≤ gb487)); have n5_ := n4_; have n6_ := A_ ((d39_ : gb486 ≠ gb487)); have n7_ := A_ n6_.out.symm; clear HO0_3; clear BK486; clear HB; have HO0_3 := n0_; have BK486 := n1_; have HB := n2_; have BK487 := n3_; have GW487 := n4_; have GE487 := n5_; have GI487 := GeI.mk GE487.out; have NB486_487 := n6_; have NB487_486 := n7_; clear n0_ n1_ n2_ n3_ n4_ n5_ n6_ n7_; clear hb hbox hg; have hnb9 := NB486_487.out; have hnc9 := NB487_486.out; obtain ⟨y10_0, y10_1, y10_2, y10_3, z10_0, z10_1, z10_2, z10_3⟩ := cz4_ BK486.out; have p488 : 0 ≤ (0 : Int) := (by omega); have q488 : 0 < (l0_3.length : Int) := of_decide_eq_true d1_; obtain ⟨ad488, A488_3, c488_3, e488, hx488_0, hx488_1, hx488_2, hx488_3, hl488_3, hi488_3⟩ := at_T29 (q29_C (Kd.S_reads' HO0_3.out).2.2) 0 p488 q488; cases e488; obtain ⟨ce488, hce488, hMe488, hcc488⟩ := Kd.S_get HO0_3.out z29 0 p488 (by first | exact q488 | exact of_decide_eq_true d1_ | (have e_ := (Kd.S_reads' HO0_3.out).1; omega)); obtain ⟨ua488_3, rfl, ge488_3⟩ := q29_openM hMe488; have hv488_3 := hcc488 3 _ rfl; rw [add_field _ _ 3 (by omega)] at hv488_3; replace hv488_3 := Option.some.inj (hv488_3.symm.trans hx488_3); rw [hv488_3] at ge488_3; have HL488_3 := A_ (show Kd.S q29 29 _ b0 _ _ ((rd_T29 l0_3 0).f3) from Kd.S_mono ge488_3 (fun k_ h_ => h_.1)); clear hv488_3 ge488_3 hMe488; clear hcc488 hce488; have qi488 : (0 < l0_3.length) = True := eq_true (by omega); (try rw [show ((0 : Int)).toNat = 0 from rfl] at hx488_0); (try rw [show 0 * 4 = 0 from rfl] at hx488_0); (try rw [Addr.add_zero'] at hx488_0); (try rw [show ((0 : Int)).toNat = 0 from rfl] at hx488_1); (try rw [show 0 * 4 = 0 from rfl] at hx488_1); (try rw [Addr.add_zero'] at hx488_1); (try rw [show ((0 : Int)).toNat = 0 from rfl] at hx488_2); (try rw [show 0 * 4 = 0 from rfl] at hx488_2); (try rw [Addr.add_zero'] at hx488_2); (try rw [show ((0 : Int)).toNat = 0 from rfl] at hx488_3); (try rw [show 0 * 4 = 0 from rfl] at hx488_3); (try rw [Addr.add_zero'] at hx488_3); have HR488_3 := A_ hi488_3; have HC488_3 := A_ hl488_3; clear hi488_3 hl488_3; replace p488 := eq_true p488; replace q488 := eq_true q488) | ((with_reducible refine gate_callee (f := 60) rfl ?_); refine gL_ (some 12) Try.func60 #[.agg #[.int .i64 ((rd_T29 l0_3 0).f0), .int .i64 ((rd_T29 l0_3 0).f1), .string ((rd_T29 l0_3 0).f2), .slice A488_3 ((rd_T29 l0_3 0).f3).length c488_3]] ?_; (with_reducible refine (ih k (by omega) b0 ((rd_T29 l0_3 0).f0) ((rd_T29 l0_3 0).f1) ((rd_T29 l0_3 0).f2) (fun k_ => (((P0_3_ k_ ∨ w.heap.size ≤ k_) ∧ k_ ≠ gb486) ∧ k_ ≠ gb487)) _ _ ((rd_T29 l0_3 0).f3) t489 t490 t491 t492 _ ?sideb ?side1 A4.out).mono ?_); (case sideb => exact Nat.le_trans hb0 (below_size (bw_ HB.out))); (case side1 => exact kz_ HL488_3.out); rintro e w11 ⟨v493, rfl, ho0, hb⟩; refine ⟨_, rfl, ?_⟩; replace HO0_3 := A_ (Kd.S_below (kz_ HO0_3.out) hb); replace HL488_3 := A_ (Kd.S_below (kz_ HL488_3.out) hb); have HO494 := A_ ((Kd.S_mono (ok' := fun k_ => (P0_3_ k_ ∨ w.heap.size ≤ k_) ∧ k_ ≠ gb486 ∧ k_ ≠ gb487) ho0 (fun k_ hk_ => ⟨Or.elim hk_ (fun hs_ => hs_.1.1) (fun hn_ => (.inr (Nat.le_trans (below_size (bw_ HB.out)) hn_))), Or.elim hk_ (fun hs_ => hs_.1.2) (fun hn_ => (Kd.freshB (bk_ BK486.out) k_ hn_)), Or.elim hk_ (fun hs_ => hs_.2) (fun hn_ => (Kd.freshB (bk_ BK487.out) k_ hn_))⟩))); replace BK486 := A_ (blk_below (bk_ BK486.out) hb); replace BK487 := A_ (blk_below (bk_ BK487.out) hb); replace HR488_3 := A_ (q29_C (Kd.S_reads' HL488_3.out).2.2); replace HB := A_ (below_step (bw_ HB.out) hb); clear hb; (try clear ho0)) | ((with_reducible refine gate_dst (N := 3) rfl ?_); refine bx_ 3 #[.int .i64 0, .int .i64 0, .string (⟨#[]⟩ : ByteArray), .slice none 0 0] 29 ?_; intro gb495 hg w12 hbox hb; have n0_ := A_ (Kd.S_below (Kd.S_elderB (kz_ HO0_3.out) gb495 (Nat.le_of_eq hg.symm)) hb); have n1_ := A_ (Kd.S_below (Kd.S_elderB (kz_ HL488_3.out) gb495 (Nat.le_of_eq hg.symm)) hb); have n2_ := A_ (Kd.S_below (Kd.S_elderB (kz_ HO494.out) gb495 (Nat.le_of_eq hg.symm)) hb); have n3_ := A_ (blk_below (bk_ BK486.out) hb); have n4_ := A_ (blk_below (bk_ BK487.out) hb); have n5_ := A_ (Kd.C_below (Kd.C_below HR488_3.out (bw_ (Below.refl _ _))) hb); have n6_ := A_ (below_step (bw_ HB.out) hb); have n7_ := A_ (hbox); have n8_ := A_ ((d3_ : w.heap.size ≤ gb495)); have n9_ := n8_; have n10_ := A_ ((d39_ : gb486 ≠ gb495)); have n11_ := A_ n10_.out.symm; have n12_ := A_ ((by rw [hg]; exact Nat.ne_of_lt (blk_lt (bk_ BK487.out)) : gb487 ≠ gb495)); have n13_ := A_ n12_.out.symm; clear HO0_3; clear HL488_3; clear HO494; clear BK486; clear BK487; clear HR488_3; clear HB; have HO0_3 := n0_; have HL488_3 := n1_; have HO494 := n2_; have BK486 := n3_; have BK487 := n4_; have HR488_3 := n5_; have HB := n6_; have BK495 := n7_; have GW495 := n8_; have GE495 := n9_; have GI495 := GeI.mk GE495.out; have NB486_495 := n10_; have NB495_486 := n11_; have NB487_495 := n12_; have NB495_487 := n13_; clear n0_ n1_ n2_ n3_ n4_ n5_ n6_ n7_ n8_ n9_ n10_ n11_ n12_ n13_; clear hb hbox hg; have hnb13 := NB495_486.out; have hnc13 := NB486_495.out; have hnb14 := NB495_487.out; have hnc14 := NB487_495.out; obtain ⟨y15_0, y15_1, y15_2, y15_3, z15_0, z15_1, z15_2, z15_3⟩ := cz4_ BK495.out; obtain ⟨Ao16, co16, eo16⟩ := Kd.S_slice HO494.out; subst eo16) | ((with_reducible refine gate_callee (f := 82) rfl ?_); refine gL_ (some 19) Try.func82 #[.int .i64 (wrap64 (-t490))] ?_; (with_reducible refine (impl_number.calls (wrap64 (-t490)) t496 t497 t498 t499 _ A6.out).mono ?_); rintro e w17 ⟨v500, rfl, ho0, hb⟩; refine ⟨_, rfl, ?_⟩; replace HO0_3 := A_ (Kd.S_elder' (kz_ (Kd.S_mono (zf4_ (Kd.S_mono HO0_3.out (fun k_ hk => (⟨hk, hk.2⟩ : _ ∧ k_ ≠ gb495))) (fun _ hk => hk.2)) (fun _ h_ => h_.1))) d8_ hb); replace HO494 := A_ (Kd.S_elder' (kz_ (Kd.S_mono (zf4_ (Kd.S_mono HO494.out (fun k_ hk => (⟨hk, hk.2⟩ : _ ∧ k_ ≠ gb495))) (fun _ hk => hk.2)) (fun _ h_ => h_.1))) d8_ hb); have HO501 := A_ (Kd.S_lower (Kd.S_mono (ok' := fun k_ => (P0_3_ k_ ∨ w.heap.size ≤ k_) ∧ k_ ≠ gb486 ∧ k_ ≠ gb487 ∧ k_ ≠ gb495) (Kd.S_bound ho0) (fun k_ hk_ => ⟨(.inr (Nat.le_trans (below_size (bw_ HB.out)) hk_.2.1)), (Kd.freshB (g := gb486) (o := .cells #[.int .i64 a0_0, .int .i64 a0_1, .string a0_2, .slice (some ad488) l0_3.length c0_3] 29 (0, 0)) d29_ k_ hk_.2.1), (Kd.freshB (g := gb487) (o := .cells #[.int .i64 0, .int .i64 0, .string (⟨#[]⟩ : ByteArray), .slice none 0 0] 29 (0, 0)) d28_ k_ hk_.2.1), (Kd.freshB (g := gb495) (o := .cells #[.int .i64 t489, .int .i64 t490, .string t491, .slice Ao16 t492.length co16] 29 (0, 0)) (by exact bk_ (bp4_ (bk_ BK495.out))) k_ hk_.2.1)⟩)) (Nat.le_trans hb0 (below_size (bw_ HB.out)))); replace BK486 := A_ (blk_below (g := gb486) (o := .cells #[.int .i64 a0_0, .int .i64 a0_1, .string a0_2, .slice (some ad488) l0_3.length c0_3] 29 (0, 0)) d29_ hb); replace BK487 := A_ (blk_below (g := gb487) (o := .cells #[.int .i64 0, .int .i64 0, .string (⟨#[]⟩ : ByteArray), .slice none 0 0] 29 (0, 0)) d28_ hb); replace HR488_3 := A_ (Kd.C_below ((q29_C (Kd.S_reads' (kz_ (Kd.S_mono (zf4_ (Kd.S_mono HL488_3.out (fun k_ hk => (⟨hk, hk.2⟩ : _ ∧ k_ ≠ gb495))) (fun _ hk => hk.2)) (fun _ h_ => h_.1)))).2.2)) hb); replace HL488_3 := A_ (Kd.S_elder' (kz_ (Kd.S_mono (zf4_ (Kd.S_mono HL488_3.out (fun k_ hk => (⟨hk, hk.2⟩ : _ ∧ k_ ≠ gb495))) (fun _ hk => hk.2)) (fun _ h_ => h_.1))) d8_ hb); replace BK495 := A_ (blk_below (g := gb495) (o := .cells #[.int .i64 t489, .int .i64 t490, .string t491, .slice Ao16 t492.length co16] 29 (0, 0)) (by exact bk_ (bp4_ (bk_ BK495.out))) hb); replace HB := A_ (below_step (bw_ HB.out) hb); clear hb; (try clear ho0); obtain ⟨y18_0, y18_1, y18_2, y18_3, z18_0, z18_1, z18_2, z18_3⟩ := cz4_ BK487.out; obtain ⟨Ao19, co19, eo19⟩ := Kd.S_slice HO501.out; subst eo19))
    refine bodyPost_ret (results_cell_row rfl _ _ gb487 29 #[.int .i64 t496, .int .i64 t497, .string t498, .slice Ao19 t499.length co19] (0, 0) _ rfl ?hb_ Try.underlying29 rfl (by kernel_rfl)) rfl ?_
    (case hb_ => exact bk_ (bp4_ (bk_ BK487.out)))
    exact ⟨_, by first | rfl | (simp [errW_none, errW_some] <;> rfl) | (simp [*, errW_none, errW_some] <;> rfl), Kd.Z_V (by (with_reducible repeat (first | apply Kd.S_alloc | apply Kd.S_drewN | apply Kd.S_drew)); exact Kd.S_mono (zf4_ (Kd.S_mono HO501.out (fun k_ hk => (⟨hk, hk.2.2.1⟩ : _ ∧ k_ ≠ gb487))) (fun _ hk => hk.2)) (fun _ hk => hk.1.1)), bw_ HB.out⟩
   ·rw [if_neg c5] at H
    have c5b0 := beq_eq_false_iff_ne.mpr c5
    have c5b1 := bne_iff_ne.mpr c5
    obtain ⟨y502, hy502⟩ : ∃ y_ : List (S29), y_ = (([(⟨t489, t490, t491, t492⟩ : S29)] : List (S29))) := ⟨_, rfl⟩
    replace H : (some (4, 0, (⟨#[]⟩ : ByteArray), y502)) = some (r1, r2, r3, r4) := by first | (rw [hy502]; with_reducible exact H) | (have H2_ := (Option.bind_some _ _).symm.trans H; rw [hy502]; with_reducible exact H2_) | (have H2_ := (Option.bind_some _ _).symm.trans H; with_reducible exact H2_) | with_reducible exact H | (rw [hy502]; exact H) | exact H
    have Ny502 := A_ hy502
    clear hy502
    simp only [Option.some.injEq, Prod.mk.injEq] at H
    obtain ⟨rfl, rfl, rfl, rfl⟩ := H
    go_enter Try.func60, Try.ntmps60
    go_wp2_with (first | ((with_reducible refine gate_dst (N := 1) rfl ?_); refine bx_ 1 #[.int .i64 a0_0, .int .i64 a0_1, .string a0_2, .slice A0_3 l0_3.length c0_3] 29 ?_; intro gb486 hg w20 hbox hb; have n0_ := A_ (Kd.S_below (Kd.S_elderB (kz_ HO0_3.out) gb486 (Nat.le_of_eq hg.symm)) hb); have n1_ := A_ (below_step (bw_ HB.out) hb); have n2_ := A_ (hbox); have n3_ := A_ ((d3_ : w.heap.size ≤ gb486)); have n4_ := n3_; clear HO0_3; clear HB; have HO0_3 := n0_; have HB := n1_; have BK486 := n2_; have GW486 := n3_; have GE486 := n4_; have GI486 := GeI.mk GE486.out; clear n0_ n1_ n2_ n3_ n4_; clear hb hbox hg) | ((with_reducible refine gate_dst (N := 2) rfl ?_); refine bx_ 2 #[.int .i64 0, .int .i64 0, .string (⟨#[]⟩ : ByteArray), .slice none 0 0] 29 ?_; intro gb487 hg w21 hbox hb; have n0_ := A_ (Kd.S_below (Kd.S_elderB (kz_ HO0_3.out) gb487 (Nat.le_of_eq hg.symm)) hb); have n1_ := A_ (blk_below (bk_ BK486.out) hb); have n2_ := A_ (below_step (bw_ HB.out) hb); have n3_ := A_ (hbox); have n4_ := A_ ((d3_ : w.heap.size ≤ gb487)); have n5_ := n4_; have n6_ := A_ ((d39_ : gb486 ≠ gb487)); have n7_ := A_ n6_.out.symm; clear HO0_3; clear BK486; clear HB; have HO0_3 := n0_; have BK486 := n1_; have HB := n2_; have BK487 := n3_; have GW487 := n4_; have GE487 := n5_; have GI487 := GeI.mk GE487.out; have NB486_487 := n6_; have NB487_486 := n7_; clear n0_ n1_ n2_ n3_ n4_ n5_ n6_ n7_; clear hb hbox hg; have hnb22 := NB486_487.out; have hnc22 := NB487_486.out; obtain ⟨y23_0, y23_1, y23_2, y23_3, z23_0, z23_1, z23_2, z23_3⟩ := cz4_ BK486.out; have p488 : 0 ≤ (0 : Int) := (by omega); have q488 : 0 < (l0_3.length : Int) := of_decide_eq_true d1_; obtain ⟨ad488, A488_3, c488_3, e488, hx488_0, hx488_1, hx488_2, hx488_3, hl488_3, hi488_3⟩ := at_T29 (q29_C (Kd.S_reads' HO0_3.out).2.2) 0 p488 q488; cases e488; obtain ⟨ce488, hce488, hMe488, hcc488⟩ := Kd.S_get HO0_3.out z29 0 p488 (by first | exact q488 | exact of_decide_eq_true d1_ | (have e_ := (Kd.S_reads' HO0_3.out).1; omega)); obtain ⟨ua488_3, rfl, ge488_3⟩ := q29_openM hMe488; have hv488_3 := hcc488 3 _ rfl; rw [add_field _ _ 3 (by omega)] at hv488_3; replace hv488_3 := Option.some.inj (hv488_3.symm.trans hx488_3); rw [hv488_3] at ge488_3; have HL488_3 := A_ (show Kd.S q29 29 _ b0 _ _ ((rd_T29 l0_3 0).f3) from Kd.S_mono ge488_3 (fun k_ h_ => h_.1)); clear hv488_3 ge488_3 hMe488; clear hcc488 hce488; have qi488 : (0 < l0_3.length) = True := eq_true (by omega); (try rw [show ((0 : Int)).toNat = 0 from rfl] at hx488_0); (try rw [show 0 * 4 = 0 from rfl] at hx488_0); (try rw [Addr.add_zero'] at hx488_0); (try rw [show ((0 : Int)).toNat = 0 from rfl] at hx488_1); (try rw [show 0 * 4 = 0 from rfl] at hx488_1); (try rw [Addr.add_zero'] at hx488_1); (try rw [show ((0 : Int)).toNat = 0 from rfl] at hx488_2); (try rw [show 0 * 4 = 0 from rfl] at hx488_2); (try rw [Addr.add_zero'] at hx488_2); (try rw [show ((0 : Int)).toNat = 0 from rfl] at hx488_3); (try rw [show 0 * 4 = 0 from rfl] at hx488_3); (try rw [Addr.add_zero'] at hx488_3); have HR488_3 := A_ hi488_3; have HC488_3 := A_ hl488_3; clear hi488_3 hl488_3; replace p488 := eq_true p488; replace q488 := eq_true q488) | ((with_reducible refine gate_callee (f := 60) rfl ?_); refine gL_ (some 12) Try.func60 #[.agg #[.int .i64 ((rd_T29 l0_3 0).f0), .int .i64 ((rd_T29 l0_3 0).f1), .string ((rd_T29 l0_3 0).f2), .slice A488_3 ((rd_T29 l0_3 0).f3).length c488_3]] ?_; (with_reducible refine (ih k (by omega) b0 ((rd_T29 l0_3 0).f0) ((rd_T29 l0_3 0).f1) ((rd_T29 l0_3 0).f2) (fun k_ => (((P0_3_ k_ ∨ w.heap.size ≤ k_) ∧ k_ ≠ gb486) ∧ k_ ≠ gb487)) _ _ ((rd_T29 l0_3 0).f3) t489 t490 t491 t492 _ ?sideb ?side1 A4.out).mono ?_); (case sideb => exact Nat.le_trans hb0 (below_size (bw_ HB.out))); (case side1 => exact kz_ HL488_3.out); rintro e w24 ⟨v493, rfl, ho0, hb⟩; refine ⟨_, rfl, ?_⟩; replace HO0_3 := A_ (Kd.S_below (kz_ HO0_3.out) hb); replace HL488_3 := A_ (Kd.S_below (kz_ HL488_3.out) hb); have HO494 := A_ ((Kd.S_mono (ok' := fun k_ => (P0_3_ k_ ∨ w.heap.size ≤ k_) ∧ k_ ≠ gb486 ∧ k_ ≠ gb487) ho0 (fun k_ hk_ => ⟨Or.elim hk_ (fun hs_ => hs_.1.1) (fun hn_ => (.inr (Nat.le_trans (below_size (bw_ HB.out)) hn_))), Or.elim hk_ (fun hs_ => hs_.1.2) (fun hn_ => (Kd.freshB (bk_ BK486.out) k_ hn_)), Or.elim hk_ (fun hs_ => hs_.2) (fun hn_ => (Kd.freshB (bk_ BK487.out) k_ hn_))⟩))); replace BK486 := A_ (blk_below (bk_ BK486.out) hb); replace BK487 := A_ (blk_below (bk_ BK487.out) hb); replace HR488_3 := A_ (q29_C (Kd.S_reads' HL488_3.out).2.2); replace HB := A_ (below_step (bw_ HB.out) hb); clear hb; (try clear ho0)) | ((with_reducible refine gate_dst (N := 3) rfl ?_); refine bx_ 3 #[.int .i64 0, .int .i64 0, .string (⟨#[]⟩ : ByteArray), .slice none 0 0] 29 ?_; intro gb495 hg w25 hbox hb; have n0_ := A_ (Kd.S_below (Kd.S_elderB (kz_ HO0_3.out) gb495 (Nat.le_of_eq hg.symm)) hb); have n1_ := A_ (Kd.S_below (Kd.S_elderB (kz_ HL488_3.out) gb495 (Nat.le_of_eq hg.symm)) hb); have n2_ := A_ (Kd.S_below (Kd.S_elderB (kz_ HO494.out) gb495 (Nat.le_of_eq hg.symm)) hb); have n3_ := A_ (blk_below (bk_ BK486.out) hb); have n4_ := A_ (blk_below (bk_ BK487.out) hb); have n5_ := A_ (Kd.C_below (Kd.C_below HR488_3.out (bw_ (Below.refl _ _))) hb); have n6_ := A_ (below_step (bw_ HB.out) hb); have n7_ := A_ (hbox); have n8_ := A_ ((d3_ : w.heap.size ≤ gb495)); have n9_ := n8_; have n10_ := A_ ((d39_ : gb486 ≠ gb495)); have n11_ := A_ n10_.out.symm; have n12_ := A_ ((by rw [hg]; exact Nat.ne_of_lt (blk_lt (bk_ BK487.out)) : gb487 ≠ gb495)); have n13_ := A_ n12_.out.symm; clear HO0_3; clear HL488_3; clear HO494; clear BK486; clear BK487; clear HR488_3; clear HB; have HO0_3 := n0_; have HL488_3 := n1_; have HO494 := n2_; have BK486 := n3_; have BK487 := n4_; have HR488_3 := n5_; have HB := n6_; have BK495 := n7_; have GW495 := n8_; have GE495 := n9_; have GI495 := GeI.mk GE495.out; have NB486_495 := n10_; have NB495_486 := n11_; have NB487_495 := n12_; have NB495_487 := n13_; clear n0_ n1_ n2_ n3_ n4_ n5_ n6_ n7_ n8_ n9_ n10_ n11_ n12_ n13_; clear hb hbox hg; have hnb26 := NB495_486.out; have hnc26 := NB486_495.out; have hnb27 := NB495_487.out; have hnc27 := NB487_495.out; obtain ⟨y28_0, y28_1, y28_2, y28_3, z28_0, z28_1, z28_2, z28_3⟩ := cz4_ BK495.out; obtain ⟨Ao29, co29, eo29⟩ := Kd.S_slice HO494.out; subst eo29) | ((with_reducible refine gate_store (t := 29) (p := 3) rfl ?_); refine store_event (t := 29) (p := 3) (v := ?vo_w30) (w1 := ((((w25.setCell ⟨gb495, 0, none⟩ (.int .i64 t489)).setCell ⟨gb495, 1, none⟩ (.int .i64 t490)).setCell ⟨gb495, 2, none⟩ (.string t491)).setCell ⟨gb495, 3, none⟩ (.slice Ao29 t492.length co29))) ?hg ?ho ?hn ?hr ?_; (case ho => rfl); (case hg => rfl); (case hn => rfl); (case hr => first | (go_simp; done) | (go_simp; rfl)); intro w30 hw; have n0_ : Aside0 (Kd.S q29 29 w30 b0 (fun k_ => (P0_3_ k_ ∨ w.heap.size ≤ k_) ∧ k_ ≠ gb486 ∧ k_ ≠ gb487 ∧ k_ ≠ gb495) (.slice (some ad488) l0_3.length c0_3) l0_3) := ⟨(by rw [hw]; exact (kz_ (Kd.S_mono (zf4_ (Kd.S_mono HO0_3.out (fun k_ hk => (⟨hk, hk.2⟩ : _ ∧ k_ ≠ gb495))) (fun _ hk => hk.2)) (fun _ hk => ⟨hk.1.1.1.1, ⟨hk.1.1.1.2, ⟨hk.1.1.2, hk.1.2⟩⟩⟩))))⟩; have n1_ : Aside0 (Kd.S q29 29 w30 b0 (fun k_ => (P0_3_ k_ ∨ w.heap.size ≤ k_) ∧ k_ ≠ gb486 ∧ k_ ≠ gb487 ∧ k_ ≠ gb495) (.slice A488_3 ((rd_T29 l0_3 0).f3).length c488_3) ((rd_T29 l0_3 0).f3)) := ⟨(by rw [hw]; exact (kz_ (Kd.S_mono (zf4_ (Kd.S_mono HL488_3.out (fun k_ hk => (⟨hk, hk.2⟩ : _ ∧ k_ ≠ gb495))) (fun _ hk => hk.2)) (fun _ hk => ⟨hk.1.1.1.1, ⟨hk.1.1.1.2, ⟨hk.1.1.2, hk.1.2⟩⟩⟩))))⟩; have n2_ : Aside0 (Kd.S q29 29 w30 b0 (fun k_ => (P0_3_ k_ ∨ w.heap.size ≤ k_) ∧ k_ ≠ gb486 ∧ k_ ≠ gb487 ∧ k_ ≠ gb495) (.slice Ao29 t492.length co29) t492) := ⟨(by rw [hw]; exact (kz_ (Kd.S_mono (zf4_ (Kd.S_mono HO494.out (fun k_ hk => (⟨hk, hk.2⟩ : _ ∧ k_ ≠ gb495))) (fun _ hk => hk.2)) (fun _ hk => ⟨hk.1.1.1, ⟨hk.1.1.2.1, ⟨hk.1.1.2.2, hk.1.2⟩⟩⟩))))⟩; have n3_ : Aside0 (w30.heap[gb486]? = some (.cells #[.int .i64 a0_0, .int .i64 a0_1, .string a0_2, .slice (some ad488) l0_3.length c0_3] 29 (0, 0))) := ⟨(by rw [hw]; exact d29_)⟩; have n4_ : Aside0 (w30.heap[gb487]? = some (.cells #[.int .i64 0, .int .i64 0, .string (⟨#[]⟩ : ByteArray), .slice none 0 0] 29 (0, 0))) := ⟨(by rw [hw]; exact d28_)⟩; have n5_ : Aside0 (w30.heap[gb495]? = some (.cells #[.int .i64 t489, .int .i64 t490, .string t491, .slice Ao29 t492.length co29] 29 (0, 0))) := ⟨(by rw [hw]; exact (by exact bk_ (bp4_ (bk_ BK495.out))))⟩; have n6_ : Aside0 (Below w.heap.size w w30) := ⟨d37_⟩; clear hw; clear HO0_3; clear HL488_3; clear HO494; clear BK486; clear BK487; clear BK495; clear HB; have HO0_3 := n0_; have HL488_3 := n1_; have HO494 := n2_; have BK486 := n3_; have BK487 := n4_; have BK495 := n5_; have HB := n6_; clear n0_ n1_ n2_ n3_ n4_ n5_ n6_; obtain ⟨y31_0, y31_1, y31_2, y31_3, z31_0, z31_1, z31_2, z31_3⟩ := cz4_ BK495.out) | ((with_reducible refine gate_dst (N := 21) rfl ?_); refine Kd.Z_lits q29 b0 29 ?hg (N := 21) ?hd (xs := ([(⟨t489, t490, t491, t492⟩ : S29)] : List (S29))) (inner := [.int .i64 t489, .int .i64 t490, .string t491, .slice Ao29 t492.length co29]) (ok := (fun k_ => (P0_3_ k_ ∨ w.heap.size ≤ k_) ∧ k_ ≠ gb486 ∧ k_ ≠ gb487 ∧ k_ ≠ gb495)) (fun j_ k_ => j_ = 0 ∧ (fun k_ => (P0_3_ k_ ∨ w.heap.size ≤ k_) ∧ k_ ≠ gb486 ∧ k_ ≠ gb487 ∧ k_ ≠ gb495) k_) ?hr rfl (one_M (Kd.S_mono (ok' := (fun k_ => (P0_3_ k_ ∨ w.heap.size ≤ k_) ∧ k_ ≠ gb486 ∧ k_ ≠ gb487 ∧ k_ ≠ gb495)) (HO494.out) (fun k_ hk => ⟨hk.1, ⟨hk.2.1, ⟨hk.2.2.1, hk.2.2.2⟩⟩⟩))) (fun _ _ _ h_ g_ => h_.1.trans g_.1.symm) (fun _ _ h_ => h_.2) ((show ∀ k_, w30.heap.size ≤ k_ → (fun k_ => (P0_3_ k_ ∨ w.heap.size ≤ k_) ∧ k_ ≠ gb486 ∧ k_ ≠ gb487 ∧ k_ ≠ gb495) k_ from fun k_ hk => ⟨(.inr (Nat.le_trans (below_size (bw_ HB.out)) hk)), Kd.freshB (bk_ BK486.out) k_ hk, Kd.freshB (bk_ BK487.out) k_ hk, Kd.freshB (bk_ BK495.out) k_ hk⟩) _ (Nat.le_refl _)) (Nat.le_trans hb0 (below_size (bw_ HB.out))) (by simp) ?_; (case hd => rfl); (case hg => rfl); (case hr => first | (go_simp; done) | (go_simp; rfl)); intro v503 w32 ho33 hb; (first | rw [← Ny502.out] at ho33 | (simp only [Int.reduceToNat] at ho33; rw [← Ny502.out] at ho33)); replace HO0_3 := A_ (Kd.S_below (kz_ HO0_3.out) hb); replace HL488_3 := A_ (Kd.S_below (kz_ HL488_3.out) hb); replace HO494 := A_ (Kd.S_below (kz_ HO494.out) hb); have HO504 := A_ (ho33); replace BK486 := A_ (blk_below (bk_ BK486.out) hb); replace BK487 := A_ (blk_below (bk_ BK487.out) hb); replace HR488_3 := A_ (q29_C (Kd.S_reads' HL488_3.out).2.2); replace BK495 := A_ (blk_below (bk_ BK495.out) hb); replace HB := A_ (below_step (bw_ HB.out) hb); clear hb ho33; obtain ⟨Ao34, co34, eo34⟩ := Kd.S_slice HO504.out; subst eo34; obtain ⟨y35_0, y35_1, y35_2, y35_3, z35_0, z35_1, z35_2, z35_3⟩ := cz4_ BK487.out))
    refine bodyPost_ret (results_cell_row rfl _ _ gb487 29 #[.int .i64 4, .int .i64 0, .string (⟨#[]⟩ : ByteArray), .slice Ao34 y502.length co34] (0, 0) _ rfl ?hb_ Try.underlying29 rfl (by kernel_rfl)) rfl ?_
    (case hb_ => exact bk_ (bp4_ (bk_ BK487.out)))
    exact ⟨_, by first | rfl | (simp [errW_none, errW_some] <;> rfl) | (simp [*, errW_none, errW_some] <;> rfl), Kd.Z_V (by (with_reducible repeat (first | apply Kd.S_alloc | apply Kd.S_drewN | apply Kd.S_drew)); exact Kd.S_mono (zf4_ (Kd.S_mono HO504.out (fun k_ hk => (⟨hk, hk.2.2.1⟩ : _ ∧ k_ ≠ gb487))) (fun _ hk => hk.2)) (fun _ hk => hk.1.1)), bw_ HB.out⟩
  ·rw [if_neg c3] at H
   exact absurd H (by simp)
 ·rw [if_neg c2] at H
  have c2b0 := beq_eq_false_iff_ne.mpr c2
  have c2b1 := bne_iff_ne.mpr c2
  replace H := Option.bind_eq_some_iff.mp H
  obtain ⟨t505, A360, H⟩ := H
  try dsimp only at H
  have A36 := A_ A360
  clear A360
  by_cases c37 : t505 = true
  ·subst c37
   rw [if_pos rfl] at H
   by_cases c38 : 0 < (l0_3.length : Int)
   ·rw [if_pos c38] at H
    have c38b0 := decide_eq_true c38
    have c38b1 : decide (0 < l0_3.length) = true := decide_eq_true (by omega)
    clear c38
    replace H := Option.bind_eq_some_iff.mp H
    obtain ⟨⟨t507, t508, t509, t510⟩, A390, H⟩ := H
    try dsimp only at H
    have A39 := A_ A390
    clear A390
    by_cases c40 : 1 < (l0_3.length : Int)
    ·rw [if_pos c40] at H
     have c40b0 := decide_eq_true c40
     have c40b1 : decide (1 < l0_3.length) = true := decide_eq_true (by omega)
     clear c40
     replace H := Option.bind_eq_some_iff.mp H
     obtain ⟨⟨t514, t515, t516, t517⟩, A410, H⟩ := H
     try dsimp only at H
     have A41 := A_ A410
     clear A410
     replace H := Option.bind_eq_some_iff.mp H
     obtain ⟨⟨t520, t521, t522, t523⟩, A420, H⟩ := H
     try dsimp only at H
     have A42 := A_ A420
     clear A420
     simp only [Option.some.injEq, Prod.mk.injEq] at H
     obtain ⟨rfl, rfl, rfl, rfl⟩ := H
     go_enter Try.func60, Try.ntmps60
     try go_wp2_with (first | ((with_reducible refine gate_dst (N := 1) rfl ?_); refine bx_ 1 #[.int .i64 a0_0, .int .i64 a0_1, .string a0_2, .slice A0_3 l0_3.length c0_3] 29 ?_; intro gb486 hg w43 hbox hb; have n0_ := A_ (Kd.S_below (Kd.S_elderB (kz_ HO0_3.out) gb486 (Nat.le_of_eq hg.symm)) hb); have n1_ := A_ (below_step (bw_ HB.out) hb); have n2_ := A_ (hbox); have n3_ := A_ ((d3_ : w.heap.size ≤ gb486)); have n4_ := n3_; clear HO0_3; clear HB; have HO0_3 := n0_; have HB := n1_; have BK486 := n2_; have GW486 := n3_; have GE486 := n4_; have GI486 := GeI.mk GE486.out; clear n0_ n1_ n2_ n3_ n4_; clear hb hbox hg) | ((with_reducible refine gate_dst (N := 2) rfl ?_); refine bx_ 2 #[.int .i64 0, .int .i64 0, .string (⟨#[]⟩ : ByteArray), .slice none 0 0] 29 ?_; intro gb487 hg w44 hbox hb; have n0_ := A_ (Kd.S_below (Kd.S_elderB (kz_ HO0_3.out) gb487 (Nat.le_of_eq hg.symm)) hb); have n1_ := A_ (blk_below (bk_ BK486.out) hb); have n2_ := A_ (below_step (bw_ HB.out) hb); have n3_ := A_ (hbox); have n4_ := A_ ((d3_ : w.heap.size ≤ gb487)); have n5_ := n4_; have n6_ := A_ ((d39_ : gb486 ≠ gb487)); have n7_ := A_ n6_.out.symm; clear HO0_3; clear BK486; clear HB; have HO0_3 := n0_; have BK486 := n1_; have HB := n2_; have BK487 := n3_; have GW487 := n4_; have GE487 := n5_; have GI487 := GeI.mk GE487.out; have NB486_487 := n6_; have NB487_486 := n7_; clear n0_ n1_ n2_ n3_ n4_ n5_ n6_ n7_; clear hb hbox hg; have hnb45 := NB486_487.out; have hnc45 := NB487_486.out; obtain ⟨y46_0, y46_1, y46_2, y46_3, z46_0, z46_1, z46_2, z46_3⟩ := cz4_ BK486.out) | ((with_reducible refine gate_callee (f := 71) rfl ?_); refine gL_ (some 26) Try.func71 #[.int .i64 a0_0] ?_; (with_reducible refine (impl_isTwo.calls a0_0 true _ A36.out).mono ?_); rintro e w' ⟨rfl, ⟨nd, rfl⟩⟩; refine ⟨_, rfl, ?_⟩; (try (rw [drewN_self w44]; generalize hq_ : World.drewN w44 _ = w44; have n0_ : Aside0 (Kd.S q29 29 w44 b0 (fun k_ => (((P0_3_ k_ ∨ w.heap.size ≤ k_) ∧ k_ ≠ gb486) ∧ k_ ≠ gb487)) (.slice A0_3 l0_3.length c0_3) l0_3) := ⟨by rw [← hq_]; exact (kz_ HO0_3.out)⟩; have n1_ := A_ (bq_ hq_ BK486.out); have n2_ := A_ (bq_ hq_ BK487.out); have n3_ := A_ (wq_ hq_ HB.out); clear HO0_3 BK486 BK487 HB hq_; have HO0_3 := n0_; have BK486 := n1_; have BK487 := n2_; have HB := n3_; clear n0_ n1_ n2_ n3_; have hcq486_0 : w44.cell? ⟨gb486, 0, none⟩ = some (.int .i64 a0_0) := (blk_cell BK486.out 0).trans rfl; have hcq486_1 : w44.cell? ⟨gb486, 1, none⟩ = some (.int .i64 a0_1) := (blk_cell BK486.out 1).trans rfl; have hcq486_2 : w44.cell? ⟨gb486, 2, none⟩ = some (.string a0_2) := (blk_cell BK486.out 2).trans rfl; have hcq486_3 : w44.cell? ⟨gb486, 3, none⟩ = some (.slice A0_3 l0_3.length c0_3) := (blk_cell BK486.out 3).trans rfl; have hcq487_0 : w44.cell? ⟨gb487, 0, none⟩ = some (.int .i64 0) := (blk_cell BK487.out 0).trans rfl; have hcq487_1 : w44.cell? ⟨gb487, 1, none⟩ = some (.int .i64 0) := (blk_cell BK487.out 1).trans rfl; have hcq487_2 : w44.cell? ⟨gb487, 2, none⟩ = some (.string (⟨#[]⟩ : ByteArray)) := (blk_cell BK487.out 2).trans rfl; have hcq487_3 : w44.cell? ⟨gb487, 3, none⟩ = some (.slice none 0 0) := (blk_cell BK487.out 3).trans rfl))))
     replace HO0_3 := A_ (Kd.S_drew HO0_3.out)
     replace BK486 := A_ (blk_drew BK486.out)
     replace BK487 := A_ (blk_drew BK487.out)
     replace HB := A_ (below_drew1 HB.out)
     have p506 : 0 ≤ (0 : Int) := (by omega)
     have q506 : 0 < (l0_3.length : Int) := of_decide_eq_true d1_
     obtain ⟨ad506, A506_3, c506_3, e506, hx506_0, hx506_1, hx506_2, hx506_3, hl506_3, hi506_3⟩ := at_T29 (q29_C (Kd.S_reads' HO0_3.out).2.2) 0 p506 q506
     cases e506
     obtain ⟨f_, hf_⟩ := HO0_3.out
     obtain ⟨ce506, hce506, hMe506, hcc506⟩ := Kd.T_get hf_ z29 0 p506 (by first | exact q506 | exact of_decide_eq_true d1_ | (have e_ := (Kd.S_reads' HO0_3.out).1; omega))
     obtain ⟨ua506_3, rfl, ge506_3⟩ := q29_openM hMe506
     have hv506_3 := hcc506 3 _ rfl
     rw [add_field _ _ 3 (by omega)] at hv506_3
     replace hv506_3 := Option.some.inj (hv506_3.symm.trans hx506_3)
     rw [hv506_3] at ge506_3
     have HL506_3 := A_ (show Kd.S q29 29 _ b0 _ _ ((rd_T29 l0_3 0).f3) from ge506_3)
     clear hv506_3 ge506_3 hMe506
     clear hcc506 hce506
     have qi506 : (0 < l0_3.length) = True := eq_true (by omega)
     (try rw [show ((0 : Int)).toNat = 0 from rfl] at hx506_0)
     (try rw [show 0 * 4 = 0 from rfl] at hx506_0)
     (try rw [Addr.add_zero'] at hx506_0)
     (try rw [show ((0 : Int)).toNat = 0 from rfl] at hx506_1)
     (try rw [show 0 * 4 = 0 from rfl] at hx506_1)
     (try rw [Addr.add_zero'] at hx506_1)
     (try rw [show ((0 : Int)).toNat = 0 from rfl] at hx506_2)
     (try rw [show 0 * 4 = 0 from rfl] at hx506_2)
     (try rw [Addr.add_zero'] at hx506_2)
     (try rw [show ((0 : Int)).toNat = 0 from rfl] at hx506_3)
     (try rw [show 0 * 4 = 0 from rfl] at hx506_3)
     (try rw [Addr.add_zero'] at hx506_3)
     have HR506_3 := A_ hi506_3
     have HC506_3 := A_ hl506_3
     clear hi506_3 hl506_3
     replace p506 := eq_true p506
     replace q506 := eq_true q506
     have p513 : 0 ≤ (1 : Int) := (by omega)
     have q513 : 1 < (l0_3.length : Int) := of_decide_eq_true d1_
     obtain ⟨ad513, A513_3, c513_3, e513, hx513_0, hx513_1, hx513_2, hx513_3, hl513_3, hi513_3⟩ := at_T29 (q29_C (Kd.S_reads' HO0_3.out).2.2) 1 p513 q513
     obtain rfl : ad506 = ad513 := (by injection e513)
     obtain ⟨ce513, hce513, hMe513, hcc513⟩ := Kd.T_get hf_ z29 1 p513 (by first | exact q513 | exact of_decide_eq_true d1_ | (have e_ := (Kd.S_reads' HO0_3.out).1; omega))
     obtain ⟨ua513_3, rfl, ge513_3⟩ := q29_openM hMe513
     have hv513_3 := hcc513 3 _ rfl
     rw [add_field _ _ 3 (by omega)] at hv513_3
     replace hv513_3 := Option.some.inj (hv513_3.symm.trans hx513_3)
     rw [hv513_3] at ge513_3
     have HL513_3 := A_ (show Kd.S q29 29 _ b0 _ _ ((rd_T29 l0_3 1).f3) from ge513_3)
     clear hv513_3 ge513_3 hMe513
     clear hcc513 hce513
     (try simp only [show (1 : Int).toNat = 1 from rfl, Nat.reduceMul, Nat.reduceEqDiff, Go.Addr.add, ↓reduceIte] at hx513_0)
     (try simp only [show (1 : Int).toNat = 1 from rfl, Nat.reduceMul, Nat.reduceEqDiff, Go.Addr.add, ↓reduceIte] at hx513_1)
     (try simp only [show (1 : Int).toNat = 1 from rfl, Nat.reduceMul, Nat.reduceEqDiff, Go.Addr.add, ↓reduceIte] at hx513_2)
     (try simp only [show (1 : Int).toNat = 1 from rfl, Nat.reduceMul, Nat.reduceEqDiff, Go.Addr.add, ↓reduceIte] at hx513_3)
     have qi513 : (1 < l0_3.length) = True := eq_true (by omega)
     (try rw [show ((1 : Int)).toNat = 1 from rfl] at hx513_0)
     (try rw [show 1 * 4 = 4 from rfl] at hx513_0)
     (try rw [show ((1 : Int)).toNat = 1 from rfl] at hx513_1)
     (try rw [show 1 * 4 = 4 from rfl] at hx513_1)
     (try rw [show ((1 : Int)).toNat = 1 from rfl] at hx513_2)
     (try rw [show 1 * 4 = 4 from rfl] at hx513_2)
     (try rw [show ((1 : Int)).toNat = 1 from rfl] at hx513_3)
     (try rw [show 1 * 4 = 4 from rfl] at hx513_3)
     have HR513_3 := A_ hi513_3
     have HC513_3 := A_ hl513_3
     clear hi513_3 hl513_3
     replace p513 := eq_true p513
     replace q513 := eq_true q513
     refine start_ (n := 14) (S := fun w' => w'.cell? ⟨gb486, 0, none⟩ = some (.int .i64 a0_0) ∧ w'.cell? ⟨gb486, 1, none⟩ = some (.int .i64 a0_1) ∧ w'.cell? ⟨gb486, 2, none⟩ = some (.string a0_2) ∧ w'.cell? ⟨gb486, 3, none⟩ = some (.slice (some ad506) l0_3.length c0_3) ∧ w'.cell? ad506 = some (.int .i64 ((rd_T29 l0_3 0).f0)) ∧ w'.cell? ⟨ad506.block, ad506.off + 1, none⟩ = some (.int .i64 ((rd_T29 l0_3 0).f1)) ∧ w'.cell? ⟨ad506.block, ad506.off + 2, none⟩ = some (.string ((rd_T29 l0_3 0).f2)) ∧ w'.cell? ⟨ad506.block, ad506.off + 3, none⟩ = some (.slice A506_3 ((rd_T29 l0_3 0).f3).length c506_3) ∧ w'.cell? ⟨ad506.block, ad506.off + 4, none⟩ = some (.int .i64 ((rd_T29 l0_3 1).f0)) ∧ w'.cell? ⟨ad506.block, ad506.off + 4 + 1, none⟩ = some (.int .i64 ((rd_T29 l0_3 1).f1)) ∧ w'.cell? ⟨ad506.block, ad506.off + 4 + 2, none⟩ = some (.string ((rd_T29 l0_3 1).f2)) ∧ w'.cell? ⟨ad506.block, ad506.off + 4 + 3, none⟩ = some (.slice A513_3 ((rd_T29 l0_3 1).f3).length c513_3)) (ds := []) #[false, false, false, false, false, false, false, false, false, false, false, false, false, false] (by kernel_rfl) rfl rfl ⟨(blk_cell BK486.out 0).trans rfl, (blk_cell BK486.out 1).trans rfl, (blk_cell BK486.out 2).trans rfl, (blk_cell BK486.out 3).trans rfl, hx506_0, hx506_1, hx506_2, hx506_3, hx513_0, hx513_1, hx513_2, hx513_3⟩ (fun hHeld => ?_); refine with_tabW impl_fold.tab7 impl_fold.bits7 (fun HT_ HW_ => ?_)
     generalize w44.drew = w47 at HO0_3 BK486 BK487 HB HL506_3 HL513_3 HR506_3 HR513_3 hx506_0 hx506_1 hx506_2 hx506_3 hx513_0 hx513_1 hx513_2 hx513_3 hHeld ⊢
     refine pu_ 0 (some 27) (bm_ 14 1) (any_of HT_.out (by kernel_rfl)) ?_
     refine pu_ 2 (some 29) (bm_ 14 5) (any_of HT_.out (by kernel_rfl)) ?_
     refine pu_ 7 (some 34) (bm_ 14 133) (any_of HT_.out (by kernel_rfl)) ?_
     refine take_ (i := 1) (N := some 28) (v := ?_) (a' := ?_) (bm_ 14 135) rfl rfl (take_ofW HT_.out HW_.out (by kernel_rfl)) (fun _ _ _ h => h) (Or.inl ⟨by rfl, ?_⟩) hHeld ?_ ?_
     rotate_left
     ·rintro w' ⟨s0, s1, s2, s3, s4, s5, s6, s7, s8, s9, s10, s11⟩
      go_simp
      with_reducible rfl
     rotate_left
     ·simp only [Act.put, List.setIfInBounds_toArray, List.set_cons_zero, List.set_cons_succ, i64_w, i32_w]
      rfl
     refine take_ (i := 3) (N := some 30) (v := ?_) (a' := ?_) (bm_ 14 143) rfl rfl (take_ofW HT_.out HW_.out (by kernel_rfl)) (fun _ _ _ h => h) (Or.inl ⟨by rfl, ?_⟩) hHeld ?_ ?_
     rotate_left
     ·rintro w' ⟨s0, s1, s2, s3, s4, s5, s6, s7, s8, s9, s10, s11⟩
      go_simp
      with_reducible rfl
     rotate_left
     ·simp only [Act.put, List.setIfInBounds_toArray, List.set_cons_zero, List.set_cons_succ, i64_w, i32_w]
      rfl
     refine pu_ 4 (some 31) (bm_ 14 159) (any_of HT_.out (by kernel_rfl)) ?_
     refine take_ (i := 5) (N := some 32) (v := ?_) (a' := ?_) (bm_ 14 191) rfl rfl (take_ofW HT_.out HW_.out (by kernel_rfl)) (fun _ _ _ h => h) (Or.inl ⟨by rfl, ?_⟩) hHeld ?_ ?_
     rotate_left
     ·rintro w' ⟨s0, s1, s2, s3, s4, s5, s6, s7, s8, s9, s10, s11⟩
      go_simp
      with_reducible rfl
     rotate_left
     ·simp only [Act.put, List.setIfInBounds_toArray, List.set_cons_zero, List.set_cons_succ, i64_w, i32_w]
      rfl
     refine take_ (i := 8) (N := some 35) (v := ?_) (a' := ?_) (bm_ 14 447) rfl rfl (take_ofW HT_.out HW_.out (by kernel_rfl)) (fun _ _ _ h => h) (Or.inl ⟨by rfl, ?_⟩) hHeld ?_ ?_
     rotate_left
     ·rintro w' ⟨s0, s1, s2, s3, s4, s5, s6, s7, s8, s9, s10, s11⟩
      go_simp
      with_reducible rfl
     rotate_left
     ·simp only [Act.put, List.setIfInBounds_toArray, List.set_cons_zero, List.set_cons_succ, i64_w, i32_w]
      rfl
     refine pu_ 9 (some 36) (bm_ 14 959) (any_of HT_.out (by kernel_rfl)) ?_
     refine take_ (i := 10) (N := some 37) (v := ?_) (a' := ?_) (bm_ 14 1983) rfl rfl (take_ofW HT_.out HW_.out (by kernel_rfl)) (fun _ _ _ h => h) (Or.inl ⟨by rfl, ?_⟩) hHeld ?_ ?_
     rotate_left
     ·rintro w' ⟨s0, s1, s2, s3, s4, s5, s6, s7, s8, s9, s10, s11⟩
      go_simp
      with_reducible rfl
     rotate_left
     ·simp only [Act.put, List.setIfInBounds_toArray, List.set_cons_zero, List.set_cons_succ, i64_w, i32_w]
      rfl
     refine one_ (i := 6) (N := some 33) (bm_ 14 2047) rfl rfl (one_of HT_.out (by kernel_rfl)) (by decide) (fun K hK => ?_)
     refine goes_ Try.func60 (by kernel_rfl) rfl #[.agg #[.int .i64 ((rd_T29 l0_3 0).f0), .int .i64 ((rd_T29 l0_3 0).f1), .string ((rd_T29 l0_3 0).f2), .slice A506_3 ((rd_T29 l0_3 0).f3).length c506_3]] (by rfl) rfl rfl d6_ ?_
     with_reducible refine (ih k (by omega) b0 ((rd_T29 l0_3 0).f0) ((rd_T29 l0_3 0).f1) ((rd_T29 l0_3 0).f2) (fun k_ => ((((P0_3_ k_ ∨ w.heap.size ≤ k_) ∧ k_ ≠ gb486) ∧ k_ ≠ gb487) ∧ f_ k_ = (0 : Int).toNat)) _ _ ((rd_T29 l0_3 0).f3) t507 t508 t509 t510 _ ?sideb ?side1 A39.out).mono ?_
     (case sideb => exact Nat.le_trans hb0 (below_size (bw_ HB.out))); (case side1 => exact kz_ HL506_3.out)
     rintro e w48 ⟨v511, rfl, ho0, hb⟩
     obtain ⟨N1, hN1⟩ := nm_ hb
     have hs1_ : N1 ≤ _ := Nat.le_trans (Nat.le_of_eq hN1) hb.size
     have hw1_ : w.heap.size ≤ N1 := Nat.le_trans (below_size (bw_ HB.out)) (Nat.le_of_eq hN1.symm)
     have hg0_ : gb486 < N1 := Nat.lt_of_lt_of_le (blk_lt (bk_ BK486.out)) (Nat.le_of_eq hN1.symm)
     have hg1_ : gb487 < N1 := Nat.lt_of_lt_of_le (blk_lt (bk_ BK487.out)) (Nat.le_of_eq hN1.symm)
     have HS4_ := (hb.cell (World.block_lt_of_cell? _ _ (hHeld.2.2.2.2.1))).trans (hHeld.2.2.2.2.1)
     have HS5_ := (hb.cell (World.block_lt_of_cell? _ _ (hHeld.2.2.2.2.2.1))).trans (hHeld.2.2.2.2.2.1)
     have HS6_ := (hb.cell (World.block_lt_of_cell? _ _ (hHeld.2.2.2.2.2.2.1))).trans (hHeld.2.2.2.2.2.2.1)
     have HS7_ := (hb.cell (World.block_lt_of_cell? _ _ (hHeld.2.2.2.2.2.2.2.1))).trans (hHeld.2.2.2.2.2.2.2.1)
     have HS8_ := (hb.cell (World.block_lt_of_cell? _ _ (hHeld.2.2.2.2.2.2.2.2.1))).trans (hHeld.2.2.2.2.2.2.2.2.1)
     have HS9_ := (hb.cell (World.block_lt_of_cell? _ _ (hHeld.2.2.2.2.2.2.2.2.2.1))).trans (hHeld.2.2.2.2.2.2.2.2.2.1)
     have HS10_ := (hb.cell (World.block_lt_of_cell? _ _ (hHeld.2.2.2.2.2.2.2.2.2.2.1))).trans (hHeld.2.2.2.2.2.2.2.2.2.2.1)
     have HS11_ := (hb.cell (World.block_lt_of_cell? _ _ (hHeld.2.2.2.2.2.2.2.2.2.2.2))).trans (hHeld.2.2.2.2.2.2.2.2.2.2.2)
     refine ⟨_, rfl, ?_⟩
     replace HO0_3 := A_ (Kd.S_below (kz_ HO0_3.out) hb)
     replace HL506_3 := A_ (Kd.S_below (kz_ HL506_3.out) hb)
     replace HL513_3 := A_ (Kd.old_ hN1 (kz_ HL513_3.out) hb)
     have HO512 := A_ (Kd.S_mono (ok' := fun k_ => (k_ < N1 ∧ ((((P0_3_ k_ ∨ w.heap.size ≤ k_) ∧ k_ ≠ gb486) ∧ k_ ≠ gb487) ∧ f_ k_ = (0 : Int).toNat)) ∨ N1 ≤ k_) ho0 (fun k_ hk_ => hk_.elim (fun h_ => (Nat.lt_or_ge k_ N1).elim (fun g_ => .inl ⟨g_, h_⟩) .inr) (fun h_ => .inr (Nat.le_trans (Nat.le_of_eq hN1) h_))))
     replace BK486 := A_ (blk_below (bk_ BK486.out) hb)
     replace BK487 := A_ (blk_below (bk_ BK487.out) hb)
     replace HR506_3 := A_ (Kd.C_below (Kd.C_below HR506_3.out (bw_ (Below.refl _ _))) hb)
     replace HR513_3 := A_ (Kd.C_below (Kd.C_below HR513_3.out (bw_ (Below.refl _ _))) hb)
     replace HB := A_ (below_step (bw_ HB.out) hb)
     (try clear hb)
     (try clear hb2)
     (try clear hk)
     (try clear hi)
     (try clear ho0)
     refine hK.out _ _ ⟨(blk_cell BK486.out 0).trans rfl, (blk_cell BK486.out 1).trans rfl, (blk_cell BK486.out 2).trans rfl, (blk_cell BK486.out 3).trans rfl, HS4_, HS5_, HS6_, HS7_, HS8_, HS9_, HS10_, HS11_⟩ (fun hHeld => ?_)
     clear hK K
     refine norm_ (a' := ?_) ?_ ?_
     rotate_left
     ·show Act.put _ (some 33) _ = _
      simp only [Act.put, List.setIfInBounds_toArray, List.set_cons_zero, List.set_cons_succ, i64_w, i32_w]
      rfl
     refine one_ (i := 11) (N := some 38) (bm_ 14 4095) rfl rfl (one_of HT_.out (by kernel_rfl)) (by decide) (fun K hK => ?_)
     refine goes_ Try.func60 (by kernel_rfl) rfl #[.agg #[.int .i64 ((rd_T29 l0_3 1).f0), .int .i64 ((rd_T29 l0_3 1).f1), .string ((rd_T29 l0_3 1).f2), .slice A513_3 ((rd_T29 l0_3 1).f3).length c513_3]] (by rfl) rfl rfl d6_ ?_
     with_reducible refine (ih k (by omega) b0 ((rd_T29 l0_3 1).f0) ((rd_T29 l0_3 1).f1) ((rd_T29 l0_3 1).f2) (fun k_ => ((((P0_3_ k_ ∨ w.heap.size ≤ k_) ∧ k_ ≠ gb486) ∧ k_ ≠ gb487) ∧ f_ k_ = (1 : Int).toNat) ∧ k_ < N1) _ _ ((rd_T29 l0_3 1).f3) t514 t515 t516 t517 _ ?sideb ?side1 A41.out).mono ?_
     (case sideb => exact Nat.le_trans hb0 (below_size (bw_ HB.out))); (case side1 => exact kz_ HL513_3.out)
     rintro e w49 ⟨v518, rfl, ho0, hb⟩
     obtain ⟨N2, hN2⟩ := nm_ hb
     have h12_ : N1 ≤ N2 := Nat.le_trans hs1_ (Nat.le_of_eq hN2.symm)
     have HS4_ := (hb.cell (World.block_lt_of_cell? _ _ (hHeld.2.2.2.2.1))).trans (hHeld.2.2.2.2.1)
     have HS5_ := (hb.cell (World.block_lt_of_cell? _ _ (hHeld.2.2.2.2.2.1))).trans (hHeld.2.2.2.2.2.1)
     have HS6_ := (hb.cell (World.block_lt_of_cell? _ _ (hHeld.2.2.2.2.2.2.1))).trans (hHeld.2.2.2.2.2.2.1)
     have HS7_ := (hb.cell (World.block_lt_of_cell? _ _ (hHeld.2.2.2.2.2.2.2.1))).trans (hHeld.2.2.2.2.2.2.2.1)
     have HS8_ := (hb.cell (World.block_lt_of_cell? _ _ (hHeld.2.2.2.2.2.2.2.2.1))).trans (hHeld.2.2.2.2.2.2.2.2.1)
     have HS9_ := (hb.cell (World.block_lt_of_cell? _ _ (hHeld.2.2.2.2.2.2.2.2.2.1))).trans (hHeld.2.2.2.2.2.2.2.2.2.1)
     have HS10_ := (hb.cell (World.block_lt_of_cell? _ _ (hHeld.2.2.2.2.2.2.2.2.2.2.1))).trans (hHeld.2.2.2.2.2.2.2.2.2.2.1)
     have HS11_ := (hb.cell (World.block_lt_of_cell? _ _ (hHeld.2.2.2.2.2.2.2.2.2.2.2))).trans (hHeld.2.2.2.2.2.2.2.2.2.2.2)
     refine ⟨_, rfl, ?_⟩
     replace HO0_3 := A_ (Kd.S_below (kz_ HO0_3.out) hb)
     replace HL506_3 := A_ (Kd.S_below (kz_ HL506_3.out) hb)
     replace HL513_3 := A_ (Kd.S_below (kz_ HL513_3.out) hb)
     replace HO512 := A_ (Kd.old_ hN2 (kz_ HO512.out) hb)
     have HO519 := A_ (Kd.S_mono (ok' := fun k_ => (k_ < N1 ∧ ((((P0_3_ k_ ∨ w.heap.size ≤ k_) ∧ k_ ≠ gb486) ∧ k_ ≠ gb487) ∧ f_ k_ = (1 : Int).toNat)) ∨ N2 ≤ k_) ho0 (fun k_ hk_ => hk_.elim (fun h_ => .inl ⟨h_.2, h_.1⟩) (fun h_ => .inr (Nat.le_trans (Nat.le_of_eq hN2) h_))))
     replace BK486 := A_ (blk_below (bk_ BK486.out) hb)
     replace BK487 := A_ (blk_below (bk_ BK487.out) hb)
     replace HR506_3 := A_ (Kd.C_below (Kd.C_below HR506_3.out (bw_ (Below.refl _ _))) hb)
     replace HR513_3 := A_ (Kd.C_below (Kd.C_below HR513_3.out (bw_ (Below.refl _ _))) hb)
     replace HB := A_ (below_step (bw_ HB.out) hb)
     (try clear hb)
     (try clear hb2)
     (try clear hk)
     (try clear hi)
     (try clear ho0)
     obtain ⟨Ao50, co50, eo50⟩ := Kd.S_slice HO512.out
     (first | subst eo50 | (injection eo50 with f1_ f2_ f3_; have f4_ := f1_.symm; have f5_ := f3_.symm; clear f1_ f2_ f3_; subst f4_; subst f5_))
     obtain ⟨Ao51, co51, eo51⟩ := Kd.S_slice HO519.out
     (first | subst eo51 | (injection eo51 with f1_ f2_ f3_; have f4_ := f1_.symm; have f5_ := f3_.symm; clear f1_ f2_ f3_; subst f4_; subst f5_))
     refine hK.out _ _ ⟨(blk_cell BK486.out 0).trans rfl, (blk_cell BK486.out 1).trans rfl, (blk_cell BK486.out 2).trans rfl, (blk_cell BK486.out 3).trans rfl, HS4_, HS5_, HS6_, HS7_, HS8_, HS9_, HS10_, HS11_⟩ (fun hHeld => ?_)
     clear hK K
     refine norm_ (a' := ?_) ?_ ?_
     rotate_left
     ·show Act.put _ (some 38) _ = _
      simp only [Act.put, List.setIfInBounds_toArray, List.set_cons_zero, List.set_cons_succ, i64_w, i32_w]
      rfl
     refine one_ (i := 12) (N := some 39) (bm_ 14 8191) rfl rfl (one_of HT_.out (by kernel_rfl)) (by decide) (fun K hK => ?_)
     refine goes_ Try.func83 (by kernel_rfl) rfl #[.int .i64 a0_0, .agg #[.int .i64 t507, .int .i64 t508, .string t509, .slice Ao50 t510.length co50], .agg #[.int .i64 t514, .int .i64 t515, .string t516, .slice Ao51 t517.length co51]] (by rfl) rfl rfl d6_ ?_
     with_reducible refine (impl_foldTwo.calls k b0 a0_0 t507 t508 t509 (fun k_ => ((k_ < N1 ∧ ((((P0_3_ k_ ∨ w.heap.size ≤ k_) ∧ k_ ≠ gb486) ∧ k_ ≠ gb487) ∧ f_ k_ = (0 : Int).toNat)) ∨ N1 ≤ k_) ∧ k_ < N2) _ _ t510 t514 t515 t516 (fun k_ => (k_ < N1 ∧ ((((P0_3_ k_ ∨ w.heap.size ≤ k_) ∧ k_ ≠ gb486) ∧ k_ ≠ gb487) ∧ f_ k_ = (1 : Int).toNat)) ∨ N2 ≤ k_) _ _ t517 t520 t521 t522 t523 _ ?side1 ?side2 ?sideb ?sided A42.out).mono ?_
     (case sideb => exact Nat.le_trans hb0 (below_size (bw_ HB.out))); (case sided => rintro k_ ⟨⟨a_, b_⟩ | a_, c_⟩ (⟨d_, e_⟩ | d_) <;> first | omega | exact absurd (b_.2.symm.trans e_.2) (by decide)); (case side1 => exact kz_ HO512.out)
     (case side2 => exact kz_ HO519.out)
     rintro e w52 ⟨v524, rfl, ho0, hb⟩
     have HS4_ := (hb.cell (World.block_lt_of_cell? _ _ (hHeld.2.2.2.2.1))).trans (hHeld.2.2.2.2.1)
     have HS5_ := (hb.cell (World.block_lt_of_cell? _ _ (hHeld.2.2.2.2.2.1))).trans (hHeld.2.2.2.2.2.1)
     have HS6_ := (hb.cell (World.block_lt_of_cell? _ _ (hHeld.2.2.2.2.2.2.1))).trans (hHeld.2.2.2.2.2.2.1)
     have HS7_ := (hb.cell (World.block_lt_of_cell? _ _ (hHeld.2.2.2.2.2.2.2.1))).trans (hHeld.2.2.2.2.2.2.2.1)
     have HS8_ := (hb.cell (World.block_lt_of_cell? _ _ (hHeld.2.2.2.2.2.2.2.2.1))).trans (hHeld.2.2.2.2.2.2.2.2.1)
     have HS9_ := (hb.cell (World.block_lt_of_cell? _ _ (hHeld.2.2.2.2.2.2.2.2.2.1))).trans (hHeld.2.2.2.2.2.2.2.2.2.1)
     have HS10_ := (hb.cell (World.block_lt_of_cell? _ _ (hHeld.2.2.2.2.2.2.2.2.2.2.1))).trans (hHeld.2.2.2.2.2.2.2.2.2.2.1)
     have HS11_ := (hb.cell (World.block_lt_of_cell? _ _ (hHeld.2.2.2.2.2.2.2.2.2.2.2))).trans (hHeld.2.2.2.2.2.2.2.2.2.2.2)
     refine ⟨_, rfl, ?_⟩
     replace HO0_3 := A_ (Kd.S_below (kz_ HO0_3.out) hb)
     replace HL506_3 := A_ (Kd.S_below (kz_ HL506_3.out) hb)
     replace HL513_3 := A_ (Kd.S_below (kz_ HL513_3.out) hb)
     replace HO512 := A_ (Kd.S_below (kz_ HO512.out) hb)
     replace HO519 := A_ (Kd.S_below (kz_ HO519.out) hb)
     have HO525 := A_ (Kd.S_mono (ok' := fun k_ => (P0_3_ k_ ∨ w.heap.size ≤ k_) ∧ k_ ≠ gb486 ∧ k_ ≠ gb487) ho0 (fun k_ hk_ => by
      rcases hk_ with (⟨⟨_, h_⟩ | h_, _⟩ | ⟨_, h_⟩ | h_) | h_
      exact ⟨h_.1.1.1, h_.1.1.2, h_.1.2⟩
      exact ⟨.inr (Nat.le_trans hw1_ h_), by omega, by omega⟩
      exact ⟨h_.1.1.1, h_.1.1.2, h_.1.2⟩
      exact ⟨.inr (Nat.le_trans hw1_ (Nat.le_trans h12_ h_)), by omega, by omega⟩
      exact ⟨.inr (Nat.le_trans (below_size (bw_ HB.out)) h_), Kd.freshB (bk_ BK486.out) k_ h_, Kd.freshB (bk_ BK487.out) k_ h_⟩))
     replace BK486 := A_ (blk_below (bk_ BK486.out) hb)
     replace BK487 := A_ (blk_below (bk_ BK487.out) hb)
     replace HR506_3 := A_ (Kd.C_below (Kd.C_below HR506_3.out (bw_ (Below.refl _ _))) hb)
     replace HR513_3 := A_ (Kd.C_below (Kd.C_below HR513_3.out (bw_ (Below.refl _ _))) hb)
     replace HB := A_ (below_step (bw_ HB.out) hb)
     (try clear hb)
     (try clear hb2)
     (try clear hk)
     (try clear hi)
     (try clear ho0)
     obtain ⟨Ao56, co56, eo56⟩ := Kd.S_slice HO525.out
     (first | subst eo56 | (injection eo56 with f1_ f2_ f3_; have f4_ := f1_.symm; have f5_ := f3_.symm; clear f1_ f2_ f3_; subst f4_; subst f5_))
     refine hK.out _ _ ⟨(blk_cell BK486.out 0).trans rfl, (blk_cell BK486.out 1).trans rfl, (blk_cell BK486.out 2).trans rfl, (blk_cell BK486.out 3).trans rfl, HS4_, HS5_, HS6_, HS7_, HS8_, HS9_, HS10_, HS11_⟩ (fun hHeld => ?_)
     clear hK K
     refine norm_ (a' := ?_) ?_ ?_
     rotate_left
     ·show Act.put _ (some 39) _ = _
      simp only [Act.put, List.setIfInBounds_toArray, List.set_cons_zero, List.set_cons_succ, i64_w, i32_w]
      rfl
     refine one_ (i := 13) (N := none) (bm_ 14 16383) rfl rfl (one_of HT_.out (by kernel_rfl)) (by decide) (fun K hK => ?_)
     have hs53 : w52.cell? ⟨gb487, 0, none⟩ = some (.int .i64 0) := (blk_cell BK487.out 0).trans rfl
     have hfs53 := blk_frozen BK487.out 0
     have hns53_0 := NB486_487.out
     have hms53_0 := NB487_486.out
     have hs54 : w52.cell? ⟨gb487, 1, none⟩ = some (.int .i64 0) := (blk_cell BK487.out 1).trans rfl
     have hfs54 := blk_frozen BK487.out 1
     have hns54_0 := NB486_487.out
     have hms54_0 := NB487_486.out
     have hs55 : w52.cell? ⟨gb487, 2, none⟩ = some (.string (⟨#[]⟩ : ByteArray)) := (blk_cell BK487.out 2).trans rfl
     have hfs55 := blk_frozen BK487.out 2
     have hns55_0 := NB486_487.out
     have hms55_0 := NB487_486.out
     have hs57 : w52.cell? ⟨gb487, 3, none⟩ = some (.slice none 0 0) := (blk_cell BK487.out 3).trans rfl
     have hfs57 := blk_frozen BK487.out 3
     have hns57_0 := NB486_487.out
     have hms57_0 := NB487_486.out
     refine skip_ (w1 := ?_) (by rfl) rfl ?_ ?_
     rotate_left
     ·go_simp
      rfl
     refine hK.out _ _ ⟨(cf_ NB486_487 ((cf_ NB486_487 ((cf_ NB486_487 ((cf_ NB486_487 (hHeld.1)))))))), (cf_ NB486_487 ((cf_ NB486_487 ((cf_ NB486_487 ((cf_ NB486_487 (hHeld.2.1)))))))), (cf_ NB486_487 ((cf_ NB486_487 ((cf_ NB486_487 ((cf_ NB486_487 (hHeld.2.2.1)))))))), (cf_ NB486_487 ((cf_ NB486_487 ((cf_ NB486_487 ((cf_ NB486_487 (hHeld.2.2.2.1)))))))), ((cell_far (p := ⟨gb487, _, none⟩) d2_ _).trans (((cell_far (p := ⟨gb487, _, none⟩) d2_ _).trans (((cell_far (p := ⟨gb487, _, none⟩) d2_ _).trans (((cell_far (p := ⟨gb487, _, none⟩) d2_ _).trans (hHeld.2.2.2.2.1)))))))), ((cell_far (p := ⟨gb487, _, none⟩) d2_ _).trans (((cell_far (p := ⟨gb487, _, none⟩) d2_ _).trans (((cell_far (p := ⟨gb487, _, none⟩) d2_ _).trans (((cell_far (p := ⟨gb487, _, none⟩) d2_ _).trans (hHeld.2.2.2.2.2.1)))))))), ((cell_far (p := ⟨gb487, _, none⟩) d2_ _).trans (((cell_far (p := ⟨gb487, _, none⟩) d2_ _).trans (((cell_far (p := ⟨gb487, _, none⟩) d2_ _).trans (((cell_far (p := ⟨gb487, _, none⟩) d2_ _).trans (hHeld.2.2.2.2.2.2.1)))))))), ((cell_far (p := ⟨gb487, _, none⟩) d2_ _).trans (((cell_far (p := ⟨gb487, _, none⟩) d2_ _).trans (((cell_far (p := ⟨gb487, _, none⟩) d2_ _).trans (((cell_far (p := ⟨gb487, _, none⟩) d2_ _).trans (hHeld.2.2.2.2.2.2.2.1)))))))), ((cell_far (p := ⟨gb487, _, none⟩) d2_ _).trans (((cell_far (p := ⟨gb487, _, none⟩) d2_ _).trans (((cell_far (p := ⟨gb487, _, none⟩) d2_ _).trans (((cell_far (p := ⟨gb487, _, none⟩) d2_ _).trans (hHeld.2.2.2.2.2.2.2.2.1)))))))), ((cell_far (p := ⟨gb487, _, none⟩) d2_ _).trans (((cell_far (p := ⟨gb487, _, none⟩) d2_ _).trans (((cell_far (p := ⟨gb487, _, none⟩) d2_ _).trans (((cell_far (p := ⟨gb487, _, none⟩) d2_ _).trans (hHeld.2.2.2.2.2.2.2.2.2.1)))))))), ((cell_far (p := ⟨gb487, _, none⟩) d2_ _).trans (((cell_far (p := ⟨gb487, _, none⟩) d2_ _).trans (((cell_far (p := ⟨gb487, _, none⟩) d2_ _).trans (((cell_far (p := ⟨gb487, _, none⟩) d2_ _).trans (hHeld.2.2.2.2.2.2.2.2.2.2.1)))))))), ((cell_far (p := ⟨gb487, _, none⟩) d2_ _).trans (((cell_far (p := ⟨gb487, _, none⟩) d2_ _).trans (((cell_far (p := ⟨gb487, _, none⟩) d2_ _).trans (((cell_far (p := ⟨gb487, _, none⟩) d2_ _).trans (hHeld.2.2.2.2.2.2.2.2.2.2.2))))))))⟩ (fun hHeld => ?_)
     clear hK K
     refine done_ (done_of HT_.out (by kernel_rfl)) ?_
     try go_wp2
     refine bodyPost_ret (results_cell_row rfl _ _ gb487 29 #[.int .i64 t520, .int .i64 t521, .string t522, .slice Ao56 t523.length co56] (0, 0) _ rfl ?hb_ Try.underlying29 rfl (by kernel_rfl)) rfl ?_
     (case hb_ => exact bk_ (bp4_ (bk_ BK487.out)))
     exact ⟨_, by first | rfl | (simp [errW_none, errW_some] <;> rfl) | (simp [*, errW_none, errW_some] <;> rfl), kz_ (Kd.S_mono (zf4_ (Kd.S_mono HO525.out (fun k_ hk => (⟨hk, hk.2.2⟩ : _ ∧ k_ ≠ gb487))) (fun _ hk => hk.2)) (fun _ hk => hk.1.1)), bw_ HB.out⟩
    ·rw [if_neg c40] at H
     exact absurd H (by simp)
   ·rw [if_neg c38] at H
    exact absurd H (by simp)
  ·replace c37 := Bool.eq_false_iff.mpr c37
   subst c37
   rw [if_neg (show ¬ (false = true) by decide)] at H
   simp only [Option.some.injEq, Prod.mk.injEq] at H
   obtain ⟨rfl, rfl, rfl, rfl⟩ := H
   go_enter Try.func60, Try.ntmps60
   go_wp2_with (first | ((with_reducible refine gate_dst (N := 1) rfl ?_); refine bx_ 1 #[.int .i64 a0_0, .int .i64 a0_1, .string a0_2, .slice A0_3 l0_3.length c0_3] 29 ?_; intro gb486 hg w58 hbox hb; have n0_ := A_ (Kd.S_below (Kd.S_elderB (kz_ HO0_3.out) gb486 (Nat.le_of_eq hg.symm)) hb); have n1_ := A_ (below_step (bw_ HB.out) hb); have n2_ := A_ (hbox); have n3_ := A_ ((d3_ : w.heap.size ≤ gb486)); have n4_ := n3_; clear HO0_3; clear HB; have HO0_3 := n0_; have HB := n1_; have BK486 := n2_; have GW486 := n3_; have GE486 := n4_; have GI486 := GeI.mk GE486.out; clear n0_ n1_ n2_ n3_ n4_; clear hb hbox hg) | ((with_reducible refine gate_dst (N := 2) rfl ?_); refine bx_ 2 #[.int .i64 0, .int .i64 0, .string (⟨#[]⟩ : ByteArray), .slice none 0 0] 29 ?_; intro gb487 hg w59 hbox hb; have n0_ := A_ (Kd.S_below (Kd.S_elderB (kz_ HO0_3.out) gb487 (Nat.le_of_eq hg.symm)) hb); have n1_ := A_ (blk_below (bk_ BK486.out) hb); have n2_ := A_ (below_step (bw_ HB.out) hb); have n3_ := A_ (hbox); have n4_ := A_ ((d3_ : w.heap.size ≤ gb487)); have n5_ := n4_; have n6_ := A_ ((d39_ : gb486 ≠ gb487)); have n7_ := A_ n6_.out.symm; clear HO0_3; clear BK486; clear HB; have HO0_3 := n0_; have BK486 := n1_; have HB := n2_; have BK487 := n3_; have GW487 := n4_; have GE487 := n5_; have GI487 := GeI.mk GE487.out; have NB486_487 := n6_; have NB487_486 := n7_; clear n0_ n1_ n2_ n3_ n4_ n5_ n6_ n7_; clear hb hbox hg; have hnb60 := NB486_487.out; have hnc60 := NB487_486.out; obtain ⟨y61_0, y61_1, y61_2, y61_3, z61_0, z61_1, z61_2, z61_3⟩ := cz4_ BK486.out) | ((with_reducible refine gate_callee (f := 71) rfl ?_); refine gL_ (some 26) Try.func71 #[.int .i64 a0_0] ?_; (with_reducible refine (impl_isTwo.calls a0_0 false _ A36.out).mono ?_); rintro e w' ⟨rfl, ⟨nd, rfl⟩⟩; refine ⟨_, rfl, ?_⟩; (try (rw [drewN_self w59]; generalize hq_ : World.drewN w59 _ = w59; have n0_ : Aside0 (Kd.S q29 29 w59 b0 (fun k_ => (((P0_3_ k_ ∨ w.heap.size ≤ k_) ∧ k_ ≠ gb486) ∧ k_ ≠ gb487)) (.slice A0_3 l0_3.length c0_3) l0_3) := ⟨by rw [← hq_]; exact (kz_ HO0_3.out)⟩; have n1_ := A_ (bq_ hq_ BK486.out); have n2_ := A_ (bq_ hq_ BK487.out); have n3_ := A_ (wq_ hq_ HB.out); clear HO0_3 BK486 BK487 HB hq_; have HO0_3 := n0_; have BK486 := n1_; have BK487 := n2_; have HB := n3_; clear n0_ n1_ n2_ n3_; have hcq486_0 : w59.cell? ⟨gb486, 0, none⟩ = some (.int .i64 a0_0) := (blk_cell BK486.out 0).trans rfl; have hcq486_1 : w59.cell? ⟨gb486, 1, none⟩ = some (.int .i64 a0_1) := (blk_cell BK486.out 1).trans rfl; have hcq486_2 : w59.cell? ⟨gb486, 2, none⟩ = some (.string a0_2) := (blk_cell BK486.out 2).trans rfl; have hcq486_3 : w59.cell? ⟨gb486, 3, none⟩ = some (.slice A0_3 l0_3.length c0_3) := (blk_cell BK486.out 3).trans rfl; have hcq487_0 : w59.cell? ⟨gb487, 0, none⟩ = some (.int .i64 0) := (blk_cell BK487.out 0).trans rfl; have hcq487_1 : w59.cell? ⟨gb487, 1, none⟩ = some (.int .i64 0) := (blk_cell BK487.out 1).trans rfl; have hcq487_2 : w59.cell? ⟨gb487, 2, none⟩ = some (.string (⟨#[]⟩ : ByteArray)) := (blk_cell BK487.out 2).trans rfl; have hcq487_3 : w59.cell? ⟨gb487, 3, none⟩ = some (.slice none 0 0) := (blk_cell BK487.out 3).trans rfl)); obtain ⟨y62_0, y62_1, y62_2, y62_3, z62_0, z62_1, z62_2, z62_3⟩ := cz4_ BK487.out))
   refine bodyPost_ret (results_cell_row rfl _ _ gb487 29 #[.int .i64 a0_0, .int .i64 a0_1, .string a0_2, .slice A0_3 l0_3.length c0_3] (0, 0) _ rfl ?hb_ Try.underlying29 rfl (by kernel_rfl)) rfl ?_
   (case hb_ => exact bk_ (bp4_ (bk_ BK487.out)))
   exact ⟨_, by first | rfl | (simp [errW_none, errW_some] <;> rfl) | (simp [*, errW_none, errW_some] <;> rfl), kz_ (Kd.S_mono (zf4_ (Kd.S_mono HO0_3.out (fun k_ hk => (⟨hk, hk.2⟩ : _ ∧ k_ ≠ gb487))) (fun _ hk => hk.2)) (fun _ hk => hk.1.1.1)), bw_ HB.out⟩

/-! ### impl_Fold: function 43 -/
def impl_Fold.f (k : Nat) (a0_0 : Int) (a0_1 : Int) (a0_2 : ByteArray) (l0_3 : List (S29)) : Option (Int × Int × ByteArray × (List (S29))) := (impl_copyExpr.f k a0_0 a0_1 a0_2 l0_3).bind fun bt528 => ((impl_ExprOk.f k a0_0 a0_1 a0_2 l0_3).bind fun t535 => (if t535 = true then ((impl_fold.f k bt528.1 bt528.2.1 bt528.2.2.1 bt528.2.2.2).bind fun bt536 => (some (bt536.1, bt536.2.1, bt536.2.2.1, bt536.2.2.2))) else (some (bt528.1, bt528.2.1, bt528.2.2.1, bt528.2.2.2))))
theorem impl_Fold.mono : ∀ a0 a1 a2 a3 k, LeO (impl_Fold.f k a0 a1 a2 a3) (impl_Fold.f (k + 1) a0 a1 a2 a3) := by
 intro a0 a1 a2 a3 k
 unfold impl_Fold.f
 repeat' first
   | (with_reducible exact impl_ExprOk.mono _ _ _ _ _)
   | (with_reducible exact impl_copyExpr.mono _ _ _ _ _)
   | (with_reducible exact impl_fold.mono _ _ _ _ _)
   | (with_reducible exact LeO.refl _)
   | (with_reducible exact LeO.none _)
   | (with_reducible refine LeO.ite ?_ ?_)
   | (with_reducible refine LeO.bind ?_ (fun _ => ?_))
   | exact impl_ExprOk.mono _ _ _ _ _
   | exact impl_copyExpr.mono _ _ _ _ _
   | exact impl_fold.mono _ _ _ _ _
   | exact LeO.none _
   | refine LeO.ite ?_ ?_
   | refine LeO.bind ?_ (fun _ => ?_)
set_option maxHeartbeats 8000000 in
set_option maxRecDepth 100000 in
theorem impl_Fold.calls (k : Nat) (a0_0 : Int) (a0_1 : Int) (a0_2 : ByteArray) (A0_3 : Option Addr) (c0_3 : Nat) (l0_3 : List (S29)) (r1 : Int) (r2 : Int) (r3 : ByteArray) (r4 : List (S29)) (w : World) (hr0_3 : Kd.C k29 w A0_3 l0_3.length l0_3) (hc0_3 : l0_3.length ≤ c0_3) (h : impl_Fold.f k a0_0 a0_1 a0_2 l0_3 = some (r1, r2, r3, r4)) :
  Calls Try.prog 43 #[.agg #[.int .i64 a0_0, .int .i64 a0_1, .string a0_2, .slice A0_3 l0_3.length c0_3]] w fun e w' => ∃ v3_ : Value, e = .returned (.agg #[.int .i64 r1, .int .i64 r2, .string r3, v3_]) ∧ Kd.S q29 29 w' w.heap.size (fun k_ => (w.heap.size ≤ k_)) v3_ r4 ∧ Below w.heap.size w w' := by
 have hu29 := Try.underlying29
 have HR0_3 := A_ hr0_3
 have HC0_3 := A_ hc0_3
 clear hr0_3 hc0_3
 have HB := A_ (Below.refl w.heap.size w)
 have H : ((impl_copyExpr.f k a0_0 a0_1 a0_2 l0_3).bind fun bt528 => ((impl_ExprOk.f k a0_0 a0_1 a0_2 l0_3).bind fun t535 => (if t535 = true then ((impl_fold.f k bt528.1 bt528.2.1 bt528.2.2.1 bt528.2.2.2).bind fun bt536 => (some (bt536.1, bt536.2.1, bt536.2.2.1, bt536.2.2.2))) else (some (bt528.1, bt528.2.1, bt528.2.2.1, bt528.2.2.2))))) = some (r1, r2, r3, r4) := h
 clear h
 replace H := Option.bind_eq_some_iff.mp H
 obtain ⟨⟨t528, t529, t530, t531⟩, A20, H⟩ := H
 try dsimp only at H
 have A2 := A_ A20
 clear A20
 replace H := Option.bind_eq_some_iff.mp H
 obtain ⟨t535, A30, H⟩ := H
 try dsimp only at H
 have A3 := A_ A30
 clear A30
 by_cases c4 : t535 = true
 subst c4
 rw [if_pos rfl] at H
 replace H := Option.bind_eq_some_iff.mp H
 obtain ⟨⟨t536, t537, t538, t539⟩, A50, H⟩ := H
 try dsimp only at H
 have A5 := A_ A50
 clear A50
 simp only [Option.some.injEq, Prod.mk.injEq] at H
 obtain ⟨rfl, rfl, rfl, rfl⟩ := H
 rotate_left
 replace c4 := Bool.eq_false_iff.mpr c4
 subst c4
 rw [if_neg (show ¬ (false = true) by decide)] at H
 simp only [Option.some.injEq, Prod.mk.injEq] at H
 obtain ⟨rfl, rfl, rfl, rfl⟩ := H
 rotate_left
 all_goals go_enter Try.func43, Try.ntmps43
 all_goals go_wp2_with (first | ((with_reducible refine gate_dst (N := 1) rfl ?_); refine bx_ 1 #[.int .i64 a0_0, .int .i64 a0_1, .string a0_2, .slice A0_3 l0_3.length c0_3] 29 ?_; intro gb526 hg w6 hbox hb; have n0_ := A_ (below_step (bw_ HB.out) hb); have n1_ := A_ (hbox); have n2_ := A_ ((d3_ : w.heap.size ≤ gb526)); have n3_ := n2_; clear HB; have HB := n0_; have BK526 := n1_; have GW526 := n2_; have GE526 := n3_; have GI526 := GeI.mk GE526.out; clear n0_ n1_ n2_ n3_; clear hb hbox hg) | ((with_reducible refine gate_dst (N := 2) rfl ?_); refine bx_ 2 #[.int .i64 0, .int .i64 0, .string (⟨#[]⟩ : ByteArray), .slice none 0 0] 29 ?_; intro gb527 hg w7 hbox hb; have n0_ := A_ (blk_below (bk_ BK526.out) hb); have n1_ := A_ (below_step (bw_ HB.out) hb); have n2_ := A_ (hbox); have n3_ := A_ ((d3_ : w.heap.size ≤ gb527)); have n4_ := n3_; have n5_ := A_ ((by rw [hg]; exact Nat.ne_of_lt (blk_lt (bk_ BK526.out)) : gb526 ≠ gb527)); have n6_ := A_ n5_.out.symm; clear BK526; clear HB; have BK526 := n0_; have HB := n1_; have BK527 := n2_; have GW527 := n3_; have GE527 := n4_; have GI527 := GeI.mk GE527.out; have NB526_527 := n5_; have NB527_526 := n6_; clear n0_ n1_ n2_ n3_ n4_ n5_ n6_; clear hb hbox hg; have hnb8 := NB526_527.out; have hnc8 := NB527_526.out; obtain ⟨y9_0, y9_1, y9_2, y9_3, z9_0, z9_1, z9_2, z9_3⟩ := cz4_ BK526.out) | ((with_reducible refine gate_callee (f := 59) rfl ?_); refine gL_ (some 5) Try.func59 #[.agg #[.int .i64 a0_0, .int .i64 a0_1, .string a0_2, .slice A0_3 l0_3.length c0_3]] ?_; (with_reducible refine (impl_copyExpr.calls k a0_0 a0_1 a0_2 _ _ l0_3 t528 t529 t530 t531 _ ?side1 ?side2 A2.out).mono ?_); (case side1 => exact Kd.C_below HR0_3.out (bw_ HB.out)); (case side2 => exact HC0_3.out); rintro e w10 ⟨v532, rfl, ho0, hb⟩; refine ⟨_, rfl, ?_⟩; have HO533 := A_ (Kd.S_lower (Kd.S_newB (Kd.S_newB (Kd.S_newM (M := fun k_ => (w.heap.size ≤ k_)) ho0 (below_size (bw_ HB.out)) (fun k_ h_ => h_)) (bk_ BK526.out)) (bk_ BK527.out)) (below_size (bw_ HB.out))); replace BK526 := A_ (blk_below (bk_ BK526.out) hb); replace BK527 := A_ (blk_below (bk_ BK527.out) hb); replace HB := A_ (below_step (bw_ HB.out) hb); clear hb; (try clear ho0)) | ((with_reducible refine gate_dst (N := 3) rfl ?_); refine bx_ 3 #[.int .i64 0, .int .i64 0, .string (⟨#[]⟩ : ByteArray), .slice none 0 0] 29 ?_; intro gb534 hg w11 hbox hb; have n0_ := A_ (Kd.S_below (Kd.S_elderB (kz_ HO533.out) gb534 (Nat.le_of_eq hg.symm)) hb); have n1_ := A_ (blk_below (bk_ BK526.out) hb); have n2_ := A_ (blk_below (bk_ BK527.out) hb); have n3_ := A_ (below_step (bw_ HB.out) hb); have n4_ := A_ (hbox); have n5_ := A_ ((d3_ : w.heap.size ≤ gb534)); have n6_ := n5_; have n7_ := A_ ((by rw [hg]; exact Nat.ne_of_lt (blk_lt (bk_ BK526.out)) : gb526 ≠ gb534)); have n8_ := A_ n7_.out.symm; have n9_ := A_ ((by rw [hg]; exact Nat.ne_of_lt (blk_lt (bk_ BK527.out)) : gb527 ≠ gb534)); have n10_ := A_ n9_.out.symm; clear HO533; clear BK526; clear BK527; clear HB; have HO533 := n0_; have BK526 := n1_; have BK527 := n2_; have HB := n3_; have BK534 := n4_; have GW534 := n5_; have GE534 := n6_; have GI534 := GeI.mk GE534.out; have NB526_534 := n7_; have NB534_526 := n8_; have NB527_534 := n9_; have NB534_527 := n10_; clear n0_ n1_ n2_ n3_ n4_ n5_ n6_ n7_ n8_ n9_ n10_; clear hb hbox hg; have hnb12 := NB534_526.out; have hnc12 := NB526_534.out; have hnb13 := NB534_527.out; have hnc13 := NB527_534.out; obtain ⟨y14_0, y14_1, y14_2, y14_3, z14_0, z14_1, z14_2, z14_3⟩ := cz4_ BK534.out; obtain ⟨Ao15, co15, eo15⟩ := Kd.S_slice HO533.out; subst eo15; obtain ⟨y16_0, y16_1, y16_2, y16_3, z16_0, z16_1, z16_2, z16_3⟩ := cz4_ BK526.out) | ((with_reducible refine gate_callee (f := 18) rfl ?_); refine gL_ (some 7) Try.func18 #[.agg #[.int .i64 a0_0, .int .i64 a0_1, .string a0_2, .slice A0_3 l0_3.length c0_3]] ?_; (with_reducible refine (impl_ExprOk.calls k a0_0 a0_1 a0_2 _ _ l0_3 false _ ?side1 ?side2 A3.out).mono ?_); (case side1 => exact Kd.C_below HR0_3.out (bw_ HB.out)); (case side2 => exact HC0_3.out); rintro e w33 ⟨rfl, hb⟩; refine ⟨_, rfl, ?_⟩; replace HO533 := A_ (Kd.S_below (kz_ (Kd.S_mono (zf4_ (Kd.S_mono HO533.out (fun k_ hk => (⟨hk, hk.2⟩ : _ ∧ k_ ≠ gb534))) (fun _ hk => hk.2)) (fun _ h_ => h_.1))) hb); replace BK526 := A_ (blk_below (g := gb526) (o := .cells #[.int .i64 a0_0, .int .i64 a0_1, .string a0_2, .slice A0_3 l0_3.length c0_3] 29 (0, 0)) (by refine bk_ ?_; refine blk_far ?_ NB526_534.out _; refine bk_ ?_; refine blk_far ?_ NB526_534.out _; refine bk_ ?_; refine blk_far ?_ NB526_534.out _; refine bk_ ?_; refine blk_far ?_ NB526_534.out _; refine bk_ ?_; exact BK526.out) hb); replace BK527 := A_ (blk_below (g := gb527) (o := .cells #[.int .i64 0, .int .i64 0, .string (⟨#[]⟩ : ByteArray), .slice none 0 0] 29 (0, 0)) (by refine bk_ ?_; refine blk_far ?_ NB527_534.out _; refine bk_ ?_; refine blk_far ?_ NB527_534.out _; refine bk_ ?_; refine blk_far ?_ NB527_534.out _; refine bk_ ?_; refine blk_far ?_ NB527_534.out _; refine bk_ ?_; exact BK527.out) hb); replace BK534 := A_ (blk_below (g := gb534) (o := .cells #[.int .i64 t528, .int .i64 t529, .string t530, .slice Ao15 t531.length co15] 29 (0, 0)) (by exact bk_ (bp4_ (bk_ BK534.out))) hb); replace HB := A_ (below_step (bw_ HB.out) hb); clear hb; obtain ⟨y34_0, y34_1, y34_2, y34_3, z34_0, z34_1, z34_2, z34_3⟩ := cz4_ BK534.out; obtain ⟨y35_0, y35_1, y35_2, y35_3, z35_0, z35_1, z35_2, z35_3⟩ := cz4_ BK527.out) | ((with_reducible refine gate_callee (f := 18) rfl ?_); refine gL_ (some 7) Try.func18 #[.agg #[.int .i64 a0_0, .int .i64 a0_1, .string a0_2, .slice A0_3 l0_3.length c0_3]] ?_; (with_reducible refine (impl_ExprOk.calls k a0_0 a0_1 a0_2 _ _ l0_3 true _ ?side1 ?side2 A3.out).mono ?_); (case side1 => exact Kd.C_below HR0_3.out (bw_ HB.out)); (case side2 => exact HC0_3.out); rintro e w17 ⟨rfl, hb⟩; refine ⟨_, rfl, ?_⟩; replace HO533 := A_ (Kd.S_below (kz_ (Kd.S_mono (zf4_ (Kd.S_mono HO533.out (fun k_ hk => (⟨hk, hk.2⟩ : _ ∧ k_ ≠ gb534))) (fun _ hk => hk.2)) (fun _ h_ => h_.1))) hb); replace BK526 := A_ (blk_below (g := gb526) (o := .cells #[.int .i64 a0_0, .int .i64 a0_1, .string a0_2, .slice A0_3 l0_3.length c0_3] 29 (0, 0)) (by refine bk_ ?_; refine blk_far ?_ NB526_534.out _; refine bk_ ?_; refine blk_far ?_ NB526_534.out _; refine bk_ ?_; refine blk_far ?_ NB526_534.out _; refine bk_ ?_; refine blk_far ?_ NB526_534.out _; refine bk_ ?_; exact BK526.out) hb); replace BK527 := A_ (blk_below (g := gb527) (o := .cells #[.int .i64 0, .int .i64 0, .string (⟨#[]⟩ : ByteArray), .slice none 0 0] 29 (0, 0)) (by refine bk_ ?_; refine blk_far ?_ NB527_534.out _; refine bk_ ?_; refine blk_far ?_ NB527_534.out _; refine bk_ ?_; refine blk_far ?_ NB527_534.out _; refine bk_ ?_; refine blk_far ?_ NB527_534.out _; refine bk_ ?_; exact BK527.out) hb); replace BK534 := A_ (blk_below (g := gb534) (o := .cells #[.int .i64 t528, .int .i64 t529, .string t530, .slice Ao15 t531.length co15] 29 (0, 0)) (by exact bk_ (bp4_ (bk_ BK534.out))) hb); replace HB := A_ (below_step (bw_ HB.out) hb); clear hb; obtain ⟨y18_0, y18_1, y18_2, y18_3, z18_0, z18_1, z18_2, z18_3⟩ := cz4_ BK534.out) | ((with_reducible refine gate_callee (f := 60) rfl ?_); refine gL_ (some 11) Try.func60 #[.agg #[.int .i64 t528, .int .i64 t529, .string t530, .slice Ao15 t531.length co15]] ?_; (with_reducible refine (impl_fold.calls k w.heap.size t528 t529 t530 (fun k_ => (((((w.heap.size ≤ k_) ∧ True) ∧ k_ ≠ gb526) ∧ k_ ≠ gb527) ∧ k_ ≠ gb534)) _ _ t531 t536 t537 t538 t539 _ ?sideb ?side1 A5.out).mono ?_); (case sideb => exact below_size (bw_ HB.out)); (case side1 => exact Kd.Z_V (HO533.out)); rintro e w19 ⟨v540, rfl, ho0, hb⟩; refine ⟨_, rfl, ?_⟩; replace HO533 := A_ (Kd.S_below (kz_ HO533.out) hb); have HO541 := A_ ((Kd.S_mono (ok' := fun k_ => (w.heap.size ≤ k_) ∧ k_ ≠ gb526 ∧ k_ ≠ gb527 ∧ k_ ≠ gb534) ho0 (fun k_ hk_ => ⟨Or.elim hk_ (fun hs_ => hs_.1.1.1.1) (fun hn_ => (Nat.le_trans (below_size (bw_ HB.out)) hn_)), Or.elim hk_ (fun hs_ => hs_.1.1.2) (fun hn_ => (Kd.freshB (bk_ BK526.out) k_ hn_)), Or.elim hk_ (fun hs_ => hs_.1.2) (fun hn_ => (Kd.freshB (bk_ BK527.out) k_ hn_)), Or.elim hk_ (fun hs_ => hs_.2) (fun hn_ => (Kd.freshB (bk_ BK534.out) k_ hn_))⟩))); replace BK526 := A_ (blk_below (bk_ BK526.out) hb); replace BK527 := A_ (blk_below (bk_ BK527.out) hb); replace BK534 := A_ (blk_below (bk_ BK534.out) hb); replace HB := A_ (below_step (bw_ HB.out) hb); clear hb; (try clear ho0); obtain ⟨y20_0, y20_1, y20_2, y20_3, z20_0, z20_1, z20_2, z20_3⟩ := cz4_ BK527.out; obtain ⟨Ao21, co21, eo21⟩ := Kd.S_slice HO541.out; subst eo21))
 ·refine bodyPost_ret (results_cell_row rfl _ _ gb527 29 #[.int .i64 t536, .int .i64 t537, .string t538, .slice Ao21 t539.length co21] (0, 0) _ rfl ?hb_ Try.underlying29 rfl (by kernel_rfl)) rfl ?_
  (case hb_ => exact bk_ (bp4_ (bk_ BK527.out)))
  exact ⟨_, by first | rfl | (simp [errW_none, errW_some] <;> rfl) | (simp [*, errW_none, errW_some] <;> rfl), kz_ (Kd.S_mono (zf4_ (Kd.S_mono HO541.out (fun k_ hk => (⟨hk, hk.2.2.1⟩ : _ ∧ k_ ≠ gb527))) (fun _ hk => hk.2)) (fun _ hk => hk.1.1)), bw_ HB.out⟩
 ·refine bodyPost_ret (results_cell_row rfl _ _ gb527 29 #[.int .i64 t528, .int .i64 t529, .string t530, .slice Ao15 t531.length co15] (0, 0) _ rfl ?hb_ Try.underlying29 rfl (by kernel_rfl)) rfl ?_
  (case hb_ => exact bk_ (bp4_ (bk_ BK527.out)))
  exact ⟨_, by first | rfl | (simp [errW_none, errW_some] <;> rfl) | (simp [*, errW_none, errW_some] <;> rfl), Kd.Z_V (kz_ (Kd.S_mono (zf4_ (Kd.S_mono HO533.out (fun k_ hk => (⟨hk, hk.1.2⟩ : _ ∧ k_ ≠ gb527))) (fun _ hk => hk.2)) (fun _ hk => hk.1.1.1.1.1))), bw_ HB.out⟩

-- NOT PRINTED: function 10 (laws_FnExactFold)

end Go.Proofs.Ytcpnhlhigpgonaa.PFnExactFold
