-- Laid by a program of this session (a changed copy of the kit's printer); Lean checks every line.
import Derived.Test.YtcpnhlhigpgonaaPFnExactKnownx0
import Derived.Test.YtcpnhlhigpgonaaPFnExactKnownx7
import Derived.Test.YtcpnhlhigpgonaaPFnExactKnownx9
import Derived.Test.YtcpnhlhigpgonaaPFnExactKnownx11
namespace Go.Proofs.Ytcpnhlhigpgonaa.PFnExactKnown
open Go.RowKit Go.Proofs.YtcpnhlhigpgonaaW.PrintWords Go.Proofs.YtcpnhlhigpgonaaW.PrintLast Go.Proofs.YtcpnhlhigpgonaaW.PrintMore
attribute [local go_sem] max2_int min2_int max_two min_two max_three min_three max_four min_four   -- for this text's walks alone
set_option linter.unusedVariables false
set_option linter.unusedSimpArgs false

/-! ### impl_fold: function 60 -/
def impl_fold.f : Nat → Int → Int → ByteArray → List (S29) → Option (Int × Int × ByteArray × (List (S29)))
 | 0, _, _, _, _ => none
 | k + 1, a0_0, a0_1, a0_2, l0_3 => if a0_0 = 4 then (if 0 < (l0_3.length : Int) then ((impl_fold.f k ((rd_T29 l0_3 0).f0) ((rd_T29 l0_3 0).f1) ((rd_T29 l0_3 0).f2) ((rd_T29 l0_3 0).f3)).bind fun bt486 => (if bt486.1 = 1 then ((impl_number.f (wrap64 (-bt486.2.1))).bind fun bt493 => (some (bt493.1, bt493.2.1, bt493.2.2.1, bt493.2.2.2))) else (some (4, 0, (⟨#[]⟩ : ByteArray), (([(⟨bt486.1, bt486.2.1, bt486.2.2.1, bt486.2.2.2⟩ : S29)] : List (S29))))))) else (none)) else ((impl_isTwo.f a0_0).bind fun t502 => (if t502 = true then (if 0 < (l0_3.length : Int) then ((impl_fold.f k ((rd_T29 l0_3 0).f0) ((rd_T29 l0_3 0).f1) ((rd_T29 l0_3 0).f2) ((rd_T29 l0_3 0).f3)).bind fun bt504 => (if 1 < (l0_3.length : Int) then ((impl_fold.f k ((rd_T29 l0_3 1).f0) ((rd_T29 l0_3 1).f1) ((rd_T29 l0_3 1).f2) ((rd_T29 l0_3 1).f3)).bind fun bt511 => ((impl_foldTwo.f k a0_0 bt504.1 bt504.2.1 bt504.2.2.1 bt504.2.2.2 bt511.1 bt511.2.1 bt511.2.2.1 bt511.2.2.2).bind fun bt517 => (some (bt517.1, bt517.2.1, bt517.2.2.1, bt517.2.2.2)))) else (none))) else (none)) else (some (a0_0, a0_1, a0_2, l0_3))))
theorem impl_fold.mono_l : ∀ k, (∀ y0 y1 y2 y3, LeO (impl_fold.f k y0 y1 y2 y3) (impl_fold.f (k + 1) y0 y1 y2 y3))
 | 0 => fun _ _ _ _ r h => by simp [impl_fold.f] at h
 | k + 1 => by
  have ih0 := impl_fold.mono_l k
  ·intro y0 y1 y2 y3
   unfold impl_fold.f
   repeat' first
   | (with_reducible exact ih0 _ _ _ _)
   | (with_reducible exact impl_foldTwo.mono _ _ _ _ _ _ _ _ _ _)
   | (with_reducible exact LeO.refl _)
   | (with_reducible exact LeO.none _)
   | (with_reducible refine LeO.ite ?_ ?_)
   | (with_reducible refine LeO.bind ?_ (fun _ => ?_))
   | exact ih0 _ _ _ _
   | exact impl_foldTwo.mono _ _ _ _ _ _ _ _ _ _
   | exact LeO.none _
   | refine LeO.ite ?_ ?_
   | refine LeO.bind ?_ (fun _ => ?_)
theorem impl_fold.mono : ∀ a0 a1 a2 a3 k, LeO (impl_fold.f k a0 a1 a2 a3) (impl_fold.f (k + 1) a0 a1 a2 a3) := by
 intro a0 a1 a2 a3 k
 have ih0 := impl_fold.mono_l k
 exact ih0 a0 a1 a2 a3
def impl_fold.T7 : Bool × List (List Nat × List Nat) := (true, [([], []), ([0], [0]), ([], []), ([2], [2]), ([3], [3]), ([4], [4]), ([5], [5]), ([], []), ([7], [7]), ([8], [8]), ([9], [9]), ([10, 6], [10]), ([1, 6, 11, 11], [1, 6, 11]), ([12, 12, 0, 1, 2, 3, 4, 5, 6, 7, 8, 9, 10, 11, 12], [12])])
def impl_fold.B7 : List Nat := [0, 1, 0, 4, 12, 28, 60, 0, 128, 384, 896, 2044, 4095, 8191]
theorem impl_fold.tab7 : rtab .any (opsOf Try.f60 7) = impl_fold.T7 := by kernel_rfl
theorem impl_fold.bits7 : waitsOk impl_fold.T7.2 impl_fold.B7 = true := by kernel_rfl
set_option maxHeartbeats 8000000 in
set_option maxRecDepth 100000 in
theorem impl_fold.calls (k : Nat) : ∀ (a0_0 : Int) (a0_1 : Int) (a0_2 : ByteArray) (P0_3_ : Nat → Prop) (A0_3 : Option Addr) (c0_3 : Nat) (l0_3 : List (S29)) (r1 : Int) (r2 : Int) (r3 : ByteArray) (r4 : List (S29)) (w : World) (hs0_3 : Kd.V k29 29 w w.heap.size (fun k_ => P0_3_ k_) (.slice A0_3 l0_3.length c0_3) l0_3) (h : impl_fold.f k a0_0 a0_1 a0_2 l0_3 = some (r1, r2, r3, r4)),
  Calls Try.prog 60 #[.agg #[.int .i64 a0_0, .int .i64 a0_1, .string a0_2, .slice A0_3 l0_3.length c0_3]] w fun e w' => ∃ v3_ : Value, e = .returned (.agg #[.int .i64 r1, .int .i64 r2, .string r3, v3_]) ∧ Kd.V k29 29 w' w.heap.size (fun k_ => (P0_3_ k_ ∨ w.heap.size ≤ k_)) v3_ r4 ∧ Below w.heap.size w w' := by
 induction k using Nat.strongRecOn with
 | _ k ih =>
 intro a0_0 a0_1 a0_2 P0_3_ A0_3 c0_3 l0_3 r1 r2 r3 r4 w hs0_3 h
 cases k with
 | zero => exact absurd h (by simp [impl_fold.f])
 | succ k =>
 simp only [impl_fold.f] at h
 have hu29 := Try.underlying29
 have HO0_3 := A_ (show Kd.V k29 29 w w.heap.size (fun k_ => (P0_3_ k_ ∨ w.heap.size ≤ k_)) (.slice A0_3 l0_3.length c0_3) l0_3 from Kd.V_mono hs0_3 (fun k_ hk => .inl hk))
 have HB := A_ (Below.refl w.heap.size w)
 have H : (if a0_0 = 4 then (if 0 < (l0_3.length : Int) then ((impl_fold.f k ((rd_T29 l0_3 0).f0) ((rd_T29 l0_3 0).f1) ((rd_T29 l0_3 0).f2) ((rd_T29 l0_3 0).f3)).bind fun bt486 => (if bt486.1 = 1 then ((impl_number.f (wrap64 (-bt486.2.1))).bind fun bt493 => (some (bt493.1, bt493.2.1, bt493.2.2.1, bt493.2.2.2))) else (some (4, 0, (⟨#[]⟩ : ByteArray), (([(⟨bt486.1, bt486.2.1, bt486.2.2.1, bt486.2.2.2⟩ : S29)] : List (S29))))))) else (none)) else ((impl_isTwo.f a0_0).bind fun t502 => (if t502 = true then (if 0 < (l0_3.length : Int) then ((impl_fold.f k ((rd_T29 l0_3 0).f0) ((rd_T29 l0_3 0).f1) ((rd_T29 l0_3 0).f2) ((rd_T29 l0_3 0).f3)).bind fun bt504 => (if 1 < (l0_3.length : Int) then ((impl_fold.f k ((rd_T29 l0_3 1).f0) ((rd_T29 l0_3 1).f1) ((rd_T29 l0_3 1).f2) ((rd_T29 l0_3 1).f3)).bind fun bt511 => ((impl_foldTwo.f k a0_0 bt504.1 bt504.2.1 bt504.2.2.1 bt504.2.2.2 bt511.1 bt511.2.1 bt511.2.2.1 bt511.2.2.2).bind fun bt517 => (some (bt517.1, bt517.2.1, bt517.2.2.1, bt517.2.2.2)))) else (none))) else (none)) else (some (a0_0, a0_1, a0_2, l0_3))))) = some (r1, r2, r3, r4) := h
 clear h
 by_cases c2 : a0_0 = 4
 ·rw [if_pos c2] at H
  have c2b0 := beq_iff_eq.mpr c2
  have c2b1 := bne_eq_false_iff_eq.mpr c2
  clear c2
  by_cases c3 : 0 < (l0_3.length : Int)
  ·rw [if_pos c3] at H
   have c3b0 := decide_eq_true c3
   have c3b1 : decide (0 < l0_3.length) = true := decide_eq_true (by omega)
   clear c3
   replace H := Option.bind_eq_some_iff.mp H
   obtain ⟨⟨t486, t487, t488, t489⟩, A40, H⟩ := H
   try dsimp only at H
   have A4 := A_ A40
   clear A40
   by_cases c5 : t486 = 1
   ·rw [if_pos c5] at H
    have c5b0 := beq_iff_eq.mpr c5
    have c5b1 := bne_eq_false_iff_eq.mpr c5
    clear c5
    replace H := Option.bind_eq_some_iff.mp H
    obtain ⟨⟨t493, t494, t495, t496⟩, A60, H⟩ := H
    try dsimp only at H
    have A6 := A_ A60
    clear A60
    simp only [Option.some.injEq, Prod.mk.injEq] at H
    obtain ⟨rfl, rfl, rfl, rfl⟩ := H
    go_enter Try.func60, Try.ntmps60
    go_wp2_with (first | ((with_reducible refine gate_dst (N := 1) rfl ?_); refine box_event ?hg (N := 1) ?hd (cs := #[.int .i64 a0_0, .int .i64 a0_1, .string a0_2, .slice A0_3 l0_3.length c0_3]) (t := 29) ?hr ?_; (case hd => rfl); (case hg => rfl); (case hr => first | (go_simp; done) | (go_simp; rfl)); intro gb483 hg w7 hbox hb; have n0_ := A_ (Kd.V_below (Kd.V_elderB (kv_ HO0_3.out) gb483 (Nat.le_of_eq hg.symm)) hb); have n1_ := A_ (below_step (bw_ HB.out) hb); have n2_ := A_ (hbox); have n3_ := A_ ((by rw [hg]; exact (below_size (bw_ HB.out)) : w.heap.size ≤ gb483)); have n4_ := n3_; clear HO0_3; clear HB; have HO0_3 := n0_; have HB := n1_; have BK483 := n2_; have GW483 := n3_; have GE483 := n4_; have GI483 := GeI.mk GE483.out; clear n0_ n1_ n2_ n3_ n4_; clear hb hbox hg) | ((with_reducible refine gate_dst (N := 2) rfl ?_); refine box_event ?hg (N := 2) ?hd (cs := #[.int .i64 0, .int .i64 0, .string (⟨#[]⟩ : ByteArray), .slice none 0 0]) (t := 29) ?hr ?_; (case hd => rfl); (case hg => rfl); (case hr => first | (go_simp; done) | (go_simp; rfl)); intro gb484 hg w8 hbox hb; have n0_ := A_ (Kd.V_below (Kd.V_elderB (kv_ HO0_3.out) gb484 (Nat.le_of_eq hg.symm)) hb); have n1_ := A_ (blk_below (bk_ BK483.out) hb); have n2_ := A_ (below_step (bw_ HB.out) hb); have n3_ := A_ (hbox); have n4_ := A_ ((by rw [hg]; exact (below_size (bw_ HB.out)) : w.heap.size ≤ gb484)); have n5_ := n4_; have n6_ := A_ ((by rw [hg]; exact Nat.ne_of_lt (blk_lt (bk_ BK483.out)) : gb483 ≠ gb484)); have n7_ := A_ n6_.out.symm; clear HO0_3; clear BK483; clear HB; have HO0_3 := n0_; have BK483 := n1_; have HB := n2_; have BK484 := n3_; have GW484 := n4_; have GE484 := n5_; have GI484 := GeI.mk GE484.out; have NB483_484 := n6_; have NB484_483 := n7_; clear n0_ n1_ n2_ n3_ n4_ n5_ n6_ n7_; clear hb hbox hg; have hnb9 := NB483_484.out; have hnc9 := NB484_483.out; have y10_0 : w8.cell? ⟨gb483, 0, none⟩ = some (.int .i64 a0_0) := (blk_cell BK483.out 0).trans rfl; have y10_1 : w8.cell? ⟨gb483, 1, none⟩ = some (.int .i64 a0_1) := (blk_cell BK483.out 1).trans rfl; have y10_2 : w8.cell? ⟨gb483, 2, none⟩ = some (.string a0_2) := (blk_cell BK483.out 2).trans rfl; have y10_3 : w8.cell? ⟨gb483, 3, none⟩ = some (.slice A0_3 l0_3.length c0_3) := (blk_cell BK483.out 3).trans rfl; have z10_0 := blk_frozen BK483.out 0; have z10_1 := blk_frozen BK483.out 1; have z10_2 := blk_frozen BK483.out 2; have z10_3 := blk_frozen BK483.out 3; have p485 : 0 ≤ (0 : Int) := (by omega); have q485 : 0 < (l0_3.length : Int) := of_decide_eq_true (by first | (with_reducible assumption) | assumption); obtain ⟨ad485, A485_3, c485_3, e485, hx485_0, hx485_1, hx485_2, hx485_3, hl485_3, hi485_3⟩ := at_T29 (Kd.V_reads' HO0_3.out).2.2 0 p485 q485; cases e485; obtain ⟨ce485, hce485, hMe485, hcc485⟩ := Kd.V_get HO0_3.out z29 0 p485 (by first | exact q485 | exact of_decide_eq_true (by first | (with_reducible assumption) | assumption) | (have e_ := (Kd.V_reads' HO0_3.out).1; omega)); obtain ⟨ua485_3, uc485_3, rfl, ul485_3, ge485_3⟩ := k29_openF hMe485; have hv485_3 := hcc485 3 _ rfl; rw [add_field _ _ 3 (by omega)] at hv485_3; replace hv485_3 := Option.some.inj (hv485_3.symm.trans hx485_3); injection hv485_3 with hva_ hvn_ hvc_; rw [hva_] at ge485_3; rw [hvc_] at ul485_3; have HL485_3 := A_ (show Kd.V k29 29 _ w.heap.size _ _ ((rd_T29 l0_3 0).f3) from Kd.V_mk ul485_3 ge485_3); clear hva_ hvn_ hvc_ ge485_3 ul485_3; clear hcc485 hce485; have qi485 : (0 < l0_3.length) = True := eq_true (by omega); (try rw [show ((0 : Int)).toNat = 0 from rfl] at hx485_0); (try rw [show 0 * 4 = 0 from rfl] at hx485_0); (try rw [Addr.add_zero'] at hx485_0); (try rw [show ((0 : Int)).toNat = 0 from rfl] at hx485_1); (try rw [show 0 * 4 = 0 from rfl] at hx485_1); (try rw [Addr.add_zero'] at hx485_1); (try rw [show ((0 : Int)).toNat = 0 from rfl] at hx485_2); (try rw [show 0 * 4 = 0 from rfl] at hx485_2); (try rw [Addr.add_zero'] at hx485_2); (try rw [show ((0 : Int)).toNat = 0 from rfl] at hx485_3); (try rw [show 0 * 4 = 0 from rfl] at hx485_3); (try rw [Addr.add_zero'] at hx485_3); have HR485_3 := A_ hi485_3; have HC485_3 := A_ hl485_3; clear hi485_3 hl485_3; replace p485 := eq_true p485; replace q485 := eq_true q485) | ((with_reducible refine gate_callee (f := 60) rfl ?_); refine gL_ (some 12) Try.func60 #[.agg #[.int .i64 ((rd_T29 l0_3 0).f0), .int .i64 ((rd_T29 l0_3 0).f1), .string ((rd_T29 l0_3 0).f2), .slice A485_3 ((rd_T29 l0_3 0).f3).length c485_3]] ?_; (with_reducible refine (ih k (by omega) ((rd_T29 l0_3 0).f0) ((rd_T29 l0_3 0).f1) ((rd_T29 l0_3 0).f2) (fun k_ => (((P0_3_ k_ ∨ w.heap.size ≤ k_) ∧ k_ ≠ gb483) ∧ k_ ≠ gb484)) _ _ ((rd_T29 l0_3 0).f3) t486 t487 t488 t489 _ ?side1 A4.out).mono ?_); (case side1 => exact HL485_3.out); rintro e w11 ⟨v490, rfl, ho0, hb⟩; refine ⟨_, rfl, ?_⟩; have n0_ := A_ (Kd.V_below (kv_ HO0_3.out) hb); have n1_ := A_ (Kd.V_below (by (with_reducible repeat (first | apply Kd.V_alloc | apply Kd.V_drewN | apply Kd.V_drew)); exact HL485_3.out) hb); have n2_ := A_ (Kd.V_lower (Kd.V_mono (ok' := fun k_ => (P0_3_ k_ ∨ w.heap.size ≤ k_) ∧ k_ ≠ gb483 ∧ k_ ≠ gb484) ho0 (fun k_ hk_ => ⟨Or.elim hk_ (fun hs_ => hs_.1.1) (fun hn_ => (.inr (Nat.le_trans (below_size (bw_ HB.out)) hn_))), Or.elim hk_ (fun hs_ => hs_.1.2) (fun hn_ => (Kd.freshB (bk_ BK483.out) k_ hn_)), Or.elim hk_ (fun hs_ => hs_.2) (fun hn_ => (Kd.freshB (bk_ BK484.out) k_ hn_))⟩)) (below_size (bw_ HB.out))); have n3_ := A_ (blk_below (bk_ BK483.out) hb); have n4_ := A_ (blk_below (bk_ BK484.out) hb); have n5_ := A_ (Kd.C_below (Kd.V_reads' HL485_3.out).2.2 hb); have n6_ := A_ (below_step (bw_ HB.out) hb); clear HO0_3; clear HL485_3; clear BK483; clear BK484; clear HR485_3; clear HB; have HO0_3 := n0_; have HL485_3 := n1_; have HO491 := n2_; have BK483 := n3_; have BK484 := n4_; have HR485_3 := n5_; have HB := n6_; clear n0_ n1_ n2_ n3_ n4_ n5_ n6_; (try clear hb); (try clear hb2); (try clear hk); (try clear hi); (try clear ho0)) | ((with_reducible refine gate_dst (N := 3) rfl ?_); refine box_event ?hg (N := 3) ?hd (cs := #[.int .i64 0, .int .i64 0, .string (⟨#[]⟩ : ByteArray), .slice none 0 0]) (t := 29) ?hr ?_; (case hd => rfl); (case hg => rfl); (case hr => first | (go_simp; done) | (go_simp; rfl)); intro gb492 hg w12 hbox hb; have n0_ := A_ (Kd.V_below (Kd.V_elderB (kv_ HO0_3.out) gb492 (Nat.le_of_eq hg.symm)) hb); have n1_ := A_ (Kd.V_below (Kd.V_elderB (by (with_reducible repeat (first | apply Kd.V_alloc | apply Kd.V_drewN | apply Kd.V_drew)); exact HL485_3.out) gb492 (Nat.le_of_eq hg.symm)) hb); have n2_ := A_ (Kd.V_below (Kd.V_elderB (kv_ HO491.out) gb492 (Nat.le_of_eq hg.symm)) hb); have n3_ := A_ (blk_below (bk_ BK483.out) hb); have n4_ := A_ (blk_below (bk_ BK484.out) hb); have n5_ := A_ (Kd.C_below (Kd.V_reads' HL485_3.out).2.2 hb); have n6_ := A_ (below_step (bw_ HB.out) hb); have n7_ := A_ (hbox); have n8_ := A_ ((by rw [hg]; exact (below_size (bw_ HB.out)) : w.heap.size ≤ gb492)); have n9_ := n8_; have n10_ := A_ ((by rw [hg]; exact Nat.ne_of_lt (blk_lt (bk_ BK483.out)) : gb483 ≠ gb492)); have n11_ := A_ n10_.out.symm; have n12_ := A_ ((by rw [hg]; exact Nat.ne_of_lt (blk_lt (bk_ BK484.out)) : gb484 ≠ gb492)); have n13_ := A_ n12_.out.symm; clear HO0_3; clear HL485_3; clear HO491; clear BK483; clear BK484; clear HR485_3; clear HB; have HO0_3 := n0_; have HL485_3 := n1_; have HO491 := n2_; have BK483 := n3_; have BK484 := n4_; have HR485_3 := n5_; have HB := n6_; have BK492 := n7_; have GW492 := n8_; have GE492 := n9_; have GI492 := GeI.mk GE492.out; have NB483_492 := n10_; have NB492_483 := n11_; have NB484_492 := n12_; have NB492_484 := n13_; clear n0_ n1_ n2_ n3_ n4_ n5_ n6_ n7_ n8_ n9_ n10_ n11_ n12_ n13_; clear hb hbox hg; have hnb13 := NB492_483.out; have hnc13 := NB483_492.out; have hnb14 := NB492_484.out; have hnc14 := NB484_492.out; have y15_0 : w12.cell? ⟨gb492, 0, none⟩ = some (.int .i64 0) := (blk_cell BK492.out 0).trans rfl; have y15_1 : w12.cell? ⟨gb492, 1, none⟩ = some (.int .i64 0) := (blk_cell BK492.out 1).trans rfl; have y15_2 : w12.cell? ⟨gb492, 2, none⟩ = some (.string (⟨#[]⟩ : ByteArray)) := (blk_cell BK492.out 2).trans rfl; have y15_3 : w12.cell? ⟨gb492, 3, none⟩ = some (.slice none 0 0) := (blk_cell BK492.out 3).trans rfl; have z15_0 := blk_frozen BK492.out 0; have z15_1 := blk_frozen BK492.out 1; have z15_2 := blk_frozen BK492.out 2; have z15_3 := blk_frozen BK492.out 3; obtain ⟨Ao16, co16, eo16⟩ := Kd.V_slice HO491.out; subst eo16) | ((with_reducible refine gate_callee (f := 82) rfl ?_); refine gL_ (some 19) Try.func82 #[.int .i64 (wrap64 (-t487))] ?_; (with_reducible refine (impl_number.calls (wrap64 (-t487)) t493 t494 t495 t496 _ A6.out).mono ?_); rintro e w17 ⟨v497, rfl, ho0, hb⟩; refine ⟨_, rfl, ?_⟩; have n0_ := A_ (Kd.V_elder' (by (with_reducible repeat (first | apply Kd.V_alloc | apply Kd.V_drewN | apply Kd.V_drew)); exact (Kd.V_mono (Kd.V_far (p := ⟨gb492, 3, none⟩) (Kd.V_far (p := ⟨gb492, 2, none⟩) (Kd.V_far (p := ⟨gb492, 1, none⟩) (Kd.V_far (p := ⟨gb492, 0, none⟩) (Kd.V_mono HO0_3.out (fun k_ hk => (⟨hk, hk.2⟩ : _ ∧ k_ ≠ gb492))) (fun _ hk => hk.2) (.int .i64 t486)) (fun _ hk => hk.2) (.int .i64 t487)) (fun _ hk => hk.2) (.string t488)) (fun _ hk => hk.2) (.slice Ao16 t489.length co16)) (fun _ h_ => h_.1))) (by first | exact Kd.N_base ho0 | exact Kd.R_base ho0) hb); have n1_ := A_ (Kd.V_elder' (by (with_reducible repeat (first | apply Kd.V_alloc | apply Kd.V_drewN | apply Kd.V_drew)); exact (Kd.V_mono (Kd.V_far (p := ⟨gb492, 3, none⟩) (Kd.V_far (p := ⟨gb492, 2, none⟩) (Kd.V_far (p := ⟨gb492, 1, none⟩) (Kd.V_far (p := ⟨gb492, 0, none⟩) (Kd.V_mono HL485_3.out (fun k_ hk => (⟨hk, hk.2⟩ : _ ∧ k_ ≠ gb492))) (fun _ hk => hk.2) (.int .i64 t486)) (fun _ hk => hk.2) (.int .i64 t487)) (fun _ hk => hk.2) (.string t488)) (fun _ hk => hk.2) (.slice Ao16 t489.length co16)) (fun _ h_ => h_.1))) (by first | exact Kd.N_base ho0 | exact Kd.R_base ho0) hb); have n2_ := A_ (Kd.V_elder' (by (with_reducible repeat (first | apply Kd.V_alloc | apply Kd.V_drewN | apply Kd.V_drew)); exact (Kd.V_mono (Kd.V_far (p := ⟨gb492, 3, none⟩) (Kd.V_far (p := ⟨gb492, 2, none⟩) (Kd.V_far (p := ⟨gb492, 1, none⟩) (Kd.V_far (p := ⟨gb492, 0, none⟩) (Kd.V_mono HO491.out (fun k_ hk => (⟨hk, hk.2⟩ : _ ∧ k_ ≠ gb492))) (fun _ hk => hk.2) (.int .i64 t486)) (fun _ hk => hk.2) (.int .i64 t487)) (fun _ hk => hk.2) (.string t488)) (fun _ hk => hk.2) (.slice Ao16 t489.length co16)) (fun _ h_ => h_.1))) (by first | exact Kd.N_base ho0 | exact Kd.R_base ho0) hb); have n3_ := A_ (Kd.N_lower (Kd.N_mono (ok' := fun k_ => (P0_3_ k_ ∨ w.heap.size ≤ k_) ∧ k_ ≠ gb483 ∧ k_ ≠ gb484 ∧ k_ ≠ gb492) (Kd.R_N (Kd.R_bound ho0)) (fun k_ hk_ => ⟨(.inr (Nat.le_trans (below_size (bw_ HB.out)) hk_.2.1)), (Kd.freshB (g := gb483) (o := .cells #[.int .i64 a0_0, .int .i64 a0_1, .string a0_2, .slice (some ad485) l0_3.length c0_3] 29 (0, 0)) (by refine bk_ ?_; refine blk_far ?_ NB483_492.out _; refine bk_ ?_; refine blk_far ?_ NB483_492.out _; refine bk_ ?_; refine blk_far ?_ NB483_492.out _; refine bk_ ?_; refine blk_far ?_ NB483_492.out _; refine bk_ ?_; exact BK483.out) k_ hk_.2.1), (Kd.freshB (g := gb484) (o := .cells #[.int .i64 0, .int .i64 0, .string (⟨#[]⟩ : ByteArray), .slice none 0 0] 29 (0, 0)) (by refine bk_ ?_; refine blk_far ?_ NB484_492.out _; refine bk_ ?_; refine blk_far ?_ NB484_492.out _; refine bk_ ?_; refine blk_far ?_ NB484_492.out _; refine bk_ ?_; refine blk_far ?_ NB484_492.out _; refine bk_ ?_; exact BK484.out) k_ hk_.2.1), (Kd.freshB (g := gb492) (o := .cells #[.int .i64 t486, .int .i64 t487, .string t488, .slice Ao16 t489.length co16] 29 (0, 0)) (by refine bk_ ?_; refine blk_put (cs := #[.int .i64 t486, .int .i64 t487, .string t488, .slice none 0 0]) ?_ 3 _ rfl; refine bk_ ?_; refine blk_put (cs := #[.int .i64 t486, .int .i64 t487, .string (⟨#[]⟩ : ByteArray), .slice none 0 0]) ?_ 2 _ rfl; refine bk_ ?_; refine blk_put (cs := #[.int .i64 t486, .int .i64 0, .string (⟨#[]⟩ : ByteArray), .slice none 0 0]) ?_ 1 _ rfl; refine bk_ ?_; refine blk_put (cs := #[.int .i64 0, .int .i64 0, .string (⟨#[]⟩ : ByteArray), .slice none 0 0]) ?_ 0 _ rfl; refine bk_ ?_; exact BK492.out) k_ hk_.2.1)⟩)) (below_size (bw_ HB.out))); have n4_ := A_ (blk_below (g := gb483) (o := .cells #[.int .i64 a0_0, .int .i64 a0_1, .string a0_2, .slice (some ad485) l0_3.length c0_3] 29 (0, 0)) (by refine bk_ ?_; refine blk_far ?_ NB483_492.out _; refine bk_ ?_; refine blk_far ?_ NB483_492.out _; refine bk_ ?_; refine blk_far ?_ NB483_492.out _; refine bk_ ?_; refine blk_far ?_ NB483_492.out _; refine bk_ ?_; exact BK483.out) hb); have n5_ := A_ (blk_below (g := gb484) (o := .cells #[.int .i64 0, .int .i64 0, .string (⟨#[]⟩ : ByteArray), .slice none 0 0] 29 (0, 0)) (by refine bk_ ?_; refine blk_far ?_ NB484_492.out _; refine bk_ ?_; refine blk_far ?_ NB484_492.out _; refine bk_ ?_; refine blk_far ?_ NB484_492.out _; refine bk_ ?_; refine blk_far ?_ NB484_492.out _; refine bk_ ?_; exact BK484.out) hb); have n6_ := A_ (Kd.C_below ((Kd.V_reads' (by (with_reducible repeat (first | apply Kd.V_alloc | apply Kd.V_drewN | apply Kd.V_drew)); exact (Kd.V_mono (Kd.V_far (p := ⟨gb492, 3, none⟩) (Kd.V_far (p := ⟨gb492, 2, none⟩) (Kd.V_far (p := ⟨gb492, 1, none⟩) (Kd.V_far (p := ⟨gb492, 0, none⟩) (Kd.V_mono HL485_3.out (fun k_ hk => (⟨hk, hk.2⟩ : _ ∧ k_ ≠ gb492))) (fun _ hk => hk.2) (.int .i64 t486)) (fun _ hk => hk.2) (.int .i64 t487)) (fun _ hk => hk.2) (.string t488)) (fun _ hk => hk.2) (.slice Ao16 t489.length co16)) (fun _ h_ => h_.1)))).2.2) hb); have n7_ := A_ (blk_below (g := gb492) (o := .cells #[.int .i64 t486, .int .i64 t487, .string t488, .slice Ao16 t489.length co16] 29 (0, 0)) (by refine bk_ ?_; refine blk_put (cs := #[.int .i64 t486, .int .i64 t487, .string t488, .slice none 0 0]) ?_ 3 _ rfl; refine bk_ ?_; refine blk_put (cs := #[.int .i64 t486, .int .i64 t487, .string (⟨#[]⟩ : ByteArray), .slice none 0 0]) ?_ 2 _ rfl; refine bk_ ?_; refine blk_put (cs := #[.int .i64 t486, .int .i64 0, .string (⟨#[]⟩ : ByteArray), .slice none 0 0]) ?_ 1 _ rfl; refine bk_ ?_; refine blk_put (cs := #[.int .i64 0, .int .i64 0, .string (⟨#[]⟩ : ByteArray), .slice none 0 0]) ?_ 0 _ rfl; refine bk_ ?_; exact BK492.out) hb); have n8_ := A_ (below_step (bw_ HB.out) hb); clear HO0_3; clear HL485_3; clear HO491; clear BK483; clear BK484; clear HR485_3; clear BK492; clear HB; have HO0_3 := n0_; have HL485_3 := n1_; have HO491 := n2_; have HO498 := n3_; have BK483 := n4_; have BK484 := n5_; have HR485_3 := n6_; have BK492 := n7_; have HB := n8_; clear n0_ n1_ n2_ n3_ n4_ n5_ n6_ n7_ n8_; (try clear hb); (try clear hb2); (try clear hk); (try clear hi); (try clear ho0); have y18_0 : w17.cell? ⟨gb484, 0, none⟩ = some (.int .i64 0) := (blk_cell BK484.out 0).trans rfl; have y18_1 : w17.cell? ⟨gb484, 1, none⟩ = some (.int .i64 0) := (blk_cell BK484.out 1).trans rfl; have y18_2 : w17.cell? ⟨gb484, 2, none⟩ = some (.string (⟨#[]⟩ : ByteArray)) := (blk_cell BK484.out 2).trans rfl; have y18_3 : w17.cell? ⟨gb484, 3, none⟩ = some (.slice none 0 0) := (blk_cell BK484.out 3).trans rfl; have z18_0 := blk_frozen BK484.out 0; have z18_1 := blk_frozen BK484.out 1; have z18_2 := blk_frozen BK484.out 2; have z18_3 := blk_frozen BK484.out 3; obtain ⟨Ao19, co19, eo19⟩ := Kd.N_slice HO498.out; subst eo19))
    refine bodyPost_ret (results_cell_row rfl _ _ gb484 29 #[.int .i64 t493, .int .i64 t494, .string t495, .slice Ao19 t496.length co19] (0, 0) _ rfl ?hb_ Try.underlying29 rfl (by kernel_rfl)) rfl ?_
    (case hb_ => refine bk_ ?_; refine blk_put (cs := #[.int .i64 t493, .int .i64 t494, .string t495, .slice none 0 0]) ?_ 3 _ rfl; refine bk_ ?_; refine blk_put (cs := #[.int .i64 t493, .int .i64 t494, .string (⟨#[]⟩ : ByteArray), .slice none 0 0]) ?_ 2 _ rfl; refine bk_ ?_; refine blk_put (cs := #[.int .i64 t493, .int .i64 0, .string (⟨#[]⟩ : ByteArray), .slice none 0 0]) ?_ 1 _ rfl; refine bk_ ?_; refine blk_put (cs := #[.int .i64 0, .int .i64 0, .string (⟨#[]⟩ : ByteArray), .slice none 0 0]) ?_ 0 _ rfl; refine bk_ ?_; exact BK484.out)
    exact ⟨_, by first | rfl | (simp [errW_none, errW_some] <;> rfl) | (simp [*, errW_none, errW_some] <;> rfl), Kd.N_V (by (with_reducible repeat (first | apply Kd.N_alloc | apply Kd.N_drewN | apply Kd.N_drew)); exact Kd.N_mono (Kd.N_far (p := ⟨gb484, 3, none⟩) (Kd.N_far (p := ⟨gb484, 2, none⟩) (Kd.N_far (p := ⟨gb484, 1, none⟩) (Kd.N_far (p := ⟨gb484, 0, none⟩) (Kd.N_mono HO498.out (fun k_ hk => (⟨hk, hk.2.2.1⟩ : _ ∧ k_ ≠ gb484))) (fun _ hk => hk.2) (.int .i64 t493)) (fun _ hk => hk.2) (.int .i64 t494)) (fun _ hk => hk.2) (.string t495)) (fun _ hk => hk.2) (.slice Ao19 t496.length co19)) (fun _ hk => hk.1.1)), bw_ HB.out⟩
   ·rw [if_neg c5] at H
    have c5b0 := beq_eq_false_iff_ne.mpr c5
    have c5b1 := bne_iff_ne.mpr c5
    obtain ⟨y499, hy499⟩ : ∃ y_ : List (S29), y_ = (([(⟨t486, t487, t488, t489⟩ : S29)] : List (S29))) := ⟨_, rfl⟩
    replace H : (some (4, 0, (⟨#[]⟩ : ByteArray), y499)) = some (r1, r2, r3, r4) := by first | (rw [hy499]; with_reducible exact H) | (have H2_ := (Option.bind_some _ _).symm.trans H; rw [hy499]; with_reducible exact H2_) | (have H2_ := (Option.bind_some _ _).symm.trans H; with_reducible exact H2_) | with_reducible exact H | (rw [hy499]; exact H) | exact H
    have Ny499 := A_ hy499
    clear hy499
    simp only [Option.some.injEq, Prod.mk.injEq] at H
    obtain ⟨rfl, rfl, rfl, rfl⟩ := H
    go_enter Try.func60, Try.ntmps60
    go_wp2_with (first | ((with_reducible refine gate_dst (N := 1) rfl ?_); refine box_event ?hg (N := 1) ?hd (cs := #[.int .i64 a0_0, .int .i64 a0_1, .string a0_2, .slice A0_3 l0_3.length c0_3]) (t := 29) ?hr ?_; (case hd => rfl); (case hg => rfl); (case hr => first | (go_simp; done) | (go_simp; rfl)); intro gb483 hg w20 hbox hb; have n0_ := A_ (Kd.V_below (Kd.V_elderB (kv_ HO0_3.out) gb483 (Nat.le_of_eq hg.symm)) hb); have n1_ := A_ (below_step (bw_ HB.out) hb); have n2_ := A_ (hbox); have n3_ := A_ ((by rw [hg]; exact (below_size (bw_ HB.out)) : w.heap.size ≤ gb483)); have n4_ := n3_; clear HO0_3; clear HB; have HO0_3 := n0_; have HB := n1_; have BK483 := n2_; have GW483 := n3_; have GE483 := n4_; have GI483 := GeI.mk GE483.out; clear n0_ n1_ n2_ n3_ n4_; clear hb hbox hg) | ((with_reducible refine gate_dst (N := 2) rfl ?_); refine box_event ?hg (N := 2) ?hd (cs := #[.int .i64 0, .int .i64 0, .string (⟨#[]⟩ : ByteArray), .slice none 0 0]) (t := 29) ?hr ?_; (case hd => rfl); (case hg => rfl); (case hr => first | (go_simp; done) | (go_simp; rfl)); intro gb484 hg w21 hbox hb; have n0_ := A_ (Kd.V_below (Kd.V_elderB (kv_ HO0_3.out) gb484 (Nat.le_of_eq hg.symm)) hb); have n1_ := A_ (blk_below (bk_ BK483.out) hb); have n2_ := A_ (below_step (bw_ HB.out) hb); have n3_ := A_ (hbox); have n4_ := A_ ((by rw [hg]; exact (below_size (bw_ HB.out)) : w.heap.size ≤ gb484)); have n5_ := n4_; have n6_ := A_ ((by rw [hg]; exact Nat.ne_of_lt (blk_lt (bk_ BK483.out)) : gb483 ≠ gb484)); have n7_ := A_ n6_.out.symm; clear HO0_3; clear BK483; clear HB; have HO0_3 := n0_; have BK483 := n1_; have HB := n2_; have BK484 := n3_; have GW484 := n4_; have GE484 := n5_; have GI484 := GeI.mk GE484.out; have NB483_484 := n6_; have NB484_483 := n7_; clear n0_ n1_ n2_ n3_ n4_ n5_ n6_ n7_; clear hb hbox hg; have hnb22 := NB483_484.out; have hnc22 := NB484_483.out; have y23_0 : w21.cell? ⟨gb483, 0, none⟩ = some (.int .i64 a0_0) := (blk_cell BK483.out 0).trans rfl; have y23_1 : w21.cell? ⟨gb483, 1, none⟩ = some (.int .i64 a0_1) := (blk_cell BK483.out 1).trans rfl; have y23_2 : w21.cell? ⟨gb483, 2, none⟩ = some (.string a0_2) := (blk_cell BK483.out 2).trans rfl; have y23_3 : w21.cell? ⟨gb483, 3, none⟩ = some (.slice A0_3 l0_3.length c0_3) := (blk_cell BK483.out 3).trans rfl; have z23_0 := blk_frozen BK483.out 0; have z23_1 := blk_frozen BK483.out 1; have z23_2 := blk_frozen BK483.out 2; have z23_3 := blk_frozen BK483.out 3; have p485 : 0 ≤ (0 : Int) := (by omega); have q485 : 0 < (l0_3.length : Int) := of_decide_eq_true (by first | (with_reducible assumption) | assumption); obtain ⟨ad485, A485_3, c485_3, e485, hx485_0, hx485_1, hx485_2, hx485_3, hl485_3, hi485_3⟩ := at_T29 (Kd.V_reads' HO0_3.out).2.2 0 p485 q485; cases e485; obtain ⟨ce485, hce485, hMe485, hcc485⟩ := Kd.V_get HO0_3.out z29 0 p485 (by first | exact q485 | exact of_decide_eq_true (by first | (with_reducible assumption) | assumption) | (have e_ := (Kd.V_reads' HO0_3.out).1; omega)); obtain ⟨ua485_3, uc485_3, rfl, ul485_3, ge485_3⟩ := k29_openF hMe485; have hv485_3 := hcc485 3 _ rfl; rw [add_field _ _ 3 (by omega)] at hv485_3; replace hv485_3 := Option.some.inj (hv485_3.symm.trans hx485_3); injection hv485_3 with hva_ hvn_ hvc_; rw [hva_] at ge485_3; rw [hvc_] at ul485_3; have HL485_3 := A_ (show Kd.V k29 29 _ w.heap.size _ _ ((rd_T29 l0_3 0).f3) from Kd.V_mk ul485_3 ge485_3); clear hva_ hvn_ hvc_ ge485_3 ul485_3; clear hcc485 hce485; have qi485 : (0 < l0_3.length) = True := eq_true (by omega); (try rw [show ((0 : Int)).toNat = 0 from rfl] at hx485_0); (try rw [show 0 * 4 = 0 from rfl] at hx485_0); (try rw [Addr.add_zero'] at hx485_0); (try rw [show ((0 : Int)).toNat = 0 from rfl] at hx485_1); (try rw [show 0 * 4 = 0 from rfl] at hx485_1); (try rw [Addr.add_zero'] at hx485_1); (try rw [show ((0 : Int)).toNat = 0 from rfl] at hx485_2); (try rw [show 0 * 4 = 0 from rfl] at hx485_2); (try rw [Addr.add_zero'] at hx485_2); (try rw [show ((0 : Int)).toNat = 0 from rfl] at hx485_3); (try rw [show 0 * 4 = 0 from rfl] at hx485_3); (try rw [Addr.add_zero'] at hx485_3); have HR485_3 := A_ hi485_3; have HC485_3 := A_ hl485_3; clear hi485_3 hl485_3; replace p485 := eq_true p485; replace q485 := eq_true q485) | ((with_reducible refine gate_callee (f := 60) rfl ?_); refine gL_ (some 12) Try.func60 #[.agg #[.int .i64 ((rd_T29 l0_3 0).f0), .int .i64 ((rd_T29 l0_3 0).f1), .string ((rd_T29 l0_3 0).f2), .slice A485_3 ((rd_T29 l0_3 0).f3).length c485_3]] ?_; (with_reducible refine (ih k (by omega) ((rd_T29 l0_3 0).f0) ((rd_T29 l0_3 0).f1) ((rd_T29 l0_3 0).f2) (fun k_ => (((P0_3_ k_ ∨ w.heap.size ≤ k_) ∧ k_ ≠ gb483) ∧ k_ ≠ gb484)) _ _ ((rd_T29 l0_3 0).f3) t486 t487 t488 t489 _ ?side1 A4.out).mono ?_); (case side1 => exact HL485_3.out); rintro e w24 ⟨v490, rfl, ho0, hb⟩; refine ⟨_, rfl, ?_⟩; have n0_ := A_ (Kd.V_below (kv_ HO0_3.out) hb); have n1_ := A_ (Kd.V_below (by (with_reducible repeat (first | apply Kd.V_alloc | apply Kd.V_drewN | apply Kd.V_drew)); exact HL485_3.out) hb); have n2_ := A_ (Kd.V_lower (Kd.V_mono (ok' := fun k_ => (P0_3_ k_ ∨ w.heap.size ≤ k_) ∧ k_ ≠ gb483 ∧ k_ ≠ gb484) ho0 (fun k_ hk_ => ⟨Or.elim hk_ (fun hs_ => hs_.1.1) (fun hn_ => (.inr (Nat.le_trans (below_size (bw_ HB.out)) hn_))), Or.elim hk_ (fun hs_ => hs_.1.2) (fun hn_ => (Kd.freshB (bk_ BK483.out) k_ hn_)), Or.elim hk_ (fun hs_ => hs_.2) (fun hn_ => (Kd.freshB (bk_ BK484.out) k_ hn_))⟩)) (below_size (bw_ HB.out))); have n3_ := A_ (blk_below (bk_ BK483.out) hb); have n4_ := A_ (blk_below (bk_ BK484.out) hb); have n5_ := A_ (Kd.C_below (Kd.V_reads' HL485_3.out).2.2 hb); have n6_ := A_ (below_step (bw_ HB.out) hb); clear HO0_3; clear HL485_3; clear BK483; clear BK484; clear HR485_3; clear HB; have HO0_3 := n0_; have HL485_3 := n1_; have HO491 := n2_; have BK483 := n3_; have BK484 := n4_; have HR485_3 := n5_; have HB := n6_; clear n0_ n1_ n2_ n3_ n4_ n5_ n6_; (try clear hb); (try clear hb2); (try clear hk); (try clear hi); (try clear ho0)) | ((with_reducible refine gate_dst (N := 3) rfl ?_); refine box_event ?hg (N := 3) ?hd (cs := #[.int .i64 0, .int .i64 0, .string (⟨#[]⟩ : ByteArray), .slice none 0 0]) (t := 29) ?hr ?_; (case hd => rfl); (case hg => rfl); (case hr => first | (go_simp; done) | (go_simp; rfl)); intro gb492 hg w25 hbox hb; have n0_ := A_ (Kd.V_below (Kd.V_elderB (kv_ HO0_3.out) gb492 (Nat.le_of_eq hg.symm)) hb); have n1_ := A_ (Kd.V_below (Kd.V_elderB (by (with_reducible repeat (first | apply Kd.V_alloc | apply Kd.V_drewN | apply Kd.V_drew)); exact HL485_3.out) gb492 (Nat.le_of_eq hg.symm)) hb); have n2_ := A_ (Kd.V_below (Kd.V_elderB (kv_ HO491.out) gb492 (Nat.le_of_eq hg.symm)) hb); have n3_ := A_ (blk_below (bk_ BK483.out) hb); have n4_ := A_ (blk_below (bk_ BK484.out) hb); have n5_ := A_ (Kd.C_below (Kd.V_reads' HL485_3.out).2.2 hb); have n6_ := A_ (below_step (bw_ HB.out) hb); have n7_ := A_ (hbox); have n8_ := A_ ((by rw [hg]; exact (below_size (bw_ HB.out)) : w.heap.size ≤ gb492)); have n9_ := n8_; have n10_ := A_ ((by rw [hg]; exact Nat.ne_of_lt (blk_lt (bk_ BK483.out)) : gb483 ≠ gb492)); have n11_ := A_ n10_.out.symm; have n12_ := A_ ((by rw [hg]; exact Nat.ne_of_lt (blk_lt (bk_ BK484.out)) : gb484 ≠ gb492)); have n13_ := A_ n12_.out.symm; clear HO0_3; clear HL485_3; clear HO491; clear BK483; clear BK484; clear HR485_3; clear HB; have HO0_3 := n0_; have HL485_3 := n1_; have HO491 := n2_; have BK483 := n3_; have BK484 := n4_; have HR485_3 := n5_; have HB := n6_; have BK492 := n7_; have GW492 := n8_; have GE492 := n9_; have GI492 := GeI.mk GE492.out; have NB483_492 := n10_; have NB492_483 := n11_; have NB484_492 := n12_; have NB492_484 := n13_; clear n0_ n1_ n2_ n3_ n4_ n5_ n6_ n7_ n8_ n9_ n10_ n11_ n12_ n13_; clear hb hbox hg; have hnb26 := NB492_483.out; have hnc26 := NB483_492.out; have hnb27 := NB492_484.out; have hnc27 := NB484_492.out; have y28_0 : w25.cell? ⟨gb492, 0, none⟩ = some (.int .i64 0) := (blk_cell BK492.out 0).trans rfl; have y28_1 : w25.cell? ⟨gb492, 1, none⟩ = some (.int .i64 0) := (blk_cell BK492.out 1).trans rfl; have y28_2 : w25.cell? ⟨gb492, 2, none⟩ = some (.string (⟨#[]⟩ : ByteArray)) := (blk_cell BK492.out 2).trans rfl; have y28_3 : w25.cell? ⟨gb492, 3, none⟩ = some (.slice none 0 0) := (blk_cell BK492.out 3).trans rfl; have z28_0 := blk_frozen BK492.out 0; have z28_1 := blk_frozen BK492.out 1; have z28_2 := blk_frozen BK492.out 2; have z28_3 := blk_frozen BK492.out 3; obtain ⟨Ao29, co29, eo29⟩ := Kd.V_slice HO491.out; subst eo29) | ((with_reducible refine gate_store (t := 29) (p := 3) rfl ?_); refine store_event (t := 29) (p := 3) (v := ?vo_w30) (w1 := ((((w25.setCell ⟨gb492, 0, none⟩ (.int .i64 t486)).setCell ⟨gb492, 1, none⟩ (.int .i64 t487)).setCell ⟨gb492, 2, none⟩ (.string t488)).setCell ⟨gb492, 3, none⟩ (.slice Ao29 t489.length co29))) ?hg ?ho ?hn ?hr ?_; (case ho => rfl); (case hg => rfl); (case hn => rfl); (case hr => first | (go_simp; done) | (go_simp; rfl)); intro w30 hw; have n0_ : Aside0 (Kd.V k29 29 w30 w.heap.size (fun k_ => (P0_3_ k_ ∨ w.heap.size ≤ k_) ∧ k_ ≠ gb483 ∧ k_ ≠ gb484 ∧ k_ ≠ gb492) (.slice (some ad485) l0_3.length c0_3) l0_3) := ⟨(by rw [hw]; exact (by (with_reducible repeat (first | apply Kd.V_alloc | apply Kd.V_drewN | apply Kd.V_drew)); exact Kd.V_mono (Kd.V_far (p := ⟨gb492, 3, none⟩) (Kd.V_far (p := ⟨gb492, 2, none⟩) (Kd.V_far (p := ⟨gb492, 1, none⟩) (Kd.V_far (p := ⟨gb492, 0, none⟩) (Kd.V_mono HO0_3.out (fun k_ hk => (⟨hk, hk.2⟩ : _ ∧ k_ ≠ gb492))) (fun _ hk => hk.2) (.int .i64 t486)) (fun _ hk => hk.2) (.int .i64 t487)) (fun _ hk => hk.2) (.string t488)) (fun _ hk => hk.2) (.slice Ao29 t489.length co29)) (fun _ hk => ⟨hk.1.1.1.1, ⟨hk.1.1.1.2, ⟨hk.1.1.2, hk.1.2⟩⟩⟩)))⟩; have n1_ : Aside0 (Kd.V k29 29 w30 w.heap.size (fun k_ => (P0_3_ k_ ∨ w.heap.size ≤ k_) ∧ k_ ≠ gb483 ∧ k_ ≠ gb484 ∧ k_ ≠ gb492) (.slice A485_3 ((rd_T29 l0_3 0).f3).length c485_3) ((rd_T29 l0_3 0).f3)) := ⟨(by rw [hw]; exact (by (with_reducible repeat (first | apply Kd.V_alloc | apply Kd.V_drewN | apply Kd.V_drew)); exact Kd.V_mono (Kd.V_far (p := ⟨gb492, 3, none⟩) (Kd.V_far (p := ⟨gb492, 2, none⟩) (Kd.V_far (p := ⟨gb492, 1, none⟩) (Kd.V_far (p := ⟨gb492, 0, none⟩) (Kd.V_mono HL485_3.out (fun k_ hk => (⟨hk, hk.2⟩ : _ ∧ k_ ≠ gb492))) (fun _ hk => hk.2) (.int .i64 t486)) (fun _ hk => hk.2) (.int .i64 t487)) (fun _ hk => hk.2) (.string t488)) (fun _ hk => hk.2) (.slice Ao29 t489.length co29)) (fun _ hk => ⟨hk.1.1.1.1, ⟨hk.1.1.1.2, ⟨hk.1.1.2, hk.1.2⟩⟩⟩)))⟩; have n2_ : Aside0 (Kd.V k29 29 w30 w.heap.size (fun k_ => (P0_3_ k_ ∨ w.heap.size ≤ k_) ∧ k_ ≠ gb483 ∧ k_ ≠ gb484 ∧ k_ ≠ gb492) (.slice Ao29 t489.length co29) t489) := ⟨(by rw [hw]; exact (by (with_reducible repeat (first | apply Kd.V_alloc | apply Kd.V_drewN | apply Kd.V_drew)); exact Kd.V_mono (Kd.V_far (p := ⟨gb492, 3, none⟩) (Kd.V_far (p := ⟨gb492, 2, none⟩) (Kd.V_far (p := ⟨gb492, 1, none⟩) (Kd.V_far (p := ⟨gb492, 0, none⟩) (Kd.V_mono HO491.out (fun k_ hk => (⟨hk, hk.2⟩ : _ ∧ k_ ≠ gb492))) (fun _ hk => hk.2) (.int .i64 t486)) (fun _ hk => hk.2) (.int .i64 t487)) (fun _ hk => hk.2) (.string t488)) (fun _ hk => hk.2) (.slice Ao29 t489.length co29)) (fun _ hk => ⟨hk.1.1.1, ⟨hk.1.1.2.1, ⟨hk.1.1.2.2, hk.1.2⟩⟩⟩)))⟩; have n3_ : Aside0 (w30.heap[gb483]? = some (.cells #[.int .i64 a0_0, .int .i64 a0_1, .string a0_2, .slice (some ad485) l0_3.length c0_3] 29 (0, 0))) := ⟨(by rw [hw]; exact (by refine bk_ ?_; refine blk_far ?_ NB483_492.out _; refine bk_ ?_; refine blk_far ?_ NB483_492.out _; refine bk_ ?_; refine blk_far ?_ NB483_492.out _; refine bk_ ?_; refine blk_far ?_ NB483_492.out _; refine bk_ ?_; exact BK483.out))⟩; have n4_ : Aside0 (w30.heap[gb484]? = some (.cells #[.int .i64 0, .int .i64 0, .string (⟨#[]⟩ : ByteArray), .slice none 0 0] 29 (0, 0))) := ⟨(by rw [hw]; exact (by refine bk_ ?_; refine blk_far ?_ NB484_492.out _; refine bk_ ?_; refine blk_far ?_ NB484_492.out _; refine bk_ ?_; refine blk_far ?_ NB484_492.out _; refine bk_ ?_; refine blk_far ?_ NB484_492.out _; refine bk_ ?_; exact BK484.out))⟩; have n5_ : Aside0 (w30.heap[gb492]? = some (.cells #[.int .i64 t486, .int .i64 t487, .string t488, .slice Ao29 t489.length co29] 29 (0, 0))) := ⟨(by rw [hw]; exact (by refine bk_ ?_; refine blk_put (cs := #[.int .i64 t486, .int .i64 t487, .string t488, .slice none 0 0]) ?_ 3 _ rfl; refine bk_ ?_; refine blk_put (cs := #[.int .i64 t486, .int .i64 t487, .string (⟨#[]⟩ : ByteArray), .slice none 0 0]) ?_ 2 _ rfl; refine bk_ ?_; refine blk_put (cs := #[.int .i64 t486, .int .i64 0, .string (⟨#[]⟩ : ByteArray), .slice none 0 0]) ?_ 1 _ rfl; refine bk_ ?_; refine blk_put (cs := #[.int .i64 0, .int .i64 0, .string (⟨#[]⟩ : ByteArray), .slice none 0 0]) ?_ 0 _ rfl; refine bk_ ?_; exact BK492.out))⟩; have n6_ : Aside0 (Below w.heap.size w w30) := ⟨(by rw [hw]; exact (bw_ HB.out))⟩; clear hw; clear HO0_3; clear HL485_3; clear HO491; clear BK483; clear BK484; clear BK492; clear HB; have HO0_3 := n0_; have HL485_3 := n1_; have HO491 := n2_; have BK483 := n3_; have BK484 := n4_; have BK492 := n5_; have HB := n6_; clear n0_ n1_ n2_ n3_ n4_ n5_ n6_; have y31_0 : w30.cell? ⟨gb492, 0, none⟩ = some (.int .i64 t486) := (blk_cell BK492.out 0).trans rfl; have y31_1 : w30.cell? ⟨gb492, 1, none⟩ = some (.int .i64 t487) := (blk_cell BK492.out 1).trans rfl; have y31_2 : w30.cell? ⟨gb492, 2, none⟩ = some (.string t488) := (blk_cell BK492.out 2).trans rfl; have y31_3 : w30.cell? ⟨gb492, 3, none⟩ = some (.slice Ao29 t489.length co29) := (blk_cell BK492.out 3).trans rfl; have z31_0 := blk_frozen BK492.out 0; have z31_1 := blk_frozen BK492.out 1; have z31_2 := blk_frozen BK492.out 2; have z31_3 := blk_frozen BK492.out 3) | ((with_reducible refine gate_dst (N := 21) rfl ?_); refine Kd.N_lit k29 _ 29 ?hg (N' := 21) ?hd (xs := ([(⟨t486, t487, t488, t489⟩ : S29)] : List (S29))) (inner := [.int .i64 t486, .int .i64 t487, .string t488, .slice Ao29 t489.length co29]) (ok := (fun k_ => (P0_3_ k_ ∨ w.heap.size ≤ k_) ∧ k_ ≠ gb483 ∧ k_ ≠ gb484 ∧ k_ ≠ gb492)) (okp := (fun k_ => (P0_3_ k_ ∨ w.heap.size ≤ k_) ∧ k_ ≠ gb483 ∧ k_ ≠ gb484 ∧ k_ ≠ gb492)) ?hr ?hp (fun _ hk => hk) ((show ∀ k_, w30.heap.size ≤ k_ → (fun k_ => (P0_3_ k_ ∨ w.heap.size ≤ k_) ∧ k_ ≠ gb483 ∧ k_ ≠ gb484 ∧ k_ ≠ gb492) k_ from fun k_ hk => ⟨(.inr (Nat.le_trans (below_size (bw_ HB.out)) hk)), Kd.freshB (bk_ BK483.out) k_ hk, Kd.freshB (bk_ BK484.out) k_ hk, Kd.freshB (bk_ BK492.out) k_ hk⟩) _ (Nat.le_refl _)) (Below.refl _ _) (Nat.le_refl _) (by simp) ?_; (case hd => rfl); (case hg => rfl); (case hr => first | (go_simp; done) | (go_simp; rfl)); (case hp => exact (Reps.c4 (show Kd.FK k29 _ _ (⟨t486, t487, t488, t489⟩ : S29) [.int .i64 t486, .int .i64 t487, .string t488, .slice Ao29 t489.length co29] from (k29_mkF _ _ (⟨t486, t487, t488, t489⟩ : S29) (Kd.V_reads' (Kd.V_mono (ok' := (fun k_ => (P0_3_ k_ ∨ w.heap.size ≤ k_) ∧ k_ ≠ gb483 ∧ k_ ≠ gb484 ∧ k_ ≠ gb492)) (HO491.out) (fun k_ hk => ⟨hk.1, ⟨hk.2.1, ⟨hk.2.2.1, hk.2.2.2⟩⟩⟩))).2.1 (Kd.V_F (Kd.V_mono (ok' := (fun k_ => (P0_3_ k_ ∨ w.heap.size ≤ k_) ∧ k_ ≠ gb483 ∧ k_ ≠ gb484 ∧ k_ ≠ gb492)) (HO491.out) (fun k_ hk => ⟨hk.1, ⟨hk.2.1, ⟨hk.2.2.1, hk.2.2.2⟩⟩⟩))))) (Reps.none _ _))); intro v500 w32 ho33 hb hg_ hnew_; clear hg_ hnew_; (first | rw [← Ny499.out] at ho33 | (simp only [Int.reduceToNat] at ho33; rw [← Ny499.out] at ho33)); have n0_ := A_ (Kd.V_elder' (kv_ HO0_3.out) (Kd.N_base ho33) hb); have n1_ := A_ (Kd.V_elder' (by (with_reducible repeat (first | apply Kd.V_alloc | apply Kd.V_drewN | apply Kd.V_drew)); exact HL485_3.out) (Kd.N_base ho33) hb); have n2_ := A_ (Kd.V_elder' (kv_ HO491.out) (Kd.N_base ho33) hb); have n3_ := A_ (Kd.N_lower ho33 (below_size (bw_ HB.out))); have n4_ := A_ (blk_below (bk_ BK483.out) hb); have n5_ := A_ (blk_below (bk_ BK484.out) hb); have n6_ := A_ (Kd.C_below (Kd.V_reads' HL485_3.out).2.2 hb); have n7_ := A_ (blk_below (bk_ BK492.out) hb); have n8_ := A_ (below_step (bw_ HB.out) hb); clear HO0_3; clear HL485_3; clear HO491; clear BK483; clear BK484; clear HR485_3; clear BK492; clear HB; have HO0_3 := n0_; have HL485_3 := n1_; have HO491 := n2_; have HO501 := n3_; have BK483 := n4_; have BK484 := n5_; have HR485_3 := n6_; have BK492 := n7_; have HB := n8_; clear n0_ n1_ n2_ n3_ n4_ n5_ n6_ n7_ n8_; clear hb ho33; obtain ⟨Ao34, co34, eo34⟩ := Kd.N_slice HO501.out; subst eo34; have y35_0 : w32.cell? ⟨gb484, 0, none⟩ = some (.int .i64 0) := (blk_cell BK484.out 0).trans rfl; have y35_1 : w32.cell? ⟨gb484, 1, none⟩ = some (.int .i64 0) := (blk_cell BK484.out 1).trans rfl; have y35_2 : w32.cell? ⟨gb484, 2, none⟩ = some (.string (⟨#[]⟩ : ByteArray)) := (blk_cell BK484.out 2).trans rfl; have y35_3 : w32.cell? ⟨gb484, 3, none⟩ = some (.slice none 0 0) := (blk_cell BK484.out 3).trans rfl; have z35_0 := blk_frozen BK484.out 0; have z35_1 := blk_frozen BK484.out 1; have z35_2 := blk_frozen BK484.out 2; have z35_3 := blk_frozen BK484.out 3))
    refine bodyPost_ret (results_cell_row rfl _ _ gb484 29 #[.int .i64 4, .int .i64 0, .string (⟨#[]⟩ : ByteArray), .slice Ao34 y499.length co34] (0, 0) _ rfl ?hb_ Try.underlying29 rfl (by kernel_rfl)) rfl ?_
    (case hb_ => refine bk_ ?_; refine blk_put (cs := #[.int .i64 4, .int .i64 0, .string (⟨#[]⟩ : ByteArray), .slice none 0 0]) ?_ 3 _ rfl; refine bk_ ?_; refine blk_put (cs := #[.int .i64 4, .int .i64 0, .string (⟨#[]⟩ : ByteArray), .slice none 0 0]) ?_ 2 _ rfl; refine bk_ ?_; refine blk_put (cs := #[.int .i64 4, .int .i64 0, .string (⟨#[]⟩ : ByteArray), .slice none 0 0]) ?_ 1 _ rfl; refine bk_ ?_; refine blk_put (cs := #[.int .i64 0, .int .i64 0, .string (⟨#[]⟩ : ByteArray), .slice none 0 0]) ?_ 0 _ rfl; refine bk_ ?_; exact BK484.out)
    exact ⟨_, by first | rfl | (simp [errW_none, errW_some] <;> rfl) | (simp [*, errW_none, errW_some] <;> rfl), Kd.N_V (by (with_reducible repeat (first | apply Kd.N_alloc | apply Kd.N_drewN | apply Kd.N_drew)); exact Kd.N_mono (Kd.N_far (p := ⟨gb484, 3, none⟩) (Kd.N_far (p := ⟨gb484, 2, none⟩) (Kd.N_far (p := ⟨gb484, 1, none⟩) (Kd.N_far (p := ⟨gb484, 0, none⟩) (Kd.N_mono HO501.out (fun k_ hk => (⟨hk, hk.2.2.1⟩ : _ ∧ k_ ≠ gb484))) (fun _ hk => hk.2) (.int .i64 4)) (fun _ hk => hk.2) (.int .i64 0)) (fun _ hk => hk.2) (.string (⟨#[]⟩ : ByteArray))) (fun _ hk => hk.2) (.slice Ao34 y499.length co34)) (fun _ hk => hk.1.1)), bw_ HB.out⟩
  ·rw [if_neg c3] at H
   exact absurd H (by simp)
 ·rw [if_neg c2] at H
  have c2b0 := beq_eq_false_iff_ne.mpr c2
  have c2b1 := bne_iff_ne.mpr c2
  replace H := Option.bind_eq_some_iff.mp H
  obtain ⟨t502, A360, H⟩ := H
  try dsimp only at H
  have A36 := A_ A360
  clear A360
  by_cases c37 : t502 = true
  ·subst c37
   rw [if_pos rfl] at H
   by_cases c38 : 0 < (l0_3.length : Int)
   ·rw [if_pos c38] at H
    have c38b0 := decide_eq_true c38
    have c38b1 : decide (0 < l0_3.length) = true := decide_eq_true (by omega)
    clear c38
    replace H := Option.bind_eq_some_iff.mp H
    obtain ⟨⟨t504, t505, t506, t507⟩, A390, H⟩ := H
    try dsimp only at H
    have A39 := A_ A390
    clear A390
    by_cases c40 : 1 < (l0_3.length : Int)
    ·rw [if_pos c40] at H
     have c40b0 := decide_eq_true c40
     have c40b1 : decide (1 < l0_3.length) = true := decide_eq_true (by omega)
     clear c40
     replace H := Option.bind_eq_some_iff.mp H
     obtain ⟨⟨t511, t512, t513, t514⟩, A410, H⟩ := H
     try dsimp only at H
     have A41 := A_ A410
     clear A410
     replace H := Option.bind_eq_some_iff.mp H
     obtain ⟨⟨t517, t518, t519, t520⟩, A420, H⟩ := H
     try dsimp only at H
     have A42 := A_ A420
     clear A420
     simp only [Option.some.injEq, Prod.mk.injEq] at H
     obtain ⟨rfl, rfl, rfl, rfl⟩ := H
     go_enter Try.func60, Try.ntmps60
     try go_wp2_with (first | ((with_reducible refine gate_dst (N := 1) rfl ?_); refine box_event ?hg (N := 1) ?hd (cs := #[.int .i64 a0_0, .int .i64 a0_1, .string a0_2, .slice A0_3 l0_3.length c0_3]) (t := 29) ?hr ?_; (case hd => rfl); (case hg => rfl); (case hr => first | (go_simp; done) | (go_simp; rfl)); intro gb483 hg w43 hbox hb; have n0_ := A_ (Kd.V_below (Kd.V_elderB (kv_ HO0_3.out) gb483 (Nat.le_of_eq hg.symm)) hb); have n1_ := A_ (below_step (bw_ HB.out) hb); have n2_ := A_ (hbox); have n3_ := A_ ((by rw [hg]; exact (below_size (bw_ HB.out)) : w.heap.size ≤ gb483)); have n4_ := n3_; clear HO0_3; clear HB; have HO0_3 := n0_; have HB := n1_; have BK483 := n2_; have GW483 := n3_; have GE483 := n4_; have GI483 := GeI.mk GE483.out; clear n0_ n1_ n2_ n3_ n4_; clear hb hbox hg) | ((with_reducible refine gate_dst (N := 2) rfl ?_); refine box_event ?hg (N := 2) ?hd (cs := #[.int .i64 0, .int .i64 0, .string (⟨#[]⟩ : ByteArray), .slice none 0 0]) (t := 29) ?hr ?_; (case hd => rfl); (case hg => rfl); (case hr => first | (go_simp; done) | (go_simp; rfl)); intro gb484 hg w44 hbox hb; have n0_ := A_ (Kd.V_below (Kd.V_elderB (kv_ HO0_3.out) gb484 (Nat.le_of_eq hg.symm)) hb); have n1_ := A_ (blk_below (bk_ BK483.out) hb); have n2_ := A_ (below_step (bw_ HB.out) hb); have n3_ := A_ (hbox); have n4_ := A_ ((by rw [hg]; exact (below_size (bw_ HB.out)) : w.heap.size ≤ gb484)); have n5_ := n4_; have n6_ := A_ ((by rw [hg]; exact Nat.ne_of_lt (blk_lt (bk_ BK483.out)) : gb483 ≠ gb484)); have n7_ := A_ n6_.out.symm; clear HO0_3; clear BK483; clear HB; have HO0_3 := n0_; have BK483 := n1_; have HB := n2_; have BK484 := n3_; have GW484 := n4_; have GE484 := n5_; have GI484 := GeI.mk GE484.out; have NB483_484 := n6_; have NB484_483 := n7_; clear n0_ n1_ n2_ n3_ n4_ n5_ n6_ n7_; clear hb hbox hg; have hnb45 := NB483_484.out; have hnc45 := NB484_483.out; have y46_0 : w44.cell? ⟨gb483, 0, none⟩ = some (.int .i64 a0_0) := (blk_cell BK483.out 0).trans rfl; have y46_1 : w44.cell? ⟨gb483, 1, none⟩ = some (.int .i64 a0_1) := (blk_cell BK483.out 1).trans rfl; have y46_2 : w44.cell? ⟨gb483, 2, none⟩ = some (.string a0_2) := (blk_cell BK483.out 2).trans rfl; have y46_3 : w44.cell? ⟨gb483, 3, none⟩ = some (.slice A0_3 l0_3.length c0_3) := (blk_cell BK483.out 3).trans rfl; have z46_0 := blk_frozen BK483.out 0; have z46_1 := blk_frozen BK483.out 1; have z46_2 := blk_frozen BK483.out 2; have z46_3 := blk_frozen BK483.out 3) | ((with_reducible refine gate_callee (f := 71) rfl ?_); refine gL_ (some 26) Try.func71 #[.int .i64 a0_0] ?_; (with_reducible refine (impl_isTwo.calls a0_0 true _ A36.out).mono ?_); rintro e w' ⟨rfl, ⟨nd, rfl⟩⟩; refine ⟨_, rfl, ?_⟩; (try (rw [drewN_self w44]; generalize hq_ : World.drewN w44 _ = w44; have n0_ : Aside0 (Kd.V k29 29 w44 w.heap.size (fun k_ => (((P0_3_ k_ ∨ w.heap.size ≤ k_) ∧ k_ ≠ gb483) ∧ k_ ≠ gb484)) (.slice A0_3 l0_3.length c0_3) l0_3) := ⟨by rw [← hq_]; exact (kv_ HO0_3.out)⟩; have n1_ : Aside0 (w44.heap[gb483]? = some (.cells #[.int .i64 a0_0, .int .i64 a0_1, .string a0_2, .slice A0_3 l0_3.length c0_3] 29 (0, 0))) := ⟨by rw [← hq_]; exact (bk_ BK483.out)⟩; have n2_ : Aside0 (w44.heap[gb484]? = some (.cells #[.int .i64 0, .int .i64 0, .string (⟨#[]⟩ : ByteArray), .slice none 0 0] 29 (0, 0))) := ⟨by rw [← hq_]; exact (bk_ BK484.out)⟩; have n3_ : Aside0 (Below w.heap.size w w44) := ⟨by rw [← hq_]; exact (bw_ HB.out)⟩; clear HO0_3 BK483 BK484 HB hq_; have HO0_3 := n0_; have BK483 := n1_; have BK484 := n2_; have HB := n3_; clear n0_ n1_ n2_ n3_; have hcq483_0 : w44.cell? ⟨gb483, 0, none⟩ = some (.int .i64 a0_0) := (blk_cell BK483.out 0).trans rfl; have hcq483_1 : w44.cell? ⟨gb483, 1, none⟩ = some (.int .i64 a0_1) := (blk_cell BK483.out 1).trans rfl; have hcq483_2 : w44.cell? ⟨gb483, 2, none⟩ = some (.string a0_2) := (blk_cell BK483.out 2).trans rfl; have hcq483_3 : w44.cell? ⟨gb483, 3, none⟩ = some (.slice A0_3 l0_3.length c0_3) := (blk_cell BK483.out 3).trans rfl; have hcq484_0 : w44.cell? ⟨gb484, 0, none⟩ = some (.int .i64 0) := (blk_cell BK484.out 0).trans rfl; have hcq484_1 : w44.cell? ⟨gb484, 1, none⟩ = some (.int .i64 0) := (blk_cell BK484.out 1).trans rfl; have hcq484_2 : w44.cell? ⟨gb484, 2, none⟩ = some (.string (⟨#[]⟩ : ByteArray)) := (blk_cell BK484.out 2).trans rfl; have hcq484_3 : w44.cell? ⟨gb484, 3, none⟩ = some (.slice none 0 0) := (blk_cell BK484.out 3).trans rfl))))
     have n0_ := A_ (Kd.V_drew HO0_3.out)
     have n1_ := A_ (blk_drew BK483.out)
     have n2_ := A_ (blk_drew BK484.out)
     have n3_ := A_ (below_drew1 HB.out)
     clear HO0_3
     clear BK483
     clear BK484
     clear HB
     have HO0_3 := n0_
     have BK483 := n1_
     have BK484 := n2_
     have HB := n3_
     clear n0_ n1_ n2_ n3_
     have p503 : 0 ≤ (0 : Int) := (by omega)
     have q503 : 0 < (l0_3.length : Int) := of_decide_eq_true (by first | (with_reducible assumption) | assumption)
     obtain ⟨ad503, A503_3, c503_3, e503, hx503_0, hx503_1, hx503_2, hx503_3, hl503_3, hi503_3⟩ := at_T29 (Kd.V_reads' HO0_3.out).2.2 0 p503 q503
     cases e503
     obtain ⟨ce503, hce503, hMe503, hcc503⟩ := Kd.V_get HO0_3.out z29 0 p503 (by first | exact q503 | exact of_decide_eq_true (by first | (with_reducible assumption) | assumption) | (have e_ := (Kd.V_reads' HO0_3.out).1; omega))
     obtain ⟨ua503_3, uc503_3, rfl, ul503_3, ge503_3⟩ := k29_openF hMe503
     have hv503_3 := hcc503 3 _ rfl
     rw [add_field _ _ 3 (by omega)] at hv503_3
     replace hv503_3 := Option.some.inj (hv503_3.symm.trans hx503_3)
     injection hv503_3 with hva_ hvn_ hvc_
     rw [hva_] at ge503_3
     rw [hvc_] at ul503_3
     have HL503_3 := A_ (show Kd.V k29 29 _ w.heap.size _ _ ((rd_T29 l0_3 0).f3) from Kd.V_mk ul503_3 ge503_3)
     clear hva_ hvn_ hvc_ ge503_3 ul503_3
     clear hcc503 hce503
     have qi503 : (0 < l0_3.length) = True := eq_true (by omega)
     (try rw [show ((0 : Int)).toNat = 0 from rfl] at hx503_0)
     (try rw [show 0 * 4 = 0 from rfl] at hx503_0)
     (try rw [Addr.add_zero'] at hx503_0)
     (try rw [show ((0 : Int)).toNat = 0 from rfl] at hx503_1)
     (try rw [show 0 * 4 = 0 from rfl] at hx503_1)
     (try rw [Addr.add_zero'] at hx503_1)
     (try rw [show ((0 : Int)).toNat = 0 from rfl] at hx503_2)
     (try rw [show 0 * 4 = 0 from rfl] at hx503_2)
     (try rw [Addr.add_zero'] at hx503_2)
     (try rw [show ((0 : Int)).toNat = 0 from rfl] at hx503_3)
     (try rw [show 0 * 4 = 0 from rfl] at hx503_3)
     (try rw [Addr.add_zero'] at hx503_3)
     have HR503_3 := A_ hi503_3
     have HC503_3 := A_ hl503_3
     clear hi503_3 hl503_3
     replace p503 := eq_true p503
     replace q503 := eq_true q503
     have p510 : 0 ≤ (1 : Int) := (by omega)
     have q510 : 1 < (l0_3.length : Int) := of_decide_eq_true (by first | (with_reducible assumption) | assumption)
     obtain ⟨ad510, A510_3, c510_3, e510, hx510_0, hx510_1, hx510_2, hx510_3, hl510_3, hi510_3⟩ := at_T29 (Kd.V_reads' HO0_3.out).2.2 1 p510 q510
     obtain rfl : ad503 = ad510 := (by injection e510)
     obtain ⟨ce510, hce510, hMe510, hcc510⟩ := Kd.V_get HO0_3.out z29 1 p510 (by first | exact q510 | exact of_decide_eq_true (by first | (with_reducible assumption) | assumption) | (have e_ := (Kd.V_reads' HO0_3.out).1; omega))
     obtain ⟨ua510_3, uc510_3, rfl, ul510_3, ge510_3⟩ := k29_openF hMe510
     have hv510_3 := hcc510 3 _ rfl
     rw [add_field _ _ 3 (by omega)] at hv510_3
     replace hv510_3 := Option.some.inj (hv510_3.symm.trans hx510_3)
     injection hv510_3 with hva_ hvn_ hvc_
     rw [hva_] at ge510_3
     rw [hvc_] at ul510_3
     have HL510_3 := A_ (show Kd.V k29 29 _ w.heap.size _ _ ((rd_T29 l0_3 1).f3) from Kd.V_mk ul510_3 ge510_3)
     clear hva_ hvn_ hvc_ ge510_3 ul510_3
     clear hcc510 hce510
     (try simp only [show (1 : Int).toNat = 1 from rfl, Nat.reduceMul, Nat.reduceEqDiff, Go.Addr.add, ↓reduceIte] at hx510_0)
     (try simp only [show (1 : Int).toNat = 1 from rfl, Nat.reduceMul, Nat.reduceEqDiff, Go.Addr.add, ↓reduceIte] at hx510_1)
     (try simp only [show (1 : Int).toNat = 1 from rfl, Nat.reduceMul, Nat.reduceEqDiff, Go.Addr.add, ↓reduceIte] at hx510_2)
     (try simp only [show (1 : Int).toNat = 1 from rfl, Nat.reduceMul, Nat.reduceEqDiff, Go.Addr.add, ↓reduceIte] at hx510_3)
     have qi510 : (1 < l0_3.length) = True := eq_true (by omega)
     (try rw [show ((1 : Int)).toNat = 1 from rfl] at hx510_0)
     (try rw [show 1 * 4 = 4 from rfl] at hx510_0)
     (try rw [show ((1 : Int)).toNat = 1 from rfl] at hx510_1)
     (try rw [show 1 * 4 = 4 from rfl] at hx510_1)
     (try rw [show ((1 : Int)).toNat = 1 from rfl] at hx510_2)
     (try rw [show 1 * 4 = 4 from rfl] at hx510_2)
     (try rw [show ((1 : Int)).toNat = 1 from rfl] at hx510_3)
     (try rw [show 1 * 4 = 4 from rfl] at hx510_3)
     have HR510_3 := A_ hi510_3
     have HC510_3 := A_ hl510_3
     clear hi510_3 hl510_3
     replace p510 := eq_true p510
     replace q510 := eq_true q510
     refine start_ (n := 14) (S := fun w' => w'.cell? ⟨gb483, 0, none⟩ = some (.int .i64 a0_0) ∧ w'.cell? ⟨gb483, 1, none⟩ = some (.int .i64 a0_1) ∧ w'.cell? ⟨gb483, 2, none⟩ = some (.string a0_2) ∧ w'.cell? ⟨gb483, 3, none⟩ = some (.slice (some ad503) l0_3.length c0_3) ∧ w'.cell? ad503 = some (.int .i64 ((rd_T29 l0_3 0).f0)) ∧ w'.cell? ⟨ad503.block, ad503.off + 1, none⟩ = some (.int .i64 ((rd_T29 l0_3 0).f1)) ∧ w'.cell? ⟨ad503.block, ad503.off + 2, none⟩ = some (.string ((rd_T29 l0_3 0).f2)) ∧ w'.cell? ⟨ad503.block, ad503.off + 3, none⟩ = some (.slice A503_3 ((rd_T29 l0_3 0).f3).length c503_3) ∧ w'.cell? ⟨ad503.block, ad503.off + 4, none⟩ = some (.int .i64 ((rd_T29 l0_3 1).f0)) ∧ w'.cell? ⟨ad503.block, ad503.off + 4 + 1, none⟩ = some (.int .i64 ((rd_T29 l0_3 1).f1)) ∧ w'.cell? ⟨ad503.block, ad503.off + 4 + 2, none⟩ = some (.string ((rd_T29 l0_3 1).f2)) ∧ w'.cell? ⟨ad503.block, ad503.off + 4 + 3, none⟩ = some (.slice A510_3 ((rd_T29 l0_3 1).f3).length c510_3)) (ds := []) #[false, false, false, false, false, false, false, false, false, false, false, false, false, false] (by kernel_rfl) rfl rfl ⟨(blk_cell BK483.out 0).trans rfl, (blk_cell BK483.out 1).trans rfl, (blk_cell BK483.out 2).trans rfl, (blk_cell BK483.out 3).trans rfl, hx503_0, hx503_1, hx503_2, hx503_3, hx510_0, hx510_1, hx510_2, hx510_3⟩ (fun hHeld => ?_); refine with_tabW impl_fold.tab7 impl_fold.bits7 (fun HT_ HW_ => ?_)
     generalize w44.drew = w47 at HO0_3 BK483 BK484 HB HL503_3 HL510_3 HR503_3 HR510_3 hx503_0 hx503_1 hx503_2 hx503_3 hx510_0 hx510_1 hx510_2 hx510_3 hHeld ⊢
     refine pure_ (i := 0) (N := some 27) (v := ?_) (a' := ?_) #[true, false, false, false, false, false, false, false, false, false, false, false, false, false] rfl rfl (any_of HT_.out (by kernel_rfl)) (fun _ _ _ h => h) (Or.inl ⟨by rfl, ?_⟩) ?_ ?_
     rotate_left
     ·intro w'
      go_simp
      with_reducible rfl
     rotate_left
     ·simp only [Act.put, List.setIfInBounds_toArray, List.set_cons_zero, List.set_cons_succ, i64_w, i32_w]
      rfl
     refine pure_ (i := 2) (N := some 29) (v := ?_) (a' := ?_) #[true, false, true, false, false, false, false, false, false, false, false, false, false, false] rfl rfl (any_of HT_.out (by kernel_rfl)) (fun _ _ _ h => h) (Or.inl ⟨by rfl, ?_⟩) ?_ ?_
     rotate_left
     ·intro w'
      go_simp
      with_reducible rfl
     rotate_left
     ·simp only [Act.put, List.setIfInBounds_toArray, List.set_cons_zero, List.set_cons_succ, i64_w, i32_w]
      rfl
     refine pure_ (i := 7) (N := some 34) (v := ?_) (a' := ?_) #[true, false, true, false, false, false, false, true, false, false, false, false, false, false] rfl rfl (any_of HT_.out (by kernel_rfl)) (fun _ _ _ h => h) (Or.inl ⟨by rfl, ?_⟩) ?_ ?_
     rotate_left
     ·intro w'
      go_simp
      with_reducible rfl
     rotate_left
     ·simp only [Act.put, List.setIfInBounds_toArray, List.set_cons_zero, List.set_cons_succ, i64_w, i32_w]
      rfl
     refine take_ (i := 1) (N := some 28) (v := ?_) (a' := ?_) #[true, true, true, false, false, false, false, true, false, false, false, false, false, false] rfl rfl (take_ofW HT_.out HW_.out (by kernel_rfl)) (fun _ _ _ h => h) (Or.inl ⟨by rfl, ?_⟩) hHeld ?_ ?_
     rotate_left
     ·rintro w' ⟨s0, s1, s2, s3, s4, s5, s6, s7, s8, s9, s10, s11⟩
      go_simp
      with_reducible rfl
     rotate_left
     ·simp only [Act.put, List.setIfInBounds_toArray, List.set_cons_zero, List.set_cons_succ, i64_w, i32_w]
      rfl
     refine take_ (i := 3) (N := some 30) (v := ?_) (a' := ?_) #[true, true, true, true, false, false, false, true, false, false, false, false, false, false] rfl rfl (take_ofW HT_.out HW_.out (by kernel_rfl)) (fun _ _ _ h => h) (Or.inl ⟨by rfl, ?_⟩) hHeld ?_ ?_
     rotate_left
     ·rintro w' ⟨s0, s1, s2, s3, s4, s5, s6, s7, s8, s9, s10, s11⟩
      go_simp
      with_reducible rfl
     rotate_left
     ·simp only [Act.put, List.setIfInBounds_toArray, List.set_cons_zero, List.set_cons_succ, i64_w, i32_w]
      rfl
     refine pure_ (i := 4) (N := some 31) (v := ?_) (a' := ?_) #[true, true, true, true, true, false, false, true, false, false, false, false, false, false] rfl rfl (any_of HT_.out (by kernel_rfl)) (fun _ _ _ h => h) (Or.inl ⟨by rfl, ?_⟩) ?_ ?_
     rotate_left
     ·intro w'
      go_simp
      with_reducible rfl
     rotate_left
     ·simp only [Act.put, List.setIfInBounds_toArray, List.set_cons_zero, List.set_cons_succ, i64_w, i32_w]
      rfl
     refine take_ (i := 5) (N := some 32) (v := ?_) (a' := ?_) #[true, true, true, true, true, true, false, true, false, false, false, false, false, false] rfl rfl (take_ofW HT_.out HW_.out (by kernel_rfl)) (fun _ _ _ h => h) (Or.inl ⟨by rfl, ?_⟩) hHeld ?_ ?_
     rotate_left
     ·rintro w' ⟨s0, s1, s2, s3, s4, s5, s6, s7, s8, s9, s10, s11⟩
      go_simp
      with_reducible rfl
     rotate_left
     ·simp only [Act.put, List.setIfInBounds_toArray, List.set_cons_zero, List.set_cons_succ, i64_w, i32_w]
      rfl
     refine take_ (i := 8) (N := some 35) (v := ?_) (a' := ?_) #[true, true, true, true, true, true, false, true, true, false, false, false, false, false] rfl rfl (take_ofW HT_.out HW_.out (by kernel_rfl)) (fun _ _ _ h => h) (Or.inl ⟨by rfl, ?_⟩) hHeld ?_ ?_
     rotate_left
     ·rintro w' ⟨s0, s1, s2, s3, s4, s5, s6, s7, s8, s9, s10, s11⟩
      go_simp
      with_reducible rfl
     rotate_left
     ·simp only [Act.put, List.setIfInBounds_toArray, List.set_cons_zero, List.set_cons_succ, i64_w, i32_w]
      rfl
     refine pure_ (i := 9) (N := some 36) (v := ?_) (a' := ?_) #[true, true, true, true, true, true, false, true, true, true, false, false, false, false] rfl rfl (any_of HT_.out (by kernel_rfl)) (fun _ _ _ h => h) (Or.inl ⟨by rfl, ?_⟩) ?_ ?_
     rotate_left
     ·intro w'
      go_simp
      with_reducible rfl
     rotate_left
     ·simp only [Act.put, List.setIfInBounds_toArray, List.set_cons_zero, List.set_cons_succ, i64_w, i32_w]
      rfl
     refine take_ (i := 10) (N := some 37) (v := ?_) (a' := ?_) #[true, true, true, true, true, true, false, true, true, true, true, false, false, false] rfl rfl (take_ofW HT_.out HW_.out (by kernel_rfl)) (fun _ _ _ h => h) (Or.inl ⟨by rfl, ?_⟩) hHeld ?_ ?_
     rotate_left
     ·rintro w' ⟨s0, s1, s2, s3, s4, s5, s6, s7, s8, s9, s10, s11⟩
      go_simp
      with_reducible rfl
     rotate_left
     ·simp only [Act.put, List.setIfInBounds_toArray, List.set_cons_zero, List.set_cons_succ, i64_w, i32_w]
      rfl
     refine one_ (i := 6) (N := some 33) #[true, true, true, true, true, true, true, true, true, true, true, false, false, false] rfl rfl (one_of HT_.out (by kernel_rfl)) (by decide) (fun K hK => ?_)
     refine goes_ Try.func60 (by kernel_rfl) rfl #[.agg #[.int .i64 ((rd_T29 l0_3 0).f0), .int .i64 ((rd_T29 l0_3 0).f1), .string ((rd_T29 l0_3 0).f2), .slice A503_3 ((rd_T29 l0_3 0).f3).length c503_3]] (by rfl) rfl rfl (by (try simp only [List.map_toArray, List.map_cons, List.map_nil]); first | done | rfl | (simp only [List.length_drop, List.length_take]; rfl)) ?_
     with_reducible refine (ih k (by omega) ((rd_T29 l0_3 0).f0) ((rd_T29 l0_3 0).f1) ((rd_T29 l0_3 0).f2) (fun k_ => (((P0_3_ k_ ∨ w.heap.size ≤ k_) ∧ k_ ≠ gb483) ∧ k_ ≠ gb484)) _ _ ((rd_T29 l0_3 0).f3) t504 t505 t506 t507 _ ?side1 A39.out).mono ?_
     (case side1 => exact HL503_3.out)
     rintro e w48 ⟨v508, rfl, ho0, hb⟩
     have HS4_ := (hb.cell (World.block_lt_of_cell? _ _ (hHeld.2.2.2.2.1))).trans (hHeld.2.2.2.2.1)
     have HS5_ := (hb.cell (World.block_lt_of_cell? _ _ (hHeld.2.2.2.2.2.1))).trans (hHeld.2.2.2.2.2.1)
     have HS6_ := (hb.cell (World.block_lt_of_cell? _ _ (hHeld.2.2.2.2.2.2.1))).trans (hHeld.2.2.2.2.2.2.1)
     have HS7_ := (hb.cell (World.block_lt_of_cell? _ _ (hHeld.2.2.2.2.2.2.2.1))).trans (hHeld.2.2.2.2.2.2.2.1)
     have HS8_ := (hb.cell (World.block_lt_of_cell? _ _ (hHeld.2.2.2.2.2.2.2.2.1))).trans (hHeld.2.2.2.2.2.2.2.2.1)
     have HS9_ := (hb.cell (World.block_lt_of_cell? _ _ (hHeld.2.2.2.2.2.2.2.2.2.1))).trans (hHeld.2.2.2.2.2.2.2.2.2.1)
     have HS10_ := (hb.cell (World.block_lt_of_cell? _ _ (hHeld.2.2.2.2.2.2.2.2.2.2.1))).trans (hHeld.2.2.2.2.2.2.2.2.2.2.1)
     have HS11_ := (hb.cell (World.block_lt_of_cell? _ _ (hHeld.2.2.2.2.2.2.2.2.2.2.2))).trans (hHeld.2.2.2.2.2.2.2.2.2.2.2)
     refine ⟨_, rfl, ?_⟩
     have n0_ := A_ (Kd.V_below (kv_ HO0_3.out) hb)
     have n1_ := A_ (Kd.V_below (by (with_reducible repeat (first | apply Kd.V_alloc | apply Kd.V_drewN | apply Kd.V_drew)); exact HL503_3.out) hb)
     have n2_ := A_ (Kd.V_below (by (with_reducible repeat (first | apply Kd.V_alloc | apply Kd.V_drewN | apply Kd.V_drew)); exact HL510_3.out) hb)
     have n3_ := A_ (Kd.V_lower (Kd.V_mono (ok' := fun k_ => (P0_3_ k_ ∨ w.heap.size ≤ k_) ∧ k_ ≠ gb483 ∧ k_ ≠ gb484) ho0 (fun k_ hk_ => ⟨Or.elim hk_ (fun hs_ => hs_.1.1) (fun hn_ => (.inr (Nat.le_trans (below_size (bw_ HB.out)) hn_))), Or.elim hk_ (fun hs_ => hs_.1.2) (fun hn_ => (Kd.freshB (bk_ BK483.out) k_ hn_)), Or.elim hk_ (fun hs_ => hs_.2) (fun hn_ => (Kd.freshB (bk_ BK484.out) k_ hn_))⟩)) (below_size (bw_ HB.out)))
     have n4_ := A_ (blk_below (bk_ BK483.out) hb)
     have n5_ := A_ (blk_below (bk_ BK484.out) hb)
     have n6_ := A_ (Kd.C_below (Kd.V_reads' HL503_3.out).2.2 hb)
     have n7_ := A_ (Kd.C_below (Kd.V_reads' HL510_3.out).2.2 hb)
     have n8_ := A_ (below_step (bw_ HB.out) hb)
     clear HO0_3
     clear HL503_3
     clear HL510_3
     clear BK483
     clear BK484
     clear HR503_3
     clear HR510_3
     clear HB
     have HO0_3 := n0_
     have HL503_3 := n1_
     have HL510_3 := n2_
     have HO509 := n3_
     have BK483 := n4_
     have BK484 := n5_
     have HR503_3 := n6_
     have HR510_3 := n7_
     have HB := n8_
     clear n0_ n1_ n2_ n3_ n4_ n5_ n6_ n7_ n8_
     (try clear hb)
     (try clear hb2)
     (try clear hk)
     (try clear hi)
     (try clear ho0)
     refine hK.out _ _ ⟨(blk_cell BK483.out 0).trans rfl, (blk_cell BK483.out 1).trans rfl, (blk_cell BK483.out 2).trans rfl, (blk_cell BK483.out 3).trans rfl, HS4_, HS5_, HS6_, HS7_, HS8_, HS9_, HS10_, HS11_⟩ (fun hHeld => ?_)
     clear hK K
     refine norm_ (a' := ?_) ?_ ?_
     rotate_left
     ·show Act.put _ (some 33) _ = _
      simp only [Act.put, List.setIfInBounds_toArray, List.set_cons_zero, List.set_cons_succ, i64_w, i32_w]
      rfl
     refine one_ (i := 11) (N := some 38) #[true, true, true, true, true, true, true, true, true, true, true, true, false, false] rfl rfl (one_of HT_.out (by kernel_rfl)) (by decide) (fun K hK => ?_)
     refine goes_ Try.func60 (by kernel_rfl) rfl #[.agg #[.int .i64 ((rd_T29 l0_3 1).f0), .int .i64 ((rd_T29 l0_3 1).f1), .string ((rd_T29 l0_3 1).f2), .slice A510_3 ((rd_T29 l0_3 1).f3).length c510_3]] (by rfl) rfl rfl (by (try simp only [List.map_toArray, List.map_cons, List.map_nil]); first | done | rfl | (simp only [List.length_drop, List.length_take]; rfl)) ?_
     with_reducible refine (ih k (by omega) ((rd_T29 l0_3 1).f0) ((rd_T29 l0_3 1).f1) ((rd_T29 l0_3 1).f2) (fun k_ => (((P0_3_ k_ ∨ w.heap.size ≤ k_) ∧ k_ ≠ gb483) ∧ k_ ≠ gb484)) _ _ ((rd_T29 l0_3 1).f3) t511 t512 t513 t514 _ ?side1 A41.out).mono ?_
     (case side1 => exact HL510_3.out)
     rintro e w49 ⟨v515, rfl, ho0, hb⟩
     have HS4_ := (hb.cell (World.block_lt_of_cell? _ _ (hHeld.2.2.2.2.1))).trans (hHeld.2.2.2.2.1)
     have HS5_ := (hb.cell (World.block_lt_of_cell? _ _ (hHeld.2.2.2.2.2.1))).trans (hHeld.2.2.2.2.2.1)
     have HS6_ := (hb.cell (World.block_lt_of_cell? _ _ (hHeld.2.2.2.2.2.2.1))).trans (hHeld.2.2.2.2.2.2.1)
     have HS7_ := (hb.cell (World.block_lt_of_cell? _ _ (hHeld.2.2.2.2.2.2.2.1))).trans (hHeld.2.2.2.2.2.2.2.1)
     have HS8_ := (hb.cell (World.block_lt_of_cell? _ _ (hHeld.2.2.2.2.2.2.2.2.1))).trans (hHeld.2.2.2.2.2.2.2.2.1)
     have HS9_ := (hb.cell (World.block_lt_of_cell? _ _ (hHeld.2.2.2.2.2.2.2.2.2.1))).trans (hHeld.2.2.2.2.2.2.2.2.2.1)
     have HS10_ := (hb.cell (World.block_lt_of_cell? _ _ (hHeld.2.2.2.2.2.2.2.2.2.2.1))).trans (hHeld.2.2.2.2.2.2.2.2.2.2.1)
     have HS11_ := (hb.cell (World.block_lt_of_cell? _ _ (hHeld.2.2.2.2.2.2.2.2.2.2.2))).trans (hHeld.2.2.2.2.2.2.2.2.2.2.2)
     refine ⟨_, rfl, ?_⟩
     have n0_ := A_ (Kd.V_below (kv_ HO0_3.out) hb)
     have n1_ := A_ (Kd.V_below (by (with_reducible repeat (first | apply Kd.V_alloc | apply Kd.V_drewN | apply Kd.V_drew)); exact HL503_3.out) hb)
     have n2_ := A_ (Kd.V_below (by (with_reducible repeat (first | apply Kd.V_alloc | apply Kd.V_drewN | apply Kd.V_drew)); exact HL510_3.out) hb)
     have n3_ := A_ (Kd.V_below (kv_ HO509.out) hb)
     have n4_ := A_ (Kd.V_lower (Kd.V_mono (ok' := fun k_ => (P0_3_ k_ ∨ w.heap.size ≤ k_) ∧ k_ ≠ gb483 ∧ k_ ≠ gb484) ho0 (fun k_ hk_ => ⟨Or.elim hk_ (fun hs_ => hs_.1.1) (fun hn_ => (.inr (Nat.le_trans (below_size (bw_ HB.out)) hn_))), Or.elim hk_ (fun hs_ => hs_.1.2) (fun hn_ => (Kd.freshB (bk_ BK483.out) k_ hn_)), Or.elim hk_ (fun hs_ => hs_.2) (fun hn_ => (Kd.freshB (bk_ BK484.out) k_ hn_))⟩)) (below_size (bw_ HB.out)))
     have n5_ := A_ (blk_below (bk_ BK483.out) hb)
     have n6_ := A_ (blk_below (bk_ BK484.out) hb)
     have n7_ := A_ (Kd.C_below (Kd.V_reads' HL503_3.out).2.2 hb)
     have n8_ := A_ (Kd.C_below (Kd.V_reads' HL510_3.out).2.2 hb)
     have n9_ := A_ (below_step (bw_ HB.out) hb)
     clear HO0_3
     clear HL503_3
     clear HL510_3
     clear HO509
     clear BK483
     clear BK484
     clear HR503_3
     clear HR510_3
     clear HB
     have HO0_3 := n0_
     have HL503_3 := n1_
     have HL510_3 := n2_
     have HO509 := n3_
     have HO516 := n4_
     have BK483 := n5_
     have BK484 := n6_
     have HR503_3 := n7_
     have HR510_3 := n8_
     have HB := n9_
     clear n0_ n1_ n2_ n3_ n4_ n5_ n6_ n7_ n8_ n9_
     (try clear hb)
     (try clear hb2)
     (try clear hk)
     (try clear hi)
     (try clear ho0)
     obtain ⟨Ao50, co50, eo50⟩ := Kd.V_slice HO509.out
     (first | subst eo50 | (injection eo50 with f1_ f2_ f3_; have f4_ := f1_.symm; have f5_ := f3_.symm; clear f1_ f2_ f3_; subst f4_; subst f5_))
     obtain ⟨Ao51, co51, eo51⟩ := Kd.V_slice HO516.out
     (first | subst eo51 | (injection eo51 with f1_ f2_ f3_; have f4_ := f1_.symm; have f5_ := f3_.symm; clear f1_ f2_ f3_; subst f4_; subst f5_))
     refine hK.out _ _ ⟨(blk_cell BK483.out 0).trans rfl, (blk_cell BK483.out 1).trans rfl, (blk_cell BK483.out 2).trans rfl, (blk_cell BK483.out 3).trans rfl, HS4_, HS5_, HS6_, HS7_, HS8_, HS9_, HS10_, HS11_⟩ (fun hHeld => ?_)
     clear hK K
     refine norm_ (a' := ?_) ?_ ?_
     rotate_left
     ·show Act.put _ (some 38) _ = _
      simp only [Act.put, List.setIfInBounds_toArray, List.set_cons_zero, List.set_cons_succ, i64_w, i32_w]
      rfl
     refine one_ (i := 12) (N := some 39) #[true, true, true, true, true, true, true, true, true, true, true, true, true, false] rfl rfl (one_of HT_.out (by kernel_rfl)) (by decide) (fun K hK => ?_)
     refine goes_ Try.func83 (by kernel_rfl) rfl #[.int .i64 a0_0, .agg #[.int .i64 t504, .int .i64 t505, .string t506, .slice Ao50 t507.length co50], .agg #[.int .i64 t511, .int .i64 t512, .string t513, .slice Ao51 t514.length co51]] (by rfl) rfl rfl (by (try simp only [List.map_toArray, List.map_cons, List.map_nil]); first | done | rfl | (simp only [List.length_drop, List.length_take]; rfl)) ?_
     with_reducible refine (impl_foldTwo.calls k a0_0 t504 t505 t506 (fun k_ => ((P0_3_ k_ ∨ w.heap.size ≤ k_) ∧ (k_ ≠ gb483 ∧ k_ ≠ gb484))) _ _ t507 t511 t512 t513 (fun k_ => ((P0_3_ k_ ∨ w.heap.size ≤ k_) ∧ (k_ ≠ gb483 ∧ k_ ≠ gb484))) _ _ t514 t517 t518 t519 t520 _ ?side1 ?side2 A42.out).mono ?_
     (case side1 => exact HO509.out)
     (case side2 => exact HO516.out)
     rintro e w52 ⟨v521, rfl, ho0, hb⟩
     have HS4_ := (hb.cell (World.block_lt_of_cell? _ _ (hHeld.2.2.2.2.1))).trans (hHeld.2.2.2.2.1)
     have HS5_ := (hb.cell (World.block_lt_of_cell? _ _ (hHeld.2.2.2.2.2.1))).trans (hHeld.2.2.2.2.2.1)
     have HS6_ := (hb.cell (World.block_lt_of_cell? _ _ (hHeld.2.2.2.2.2.2.1))).trans (hHeld.2.2.2.2.2.2.1)
     have HS7_ := (hb.cell (World.block_lt_of_cell? _ _ (hHeld.2.2.2.2.2.2.2.1))).trans (hHeld.2.2.2.2.2.2.2.1)
     have HS8_ := (hb.cell (World.block_lt_of_cell? _ _ (hHeld.2.2.2.2.2.2.2.2.1))).trans (hHeld.2.2.2.2.2.2.2.2.1)
     have HS9_ := (hb.cell (World.block_lt_of_cell? _ _ (hHeld.2.2.2.2.2.2.2.2.2.1))).trans (hHeld.2.2.2.2.2.2.2.2.2.1)
     have HS10_ := (hb.cell (World.block_lt_of_cell? _ _ (hHeld.2.2.2.2.2.2.2.2.2.2.1))).trans (hHeld.2.2.2.2.2.2.2.2.2.2.1)
     have HS11_ := (hb.cell (World.block_lt_of_cell? _ _ (hHeld.2.2.2.2.2.2.2.2.2.2.2))).trans (hHeld.2.2.2.2.2.2.2.2.2.2.2)
     refine ⟨_, rfl, ?_⟩
     have n0_ := A_ (Kd.V_below (kv_ HO0_3.out) hb)
     have n1_ := A_ (Kd.V_below (by (with_reducible repeat (first | apply Kd.V_alloc | apply Kd.V_drewN | apply Kd.V_drew)); exact HL503_3.out) hb)
     have n2_ := A_ (Kd.V_below (by (with_reducible repeat (first | apply Kd.V_alloc | apply Kd.V_drewN | apply Kd.V_drew)); exact HL510_3.out) hb)
     have n3_ := A_ (Kd.V_below (kv_ HO509.out) hb)
     have n4_ := A_ (Kd.V_below (kv_ HO516.out) hb)
     have n5_ := A_ (Kd.V_lower (Kd.V_mono (ok' := fun k_ => (P0_3_ k_ ∨ w.heap.size ≤ k_) ∧ k_ ≠ gb483 ∧ k_ ≠ gb484) ho0 (fun k_ hk_ => ⟨Or.elim hk_ (fun hs_ => Or.elim hs_ (fun hs_ => hs_.1) (fun hs_ => hs_.1)) (fun hn_ => (.inr (Nat.le_trans (below_size (bw_ HB.out)) hn_))), Or.elim hk_ (fun hs_ => Or.elim hs_ (fun hs_ => hs_.2.1) (fun hs_ => hs_.2.1)) (fun hn_ => (Kd.freshB (bk_ BK483.out) k_ hn_)), Or.elim hk_ (fun hs_ => Or.elim hs_ (fun hs_ => hs_.2.2) (fun hs_ => hs_.2.2)) (fun hn_ => (Kd.freshB (bk_ BK484.out) k_ hn_))⟩)) (below_size (bw_ HB.out)))
     have n6_ := A_ (blk_below (bk_ BK483.out) hb)
     have n7_ := A_ (blk_below (bk_ BK484.out) hb)
     have n8_ := A_ (Kd.C_below (Kd.V_reads' HL503_3.out).2.2 hb)
     have n9_ := A_ (Kd.C_below (Kd.V_reads' HL510_3.out).2.2 hb)
     have n10_ := A_ (below_step (bw_ HB.out) hb)
     clear HO0_3
     clear HL503_3
     clear HL510_3
     clear HO509
     clear HO516
     clear BK483
     clear BK484
     clear HR503_3
     clear HR510_3
     clear HB
     have HO0_3 := n0_
     have HL503_3 := n1_
     have HL510_3 := n2_
     have HO509 := n3_
     have HO516 := n4_
     have HO522 := n5_
     have BK483 := n6_
     have BK484 := n7_
     have HR503_3 := n8_
     have HR510_3 := n9_
     have HB := n10_
     clear n0_ n1_ n2_ n3_ n4_ n5_ n6_ n7_ n8_ n9_ n10_
     (try clear hb)
     (try clear hb2)
     (try clear hk)
     (try clear hi)
     (try clear ho0)
     obtain ⟨Ao56, co56, eo56⟩ := Kd.V_slice HO522.out
     (first | subst eo56 | (injection eo56 with f1_ f2_ f3_; have f4_ := f1_.symm; have f5_ := f3_.symm; clear f1_ f2_ f3_; subst f4_; subst f5_))
     refine hK.out _ _ ⟨(blk_cell BK483.out 0).trans rfl, (blk_cell BK483.out 1).trans rfl, (blk_cell BK483.out 2).trans rfl, (blk_cell BK483.out 3).trans rfl, HS4_, HS5_, HS6_, HS7_, HS8_, HS9_, HS10_, HS11_⟩ (fun hHeld => ?_)
     clear hK K
     refine norm_ (a' := ?_) ?_ ?_
     rotate_left
     ·show Act.put _ (some 39) _ = _
      simp only [Act.put, List.setIfInBounds_toArray, List.set_cons_zero, List.set_cons_succ, i64_w, i32_w]
      rfl
     refine one_ (i := 13) (N := none) #[true, true, true, true, true, true, true, true, true, true, true, true, true, true] rfl rfl (one_of HT_.out (by kernel_rfl)) (by decide) (fun K hK => ?_)
     have hs53 : w52.cell? ⟨gb484, 0, none⟩ = some (.int .i64 0) := (blk_cell BK484.out 0).trans rfl
     have hfs53 := blk_frozen BK484.out 0
     have hns53_0 := NB483_484.out
     have hms53_0 := NB484_483.out
     have hs54 : w52.cell? ⟨gb484, 1, none⟩ = some (.int .i64 0) := (blk_cell BK484.out 1).trans rfl
     have hfs54 := blk_frozen BK484.out 1
     have hns54_0 := NB483_484.out
     have hms54_0 := NB484_483.out
     have hs55 : w52.cell? ⟨gb484, 2, none⟩ = some (.string (⟨#[]⟩ : ByteArray)) := (blk_cell BK484.out 2).trans rfl
     have hfs55 := blk_frozen BK484.out 2
     have hns55_0 := NB483_484.out
     have hms55_0 := NB484_483.out
     have hs57 : w52.cell? ⟨gb484, 3, none⟩ = some (.slice none 0 0) := (blk_cell BK484.out 3).trans rfl
     have hfs57 := blk_frozen BK484.out 3
     have hns57_0 := NB483_484.out
     have hms57_0 := NB484_483.out
     refine skip_ (w1 := ?_) (by rfl) rfl ?_ ?_
     rotate_left
     ·go_simp
      rfl
     refine hK.out _ _ ⟨((cell_far (p := ⟨gb484, _, none⟩) NB483_484.out _).trans (((cell_far (p := ⟨gb484, _, none⟩) NB483_484.out _).trans (((cell_far (p := ⟨gb484, _, none⟩) NB483_484.out _).trans (((cell_far (p := ⟨gb484, _, none⟩) NB483_484.out _).trans (hHeld.1)))))))), ((cell_far (p := ⟨gb484, _, none⟩) NB483_484.out _).trans (((cell_far (p := ⟨gb484, _, none⟩) NB483_484.out _).trans (((cell_far (p := ⟨gb484, _, none⟩) NB483_484.out _).trans (((cell_far (p := ⟨gb484, _, none⟩) NB483_484.out _).trans (hHeld.2.1)))))))), ((cell_far (p := ⟨gb484, _, none⟩) NB483_484.out _).trans (((cell_far (p := ⟨gb484, _, none⟩) NB483_484.out _).trans (((cell_far (p := ⟨gb484, _, none⟩) NB483_484.out _).trans (((cell_far (p := ⟨gb484, _, none⟩) NB483_484.out _).trans (hHeld.2.2.1)))))))), ((cell_far (p := ⟨gb484, _, none⟩) NB483_484.out _).trans (((cell_far (p := ⟨gb484, _, none⟩) NB483_484.out _).trans (((cell_far (p := ⟨gb484, _, none⟩) NB483_484.out _).trans (((cell_far (p := ⟨gb484, _, none⟩) NB483_484.out _).trans (hHeld.2.2.2.1)))))))), ((cell_far (p := ⟨gb484, _, none⟩) (by have h_ := awy_ HO0_3.out (fun _ hk => hk.2); first | exact h_.1 | exact h_.2 _) _).trans (((cell_far (p := ⟨gb484, _, none⟩) (by have h_ := awy_ HO0_3.out (fun _ hk => hk.2); first | exact h_.1 | exact h_.2 _) _).trans (((cell_far (p := ⟨gb484, _, none⟩) (by have h_ := awy_ HO0_3.out (fun _ hk => hk.2); first | exact h_.1 | exact h_.2 _) _).trans (((cell_far (p := ⟨gb484, _, none⟩) (by have h_ := awy_ HO0_3.out (fun _ hk => hk.2); first | exact h_.1 | exact h_.2 _) _).trans (hHeld.2.2.2.2.1)))))))), ((cell_far (p := ⟨gb484, _, none⟩) (by have h_ := awy_ HO0_3.out (fun _ hk => hk.2); first | exact h_.1 | exact h_.2 _) _).trans (((cell_far (p := ⟨gb484, _, none⟩) (by have h_ := awy_ HO0_3.out (fun _ hk => hk.2); first | exact h_.1 | exact h_.2 _) _).trans (((cell_far (p := ⟨gb484, _, none⟩) (by have h_ := awy_ HO0_3.out (fun _ hk => hk.2); first | exact h_.1 | exact h_.2 _) _).trans (((cell_far (p := ⟨gb484, _, none⟩) (by have h_ := awy_ HO0_3.out (fun _ hk => hk.2); first | exact h_.1 | exact h_.2 _) _).trans (hHeld.2.2.2.2.2.1)))))))), ((cell_far (p := ⟨gb484, _, none⟩) (by have h_ := awy_ HO0_3.out (fun _ hk => hk.2); first | exact h_.1 | exact h_.2 _) _).trans (((cell_far (p := ⟨gb484, _, none⟩) (by have h_ := awy_ HO0_3.out (fun _ hk => hk.2); first | exact h_.1 | exact h_.2 _) _).trans (((cell_far (p := ⟨gb484, _, none⟩) (by have h_ := awy_ HO0_3.out (fun _ hk => hk.2); first | exact h_.1 | exact h_.2 _) _).trans (((cell_far (p := ⟨gb484, _, none⟩) (by have h_ := awy_ HO0_3.out (fun _ hk => hk.2); first | exact h_.1 | exact h_.2 _) _).trans (hHeld.2.2.2.2.2.2.1)))))))), ((cell_far (p := ⟨gb484, _, none⟩) (by have h_ := awy_ HO0_3.out (fun _ hk => hk.2); first | exact h_.1 | exact h_.2 _) _).trans (((cell_far (p := ⟨gb484, _, none⟩) (by have h_ := awy_ HO0_3.out (fun _ hk => hk.2); first | exact h_.1 | exact h_.2 _) _).trans (((cell_far (p := ⟨gb484, _, none⟩) (by have h_ := awy_ HO0_3.out (fun _ hk => hk.2); first | exact h_.1 | exact h_.2 _) _).trans (((cell_far (p := ⟨gb484, _, none⟩) (by have h_ := awy_ HO0_3.out (fun _ hk => hk.2); first | exact h_.1 | exact h_.2 _) _).trans (hHeld.2.2.2.2.2.2.2.1)))))))), ((cell_far (p := ⟨gb484, _, none⟩) (by have h_ := awy_ HO0_3.out (fun _ hk => hk.2); first | exact h_.1 | exact h_.2 _) _).trans (((cell_far (p := ⟨gb484, _, none⟩) (by have h_ := awy_ HO0_3.out (fun _ hk => hk.2); first | exact h_.1 | exact h_.2 _) _).trans (((cell_far (p := ⟨gb484, _, none⟩) (by have h_ := awy_ HO0_3.out (fun _ hk => hk.2); first | exact h_.1 | exact h_.2 _) _).trans (((cell_far (p := ⟨gb484, _, none⟩) (by have h_ := awy_ HO0_3.out (fun _ hk => hk.2); first | exact h_.1 | exact h_.2 _) _).trans (hHeld.2.2.2.2.2.2.2.2.1)))))))), ((cell_far (p := ⟨gb484, _, none⟩) (by have h_ := awy_ HO0_3.out (fun _ hk => hk.2); first | exact h_.1 | exact h_.2 _) _).trans (((cell_far (p := ⟨gb484, _, none⟩) (by have h_ := awy_ HO0_3.out (fun _ hk => hk.2); first | exact h_.1 | exact h_.2 _) _).trans (((cell_far (p := ⟨gb484, _, none⟩) (by have h_ := awy_ HO0_3.out (fun _ hk => hk.2); first | exact h_.1 | exact h_.2 _) _).trans (((cell_far (p := ⟨gb484, _, none⟩) (by have h_ := awy_ HO0_3.out (fun _ hk => hk.2); first | exact h_.1 | exact h_.2 _) _).trans (hHeld.2.2.2.2.2.2.2.2.2.1)))))))), ((cell_far (p := ⟨gb484, _, none⟩) (by have h_ := awy_ HO0_3.out (fun _ hk => hk.2); first | exact h_.1 | exact h_.2 _) _).trans (((cell_far (p := ⟨gb484, _, none⟩) (by have h_ := awy_ HO0_3.out (fun _ hk => hk.2); first | exact h_.1 | exact h_.2 _) _).trans (((cell_far (p := ⟨gb484, _, none⟩) (by have h_ := awy_ HO0_3.out (fun _ hk => hk.2); first | exact h_.1 | exact h_.2 _) _).trans (((cell_far (p := ⟨gb484, _, none⟩) (by have h_ := awy_ HO0_3.out (fun _ hk => hk.2); first | exact h_.1 | exact h_.2 _) _).trans (hHeld.2.2.2.2.2.2.2.2.2.2.1)))))))), ((cell_far (p := ⟨gb484, _, none⟩) (by have h_ := awy_ HO0_3.out (fun _ hk => hk.2); first | exact h_.1 | exact h_.2 _) _).trans (((cell_far (p := ⟨gb484, _, none⟩) (by have h_ := awy_ HO0_3.out (fun _ hk => hk.2); first | exact h_.1 | exact h_.2 _) _).trans (((cell_far (p := ⟨gb484, _, none⟩) (by have h_ := awy_ HO0_3.out (fun _ hk => hk.2); first | exact h_.1 | exact h_.2 _) _).trans (((cell_far (p := ⟨gb484, _, none⟩) (by have h_ := awy_ HO0_3.out (fun _ hk => hk.2); first | exact h_.1 | exact h_.2 _) _).trans (hHeld.2.2.2.2.2.2.2.2.2.2.2))))))))⟩ (fun hHeld => ?_)
     clear hK K
     refine done_ (done_of HT_.out (by kernel_rfl)) ?_
     try go_wp2
     refine bodyPost_ret (results_cell_row rfl _ _ gb484 29 #[.int .i64 t517, .int .i64 t518, .string t519, .slice Ao56 t520.length co56] (0, 0) _ rfl ?hb_ Try.underlying29 rfl (by kernel_rfl)) rfl ?_
     (case hb_ => refine bk_ ?_; refine blk_put (cs := #[.int .i64 t517, .int .i64 t518, .string t519, .slice none 0 0]) ?_ 3 _ rfl; refine bk_ ?_; refine blk_put (cs := #[.int .i64 t517, .int .i64 t518, .string (⟨#[]⟩ : ByteArray), .slice none 0 0]) ?_ 2 _ rfl; refine bk_ ?_; refine blk_put (cs := #[.int .i64 t517, .int .i64 0, .string (⟨#[]⟩ : ByteArray), .slice none 0 0]) ?_ 1 _ rfl; refine bk_ ?_; refine blk_put (cs := #[.int .i64 0, .int .i64 0, .string (⟨#[]⟩ : ByteArray), .slice none 0 0]) ?_ 0 _ rfl; refine bk_ ?_; exact BK484.out)
     exact ⟨_, by first | rfl | (simp [errW_none, errW_some] <;> rfl) | (simp [*, errW_none, errW_some] <;> rfl), by (with_reducible repeat (first | apply Kd.V_alloc | apply Kd.V_drewN | apply Kd.V_drew)); exact Kd.V_mono (Kd.V_far (p := ⟨gb484, 3, none⟩) (Kd.V_far (p := ⟨gb484, 2, none⟩) (Kd.V_far (p := ⟨gb484, 1, none⟩) (Kd.V_far (p := ⟨gb484, 0, none⟩) (Kd.V_mono HO522.out (fun k_ hk => (⟨hk, hk.2.2⟩ : _ ∧ k_ ≠ gb484))) (fun _ hk => hk.2) (.int .i64 t517)) (fun _ hk => hk.2) (.int .i64 t518)) (fun _ hk => hk.2) (.string t519)) (fun _ hk => hk.2) (.slice Ao56 t520.length co56)) (fun _ hk => hk.1.1), bw_ HB.out⟩
    ·rw [if_neg c40] at H
     exact absurd H (by simp)
   ·rw [if_neg c38] at H
    exact absurd H (by simp)
  ·replace c37 := Bool.eq_false_iff.mpr c37
   subst c37
   rw [if_neg (show ¬ (false = true) by decide)] at H
   simp only [Option.some.injEq, Prod.mk.injEq] at H
   obtain ⟨rfl, rfl, rfl, rfl⟩ := H
   go_enter Try.func60, Try.ntmps60
   go_wp2_with (first | ((with_reducible refine gate_dst (N := 1) rfl ?_); refine box_event ?hg (N := 1) ?hd (cs := #[.int .i64 a0_0, .int .i64 a0_1, .string a0_2, .slice A0_3 l0_3.length c0_3]) (t := 29) ?hr ?_; (case hd => rfl); (case hg => rfl); (case hr => first | (go_simp; done) | (go_simp; rfl)); intro gb483 hg w58 hbox hb; have n0_ := A_ (Kd.V_below (Kd.V_elderB (kv_ HO0_3.out) gb483 (Nat.le_of_eq hg.symm)) hb); have n1_ := A_ (below_step (bw_ HB.out) hb); have n2_ := A_ (hbox); have n3_ := A_ ((by rw [hg]; exact (below_size (bw_ HB.out)) : w.heap.size ≤ gb483)); have n4_ := n3_; clear HO0_3; clear HB; have HO0_3 := n0_; have HB := n1_; have BK483 := n2_; have GW483 := n3_; have GE483 := n4_; have GI483 := GeI.mk GE483.out; clear n0_ n1_ n2_ n3_ n4_; clear hb hbox hg) | ((with_reducible refine gate_dst (N := 2) rfl ?_); refine box_event ?hg (N := 2) ?hd (cs := #[.int .i64 0, .int .i64 0, .string (⟨#[]⟩ : ByteArray), .slice none 0 0]) (t := 29) ?hr ?_; (case hd => rfl); (case hg => rfl); (case hr => first | (go_simp; done) | (go_simp; rfl)); intro gb484 hg w59 hbox hb; have n0_ := A_ (Kd.V_below (Kd.V_elderB (kv_ HO0_3.out) gb484 (Nat.le_of_eq hg.symm)) hb); have n1_ := A_ (blk_below (bk_ BK483.out) hb); have n2_ := A_ (below_step (bw_ HB.out) hb); have n3_ := A_ (hbox); have n4_ := A_ ((by rw [hg]; exact (below_size (bw_ HB.out)) : w.heap.size ≤ gb484)); have n5_ := n4_; have n6_ := A_ ((by rw [hg]; exact Nat.ne_of_lt (blk_lt (bk_ BK483.out)) : gb483 ≠ gb484)); have n7_ := A_ n6_.out.symm; clear HO0_3; clear BK483; clear HB; have HO0_3 := n0_; have BK483 := n1_; have HB := n2_; have BK484 := n3_; have GW484 := n4_; have GE484 := n5_; have GI484 := GeI.mk GE484.out; have NB483_484 := n6_; have NB484_483 := n7_; clear n0_ n1_ n2_ n3_ n4_ n5_ n6_ n7_; clear hb hbox hg; have hnb60 := NB483_484.out; have hnc60 := NB484_483.out; have y61_0 : w59.cell? ⟨gb483, 0, none⟩ = some (.int .i64 a0_0) := (blk_cell BK483.out 0).trans rfl; have y61_1 : w59.cell? ⟨gb483, 1, none⟩ = some (.int .i64 a0_1) := (blk_cell BK483.out 1).trans rfl; have y61_2 : w59.cell? ⟨gb483, 2, none⟩ = some (.string a0_2) := (blk_cell BK483.out 2).trans rfl; have y61_3 : w59.cell? ⟨gb483, 3, none⟩ = some (.slice A0_3 l0_3.length c0_3) := (blk_cell BK483.out 3).trans rfl; have z61_0 := blk_frozen BK483.out 0; have z61_1 := blk_frozen BK483.out 1; have z61_2 := blk_frozen BK483.out 2; have z61_3 := blk_frozen BK483.out 3) | ((with_reducible refine gate_callee (f := 71) rfl ?_); refine gL_ (some 26) Try.func71 #[.int .i64 a0_0] ?_; (with_reducible refine (impl_isTwo.calls a0_0 false _ A36.out).mono ?_); rintro e w' ⟨rfl, ⟨nd, rfl⟩⟩; refine ⟨_, rfl, ?_⟩; (try (rw [drewN_self w59]; generalize hq_ : World.drewN w59 _ = w59; have n0_ : Aside0 (Kd.V k29 29 w59 w.heap.size (fun k_ => (((P0_3_ k_ ∨ w.heap.size ≤ k_) ∧ k_ ≠ gb483) ∧ k_ ≠ gb484)) (.slice A0_3 l0_3.length c0_3) l0_3) := ⟨by rw [← hq_]; exact (kv_ HO0_3.out)⟩; have n1_ : Aside0 (w59.heap[gb483]? = some (.cells #[.int .i64 a0_0, .int .i64 a0_1, .string a0_2, .slice A0_3 l0_3.length c0_3] 29 (0, 0))) := ⟨by rw [← hq_]; exact (bk_ BK483.out)⟩; have n2_ : Aside0 (w59.heap[gb484]? = some (.cells #[.int .i64 0, .int .i64 0, .string (⟨#[]⟩ : ByteArray), .slice none 0 0] 29 (0, 0))) := ⟨by rw [← hq_]; exact (bk_ BK484.out)⟩; have n3_ : Aside0 (Below w.heap.size w w59) := ⟨by rw [← hq_]; exact (bw_ HB.out)⟩; clear HO0_3 BK483 BK484 HB hq_; have HO0_3 := n0_; have BK483 := n1_; have BK484 := n2_; have HB := n3_; clear n0_ n1_ n2_ n3_; have hcq483_0 : w59.cell? ⟨gb483, 0, none⟩ = some (.int .i64 a0_0) := (blk_cell BK483.out 0).trans rfl; have hcq483_1 : w59.cell? ⟨gb483, 1, none⟩ = some (.int .i64 a0_1) := (blk_cell BK483.out 1).trans rfl; have hcq483_2 : w59.cell? ⟨gb483, 2, none⟩ = some (.string a0_2) := (blk_cell BK483.out 2).trans rfl; have hcq483_3 : w59.cell? ⟨gb483, 3, none⟩ = some (.slice A0_3 l0_3.length c0_3) := (blk_cell BK483.out 3).trans rfl; have hcq484_0 : w59.cell? ⟨gb484, 0, none⟩ = some (.int .i64 0) := (blk_cell BK484.out 0).trans rfl; have hcq484_1 : w59.cell? ⟨gb484, 1, none⟩ = some (.int .i64 0) := (blk_cell BK484.out 1).trans rfl; have hcq484_2 : w59.cell? ⟨gb484, 2, none⟩ = some (.string (⟨#[]⟩ : ByteArray)) := (blk_cell BK484.out 2).trans rfl; have hcq484_3 : w59.cell? ⟨gb484, 3, none⟩ = some (.slice none 0 0) := (blk_cell BK484.out 3).trans rfl)); have y62_0 : w59.cell? ⟨gb484, 0, none⟩ = some (.int .i64 0) := (blk_cell BK484.out 0).trans rfl; have y62_1 : w59.cell? ⟨gb484, 1, none⟩ = some (.int .i64 0) := (blk_cell BK484.out 1).trans rfl; have y62_2 : w59.cell? ⟨gb484, 2, none⟩ = some (.string (⟨#[]⟩ : ByteArray)) := (blk_cell BK484.out 2).trans rfl; have y62_3 : w59.cell? ⟨gb484, 3, none⟩ = some (.slice none 0 0) := (blk_cell BK484.out 3).trans rfl; have z62_0 := blk_frozen BK484.out 0; have z62_1 := blk_frozen BK484.out 1; have z62_2 := blk_frozen BK484.out 2; have z62_3 := blk_frozen BK484.out 3))
   refine bodyPost_ret (results_cell_row rfl _ _ gb484 29 #[.int .i64 a0_0, .int .i64 a0_1, .string a0_2, .slice A0_3 l0_3.length c0_3] (0, 0) _ rfl ?hb_ Try.underlying29 rfl (by kernel_rfl)) rfl ?_
   (case hb_ => refine bk_ ?_; refine blk_put (cs := #[.int .i64 a0_0, .int .i64 a0_1, .string a0_2, .slice none 0 0]) ?_ 3 _ rfl; refine bk_ ?_; refine blk_put (cs := #[.int .i64 a0_0, .int .i64 a0_1, .string (⟨#[]⟩ : ByteArray), .slice none 0 0]) ?_ 2 _ rfl; refine bk_ ?_; refine blk_put (cs := #[.int .i64 a0_0, .int .i64 0, .string (⟨#[]⟩ : ByteArray), .slice none 0 0]) ?_ 1 _ rfl; refine bk_ ?_; refine blk_put (cs := #[.int .i64 0, .int .i64 0, .string (⟨#[]⟩ : ByteArray), .slice none 0 0]) ?_ 0 _ rfl; refine bk_ ?_; exact BK484.out)
   exact ⟨_, by first | rfl | (simp [errW_none, errW_some] <;> rfl) | (simp [*, errW_none, errW_some] <;> rfl), by (with_reducible repeat (first | apply Kd.V_alloc | apply Kd.V_drewN | apply Kd.V_drew)); exact Kd.V_mono (Kd.V_far (p := ⟨gb484, 3, none⟩) (Kd.V_far (p := ⟨gb484, 2, none⟩) (Kd.V_far (p := ⟨gb484, 1, none⟩) (Kd.V_far (p := ⟨gb484, 0, none⟩) (Kd.V_mono HO0_3.out (fun k_ hk => (⟨hk, hk.2⟩ : _ ∧ k_ ≠ gb484))) (fun _ hk => hk.2) (.int .i64 a0_0)) (fun _ hk => hk.2) (.int .i64 a0_1)) (fun _ hk => hk.2) (.string a0_2)) (fun _ hk => hk.2) (.slice A0_3 l0_3.length c0_3)) (fun _ hk => hk.1.1.1), bw_ HB.out⟩

/-! ### impl_Fold: function 43 -/
def impl_Fold.f (k : Nat) (a0_0 : Int) (a0_1 : Int) (a0_2 : ByteArray) (l0_3 : List (S29)) : Option (Int × Int × ByteArray × (List (S29))) := (impl_copyExpr.f k a0_0 a0_1 a0_2 l0_3).bind fun bt525 => ((impl_ExprOk.f k a0_0 a0_1 a0_2 l0_3).bind fun t532 => (if t532 = true then ((impl_fold.f k bt525.1 bt525.2.1 bt525.2.2.1 bt525.2.2.2).bind fun bt533 => (some (bt533.1, bt533.2.1, bt533.2.2.1, bt533.2.2.2))) else (some (bt525.1, bt525.2.1, bt525.2.2.1, bt525.2.2.2))))
theorem impl_Fold.mono : ∀ a0 a1 a2 a3 k, LeO (impl_Fold.f k a0 a1 a2 a3) (impl_Fold.f (k + 1) a0 a1 a2 a3) := by
 intro a0 a1 a2 a3 k
 unfold impl_Fold.f
 repeat' first
   | (with_reducible exact impl_ExprOk.mono _ _ _ _ _)
   | (with_reducible exact impl_copyExpr.mono _ _ _ _ _)
   | (with_reducible exact impl_fold.mono _ _ _ _ _)
   | (with_reducible exact LeO.refl _)
   | (with_reducible exact LeO.none _)
   | (with_reducible refine LeO.ite ?_ ?_)
   | (with_reducible refine LeO.bind ?_ (fun _ => ?_))
   | exact impl_ExprOk.mono _ _ _ _ _
   | exact impl_copyExpr.mono _ _ _ _ _
   | exact impl_fold.mono _ _ _ _ _
   | exact LeO.none _
   | refine LeO.ite ?_ ?_
   | refine LeO.bind ?_ (fun _ => ?_)
set_option maxHeartbeats 8000000 in
set_option maxRecDepth 100000 in
theorem impl_Fold.calls (k : Nat) (a0_0 : Int) (a0_1 : Int) (a0_2 : ByteArray) (A0_3 : Option Addr) (c0_3 : Nat) (l0_3 : List (S29)) (r1 : Int) (r2 : Int) (r3 : ByteArray) (r4 : List (S29)) (w : World) (hr0_3 : Kd.C k29 w A0_3 l0_3.length l0_3) (hc0_3 : l0_3.length ≤ c0_3) (h : impl_Fold.f k a0_0 a0_1 a0_2 l0_3 = some (r1, r2, r3, r4)) :
  Calls Try.prog 43 #[.agg #[.int .i64 a0_0, .int .i64 a0_1, .string a0_2, .slice A0_3 l0_3.length c0_3]] w fun e w' => ∃ v3_ : Value, e = .returned (.agg #[.int .i64 r1, .int .i64 r2, .string r3, v3_]) ∧ Kd.V k29 29 w' w.heap.size (fun k_ => (w.heap.size ≤ k_)) v3_ r4 ∧ Below w.heap.size w w' := by
 have hu29 := Try.underlying29
 have HR0_3 := A_ hr0_3
 have HC0_3 := A_ hc0_3
 clear hr0_3 hc0_3
 have HB := A_ (Below.refl w.heap.size w)
 have H : ((impl_copyExpr.f k a0_0 a0_1 a0_2 l0_3).bind fun bt525 => ((impl_ExprOk.f k a0_0 a0_1 a0_2 l0_3).bind fun t532 => (if t532 = true then ((impl_fold.f k bt525.1 bt525.2.1 bt525.2.2.1 bt525.2.2.2).bind fun bt533 => (some (bt533.1, bt533.2.1, bt533.2.2.1, bt533.2.2.2))) else (some (bt525.1, bt525.2.1, bt525.2.2.1, bt525.2.2.2))))) = some (r1, r2, r3, r4) := h
 clear h
 replace H := Option.bind_eq_some_iff.mp H
 obtain ⟨⟨t525, t526, t527, t528⟩, A20, H⟩ := H
 try dsimp only at H
 have A2 := A_ A20
 clear A20
 replace H := Option.bind_eq_some_iff.mp H
 obtain ⟨t532, A30, H⟩ := H
 try dsimp only at H
 have A3 := A_ A30
 clear A30
 by_cases c4 : t532 = true
 subst c4
 rw [if_pos rfl] at H
 replace H := Option.bind_eq_some_iff.mp H
 obtain ⟨⟨t533, t534, t535, t536⟩, A50, H⟩ := H
 try dsimp only at H
 have A5 := A_ A50
 clear A50
 simp only [Option.some.injEq, Prod.mk.injEq] at H
 obtain ⟨rfl, rfl, rfl, rfl⟩ := H
 rotate_left
 replace c4 := Bool.eq_false_iff.mpr c4
 subst c4
 rw [if_neg (show ¬ (false = true) by decide)] at H
 simp only [Option.some.injEq, Prod.mk.injEq] at H
 obtain ⟨rfl, rfl, rfl, rfl⟩ := H
 rotate_left
 all_goals go_enter Try.func43, Try.ntmps43
 all_goals go_wp2_with (first | ((with_reducible refine gate_dst (N := 1) rfl ?_); refine box_event ?hg (N := 1) ?hd (cs := #[.int .i64 a0_0, .int .i64 a0_1, .string a0_2, .slice A0_3 l0_3.length c0_3]) (t := 29) ?hr ?_; (case hd => rfl); (case hg => rfl); (case hr => first | (go_simp; done) | (go_simp; rfl)); intro gb523 hg w6 hbox hb; have n0_ := A_ (below_step (bw_ HB.out) hb); have n1_ := A_ (hbox); have n2_ := A_ ((by rw [hg]; exact (below_size (bw_ HB.out)) : w.heap.size ≤ gb523)); have n3_ := n2_; clear HB; have HB := n0_; have BK523 := n1_; have GW523 := n2_; have GE523 := n3_; have GI523 := GeI.mk GE523.out; clear n0_ n1_ n2_ n3_; clear hb hbox hg) | ((with_reducible refine gate_dst (N := 2) rfl ?_); refine box_event ?hg (N := 2) ?hd (cs := #[.int .i64 0, .int .i64 0, .string (⟨#[]⟩ : ByteArray), .slice none 0 0]) (t := 29) ?hr ?_; (case hd => rfl); (case hg => rfl); (case hr => first | (go_simp; done) | (go_simp; rfl)); intro gb524 hg w7 hbox hb; have n0_ := A_ (blk_below (bk_ BK523.out) hb); have n1_ := A_ (below_step (bw_ HB.out) hb); have n2_ := A_ (hbox); have n3_ := A_ ((by rw [hg]; exact (below_size (bw_ HB.out)) : w.heap.size ≤ gb524)); have n4_ := n3_; have n5_ := A_ ((by rw [hg]; exact Nat.ne_of_lt (blk_lt (bk_ BK523.out)) : gb523 ≠ gb524)); have n6_ := A_ n5_.out.symm; clear BK523; clear HB; have BK523 := n0_; have HB := n1_; have BK524 := n2_; have GW524 := n3_; have GE524 := n4_; have GI524 := GeI.mk GE524.out; have NB523_524 := n5_; have NB524_523 := n6_; clear n0_ n1_ n2_ n3_ n4_ n5_ n6_; clear hb hbox hg; have hnb8 := NB523_524.out; have hnc8 := NB524_523.out; have y9_0 : w7.cell? ⟨gb523, 0, none⟩ = some (.int .i64 a0_0) := (blk_cell BK523.out 0).trans rfl; have y9_1 : w7.cell? ⟨gb523, 1, none⟩ = some (.int .i64 a0_1) := (blk_cell BK523.out 1).trans rfl; have y9_2 : w7.cell? ⟨gb523, 2, none⟩ = some (.string a0_2) := (blk_cell BK523.out 2).trans rfl; have y9_3 : w7.cell? ⟨gb523, 3, none⟩ = some (.slice A0_3 l0_3.length c0_3) := (blk_cell BK523.out 3).trans rfl; have z9_0 := blk_frozen BK523.out 0; have z9_1 := blk_frozen BK523.out 1; have z9_2 := blk_frozen BK523.out 2; have z9_3 := blk_frozen BK523.out 3) | ((with_reducible refine gate_callee (f := 59) rfl ?_); refine gL_ (some 5) Try.func59 #[.agg #[.int .i64 a0_0, .int .i64 a0_1, .string a0_2, .slice A0_3 l0_3.length c0_3]] ?_; (with_reducible refine (impl_copyExpr.calls k a0_0 a0_1 a0_2 _ _ l0_3 t525 t526 t527 t528 _ ?side1 ?side2 A2.out).mono ?_); (case side1 => repeat (first | exact (Kd.C_below HR0_3.out HB.out) | (with_reducible refine Kd.C_alloc ?_ _) | (with_reducible refine Kd.C_drewN ?_ _) | (with_reducible refine Kd.C_drew ?_))); (case side2 => exact HC0_3.out); rintro e w10 ⟨v529, rfl, ho0, hb⟩; refine ⟨_, rfl, ?_⟩; have n0_ := A_ (Kd.R_lower (Kd.R_newB (Kd.R_newB (Kd.R_newM (M := fun k_ => (w.heap.size ≤ k_)) ho0 (below_size (bw_ HB.out)) (fun k_ h_ => h_)) (bk_ BK523.out)) (bk_ BK524.out)) (below_size (bw_ HB.out))); have n1_ := A_ (blk_below (bk_ BK523.out) hb); have n2_ := A_ (blk_below (bk_ BK524.out) hb); have n3_ := A_ (below_step (bw_ HB.out) hb); clear BK523; clear BK524; clear HB; have HO530 := n0_; have BK523 := n1_; have BK524 := n2_; have HB := n3_; clear n0_ n1_ n2_ n3_; (try clear hb); (try clear hb2); (try clear hk); (try clear hi); (try clear ho0)) | ((with_reducible refine gate_dst (N := 3) rfl ?_); refine box_event ?hg (N := 3) ?hd (cs := #[.int .i64 0, .int .i64 0, .string (⟨#[]⟩ : ByteArray), .slice none 0 0]) (t := 29) ?hr ?_; (case hd => rfl); (case hg => rfl); (case hr => first | (go_simp; done) | (go_simp; rfl)); intro gb531 hg w11 hbox hb; have n0_ := A_ (Kd.R_below (Kd.R_elderB (by (with_reducible repeat (first | apply Kd.R_alloc | apply Kd.R_drewN | apply Kd.R_drew)); exact HO530.out) gb531 (Nat.le_of_eq hg.symm)) hb); have n1_ := A_ (blk_below (bk_ BK523.out) hb); have n2_ := A_ (blk_below (bk_ BK524.out) hb); have n3_ := A_ (below_step (bw_ HB.out) hb); have n4_ := A_ (hbox); have n5_ := A_ ((by rw [hg]; exact (below_size (bw_ HB.out)) : w.heap.size ≤ gb531)); have n6_ := n5_; have n7_ := A_ ((by rw [hg]; exact Nat.ne_of_lt (blk_lt (bk_ BK523.out)) : gb523 ≠ gb531)); have n8_ := A_ n7_.out.symm; have n9_ := A_ ((by rw [hg]; exact Nat.ne_of_lt (blk_lt (bk_ BK524.out)) : gb524 ≠ gb531)); have n10_ := A_ n9_.out.symm; clear HO530; clear BK523; clear BK524; clear HB; have HO530 := n0_; have BK523 := n1_; have BK524 := n2_; have HB := n3_; have BK531 := n4_; have GW531 := n5_; have GE531 := n6_; have GI531 := GeI.mk GE531.out; have NB523_531 := n7_; have NB531_523 := n8_; have NB524_531 := n9_; have NB531_524 := n10_; clear n0_ n1_ n2_ n3_ n4_ n5_ n6_ n7_ n8_ n9_ n10_; clear hb hbox hg; have hnb12 := NB531_523.out; have hnc12 := NB523_531.out; have hnb13 := NB531_524.out; have hnc13 := NB524_531.out; have y14_0 : w11.cell? ⟨gb531, 0, none⟩ = some (.int .i64 0) := (blk_cell BK531.out 0).trans rfl; have y14_1 : w11.cell? ⟨gb531, 1, none⟩ = some (.int .i64 0) := (blk_cell BK531.out 1).trans rfl; have y14_2 : w11.cell? ⟨gb531, 2, none⟩ = some (.string (⟨#[]⟩ : ByteArray)) := (blk_cell BK531.out 2).trans rfl; have y14_3 : w11.cell? ⟨gb531, 3, none⟩ = some (.slice none 0 0) := (blk_cell BK531.out 3).trans rfl; have z14_0 := blk_frozen BK531.out 0; have z14_1 := blk_frozen BK531.out 1; have z14_2 := blk_frozen BK531.out 2; have z14_3 := blk_frozen BK531.out 3; obtain ⟨Ao15, co15, eo15⟩ := Kd.R_slice HO530.out; subst eo15; have y16_0 : w11.cell? ⟨gb523, 0, none⟩ = some (.int .i64 a0_0) := (blk_cell BK523.out 0).trans rfl; have y16_1 : w11.cell? ⟨gb523, 1, none⟩ = some (.int .i64 a0_1) := (blk_cell BK523.out 1).trans rfl; have y16_2 : w11.cell? ⟨gb523, 2, none⟩ = some (.string a0_2) := (blk_cell BK523.out 2).trans rfl; have y16_3 : w11.cell? ⟨gb523, 3, none⟩ = some (.slice A0_3 l0_3.length c0_3) := (blk_cell BK523.out 3).trans rfl; have z16_0 := blk_frozen BK523.out 0; have z16_1 := blk_frozen BK523.out 1; have z16_2 := blk_frozen BK523.out 2; have z16_3 := blk_frozen BK523.out 3) | ((with_reducible refine gate_callee (f := 18) rfl ?_); refine gL_ (some 7) Try.func18 #[.agg #[.int .i64 a0_0, .int .i64 a0_1, .string a0_2, .slice A0_3 l0_3.length c0_3]] ?_; (with_reducible refine (impl_ExprOk.calls k a0_0 a0_1 a0_2 _ _ l0_3 false _ ?side1 ?side2 A3.out).mono ?_); (case side1 => exact Kd.C_below HR0_3.out (bw_ HB.out)); (case side2 => exact HC0_3.out); rintro e w33 ⟨rfl, hb⟩; refine ⟨_, rfl, ?_⟩; have n0_ := A_ (Kd.R_below (by (with_reducible repeat (first | apply Kd.R_alloc | apply Kd.R_drewN | apply Kd.R_drew)); exact (Kd.R_mono (Kd.R_far (p := ⟨gb531, 3, none⟩) (Kd.R_far (p := ⟨gb531, 2, none⟩) (Kd.R_far (p := ⟨gb531, 1, none⟩) (Kd.R_far (p := ⟨gb531, 0, none⟩) (Kd.R_mono HO530.out (fun k_ hk => (⟨hk, hk.2⟩ : _ ∧ k_ ≠ gb531))) (fun _ hk => hk.2) (.int .i64 t525)) (fun _ hk => hk.2) (.int .i64 t526)) (fun _ hk => hk.2) (.string t527)) (fun _ hk => hk.2) (.slice Ao15 t528.length co15)) (fun _ h_ => h_.1))) hb); have n1_ := A_ (blk_below (g := gb523) (o := .cells #[.int .i64 a0_0, .int .i64 a0_1, .string a0_2, .slice A0_3 l0_3.length c0_3] 29 (0, 0)) (by refine bk_ ?_; refine blk_far ?_ NB523_531.out _; refine bk_ ?_; refine blk_far ?_ NB523_531.out _; refine bk_ ?_; refine blk_far ?_ NB523_531.out _; refine bk_ ?_; refine blk_far ?_ NB523_531.out _; refine bk_ ?_; exact BK523.out) hb); have n2_ := A_ (blk_below (g := gb524) (o := .cells #[.int .i64 0, .int .i64 0, .string (⟨#[]⟩ : ByteArray), .slice none 0 0] 29 (0, 0)) (by refine bk_ ?_; refine blk_far ?_ NB524_531.out _; refine bk_ ?_; refine blk_far ?_ NB524_531.out _; refine bk_ ?_; refine blk_far ?_ NB524_531.out _; refine bk_ ?_; refine blk_far ?_ NB524_531.out _; refine bk_ ?_; exact BK524.out) hb); have n3_ := A_ (blk_below (g := gb531) (o := .cells #[.int .i64 t525, .int .i64 t526, .string t527, .slice Ao15 t528.length co15] 29 (0, 0)) (by refine bk_ ?_; refine blk_put (cs := #[.int .i64 t525, .int .i64 t526, .string t527, .slice none 0 0]) ?_ 3 _ rfl; refine bk_ ?_; refine blk_put (cs := #[.int .i64 t525, .int .i64 t526, .string (⟨#[]⟩ : ByteArray), .slice none 0 0]) ?_ 2 _ rfl; refine bk_ ?_; refine blk_put (cs := #[.int .i64 t525, .int .i64 0, .string (⟨#[]⟩ : ByteArray), .slice none 0 0]) ?_ 1 _ rfl; refine bk_ ?_; refine blk_put (cs := #[.int .i64 0, .int .i64 0, .string (⟨#[]⟩ : ByteArray), .slice none 0 0]) ?_ 0 _ rfl; refine bk_ ?_; exact BK531.out) hb); have n4_ := A_ (below_step (bw_ HB.out) hb); clear HO530; clear BK523; clear BK524; clear BK531; clear HB; have HO530 := n0_; have BK523 := n1_; have BK524 := n2_; have BK531 := n3_; have HB := n4_; clear n0_ n1_ n2_ n3_ n4_; (try clear hb); (try clear hb2); (try clear hk); (try clear hi); have y34_0 : w33.cell? ⟨gb531, 0, none⟩ = some (.int .i64 t525) := (blk_cell BK531.out 0).trans rfl; have y34_1 : w33.cell? ⟨gb531, 1, none⟩ = some (.int .i64 t526) := (blk_cell BK531.out 1).trans rfl; have y34_2 : w33.cell? ⟨gb531, 2, none⟩ = some (.string t527) := (blk_cell BK531.out 2).trans rfl; have y34_3 : w33.cell? ⟨gb531, 3, none⟩ = some (.slice Ao15 t528.length co15) := (blk_cell BK531.out 3).trans rfl; have z34_0 := blk_frozen BK531.out 0; have z34_1 := blk_frozen BK531.out 1; have z34_2 := blk_frozen BK531.out 2; have z34_3 := blk_frozen BK531.out 3; have y35_0 : w33.cell? ⟨gb524, 0, none⟩ = some (.int .i64 0) := (blk_cell BK524.out 0).trans rfl; have y35_1 : w33.cell? ⟨gb524, 1, none⟩ = some (.int .i64 0) := (blk_cell BK524.out 1).trans rfl; have y35_2 : w33.cell? ⟨gb524, 2, none⟩ = some (.string (⟨#[]⟩ : ByteArray)) := (blk_cell BK524.out 2).trans rfl; have y35_3 : w33.cell? ⟨gb524, 3, none⟩ = some (.slice none 0 0) := (blk_cell BK524.out 3).trans rfl; have z35_0 := blk_frozen BK524.out 0; have z35_1 := blk_frozen BK524.out 1; have z35_2 := blk_frozen BK524.out 2; have z35_3 := blk_frozen BK524.out 3) | ((with_reducible refine gate_callee (f := 18) rfl ?_); refine gL_ (some 7) Try.func18 #[.agg #[.int .i64 a0_0, .int .i64 a0_1, .string a0_2, .slice A0_3 l0_3.length c0_3]] ?_; (with_reducible refine (impl_ExprOk.calls k a0_0 a0_1 a0_2 _ _ l0_3 true _ ?side1 ?side2 A3.out).mono ?_); (case side1 => exact Kd.C_below HR0_3.out (bw_ HB.out)); (case side2 => exact HC0_3.out); rintro e w17 ⟨rfl, hb⟩; refine ⟨_, rfl, ?_⟩; have n0_ := A_ (Kd.R_below (by (with_reducible repeat (first | apply Kd.R_alloc | apply Kd.R_drewN | apply Kd.R_drew)); exact (Kd.R_mono (Kd.R_far (p := ⟨gb531, 3, none⟩) (Kd.R_far (p := ⟨gb531, 2, none⟩) (Kd.R_far (p := ⟨gb531, 1, none⟩) (Kd.R_far (p := ⟨gb531, 0, none⟩) (Kd.R_mono HO530.out (fun k_ hk => (⟨hk, hk.2⟩ : _ ∧ k_ ≠ gb531))) (fun _ hk => hk.2) (.int .i64 t525)) (fun _ hk => hk.2) (.int .i64 t526)) (fun _ hk => hk.2) (.string t527)) (fun _ hk => hk.2) (.slice Ao15 t528.length co15)) (fun _ h_ => h_.1))) hb); have n1_ := A_ (blk_below (g := gb523) (o := .cells #[.int .i64 a0_0, .int .i64 a0_1, .string a0_2, .slice A0_3 l0_3.length c0_3] 29 (0, 0)) (by refine bk_ ?_; refine blk_far ?_ NB523_531.out _; refine bk_ ?_; refine blk_far ?_ NB523_531.out _; refine bk_ ?_; refine blk_far ?_ NB523_531.out _; refine bk_ ?_; refine blk_far ?_ NB523_531.out _; refine bk_ ?_; exact BK523.out) hb); have n2_ := A_ (blk_below (g := gb524) (o := .cells #[.int .i64 0, .int .i64 0, .string (⟨#[]⟩ : ByteArray), .slice none 0 0] 29 (0, 0)) (by refine bk_ ?_; refine blk_far ?_ NB524_531.out _; refine bk_ ?_; refine blk_far ?_ NB524_531.out _; refine bk_ ?_; refine blk_far ?_ NB524_531.out _; refine bk_ ?_; refine blk_far ?_ NB524_531.out _; refine bk_ ?_; exact BK524.out) hb); have n3_ := A_ (blk_below (g := gb531) (o := .cells #[.int .i64 t525, .int .i64 t526, .string t527, .slice Ao15 t528.length co15] 29 (0, 0)) (by refine bk_ ?_; refine blk_put (cs := #[.int .i64 t525, .int .i64 t526, .string t527, .slice none 0 0]) ?_ 3 _ rfl; refine bk_ ?_; refine blk_put (cs := #[.int .i64 t525, .int .i64 t526, .string (⟨#[]⟩ : ByteArray), .slice none 0 0]) ?_ 2 _ rfl; refine bk_ ?_; refine blk_put (cs := #[.int .i64 t525, .int .i64 0, .string (⟨#[]⟩ : ByteArray), .slice none 0 0]) ?_ 1 _ rfl; refine bk_ ?_; refine blk_put (cs := #[.int .i64 0, .int .i64 0, .string (⟨#[]⟩ : ByteArray), .slice none 0 0]) ?_ 0 _ rfl; refine bk_ ?_; exact BK531.out) hb); have n4_ := A_ (below_step (bw_ HB.out) hb); clear HO530; clear BK523; clear BK524; clear BK531; clear HB; have HO530 := n0_; have BK523 := n1_; have BK524 := n2_; have BK531 := n3_; have HB := n4_; clear n0_ n1_ n2_ n3_ n4_; (try clear hb); (try clear hb2); (try clear hk); (try clear hi); have y18_0 : w17.cell? ⟨gb531, 0, none⟩ = some (.int .i64 t525) := (blk_cell BK531.out 0).trans rfl; have y18_1 : w17.cell? ⟨gb531, 1, none⟩ = some (.int .i64 t526) := (blk_cell BK531.out 1).trans rfl; have y18_2 : w17.cell? ⟨gb531, 2, none⟩ = some (.string t527) := (blk_cell BK531.out 2).trans rfl; have y18_3 : w17.cell? ⟨gb531, 3, none⟩ = some (.slice Ao15 t528.length co15) := (blk_cell BK531.out 3).trans rfl; have z18_0 := blk_frozen BK531.out 0; have z18_1 := blk_frozen BK531.out 1; have z18_2 := blk_frozen BK531.out 2; have z18_3 := blk_frozen BK531.out 3) | ((with_reducible refine gate_callee (f := 60) rfl ?_); refine gL_ (some 11) Try.func60 #[.agg #[.int .i64 t525, .int .i64 t526, .string t527, .slice Ao15 t528.length co15]] ?_; (with_reducible refine (impl_fold.calls k t525 t526 t527 (fun k_ => (((((w.heap.size ≤ k_) ∧ True) ∧ k_ ≠ gb523) ∧ k_ ≠ gb524) ∧ k_ ≠ gb531)) _ _ t528 t533 t534 t535 t536 _ ?side1 A5.out).mono ?_); (case side1 => exact Kd.R_V (HO530.out)); rintro e w19 ⟨v537, rfl, ho0, hb⟩; refine ⟨_, rfl, ?_⟩; have n0_ := A_ (Kd.R_below (by (with_reducible repeat (first | apply Kd.R_alloc | apply Kd.R_drewN | apply Kd.R_drew)); exact HO530.out) hb); have n1_ := A_ (Kd.V_lower (Kd.V_mono (ok' := fun k_ => (w.heap.size ≤ k_) ∧ k_ ≠ gb523 ∧ k_ ≠ gb524 ∧ k_ ≠ gb531) ho0 (fun k_ hk_ => ⟨Or.elim hk_ (fun hs_ => hs_.1.1.1.1) (fun hn_ => (Nat.le_trans (below_size (bw_ HB.out)) hn_)), Or.elim hk_ (fun hs_ => hs_.1.1.2) (fun hn_ => (Kd.freshB (bk_ BK523.out) k_ hn_)), Or.elim hk_ (fun hs_ => hs_.1.2) (fun hn_ => (Kd.freshB (bk_ BK524.out) k_ hn_)), Or.elim hk_ (fun hs_ => hs_.2) (fun hn_ => (Kd.freshB (bk_ BK531.out) k_ hn_))⟩)) (below_size (bw_ HB.out))); have n2_ := A_ (blk_below (bk_ BK523.out) hb); have n3_ := A_ (blk_below (bk_ BK524.out) hb); have n4_ := A_ (blk_below (bk_ BK531.out) hb); have n5_ := A_ (below_step (bw_ HB.out) hb); clear HO530; clear BK523; clear BK524; clear BK531; clear HB; have HO530 := n0_; have HO538 := n1_; have BK523 := n2_; have BK524 := n3_; have BK531 := n4_; have HB := n5_; clear n0_ n1_ n2_ n3_ n4_ n5_; (try clear hb); (try clear hb2); (try clear hk); (try clear hi); (try clear ho0); have y20_0 : w19.cell? ⟨gb524, 0, none⟩ = some (.int .i64 0) := (blk_cell BK524.out 0).trans rfl; have y20_1 : w19.cell? ⟨gb524, 1, none⟩ = some (.int .i64 0) := (blk_cell BK524.out 1).trans rfl; have y20_2 : w19.cell? ⟨gb524, 2, none⟩ = some (.string (⟨#[]⟩ : ByteArray)) := (blk_cell BK524.out 2).trans rfl; have y20_3 : w19.cell? ⟨gb524, 3, none⟩ = some (.slice none 0 0) := (blk_cell BK524.out 3).trans rfl; have z20_0 := blk_frozen BK524.out 0; have z20_1 := blk_frozen BK524.out 1; have z20_2 := blk_frozen BK524.out 2; have z20_3 := blk_frozen BK524.out 3; obtain ⟨Ao21, co21, eo21⟩ := Kd.V_slice HO538.out; subst eo21))
 ·refine bodyPost_ret (results_cell_row rfl _ _ gb524 29 #[.int .i64 t533, .int .i64 t534, .string t535, .slice Ao21 t536.length co21] (0, 0) _ rfl ?hb_ Try.underlying29 rfl (by kernel_rfl)) rfl ?_
  (case hb_ => refine bk_ ?_; refine blk_put (cs := #[.int .i64 t533, .int .i64 t534, .string t535, .slice none 0 0]) ?_ 3 _ rfl; refine bk_ ?_; refine blk_put (cs := #[.int .i64 t533, .int .i64 t534, .string (⟨#[]⟩ : ByteArray), .slice none 0 0]) ?_ 2 _ rfl; refine bk_ ?_; refine blk_put (cs := #[.int .i64 t533, .int .i64 0, .string (⟨#[]⟩ : ByteArray), .slice none 0 0]) ?_ 1 _ rfl; refine bk_ ?_; refine blk_put (cs := #[.int .i64 0, .int .i64 0, .string (⟨#[]⟩ : ByteArray), .slice none 0 0]) ?_ 0 _ rfl; refine bk_ ?_; exact BK524.out)
  exact ⟨_, by first | rfl | (simp [errW_none, errW_some] <;> rfl) | (simp [*, errW_none, errW_some] <;> rfl), by (with_reducible repeat (first | apply Kd.V_alloc | apply Kd.V_drewN | apply Kd.V_drew)); exact Kd.V_mono (Kd.V_far (p := ⟨gb524, 3, none⟩) (Kd.V_far (p := ⟨gb524, 2, none⟩) (Kd.V_far (p := ⟨gb524, 1, none⟩) (Kd.V_far (p := ⟨gb524, 0, none⟩) (Kd.V_mono HO538.out (fun k_ hk => (⟨hk, hk.2.2.1⟩ : _ ∧ k_ ≠ gb524))) (fun _ hk => hk.2) (.int .i64 t533)) (fun _ hk => hk.2) (.int .i64 t534)) (fun _ hk => hk.2) (.string t535)) (fun _ hk => hk.2) (.slice Ao21 t536.length co21)) (fun _ hk => hk.1.1), bw_ HB.out⟩
 ·refine bodyPost_ret (results_cell_row rfl _ _ gb524 29 #[.int .i64 t525, .int .i64 t526, .string t527, .slice Ao15 t528.length co15] (0, 0) _ rfl ?hb_ Try.underlying29 rfl (by kernel_rfl)) rfl ?_
  (case hb_ => refine bk_ ?_; refine blk_put (cs := #[.int .i64 t525, .int .i64 t526, .string t527, .slice none 0 0]) ?_ 3 _ rfl; refine bk_ ?_; refine blk_put (cs := #[.int .i64 t525, .int .i64 t526, .string (⟨#[]⟩ : ByteArray), .slice none 0 0]) ?_ 2 _ rfl; refine bk_ ?_; refine blk_put (cs := #[.int .i64 t525, .int .i64 0, .string (⟨#[]⟩ : ByteArray), .slice none 0 0]) ?_ 1 _ rfl; refine bk_ ?_; refine blk_put (cs := #[.int .i64 0, .int .i64 0, .string (⟨#[]⟩ : ByteArray), .slice none 0 0]) ?_ 0 _ rfl; refine bk_ ?_; exact BK524.out)
  exact ⟨_, by first | rfl | (simp [errW_none, errW_some] <;> rfl) | (simp [*, errW_none, errW_some] <;> rfl), Kd.R_V (by (with_reducible repeat (first | apply Kd.R_alloc | apply Kd.R_drewN | apply Kd.R_drew)); exact Kd.R_mono (Kd.R_far (p := ⟨gb524, 3, none⟩) (Kd.R_far (p := ⟨gb524, 2, none⟩) (Kd.R_far (p := ⟨gb524, 1, none⟩) (Kd.R_far (p := ⟨gb524, 0, none⟩) (Kd.R_mono HO530.out (fun k_ hk => (⟨hk, hk.1.2⟩ : _ ∧ k_ ≠ gb524))) (fun _ hk => hk.2) (.int .i64 t525)) (fun _ hk => hk.2) (.int .i64 t526)) (fun _ hk => hk.2) (.string t527)) (fun _ hk => hk.2) (.slice Ao15 t528.length co15)) (fun _ hk => hk.1.1.1.1.1)), bw_ HB.out⟩

/-! ### impl_Known: function 41 -/
def impl_Known.f (k : Nat) (a0_0 : Int) (a0_1 : Int) (a0_2 : ByteArray) (l0_3 : List (S29)) : Option (Int × Bool) := (impl_Fold.f k a0_0 a0_1 a0_2 l0_3).bind fun bt540 => (if bt540.1 = 1 then ((impl_ExprOk.f k a0_0 a0_1 a0_2 l0_3).bind fun t547 => (if t547 = true then (some (bt540.2.1, true)) else (some (0, false)))) else (some (0, false)))
theorem impl_Known.mono : ∀ a0 a1 a2 a3 k, LeO (impl_Known.f k a0 a1 a2 a3) (impl_Known.f (k + 1) a0 a1 a2 a3) := by
 intro a0 a1 a2 a3 k
 unfold impl_Known.f
 repeat' first
   | (with_reducible exact impl_ExprOk.mono _ _ _ _ _)
   | (with_reducible exact impl_Fold.mono _ _ _ _ _)
   | (with_reducible exact LeO.refl _)
   | (with_reducible exact LeO.none _)
   | (with_reducible refine LeO.ite ?_ ?_)
   | (with_reducible refine LeO.bind ?_ (fun _ => ?_))
   | exact impl_ExprOk.mono _ _ _ _ _
   | exact impl_Fold.mono _ _ _ _ _
   | exact LeO.none _
   | refine LeO.ite ?_ ?_
   | refine LeO.bind ?_ (fun _ => ?_)
set_option maxHeartbeats 8000000 in
set_option maxRecDepth 100000 in
theorem impl_Known.calls (k : Nat) (a0_0 : Int) (a0_1 : Int) (a0_2 : ByteArray) (A0_3 : Option Addr) (c0_3 : Nat) (l0_3 : List (S29)) (r1 : Int) (r2 : Bool) (w : World) (hr0_3 : Kd.C k29 w A0_3 l0_3.length l0_3) (hc0_3 : l0_3.length ≤ c0_3) (h : impl_Known.f k a0_0 a0_1 a0_2 l0_3 = some (r1, r2)) :
  Calls Try.prog 41 #[.agg #[.int .i64 a0_0, .int .i64 a0_1, .string a0_2, .slice A0_3 l0_3.length c0_3]] w fun e w' => e = .returned (.tuple #[.int .i64 r1, .bool r2]) ∧ Below w.heap.size w w' := by
 have hu29 := Try.underlying29
 have HR0_3 := A_ hr0_3
 have HC0_3 := A_ hc0_3
 clear hr0_3 hc0_3
 have HB := A_ (Below.refl w.heap.size w)
 have H : ((impl_Fold.f k a0_0 a0_1 a0_2 l0_3).bind fun bt540 => (if bt540.1 = 1 then ((impl_ExprOk.f k a0_0 a0_1 a0_2 l0_3).bind fun t547 => (if t547 = true then (some (bt540.2.1, true)) else (some (0, false)))) else (some (0, false)))) = some (r1, r2) := h
 clear h
 replace H := Option.bind_eq_some_iff.mp H
 obtain ⟨⟨t540, t541, t542, t543⟩, A20, H⟩ := H
 try dsimp only at H
 have A2 := A_ A20
 clear A20
 by_cases c3 : t540 = 1
 rw [if_pos c3] at H
 have c3b0 := beq_iff_eq.mpr c3
 have c3b1 := bne_eq_false_iff_eq.mpr c3
 clear c3
 replace H := Option.bind_eq_some_iff.mp H
 obtain ⟨t547, A40, H⟩ := H
 try dsimp only at H
 have A4 := A_ A40
 clear A40
 by_cases c5 : t547 = true
 subst c5
 rw [if_pos rfl] at H
 simp only [Option.some.injEq, Prod.mk.injEq] at H
 obtain ⟨rfl, rfl⟩ := H
 rotate_left
 replace c5 := Bool.eq_false_iff.mpr c5
 subst c5
 rw [if_neg (show ¬ (false = true) by decide)] at H
 simp only [Option.some.injEq, Prod.mk.injEq] at H
 obtain ⟨rfl, rfl⟩ := H
 rotate_left
 rw [if_neg c3] at H
 have c3b0 := beq_eq_false_iff_ne.mpr c3
 have c3b1 := bne_iff_ne.mpr c3
 simp only [Option.some.injEq, Prod.mk.injEq] at H
 obtain ⟨rfl, rfl⟩ := H
 rotate_left
 all_goals go_enter Try.func41, Try.ntmps41
 all_goals go_wp2_with (first | ((with_reducible refine gate_dst (N := 1) rfl ?_); refine box_event ?hg (N := 1) ?hd (cs := #[.int .i64 a0_0, .int .i64 a0_1, .string a0_2, .slice A0_3 l0_3.length c0_3]) (t := 29) ?hr ?_; (case hd => rfl); (case hg => rfl); (case hr => first | (go_simp; done) | (go_simp; rfl)); intro gb539 hg w6 hbox hb; have n0_ := A_ (below_step (bw_ HB.out) hb); have n1_ := A_ (hbox); have n2_ := A_ ((by rw [hg]; exact (below_size (bw_ HB.out)) : w.heap.size ≤ gb539)); have n3_ := n2_; clear HB; have HB := n0_; have BK539 := n1_; have GW539 := n2_; have GE539 := n3_; have GI539 := GeI.mk GE539.out; clear n0_ n1_ n2_ n3_; clear hb hbox hg; have y7_0 : w6.cell? ⟨gb539, 0, none⟩ = some (.int .i64 a0_0) := (blk_cell BK539.out 0).trans rfl; have y7_1 : w6.cell? ⟨gb539, 1, none⟩ = some (.int .i64 a0_1) := (blk_cell BK539.out 1).trans rfl; have y7_2 : w6.cell? ⟨gb539, 2, none⟩ = some (.string a0_2) := (blk_cell BK539.out 2).trans rfl; have y7_3 : w6.cell? ⟨gb539, 3, none⟩ = some (.slice A0_3 l0_3.length c0_3) := (blk_cell BK539.out 3).trans rfl; have z7_0 := blk_frozen BK539.out 0; have z7_1 := blk_frozen BK539.out 1; have z7_2 := blk_frozen BK539.out 2; have z7_3 := blk_frozen BK539.out 3) | ((with_reducible refine gate_callee (f := 43) rfl ?_); refine gL_ (some 6) Try.func43 #[.agg #[.int .i64 a0_0, .int .i64 a0_1, .string a0_2, .slice A0_3 l0_3.length c0_3]] ?_; (with_reducible refine (impl_Fold.calls k a0_0 a0_1 a0_2 _ _ l0_3 t540 t541 t542 t543 _ ?side1 ?side2 A2.out).mono ?_); (case side1 => repeat (first | exact (Kd.C_below HR0_3.out HB.out) | (with_reducible refine Kd.C_alloc ?_ _) | (with_reducible refine Kd.C_drewN ?_ _) | (with_reducible refine Kd.C_drew ?_))); (case side2 => exact HC0_3.out); rintro e w8 ⟨v544, rfl, ho0, hb⟩; refine ⟨_, rfl, ?_⟩; have n0_ := A_ (Kd.V_lower (Kd.V_mono (ok' := fun k_ => k_ ≠ gb539) ho0 (fun k_ hk_ => (Kd.freshB (bk_ BK539.out) k_ hk_))) (below_size (bw_ HB.out))); have n1_ := A_ (blk_below (bk_ BK539.out) hb); have n2_ := A_ (below_step (bw_ HB.out) hb); clear BK539; clear HB; have HO545 := n0_; have BK539 := n1_; have HB := n2_; clear n0_ n1_ n2_; (try clear hb); (try clear hb2); (try clear hk); (try clear hi); (try clear ho0)) | ((with_reducible refine gate_dst (N := 4) rfl ?_); refine box_event ?hg (N := 4) ?hd (cs := #[.int .i64 0, .int .i64 0, .string (⟨#[]⟩ : ByteArray), .slice none 0 0]) (t := 29) ?hr ?_; (case hd => rfl); (case hg => rfl); (case hr => first | (go_simp; done) | (go_simp; rfl)); intro gb546 hg w9 hbox hb; have n0_ := A_ (Kd.V_below (Kd.V_elderB (kv_ HO545.out) gb546 (Nat.le_of_eq hg.symm)) hb); have n1_ := A_ (blk_below (bk_ BK539.out) hb); have n2_ := A_ (below_step (bw_ HB.out) hb); have n3_ := A_ (hbox); have n4_ := A_ ((by rw [hg]; exact (below_size (bw_ HB.out)) : w.heap.size ≤ gb546)); have n5_ := n4_; have n6_ := A_ ((by rw [hg]; exact Nat.ne_of_lt (blk_lt (bk_ BK539.out)) : gb539 ≠ gb546)); have n7_ := A_ n6_.out.symm; clear HO545; clear BK539; clear HB; have HO545 := n0_; have BK539 := n1_; have HB := n2_; have BK546 := n3_; have GW546 := n4_; have GE546 := n5_; have GI546 := GeI.mk GE546.out; have NB539_546 := n6_; have NB546_539 := n7_; clear n0_ n1_ n2_ n3_ n4_ n5_ n6_ n7_; clear hb hbox hg; have hnb10 := NB546_539.out; have hnc10 := NB539_546.out; have y11_0 : w9.cell? ⟨gb546, 0, none⟩ = some (.int .i64 0) := (blk_cell BK546.out 0).trans rfl; have y11_1 : w9.cell? ⟨gb546, 1, none⟩ = some (.int .i64 0) := (blk_cell BK546.out 1).trans rfl; have y11_2 : w9.cell? ⟨gb546, 2, none⟩ = some (.string (⟨#[]⟩ : ByteArray)) := (blk_cell BK546.out 2).trans rfl; have y11_3 : w9.cell? ⟨gb546, 3, none⟩ = some (.slice none 0 0) := (blk_cell BK546.out 3).trans rfl; have z11_0 := blk_frozen BK546.out 0; have z11_1 := blk_frozen BK546.out 1; have z11_2 := blk_frozen BK546.out 2; have z11_3 := blk_frozen BK546.out 3; obtain ⟨Ao12, co12, eo12⟩ := Kd.V_slice HO545.out; subst eo12; have y13_0 : w9.cell? ⟨gb539, 0, none⟩ = some (.int .i64 a0_0) := (blk_cell BK539.out 0).trans rfl; have y13_1 : w9.cell? ⟨gb539, 1, none⟩ = some (.int .i64 a0_1) := (blk_cell BK539.out 1).trans rfl; have y13_2 : w9.cell? ⟨gb539, 2, none⟩ = some (.string a0_2) := (blk_cell BK539.out 2).trans rfl; have y13_3 : w9.cell? ⟨gb539, 3, none⟩ = some (.slice A0_3 l0_3.length c0_3) := (blk_cell BK539.out 3).trans rfl; have z13_0 := blk_frozen BK539.out 0; have z13_1 := blk_frozen BK539.out 1; have z13_2 := blk_frozen BK539.out 2; have z13_3 := blk_frozen BK539.out 3) | (go_at_call 18; (with_reducible refine (impl_ExprOk.calls k a0_0 a0_1 a0_2 _ _ l0_3 true _ ?side1 ?side2 A4.out).mono ?_); (case side1 => exact Kd.C_below HR0_3.out (bw_ HB.out)); (case side2 => exact HC0_3.out); rintro e w14 ⟨rfl, hb⟩; have n0_ := A_ (Kd.V_below (by (with_reducible repeat (first | apply Kd.V_alloc | apply Kd.V_drewN | apply Kd.V_drew)); exact (Kd.V_mono (Kd.V_far (p := ⟨gb546, 3, none⟩) (Kd.V_far (p := ⟨gb546, 2, none⟩) (Kd.V_far (p := ⟨gb546, 1, none⟩) (Kd.V_far (p := ⟨gb546, 0, none⟩) (Kd.V_mono HO545.out (fun k_ hk => (⟨hk, hk.2⟩ : _ ∧ k_ ≠ gb546))) (fun _ hk => hk.2) (.int .i64 t540)) (fun _ hk => hk.2) (.int .i64 t541)) (fun _ hk => hk.2) (.string t542)) (fun _ hk => hk.2) (.slice Ao12 t543.length co12)) (fun _ h_ => h_.1))) hb); have n1_ := A_ (blk_below (g := gb539) (o := .cells #[.int .i64 a0_0, .int .i64 a0_1, .string a0_2, .slice A0_3 l0_3.length c0_3] 29 (0, 0)) (by refine bk_ ?_; refine blk_far ?_ NB539_546.out _; refine bk_ ?_; refine blk_far ?_ NB539_546.out _; refine bk_ ?_; refine blk_far ?_ NB539_546.out _; refine bk_ ?_; refine blk_far ?_ NB539_546.out _; refine bk_ ?_; exact BK539.out) hb); have n2_ := A_ (blk_below (g := gb546) (o := .cells #[.int .i64 t540, .int .i64 t541, .string t542, .slice Ao12 t543.length co12] 29 (0, 0)) (by refine bk_ ?_; refine blk_put (cs := #[.int .i64 t540, .int .i64 t541, .string t542, .slice none 0 0]) ?_ 3 _ rfl; refine bk_ ?_; refine blk_put (cs := #[.int .i64 t540, .int .i64 t541, .string (⟨#[]⟩ : ByteArray), .slice none 0 0]) ?_ 2 _ rfl; refine bk_ ?_; refine blk_put (cs := #[.int .i64 t540, .int .i64 0, .string (⟨#[]⟩ : ByteArray), .slice none 0 0]) ?_ 1 _ rfl; refine bk_ ?_; refine blk_put (cs := #[.int .i64 0, .int .i64 0, .string (⟨#[]⟩ : ByteArray), .slice none 0 0]) ?_ 0 _ rfl; refine bk_ ?_; exact BK546.out) hb); have n3_ := A_ (below_step (bw_ HB.out) hb); clear HO545; clear BK539; clear BK546; clear HB; have HO545 := n0_; have BK539 := n1_; have BK546 := n2_; have HB := n3_; clear n0_ n1_ n2_ n3_; (try clear hb); (try clear hb2); (try clear hk); (try clear hi); have y15_0 : w14.cell? ⟨gb546, 0, none⟩ = some (.int .i64 t540) := (blk_cell BK546.out 0).trans rfl; have y15_1 : w14.cell? ⟨gb546, 1, none⟩ = some (.int .i64 t541) := (blk_cell BK546.out 1).trans rfl; have y15_2 : w14.cell? ⟨gb546, 2, none⟩ = some (.string t542) := (blk_cell BK546.out 2).trans rfl; have y15_3 : w14.cell? ⟨gb546, 3, none⟩ = some (.slice Ao12 t543.length co12) := (blk_cell BK546.out 3).trans rfl; have z15_0 := blk_frozen BK546.out 0; have z15_1 := blk_frozen BK546.out 1; have z15_2 := blk_frozen BK546.out 2; have z15_3 := blk_frozen BK546.out 3) | (go_at_call 18; (with_reducible refine (impl_ExprOk.calls k a0_0 a0_1 a0_2 _ _ l0_3 false _ ?side1 ?side2 A4.out).mono ?_); (case side1 => exact Kd.C_below HR0_3.out (bw_ HB.out)); (case side2 => exact HC0_3.out); rintro e w24 ⟨rfl, hb⟩; have n0_ := A_ (Kd.V_below (by (with_reducible repeat (first | apply Kd.V_alloc | apply Kd.V_drewN | apply Kd.V_drew)); exact (Kd.V_mono (Kd.V_far (p := ⟨gb546, 3, none⟩) (Kd.V_far (p := ⟨gb546, 2, none⟩) (Kd.V_far (p := ⟨gb546, 1, none⟩) (Kd.V_far (p := ⟨gb546, 0, none⟩) (Kd.V_mono HO545.out (fun k_ hk => (⟨hk, hk.2⟩ : _ ∧ k_ ≠ gb546))) (fun _ hk => hk.2) (.int .i64 t540)) (fun _ hk => hk.2) (.int .i64 t541)) (fun _ hk => hk.2) (.string t542)) (fun _ hk => hk.2) (.slice Ao12 t543.length co12)) (fun _ h_ => h_.1))) hb); have n1_ := A_ (blk_below (g := gb539) (o := .cells #[.int .i64 a0_0, .int .i64 a0_1, .string a0_2, .slice A0_3 l0_3.length c0_3] 29 (0, 0)) (by refine bk_ ?_; refine blk_far ?_ NB539_546.out _; refine bk_ ?_; refine blk_far ?_ NB539_546.out _; refine bk_ ?_; refine blk_far ?_ NB539_546.out _; refine bk_ ?_; refine blk_far ?_ NB539_546.out _; refine bk_ ?_; exact BK539.out) hb); have n2_ := A_ (blk_below (g := gb546) (o := .cells #[.int .i64 t540, .int .i64 t541, .string t542, .slice Ao12 t543.length co12] 29 (0, 0)) (by refine bk_ ?_; refine blk_put (cs := #[.int .i64 t540, .int .i64 t541, .string t542, .slice none 0 0]) ?_ 3 _ rfl; refine bk_ ?_; refine blk_put (cs := #[.int .i64 t540, .int .i64 t541, .string (⟨#[]⟩ : ByteArray), .slice none 0 0]) ?_ 2 _ rfl; refine bk_ ?_; refine blk_put (cs := #[.int .i64 t540, .int .i64 0, .string (⟨#[]⟩ : ByteArray), .slice none 0 0]) ?_ 1 _ rfl; refine bk_ ?_; refine blk_put (cs := #[.int .i64 0, .int .i64 0, .string (⟨#[]⟩ : ByteArray), .slice none 0 0]) ?_ 0 _ rfl; refine bk_ ?_; exact BK546.out) hb); have n3_ := A_ (below_step (bw_ HB.out) hb); clear HO545; clear BK539; clear BK546; clear HB; have HO545 := n0_; have BK539 := n1_; have BK546 := n2_; have HB := n3_; clear n0_ n1_ n2_ n3_; (try clear hb); (try clear hb2); (try clear hk); (try clear hi)) | ((with_reducible refine gate_dst (N := 4) rfl ?_); refine box_event ?hg (N := 4) ?hd (cs := #[.int .i64 0, .int .i64 0, .string (⟨#[]⟩ : ByteArray), .slice none 0 0]) (t := 29) ?hr ?_; (case hd => rfl); (case hg => rfl); (case hr => first | (go_simp; done) | (go_simp; rfl)); intro gb546 hg w28 hbox hb; have n0_ := A_ (Kd.V_below (Kd.V_elderB (kv_ HO545.out) gb546 (Nat.le_of_eq hg.symm)) hb); have n1_ := A_ (blk_below (bk_ BK539.out) hb); have n2_ := A_ (below_step (bw_ HB.out) hb); have n3_ := A_ (hbox); have n4_ := A_ ((by rw [hg]; exact (below_size (bw_ HB.out)) : w.heap.size ≤ gb546)); have n5_ := n4_; have n6_ := A_ ((by rw [hg]; exact Nat.ne_of_lt (blk_lt (bk_ BK539.out)) : gb539 ≠ gb546)); have n7_ := A_ n6_.out.symm; clear HO545; clear BK539; clear HB; have HO545 := n0_; have BK539 := n1_; have HB := n2_; have BK546 := n3_; have GW546 := n4_; have GE546 := n5_; have GI546 := GeI.mk GE546.out; have NB539_546 := n6_; have NB546_539 := n7_; clear n0_ n1_ n2_ n3_ n4_ n5_ n6_ n7_; clear hb hbox hg; have hnb29 := NB546_539.out; have hnc29 := NB539_546.out; have y30_0 : w28.cell? ⟨gb546, 0, none⟩ = some (.int .i64 0) := (blk_cell BK546.out 0).trans rfl; have y30_1 : w28.cell? ⟨gb546, 1, none⟩ = some (.int .i64 0) := (blk_cell BK546.out 1).trans rfl; have y30_2 : w28.cell? ⟨gb546, 2, none⟩ = some (.string (⟨#[]⟩ : ByteArray)) := (blk_cell BK546.out 2).trans rfl; have y30_3 : w28.cell? ⟨gb546, 3, none⟩ = some (.slice none 0 0) := (blk_cell BK546.out 3).trans rfl; have z30_0 := blk_frozen BK546.out 0; have z30_1 := blk_frozen BK546.out 1; have z30_2 := blk_frozen BK546.out 2; have z30_3 := blk_frozen BK546.out 3; obtain ⟨Ao31, co31, eo31⟩ := Kd.V_slice HO545.out; subst eo31))
 ·go_ret2
  exact rt_ (bw_ HB.out)
 ·go_ret2
  exact rt_ (bw_ HB.out)
 ·go_ret2
  exact rt_ (bw_ HB.out)

end Go.Proofs.Ytcpnhlhigpgonaa.PFnExactKnown
