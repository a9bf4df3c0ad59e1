-- Laid by a program of this session (a changed copy of the kit's printer); Lean checks every line.
import Derived.Test.YtiagbfilffbljaaPFnMachsBentx0
import Derived.Test.YtiagbfilffbljaaPFnMachsBentx2
import Derived.Test.YtiagbfilffbljaaPFnMachsBentx4
namespace Go.Proofs.Ytiagbfilffbljaa.PFnMachsBent
open Go.RowKit Go.Proofs.YtiagbfilffbljaaW.PrintWords Go.Proofs.YtiagbfilffbljaaW.PrintLast Go.Proofs.YtiagbfilffbljaaW.PrintMore
attribute [local go_sem] max2_int min2_int max_two min_two max_three min_three max_four min_four   -- for this text's walks alone
set_option linter.unusedVariables false
set_option linter.unusedSimpArgs false

/-! ### impl_WriteW: function 35 -/
def impl_WriteW.f (l0_0 : List Int) (l0_1 : List Int) (a0_2 : Bool) (a0_3 : Bool) (a0_4 : Bool) (a0_5 : Bool) (l0_6 : List Int) (l0_7 : List Int) (a0_8 : Int) (a1 : Int) (a2 : Int) : Option (List Int × List Int × Bool × Bool × Bool × Bool × List Int × List Int × Int × Bool) := (impl_copyMach.f l0_0 l0_1 a0_2 a0_3 a0_4 a0_5 l0_6 l0_7 a0_8).bind fun bt204 => ((impl_isAddr.f a1).bind fun t222 => (if t222 = true then (if (wrap64 (Int.tdiv a1 2)) ≥ (l0_0.length : Int) then (some (bt204.1, bt204.2.1, bt204.2.2.1, bt204.2.2.2.1, bt204.2.2.2.2.1, bt204.2.2.2.2.2.1, bt204.2.2.2.2.2.2.1, bt204.2.2.2.2.2.2.2.1, bt204.2.2.2.2.2.2.2.2, false)) else ((impl_Wrap.f a2).bind fun t223 => (if 0 ≤ (wrap64 (Int.tdiv a1 2)) then (if (wrap64 (Int.tdiv a1 2)) < (bt204.1.length : Int) then (some ((bt204.1.set ((wrap64 (Int.tdiv a1 2)) : Int).toNat t223), bt204.2.1, bt204.2.2.1, bt204.2.2.2.1, bt204.2.2.2.2.1, bt204.2.2.2.2.2.1, bt204.2.2.2.2.2.2.1, bt204.2.2.2.2.2.2.2.1, bt204.2.2.2.2.2.2.2.2, true)) else (none)) else (none)))) else (some (bt204.1, bt204.2.1, bt204.2.2.1, bt204.2.2.2.1, bt204.2.2.2.2.1, bt204.2.2.2.2.2.1, bt204.2.2.2.2.2.2.1, bt204.2.2.2.2.2.2.2.1, bt204.2.2.2.2.2.2.2.2, false))))
def impl_WriteW.T4 : Bool × List (List Nat × List Nat) := (true, [([], []), ([0], [0]), ([], []), ([2], [2]), ([], []), ([4], [4]), ([1, 3, 0, 1, 2, 3, 4, 5], [1, 3]), ([6, 5, 5, 0, 1, 2, 3, 4, 5], [5, 6])])
def impl_WriteW.B4 : List Nat := [0, 1, 0, 4, 0, 16, 63, 127]
theorem impl_WriteW.tab4 : rtab .any (opsOf Try.f35 4) = impl_WriteW.T4 := by kernel_rfl
theorem impl_WriteW.bits4 : waitsOk impl_WriteW.T4.2 impl_WriteW.B4 = true := by kernel_rfl
set_option maxHeartbeats 8000000 in
set_option maxRecDepth 100000 in
theorem impl_WriteW.calls (A0_0 : Option Addr) (c0_0 : Nat) (l0_0 : List Int) (A0_1 : Option Addr) (c0_1 : Nat) (l0_1 : List Int) (a0_2 : Bool) (a0_3 : Bool) (a0_4 : Bool) (a0_5 : Bool) (A0_6 : Option Addr) (c0_6 : Nat) (l0_6 : List Int) (A0_7 : Option Addr) (c0_7 : Nat) (l0_7 : List Int) (a0_8 : Int) (a1 : Int) (a2 : Int) (r1 : List Int) (r2 : List Int) (r3 : Bool) (r4 : Bool) (r5 : Bool) (r6 : Bool) (r7 : List Int) (r8 : List Int) (r9 : Int) (r10 : Bool) (w : World) (hr0_0 : Kd.C (Kd.int .i64) w A0_0 l0_0.length l0_0) (hc0_0 : l0_0.length ≤ c0_0) (hr0_1 : Kd.C (Kd.int .i64) w A0_1 l0_1.length l0_1) (hc0_1 : l0_1.length ≤ c0_1) (hr0_6 : Kd.C (Kd.int .i64) w A0_6 l0_6.length l0_6) (hc0_6 : l0_6.length ≤ c0_6) (hr0_7 : Kd.C (Kd.int .i64) w A0_7 l0_7.length l0_7) (hc0_7 : l0_7.length ≤ c0_7) (h : impl_WriteW.f l0_0 l0_1 a0_2 a0_3 a0_4 a0_5 l0_6 l0_7 a0_8 a1 a2 = some (r1, r2, r3, r4, r5, r6, r7, r8, r9, r10)) :
  Calls Try.prog 35 #[.agg #[.slice A0_0 l0_0.length c0_0, .slice A0_1 l0_1.length c0_1, .bool a0_2, .bool a0_3, .bool a0_4, .bool a0_5, .slice A0_6 l0_6.length c0_6, .slice A0_7 l0_7.length c0_7, .int .i64 a0_8], .int .i64 a1, .int .i64 a2] w fun e w' => ∃ v0_ v1_ v6_ v7_ : Value, e = .returned (.tuple #[.agg #[v0_, v1_, .bool r3, .bool r4, .bool r5, .bool r6, v6_, v7_, .int .i64 r9], .bool r10]) ∧ Kd.R (Kd.int .i64) 3 w' w.heap.size (fun k_ => some k_ ≠ (v1_ : Value).ownBlock ∧ some k_ ≠ (v6_ : Value).ownBlock ∧ some k_ ≠ (v7_ : Value).ownBlock) v0_ r1 ∧ Kd.R (Kd.int .i64) 3 w' w.heap.size (fun k_ => some k_ ≠ (v0_ : Value).ownBlock ∧ some k_ ≠ (v6_ : Value).ownBlock ∧ some k_ ≠ (v7_ : Value).ownBlock) v1_ r2 ∧ Kd.R (Kd.int .i64) 3 w' w.heap.size (fun k_ => some k_ ≠ (v0_ : Value).ownBlock ∧ some k_ ≠ (v1_ : Value).ownBlock ∧ some k_ ≠ (v7_ : Value).ownBlock) v6_ r7 ∧ Kd.R (Kd.int .i64) 3 w' w.heap.size (fun k_ => some k_ ≠ (v0_ : Value).ownBlock ∧ some k_ ≠ (v1_ : Value).ownBlock ∧ some k_ ≠ (v6_ : Value).ownBlock) v7_ r8 ∧ Below w.heap.size w w' := by
 have hu28 := Try.underlying28
 have HR0_0 := A_ hr0_0
 have HC0_0 := A_ hc0_0
 clear hr0_0 hc0_0
 have HR0_1 := A_ hr0_1
 have HC0_1 := A_ hc0_1
 clear hr0_1 hc0_1
 have HR0_6 := A_ hr0_6
 have HC0_6 := A_ hc0_6
 clear hr0_6 hc0_6
 have HR0_7 := A_ hr0_7
 have HC0_7 := A_ hc0_7
 clear hr0_7 hc0_7
 have HB := A_ (Below.refl w.heap.size w)
 have H : ((impl_copyMach.f l0_0 l0_1 a0_2 a0_3 a0_4 a0_5 l0_6 l0_7 a0_8).bind fun bt204 => ((impl_isAddr.f a1).bind fun t222 => (if t222 = true then (if (wrap64 (Int.tdiv a1 2)) ≥ (l0_0.length : Int) then (some (bt204.1, bt204.2.1, bt204.2.2.1, bt204.2.2.2.1, bt204.2.2.2.2.1, bt204.2.2.2.2.2.1, bt204.2.2.2.2.2.2.1, bt204.2.2.2.2.2.2.2.1, bt204.2.2.2.2.2.2.2.2, false)) else ((impl_Wrap.f a2).bind fun t223 => (if 0 ≤ (wrap64 (Int.tdiv a1 2)) then (if (wrap64 (Int.tdiv a1 2)) < (bt204.1.length : Int) then (some ((bt204.1.set ((wrap64 (Int.tdiv a1 2)) : Int).toNat t223), bt204.2.1, bt204.2.2.1, bt204.2.2.2.1, bt204.2.2.2.2.1, bt204.2.2.2.2.2.1, bt204.2.2.2.2.2.2.1, bt204.2.2.2.2.2.2.2.1, bt204.2.2.2.2.2.2.2.2, true)) else (none)) else (none)))) else (some (bt204.1, bt204.2.1, bt204.2.2.1, bt204.2.2.2.1, bt204.2.2.2.2.1, bt204.2.2.2.2.2.1, bt204.2.2.2.2.2.2.1, bt204.2.2.2.2.2.2.2.1, bt204.2.2.2.2.2.2.2.2, false))))) = some (r1, r2, r3, r4, r5, r6, r7, r8, r9, r10) := h
 clear h
 replace H := Option.bind_eq_some_iff.mp H
 obtain ⟨⟨t204, t207, t210, t211, t212, t213, t214, t217, t220⟩, A40, H⟩ := H
 try dsimp only at H
 have A4 := A_ A40
 clear A40
 replace H := Option.bind_eq_some_iff.mp H
 obtain ⟨t222, A50, H⟩ := H
 try dsimp only at H
 have A5 := A_ A50
 clear A50
 by_cases c6 : t222 = true
 ·subst c6
  rw [if_pos rfl] at H
  by_cases c7 : (wrap64 (Int.tdiv a1 2)) ≥ (l0_0.length : Int)
  ·rw [if_pos c7] at H
   have c7b0 := decide_eq_true c7
   clear c7
   simp only [Option.some.injEq, Prod.mk.injEq] at H
   obtain ⟨rfl, rfl, rfl, rfl, rfl, rfl, rfl, rfl, rfl, rfl⟩ := H
   go_enter Try.func35, Try.ntmps35
   go_wp2_with (first | ((with_reducible refine gate_dst (N := 3) rfl ?_); (try (refine gate_guard (by rfl) ?_; dsimp only)); refine bx_ 3 #[.slice A0_0 l0_0.length c0_0, .slice A0_1 l0_1.length c0_1, .bool a0_2, .bool a0_3, .bool a0_4, .bool a0_5, .slice A0_6 l0_6.length c0_6, .slice A0_7 l0_7.length c0_7, .int .i64 a0_8] 28 ?_; intro gb202 hg w8 hbox hb; have n0_ := A_ (below_step (bw_ HB.out) hb); have n1_ := A_ (hbox); have n2_ := A_ ((d10_ : w.heap.size ≤ gb202)); have n3_ := n2_; clear HB; have HB := n0_; have BK202 := n1_; have GW202 := n2_; have GE202 := n3_; have GI202 := GeI.mk GE202.out; clear n0_ n1_ n2_ n3_; clear hb hbox hg) | ((with_reducible refine gate_dst (N := 6) rfl ?_); (try (refine gate_guard (by rfl) ?_; dsimp only)); refine bx_ 6 #[.slice none 0 0, .slice none 0 0, .bool false, .bool false, .bool false, .bool false, .slice none 0 0, .slice none 0 0, .int .i64 0] 28 ?_; intro gb203 hg w9 hbox hb; have n0_ := A_ (blk_below (bk_ BK202.out) hb); have n1_ := A_ (below_step (bw_ HB.out) hb); have n2_ := A_ (hbox); have n3_ := A_ ((d10_ : w.heap.size ≤ gb203)); have n4_ := n3_; have n5_ := A_ ((d28_ : gb202 ≠ gb203)); have n6_ := A_ n5_.out.symm; clear BK202; clear HB; have BK202 := n0_; have HB := n1_; have BK203 := n2_; have GW203 := n3_; have GE203 := n4_; have GI203 := GeI.mk GE203.out; have NB202_203 := n5_; have NB203_202 := n6_; clear n0_ n1_ n2_ n3_ n4_ n5_ n6_; clear hb hbox hg; have hnb10 := NB202_203.out; have hnc10 := NB203_202.out; obtain ⟨y11_0, y11_1, y11_2, y11_3, y11_4, y11_5, y11_6, y11_7, y11_8, z11_0, z11_1, z11_2, z11_3, z11_4, z11_5, z11_6, z11_7, z11_8⟩ := cz9_ BK202.out) | ((with_reducible refine gate_callee (f := 68) rfl ?_); refine gL_ (some 10) Try.func68 #[.agg #[.slice A0_0 l0_0.length c0_0, .slice A0_1 l0_1.length c0_1, .bool a0_2, .bool a0_3, .bool a0_4, .bool a0_5, .slice A0_6 l0_6.length c0_6, .slice A0_7 l0_7.length c0_7, .int .i64 a0_8]] ?_; (with_reducible refine (impl_copyMach.calls _ _ l0_0 _ _ l0_1 a0_2 a0_3 a0_4 a0_5 _ _ l0_6 _ _ l0_7 a0_8 t204 t207 t210 t211 t212 t213 t214 t217 t220 _ ?side1 ?side2 ?side3 ?side4 ?side5 ?side6 ?side7 ?side8 A4.out).mono ?_); (case side1 => repeat (first | exact (Kd.C_below HR0_0.out HB.out) | (with_reducible refine Kd.C_alloc ?_ _) | (with_reducible refine Kd.C_drewN ?_ _) | (with_reducible refine Kd.C_drew ?_))); (case side2 => exact HC0_0.out); (case side3 => repeat (first | exact (Kd.C_below HR0_1.out HB.out) | (with_reducible refine Kd.C_alloc ?_ _) | (with_reducible refine Kd.C_drewN ?_ _) | (with_reducible refine Kd.C_drew ?_))); (case side4 => exact HC0_1.out); (case side5 => repeat (first | exact (Kd.C_below HR0_6.out HB.out) | (with_reducible refine Kd.C_alloc ?_ _) | (with_reducible refine Kd.C_drewN ?_ _) | (with_reducible refine Kd.C_drew ?_))); (case side6 => exact HC0_6.out); (case side7 => repeat (first | exact (Kd.C_below HR0_7.out HB.out) | (with_reducible refine Kd.C_alloc ?_ _) | (with_reducible refine Kd.C_drewN ?_ _) | (with_reducible refine Kd.C_drew ?_))); (case side8 => exact HC0_7.out); rintro e w12 ⟨v205, v208, v215, v218, rfl, ho0, ho1, ho2, ho3, hb⟩; refine ⟨_, rfl, ?_⟩; have HO206 := A_ (Kd.R_lower ho0 (below_size (bw_ HB.out))); have HO209 := A_ (Kd.R_lower ho1 (below_size (bw_ HB.out))); have HO216 := A_ (Kd.R_lower ho2 (below_size (bw_ HB.out))); have HO219 := A_ (Kd.R_lower ho3 (below_size (bw_ HB.out))); replace BK202 := A_ (blk_below (bk_ BK202.out) hb); replace BK203 := A_ (blk_below (bk_ BK203.out) hb); replace HB := A_ (below_step (bw_ HB.out) hb); clear hb; (try clear ho0); (try clear ho1); (try clear ho2); (try clear ho3)) | ((with_reducible refine gate_dst (N := 8) rfl ?_); (try (refine gate_guard (by rfl) ?_; dsimp only)); refine bx_ 8 #[.slice none 0 0, .slice none 0 0, .bool false, .bool false, .bool false, .bool false, .slice none 0 0, .slice none 0 0, .int .i64 0] 28 ?_; intro gb221 hg w13 hbox hb; have n0_ := A_ (Kd.R_below (kr_ HO206.out) hb); have n1_ := A_ (Kd.R_below (kr_ HO209.out) hb); have n2_ := A_ (Kd.R_below (kr_ HO216.out) hb); have n3_ := A_ (Kd.R_below (kr_ HO219.out) hb); have n4_ := A_ (blk_below (bk_ BK202.out) hb); have n5_ := A_ (blk_below (bk_ BK203.out) hb); have n6_ := A_ (below_step (bw_ HB.out) hb); have n7_ := A_ (hbox); have n8_ := A_ ((d10_ : w.heap.size ≤ gb221)); have n9_ := n8_; have n10_ := A_ ((d28_ : gb202 ≠ gb221)); have n11_ := A_ n10_.out.symm; have n12_ := A_ ((by rw [hg]; exact Nat.ne_of_lt (blk_lt (bk_ BK203.out)) : gb203 ≠ gb221)); have n13_ := A_ n12_.out.symm; clear HO206; clear HO209; clear HO216; clear HO219; clear BK202; clear BK203; clear HB; have HO206 := n0_; have HO209 := n1_; have HO216 := n2_; have HO219 := n3_; have BK202 := n4_; have BK203 := n5_; have HB := n6_; have BK221 := n7_; have GW221 := n8_; have GE221 := n9_; have GI221 := GeI.mk GE221.out; have NB202_221 := n10_; have NB221_202 := n11_; have NB203_221 := n12_; have NB221_203 := n13_; clear n0_ n1_ n2_ n3_ n4_ n5_ n6_ n7_ n8_ n9_ n10_ n11_ n12_ n13_; clear hb hbox hg; obtain ⟨Ao14, co14, eo14⟩ := Kd.R_slice HO206.out; subst eo14; have hnb15 := NB221_202.out; have hnc15 := NB202_221.out; have hnb16 := NB221_203.out; have hnc16 := NB203_221.out; obtain ⟨y17_0, y17_1, y17_2, y17_3, y17_4, y17_5, y17_6, y17_7, y17_8, z17_0, z17_1, z17_2, z17_3, z17_4, z17_5, z17_6, z17_7, z17_8⟩ := cz9_ BK221.out; obtain ⟨Ao18, co18, eo18⟩ := Kd.R_slice HO209.out; subst eo18; obtain ⟨Ao19, co19, eo19⟩ := Kd.R_slice HO216.out; subst eo19; obtain ⟨Ao20, co20, eo20⟩ := Kd.R_slice HO219.out; subst eo20) | ((with_reducible refine gate_callee (f := 58) rfl ?_); refine gL_ (some 12) Try.func58 #[.int .i64 a1] ?_; (with_reducible refine (impl_isAddr.calls a1 true _ A5.out).mono ?_); rintro e w' ⟨rfl, ⟨nd, rfl⟩⟩; refine ⟨_, rfl, ?_⟩; obtain ⟨y21_0, y21_1, y21_2, y21_3, y21_4, y21_5, y21_6, y21_7, y21_8, z21_0, z21_1, z21_2, z21_3, z21_4, z21_5, z21_6, z21_7, z21_8⟩ := cz9_ BK202.out; obtain ⟨y22_0, y22_1, y22_2, y22_3, y22_4, y22_5, y22_6, y22_7, y22_8, z22_0, z22_1, z22_2, z22_3, z22_4, z22_5, z22_6, z22_7, z22_8⟩ := cz9_ BK203.out))
   refine bodyPost_ret (results_ct rfl _ _ gb203 28 #[.slice Ao14 t204.length co14, .slice Ao18 t207.length co18, .bool t210, .bool t211, .bool t212, .bool t213, .slice Ao19 t214.length co19, .slice Ao20 t217.length co20, .int .i64 t220] (0, 0) _ rfl ?hb_ Try.underlying28 rfl (by kernel_rfl)) rfl ?_
   (case hb_ => refine bk_ ?_; refine blk_put (cs := #[.slice Ao14 t204.length co14, .slice Ao18 t207.length co18, .bool t210, .bool t211, .bool t212, .bool t213, .slice Ao19 t214.length co19, .slice Ao20 t217.length co20, .int .i64 0]) ?_ 8 _ rfl; refine bk_ ?_; refine blk_put (cs := #[.slice Ao14 t204.length co14, .slice Ao18 t207.length co18, .bool t210, .bool t211, .bool t212, .bool t213, .slice Ao19 t214.length co19, .slice none 0 0, .int .i64 0]) ?_ 7 _ rfl; refine bk_ ?_; refine blk_put (cs := #[.slice Ao14 t204.length co14, .slice Ao18 t207.length co18, .bool t210, .bool t211, .bool t212, .bool t213, .slice none 0 0, .slice none 0 0, .int .i64 0]) ?_ 6 _ rfl; refine bk_ ?_; refine blk_put (cs := #[.slice Ao14 t204.length co14, .slice Ao18 t207.length co18, .bool t210, .bool t211, .bool t212, .bool false, .slice none 0 0, .slice none 0 0, .int .i64 0]) ?_ 5 _ rfl; refine bk_ ?_; refine blk_put (cs := #[.slice Ao14 t204.length co14, .slice Ao18 t207.length co18, .bool t210, .bool t211, .bool false, .bool false, .slice none 0 0, .slice none 0 0, .int .i64 0]) ?_ 4 _ rfl; refine bk_ ?_; refine blk_put (cs := #[.slice Ao14 t204.length co14, .slice Ao18 t207.length co18, .bool t210, .bool false, .bool false, .bool false, .slice none 0 0, .slice none 0 0, .int .i64 0]) ?_ 3 _ rfl; refine bk_ ?_; refine blk_put (cs := #[.slice Ao14 t204.length co14, .slice Ao18 t207.length co18, .bool false, .bool false, .bool false, .bool false, .slice none 0 0, .slice none 0 0, .int .i64 0]) ?_ 2 _ rfl; refine bk_ ?_; refine blk_put (cs := #[.slice Ao14 t204.length co14, .slice none 0 0, .bool false, .bool false, .bool false, .bool false, .slice none 0 0, .slice none 0 0, .int .i64 0]) ?_ 1 _ rfl; refine bk_ ?_; refine blk_put (cs := #[.slice none 0 0, .slice none 0 0, .bool false, .bool false, .bool false, .bool false, .slice none 0 0, .slice none 0 0, .int .i64 0]) ?_ 0 _ rfl; refine bk_ ?_; refine blk_far ?_ NB203_221.out _; refine bk_ ?_; refine blk_far ?_ NB203_221.out _; refine bk_ ?_; refine blk_far ?_ NB203_221.out _; refine bk_ ?_; refine blk_far ?_ NB203_221.out _; refine bk_ ?_; refine blk_far ?_ NB203_221.out _; refine bk_ ?_; refine blk_far ?_ NB203_221.out _; refine bk_ ?_; refine blk_far ?_ NB203_221.out _; refine bk_ ?_; refine blk_far ?_ NB203_221.out _; refine bk_ ?_; refine blk_far ?_ NB203_221.out _; refine bk_ ?_; exact BK203.out)
   exact ⟨_, _, _, _, by first | rfl | (simp [errW_none, errW_some] <;> rfl) | (simp [*, errW_none, errW_some] <;> rfl), by (with_reducible repeat (first | apply Kd.R_alloc | apply Kd.R_drewN | apply Kd.R_drew)); exact Kd.R_mono (rf9_ (Kd.R_drewN (Kd.R_far (p := ⟨gb221, 8, none⟩) (Kd.R_far (p := ⟨gb221, 7, none⟩) (Kd.R_far (p := ⟨gb221, 6, none⟩) (Kd.R_far (p := ⟨gb221, 5, none⟩) (Kd.R_far (p := ⟨gb221, 4, none⟩) (Kd.R_far (p := ⟨gb221, 3, none⟩) (Kd.R_far (p := ⟨gb221, 2, none⟩) (Kd.R_far (p := ⟨gb221, 1, none⟩) (Kd.R_far (p := ⟨gb221, 0, none⟩) (Kd.R_types (Kd.R_types HO206.out BK221.out (by decide)) BK203.out (by decide)) (fun _ hk => hk.1.2) (.slice Ao14 t204.length co14)) (fun _ hk => hk.1.2) (.slice Ao18 t207.length co18)) (fun _ hk => hk.1.2) (.bool t210)) (fun _ hk => hk.1.2) (.bool t211)) (fun _ hk => hk.1.2) (.bool t212)) (fun _ hk => hk.1.2) (.bool t213)) (fun _ hk => hk.1.2) (.slice Ao19 t214.length co19)) (fun _ hk => hk.1.2) (.slice Ao20 t217.length co20)) (fun _ hk => hk.1.2) (.int .i64 t220)) _) (fun _ hk => hk.2)) (fun _ hk => ⟨hk.1.1.1, ⟨hk.1.1.2.1, hk.1.1.2.2⟩⟩), by (with_reducible repeat (first | apply Kd.R_alloc | apply Kd.R_drewN | apply Kd.R_drew)); exact Kd.R_mono (rf9_ (Kd.R_drewN (Kd.R_far (p := ⟨gb221, 8, none⟩) (Kd.R_far (p := ⟨gb221, 7, none⟩) (Kd.R_far (p := ⟨gb221, 6, none⟩) (Kd.R_far (p := ⟨gb221, 5, none⟩) (Kd.R_far (p := ⟨gb221, 4, none⟩) (Kd.R_far (p := ⟨gb221, 3, none⟩) (Kd.R_far (p := ⟨gb221, 2, none⟩) (Kd.R_far (p := ⟨gb221, 1, none⟩) (Kd.R_far (p := ⟨gb221, 0, none⟩) (Kd.R_types (Kd.R_types HO209.out BK221.out (by decide)) BK203.out (by decide)) (fun _ hk => hk.1.2) (.slice Ao14 t204.length co14)) (fun _ hk => hk.1.2) (.slice Ao18 t207.length co18)) (fun _ hk => hk.1.2) (.bool t210)) (fun _ hk => hk.1.2) (.bool t211)) (fun _ hk => hk.1.2) (.bool t212)) (fun _ hk => hk.1.2) (.bool t213)) (fun _ hk => hk.1.2) (.slice Ao19 t214.length co19)) (fun _ hk => hk.1.2) (.slice Ao20 t217.length co20)) (fun _ hk => hk.1.2) (.int .i64 t220)) _) (fun _ hk => hk.2)) (fun _ hk => ⟨hk.1.1.1, ⟨hk.1.1.2.1, hk.1.1.2.2⟩⟩), by (with_reducible repeat (first | apply Kd.R_alloc | apply Kd.R_drewN | apply Kd.R_drew)); exact Kd.R_mono (rf9_ (Kd.R_drewN (Kd.R_far (p := ⟨gb221, 8, none⟩) (Kd.R_far (p := ⟨gb221, 7, none⟩) (Kd.R_far (p := ⟨gb221, 6, none⟩) (Kd.R_far (p := ⟨gb221, 5, none⟩) (Kd.R_far (p := ⟨gb221, 4, none⟩) (Kd.R_far (p := ⟨gb221, 3, none⟩) (Kd.R_far (p := ⟨gb221, 2, none⟩) (Kd.R_far (p := ⟨gb221, 1, none⟩) (Kd.R_far (p := ⟨gb221, 0, none⟩) (Kd.R_types (Kd.R_types HO216.out BK221.out (by decide)) BK203.out (by decide)) (fun _ hk => hk.1.2) (.slice Ao14 t204.length co14)) (fun _ hk => hk.1.2) (.slice Ao18 t207.length co18)) (fun _ hk => hk.1.2) (.bool t210)) (fun _ hk => hk.1.2) (.bool t211)) (fun _ hk => hk.1.2) (.bool t212)) (fun _ hk => hk.1.2) (.bool t213)) (fun _ hk => hk.1.2) (.slice Ao19 t214.length co19)) (fun _ hk => hk.1.2) (.slice Ao20 t217.length co20)) (fun _ hk => hk.1.2) (.int .i64 t220)) _) (fun _ hk => hk.2)) (fun _ hk => ⟨hk.1.1.1, ⟨hk.1.1.2.1, hk.1.1.2.2⟩⟩), by (with_reducible repeat (first | apply Kd.R_alloc | apply Kd.R_drewN | apply Kd.R_drew)); exact Kd.R_mono (rf9_ (Kd.R_drewN (Kd.R_far (p := ⟨gb221, 8, none⟩) (Kd.R_far (p := ⟨gb221, 7, none⟩) (Kd.R_far (p := ⟨gb221, 6, none⟩) (Kd.R_far (p := ⟨gb221, 5, none⟩) (Kd.R_far (p := ⟨gb221, 4, none⟩) (Kd.R_far (p := ⟨gb221, 3, none⟩) (Kd.R_far (p := ⟨gb221, 2, none⟩) (Kd.R_far (p := ⟨gb221, 1, none⟩) (Kd.R_far (p := ⟨gb221, 0, none⟩) (Kd.R_types (Kd.R_types HO219.out BK221.out (by decide)) BK203.out (by decide)) (fun _ hk => hk.1.2) (.slice Ao14 t204.length co14)) (fun _ hk => hk.1.2) (.slice Ao18 t207.length co18)) (fun _ hk => hk.1.2) (.bool t210)) (fun _ hk => hk.1.2) (.bool t211)) (fun _ hk => hk.1.2) (.bool t212)) (fun _ hk => hk.1.2) (.bool t213)) (fun _ hk => hk.1.2) (.slice Ao19 t214.length co19)) (fun _ hk => hk.1.2) (.slice Ao20 t217.length co20)) (fun _ hk => hk.1.2) (.int .i64 t220)) _) (fun _ hk => hk.2)) (fun _ hk => ⟨hk.1.1.1, ⟨hk.1.1.2.1, hk.1.1.2.2⟩⟩), bw_ HB.out⟩
  ·rw [if_neg c7] at H
   have c7b0 := decide_eq_false c7
   clear c7
   replace H := Option.bind_eq_some_iff.mp H
   obtain ⟨t223, A230, H⟩ := H
   try dsimp only at H
   have A23 := A_ A230
   clear A230
   obtain ⟨ji24, hji24⟩ : ∃ j_ : Int, (wrap64 (Int.tdiv a1 2)) = j_ := ⟨_, rfl⟩
   replace H : (if 0 ≤ (ji24) then (if (ji24) < (t204.length : Int) then (some ((t204.set ((ji24) : Int).toNat t223), t207, t210, t211, t212, t213, t214, t217, t220, true)) else (none)) else (none)) = some (r1, r2, r3, r4, r5, r6, r7, r8, r9, r10) := by first | (rw [hji24] at H; exact H) | (simp only [hji24] at H ⊢; exact H)
   (try rw [hji24] at c7b0)
   (try rw [hji24] at A4)
   (try rw [hji24] at A5)
   (try rw [hji24] at A23)
   have hji24w : (IntKind.i64.wrap (Int.tdiv a1 2)) = ji24 := (i64_w _).trans hji24
   by_cases c25 : 0 ≤ (ji24)
   ·rw [if_pos c25] at H
    have c25b0 := decide_eq_true c25
    clear c25
    by_cases c26 : (ji24) < (t204.length : Int)
    ·rw [if_pos c26] at H
     have c26b0 := decide_eq_true c26
     clear c26
     obtain ⟨y224, hy224⟩ : ∃ y_ : List Int, y_ = (t204.set ((ji24) : Int).toNat t223) := ⟨_, rfl⟩
     replace H : (some (y224, t207, t210, t211, t212, t213, t214, t217, t220, true)) = some (r1, r2, r3, r4, r5, r6, r7, r8, r9, r10) := by first | (rw [hy224]; with_reducible exact H) | (have H2_ := (Option.bind_some _ _).symm.trans H; rw [hy224]; with_reducible exact H2_) | (have H2_ := (Option.bind_some _ _).symm.trans H; with_reducible exact H2_) | with_reducible exact H | (rw [hy224]; exact H) | exact H
     have Ny224 := A_ hy224
     clear hy224
     simp only [Option.some.injEq, Prod.mk.injEq] at H
     obtain ⟨rfl, rfl, rfl, rfl, rfl, rfl, rfl, rfl, rfl, rfl⟩ := H
     go_enter Try.func35, Try.ntmps35
     try go_wp2_with (first | ((with_reducible refine gate_dst (N := 3) rfl ?_); (try (refine gate_guard (by rfl) ?_; dsimp only)); refine bx_ 3 #[.slice A0_0 l0_0.length c0_0, .slice A0_1 l0_1.length c0_1, .bool a0_2, .bool a0_3, .bool a0_4, .bool a0_5, .slice A0_6 l0_6.length c0_6, .slice A0_7 l0_7.length c0_7, .int .i64 a0_8] 28 ?_; intro gb202 hg w28 hbox hb; have n0_ := A_ (below_step (bw_ HB.out) hb); have n1_ := A_ (hbox); have n2_ := A_ ((d10_ : w.heap.size ≤ gb202)); have n3_ := n2_; clear HB; have HB := n0_; have BK202 := n1_; have GW202 := n2_; have GE202 := n3_; have GI202 := GeI.mk GE202.out; clear n0_ n1_ n2_ n3_; clear hb hbox hg) | ((with_reducible refine gate_dst (N := 6) rfl ?_); (try (refine gate_guard (by rfl) ?_; dsimp only)); refine bx_ 6 #[.slice none 0 0, .slice none 0 0, .bool false, .bool false, .bool false, .bool false, .slice none 0 0, .slice none 0 0, .int .i64 0] 28 ?_; intro gb203 hg w29 hbox hb; have n0_ := A_ (blk_below (bk_ BK202.out) hb); have n1_ := A_ (below_step (bw_ HB.out) hb); have n2_ := A_ (hbox); have n3_ := A_ ((d10_ : w.heap.size ≤ gb203)); have n4_ := n3_; have n5_ := A_ ((d28_ : gb202 ≠ gb203)); have n6_ := A_ n5_.out.symm; clear BK202; clear HB; have BK202 := n0_; have HB := n1_; have BK203 := n2_; have GW203 := n3_; have GE203 := n4_; have GI203 := GeI.mk GE203.out; have NB202_203 := n5_; have NB203_202 := n6_; clear n0_ n1_ n2_ n3_ n4_ n5_ n6_; clear hb hbox hg; have hnb30 := NB202_203.out; have hnc30 := NB203_202.out; obtain ⟨y31_0, y31_1, y31_2, y31_3, y31_4, y31_5, y31_6, y31_7, y31_8, z31_0, z31_1, z31_2, z31_3, z31_4, z31_5, z31_6, z31_7, z31_8⟩ := cz9_ BK202.out) | ((with_reducible refine gate_callee (f := 68) rfl ?_); refine gL_ (some 10) Try.func68 #[.agg #[.slice A0_0 l0_0.length c0_0, .slice A0_1 l0_1.length c0_1, .bool a0_2, .bool a0_3, .bool a0_4, .bool a0_5, .slice A0_6 l0_6.length c0_6, .slice A0_7 l0_7.length c0_7, .int .i64 a0_8]] ?_; (with_reducible refine (impl_copyMach.calls _ _ l0_0 _ _ l0_1 a0_2 a0_3 a0_4 a0_5 _ _ l0_6 _ _ l0_7 a0_8 t204 t207 t210 t211 t212 t213 t214 t217 t220 _ ?side1 ?side2 ?side3 ?side4 ?side5 ?side6 ?side7 ?side8 A4.out).mono ?_); (case side1 => repeat (first | exact (Kd.C_below HR0_0.out HB.out) | (with_reducible refine Kd.C_alloc ?_ _) | (with_reducible refine Kd.C_drewN ?_ _) | (with_reducible refine Kd.C_drew ?_))); (case side2 => exact HC0_0.out); (case side3 => repeat (first | exact (Kd.C_below HR0_1.out HB.out) | (with_reducible refine Kd.C_alloc ?_ _) | (with_reducible refine Kd.C_drewN ?_ _) | (with_reducible refine Kd.C_drew ?_))); (case side4 => exact HC0_1.out); (case side5 => repeat (first | exact (Kd.C_below HR0_6.out HB.out) | (with_reducible refine Kd.C_alloc ?_ _) | (with_reducible refine Kd.C_drewN ?_ _) | (with_reducible refine Kd.C_drew ?_))); (case side6 => exact HC0_6.out); (case side7 => repeat (first | exact (Kd.C_below HR0_7.out HB.out) | (with_reducible refine Kd.C_alloc ?_ _) | (with_reducible refine Kd.C_drewN ?_ _) | (with_reducible refine Kd.C_drew ?_))); (case side8 => exact HC0_7.out); rintro e w32 ⟨v205, v208, v215, v218, rfl, ho0, ho1, ho2, ho3, hb⟩; refine ⟨_, rfl, ?_⟩; have HO206 := A_ (Kd.R_lower ho0 (below_size (bw_ HB.out))); have HO209 := A_ (Kd.R_lower ho1 (below_size (bw_ HB.out))); have HO216 := A_ (Kd.R_lower ho2 (below_size (bw_ HB.out))); have HO219 := A_ (Kd.R_lower ho3 (below_size (bw_ HB.out))); replace BK202 := A_ (blk_below (bk_ BK202.out) hb); replace BK203 := A_ (blk_below (bk_ BK203.out) hb); replace HB := A_ (below_step (bw_ HB.out) hb); clear hb; (try clear ho0); (try clear ho1); (try clear ho2); (try clear ho3)) | ((with_reducible refine gate_dst (N := 8) rfl ?_); (try (refine gate_guard (by rfl) ?_; dsimp only)); refine bx_ 8 #[.slice none 0 0, .slice none 0 0, .bool false, .bool false, .bool false, .bool false, .slice none 0 0, .slice none 0 0, .int .i64 0] 28 ?_; intro gb221 hg w33 hbox hb; have n0_ := A_ (Kd.R_below (kr_ HO206.out) hb); have n1_ := A_ (Kd.R_below (kr_ HO209.out) hb); have n2_ := A_ (Kd.R_below (kr_ HO216.out) hb); have n3_ := A_ (Kd.R_below (kr_ HO219.out) hb); have n4_ := A_ (blk_below (bk_ BK202.out) hb); have n5_ := A_ (blk_below (bk_ BK203.out) hb); have n6_ := A_ (below_step (bw_ HB.out) hb); have n7_ := A_ (hbox); have n8_ := A_ ((d10_ : w.heap.size ≤ gb221)); have n9_ := n8_; have n10_ := A_ ((d28_ : gb202 ≠ gb221)); have n11_ := A_ n10_.out.symm; have n12_ := A_ ((by rw [hg]; exact Nat.ne_of_lt (blk_lt (bk_ BK203.out)) : gb203 ≠ gb221)); have n13_ := A_ n12_.out.symm; clear HO206; clear HO209; clear HO216; clear HO219; clear BK202; clear BK203; clear HB; have HO206 := n0_; have HO209 := n1_; have HO216 := n2_; have HO219 := n3_; have BK202 := n4_; have BK203 := n5_; have HB := n6_; have BK221 := n7_; have GW221 := n8_; have GE221 := n9_; have GI221 := GeI.mk GE221.out; have NB202_221 := n10_; have NB221_202 := n11_; have NB203_221 := n12_; have NB221_203 := n13_; clear n0_ n1_ n2_ n3_ n4_ n5_ n6_ n7_ n8_ n9_ n10_ n11_ n12_ n13_; clear hb hbox hg; obtain ⟨Ao34, co34, eo34⟩ := Kd.R_slice HO206.out; subst eo34; have hnb35 := NB221_202.out; have hnc35 := NB202_221.out; have hnb36 := NB221_203.out; have hnc36 := NB203_221.out; obtain ⟨y37_0, y37_1, y37_2, y37_3, y37_4, y37_5, y37_6, y37_7, y37_8, z37_0, z37_1, z37_2, z37_3, z37_4, z37_5, z37_6, z37_7, z37_8⟩ := cz9_ BK221.out; obtain ⟨Ao38, co38, eo38⟩ := Kd.R_slice HO209.out; subst eo38; obtain ⟨Ao39, co39, eo39⟩ := Kd.R_slice HO216.out; subst eo39; obtain ⟨Ao40, co40, eo40⟩ := Kd.R_slice HO219.out; subst eo40) | ((with_reducible refine gate_callee (f := 58) rfl ?_); refine gL_ (some 12) Try.func58 #[.int .i64 a1] ?_; (with_reducible refine (impl_isAddr.calls a1 true _ A5.out).mono ?_); rintro e w' ⟨rfl, ⟨nd, rfl⟩⟩; refine ⟨_, rfl, ?_⟩; obtain ⟨y41_0, y41_1, y41_2, y41_3, y41_4, y41_5, y41_6, y41_7, y41_8, z41_0, z41_1, z41_2, z41_3, z41_4, z41_5, z41_6, z41_7, z41_8⟩ := cz9_ BK202.out))
     obtain ⟨w42, hz_⟩ : ∃ z_, z_ = (((((((((w33.setCell ⟨gb221, 0, none⟩ (.slice Ao34 t204.length co34)).setCell ⟨gb221, 1, none⟩ (.slice Ao38 t207.length co38)).setCell ⟨gb221, 2, none⟩ (.bool t210)).setCell ⟨gb221, 3, none⟩ (.bool t211)).setCell ⟨gb221, 4, none⟩ (.bool t212)).setCell ⟨gb221, 5, none⟩ (.bool t213)).setCell ⟨gb221, 6, none⟩ (.slice Ao39 t214.length co39)).setCell ⟨gb221, 7, none⟩ (.slice Ao40 t217.length co40)).setCell ⟨gb221, 8, none⟩ (.int .i64 t220)) := ⟨_, rfl⟩
     have n0_ : Aside0 (Kd.R (Kd.int .i64) 3 w42 w.heap.size (fun k_ => some k_ ≠ (.slice Ao38 t207.length co38 : Value).ownBlock ∧ some k_ ≠ (.slice Ao39 t214.length co39 : Value).ownBlock ∧ some k_ ≠ (.slice Ao40 t217.length co40 : Value).ownBlock) (.slice Ao34 t204.length co34) t204) := ⟨by rw [hz_]; (with_reducible repeat (first | apply Kd.R_alloc | apply Kd.R_drewN | apply Kd.R_drew)); exact Kd.R_mono (rf9_ (Kd.R_types HO206.out BK221.out (by decide)) (fun _ hk => hk.2)) (fun _ hk => ⟨hk.1.1, ⟨hk.1.2.1, hk.1.2.2⟩⟩)⟩
     have n1_ : Aside0 (Kd.R (Kd.int .i64) 3 w42 w.heap.size (fun k_ => some k_ ≠ (.slice Ao34 t204.length co34 : Value).ownBlock ∧ some k_ ≠ (.slice Ao39 t214.length co39 : Value).ownBlock ∧ some k_ ≠ (.slice Ao40 t217.length co40 : Value).ownBlock) (.slice Ao38 t207.length co38) t207) := ⟨by rw [hz_]; (with_reducible repeat (first | apply Kd.R_alloc | apply Kd.R_drewN | apply Kd.R_drew)); exact Kd.R_mono (rf9_ (Kd.R_types HO209.out BK221.out (by decide)) (fun _ hk => hk.2)) (fun _ hk => ⟨hk.1.1, ⟨hk.1.2.1, hk.1.2.2⟩⟩)⟩
     have n2_ : Aside0 (Kd.R (Kd.int .i64) 3 w42 w.heap.size (fun k_ => some k_ ≠ (.slice Ao34 t204.length co34 : Value).ownBlock ∧ some k_ ≠ (.slice Ao38 t207.length co38 : Value).ownBlock ∧ some k_ ≠ (.slice Ao40 t217.length co40 : Value).ownBlock) (.slice Ao39 t214.length co39) t214) := ⟨by rw [hz_]; (with_reducible repeat (first | apply Kd.R_alloc | apply Kd.R_drewN | apply Kd.R_drew)); exact Kd.R_mono (rf9_ (Kd.R_types HO216.out BK221.out (by decide)) (fun _ hk => hk.2)) (fun _ hk => ⟨hk.1.1, ⟨hk.1.2.1, hk.1.2.2⟩⟩)⟩
     have n3_ : Aside0 (Kd.R (Kd.int .i64) 3 w42 w.heap.size (fun k_ => some k_ ≠ (.slice Ao34 t204.length co34 : Value).ownBlock ∧ some k_ ≠ (.slice Ao38 t207.length co38 : Value).ownBlock ∧ some k_ ≠ (.slice Ao39 t214.length co39 : Value).ownBlock) (.slice Ao40 t217.length co40) t217) := ⟨by rw [hz_]; (with_reducible repeat (first | apply Kd.R_alloc | apply Kd.R_drewN | apply Kd.R_drew)); exact Kd.R_mono (rf9_ (Kd.R_types HO219.out BK221.out (by decide)) (fun _ hk => hk.2)) (fun _ hk => ⟨hk.1.1, ⟨hk.1.2.1, hk.1.2.2⟩⟩)⟩
     have n4_ : Aside0 (w42.heap[gb202]? = some (.cells #[.slice A0_0 l0_0.length c0_0, .slice A0_1 l0_1.length c0_1, .bool a0_2, .bool a0_3, .bool a0_4, .bool a0_5, .slice A0_6 l0_6.length c0_6, .slice A0_7 l0_7.length c0_7, .int .i64 a0_8] 28 (0, 0))) := ⟨by rw [hz_]; refine bk_ ?_; refine blk_far ?_ NB202_221.out _; refine bk_ ?_; refine blk_far ?_ NB202_221.out _; refine bk_ ?_; refine blk_far ?_ NB202_221.out _; refine bk_ ?_; refine blk_far ?_ NB202_221.out _; refine bk_ ?_; refine blk_far ?_ NB202_221.out _; refine bk_ ?_; refine blk_far ?_ NB202_221.out _; refine bk_ ?_; refine blk_far ?_ NB202_221.out _; refine bk_ ?_; refine blk_far ?_ NB202_221.out _; refine bk_ ?_; refine blk_far ?_ NB202_221.out _; refine bk_ ?_; exact BK202.out⟩
     have n5_ : Aside0 (w42.heap[gb203]? = some (.cells #[.slice none 0 0, .slice none 0 0, .bool false, .bool false, .bool false, .bool false, .slice none 0 0, .slice none 0 0, .int .i64 0] 28 (0, 0))) := ⟨by rw [hz_]; refine bk_ ?_; refine blk_far ?_ NB203_221.out _; refine bk_ ?_; refine blk_far ?_ NB203_221.out _; refine bk_ ?_; refine blk_far ?_ NB203_221.out _; refine bk_ ?_; refine blk_far ?_ NB203_221.out _; refine bk_ ?_; refine blk_far ?_ NB203_221.out _; refine bk_ ?_; refine blk_far ?_ NB203_221.out _; refine bk_ ?_; refine blk_far ?_ NB203_221.out _; refine bk_ ?_; refine blk_far ?_ NB203_221.out _; refine bk_ ?_; refine blk_far ?_ NB203_221.out _; refine bk_ ?_; exact BK203.out⟩
     have n6_ : Aside0 (w42.heap[gb221]? = some (.cells #[.slice Ao34 t204.length co34, .slice Ao38 t207.length co38, .bool t210, .bool t211, .bool t212, .bool t213, .slice Ao39 t214.length co39, .slice Ao40 t217.length co40, .int .i64 t220] 28 (0, 0))) := ⟨by rw [hz_]; exact bk_ (bp9_ (bk_ BK221.out))⟩
     have n7_ : Aside0 (Below w.heap.size w w42) := ⟨by rw [hz_]; exact bw_ HB.out⟩
     (try clear HO206)
     (try clear HO209)
     (try clear HO216)
     (try clear HO219)
     (try clear BK202)
     (try clear BK203)
     (try clear BK221)
     (try clear HB)
     rw [← hz_]
     clear hz_
     have HO206 := n0_
     have HO209 := n1_
     have HO216 := n2_
     have HO219 := n3_
     have BK202 := n4_
     have BK203 := n5_
     have BK221 := n6_
     have HB := n7_
     clear n0_ n1_ n2_ n3_ n4_ n5_ n6_ n7_
     (try (rw [drewN_self w42]; generalize hq_ : World.drewN w42 _ = w42; have n0_ := A_ (rq_ hq_ HO206.out); have n1_ := A_ (rq_ hq_ HO209.out); have n2_ := A_ (rq_ hq_ HO216.out); have n3_ := A_ (rq_ hq_ HO219.out); have n4_ := A_ (bq_ hq_ BK202.out); have n5_ := A_ (bq_ hq_ BK203.out); have n6_ := A_ (bq_ hq_ BK221.out); have n7_ := A_ (wq_ hq_ HB.out); clear HO206 HO209 HO216 HO219 BK202 BK203 BK221 HB hq_; have HO206 := n0_; have HO209 := n1_; have HO216 := n2_; have HO219 := n3_; have BK202 := n4_; have BK203 := n5_; have BK221 := n6_; have HB := n7_; clear n0_ n1_ n2_ n3_ n4_ n5_ n6_ n7_; have hcq202_0 : w42.cell? ⟨gb202, 0, none⟩ = some (.slice A0_0 l0_0.length c0_0) := (blk_cell BK202.out 0).trans rfl; have hcq202_1 : w42.cell? ⟨gb202, 1, none⟩ = some (.slice A0_1 l0_1.length c0_1) := (blk_cell BK202.out 1).trans rfl; have hcq202_2 : w42.cell? ⟨gb202, 2, none⟩ = some (.bool a0_2) := (blk_cell BK202.out 2).trans rfl; have hcq202_3 : w42.cell? ⟨gb202, 3, none⟩ = some (.bool a0_3) := (blk_cell BK202.out 3).trans rfl; have hcq202_4 : w42.cell? ⟨gb202, 4, none⟩ = some (.bool a0_4) := (blk_cell BK202.out 4).trans rfl; have hcq202_5 : w42.cell? ⟨gb202, 5, none⟩ = some (.bool a0_5) := (blk_cell BK202.out 5).trans rfl; have hcq202_6 : w42.cell? ⟨gb202, 6, none⟩ = some (.slice A0_6 l0_6.length c0_6) := (blk_cell BK202.out 6).trans rfl; have hcq202_7 : w42.cell? ⟨gb202, 7, none⟩ = some (.slice A0_7 l0_7.length c0_7) := (blk_cell BK202.out 7).trans rfl; have hcq202_8 : w42.cell? ⟨gb202, 8, none⟩ = some (.int .i64 a0_8) := (blk_cell BK202.out 8).trans rfl; have hcq203_0 : w42.cell? ⟨gb203, 0, none⟩ = some (.slice none 0 0) := (blk_cell BK203.out 0).trans rfl; have hcq203_1 : w42.cell? ⟨gb203, 1, none⟩ = some (.slice none 0 0) := (blk_cell BK203.out 1).trans rfl; have hcq203_2 : w42.cell? ⟨gb203, 2, none⟩ = some (.bool false) := (blk_cell BK203.out 2).trans rfl; have hcq203_3 : w42.cell? ⟨gb203, 3, none⟩ = some (.bool false) := (blk_cell BK203.out 3).trans rfl; have hcq203_4 : w42.cell? ⟨gb203, 4, none⟩ = some (.bool false) := (blk_cell BK203.out 4).trans rfl; have hcq203_5 : w42.cell? ⟨gb203, 5, none⟩ = some (.bool false) := (blk_cell BK203.out 5).trans rfl; have hcq203_6 : w42.cell? ⟨gb203, 6, none⟩ = some (.slice none 0 0) := (blk_cell BK203.out 6).trans rfl; have hcq203_7 : w42.cell? ⟨gb203, 7, none⟩ = some (.slice none 0 0) := (blk_cell BK203.out 7).trans rfl; have hcq203_8 : w42.cell? ⟨gb203, 8, none⟩ = some (.int .i64 0) := (blk_cell BK203.out 8).trans rfl; have hcq221_0 : w42.cell? ⟨gb221, 0, none⟩ = some (.slice Ao34 t204.length co34) := (blk_cell BK221.out 0).trans rfl; have hcq221_1 : w42.cell? ⟨gb221, 1, none⟩ = some (.slice Ao38 t207.length co38) := (blk_cell BK221.out 1).trans rfl; have hcq221_2 : w42.cell? ⟨gb221, 2, none⟩ = some (.bool t210) := (blk_cell BK221.out 2).trans rfl; have hcq221_3 : w42.cell? ⟨gb221, 3, none⟩ = some (.bool t211) := (blk_cell BK221.out 3).trans rfl; have hcq221_4 : w42.cell? ⟨gb221, 4, none⟩ = some (.bool t212) := (blk_cell BK221.out 4).trans rfl; have hcq221_5 : w42.cell? ⟨gb221, 5, none⟩ = some (.bool t213) := (blk_cell BK221.out 5).trans rfl; have hcq221_6 : w42.cell? ⟨gb221, 6, none⟩ = some (.slice Ao39 t214.length co39) := (blk_cell BK221.out 6).trans rfl; have hcq221_7 : w42.cell? ⟨gb221, 7, none⟩ = some (.slice Ao40 t217.length co40) := (blk_cell BK221.out 7).trans rfl; have hcq221_8 : w42.cell? ⟨gb221, 8, none⟩ = some (.int .i64 t220) := (blk_cell BK221.out 8).trans rfl))
     replace HO206 := A_ (Kd.R_drew HO206.out)
     replace HO209 := A_ (Kd.R_drew HO209.out)
     replace HO216 := A_ (Kd.R_drew HO216.out)
     replace HO219 := A_ (Kd.R_drew HO219.out)
     replace BK202 := A_ (blk_drew BK202.out)
     replace BK203 := A_ (blk_drew BK203.out)
     replace BK221 := A_ (blk_drew BK221.out)
     replace HB := A_ (below_drew1 HB.out)
     refine start_ (n := 8) (S := fun w' => w'.cell? ⟨gb221, 0, none⟩ = some (.slice Ao34 t204.length co34) ∧ w'.cell? ⟨gb221, 1, none⟩ = some (.slice Ao38 t207.length co38) ∧ w'.cell? ⟨gb221, 2, none⟩ = some (.bool t210) ∧ w'.cell? ⟨gb221, 3, none⟩ = some (.bool t211) ∧ w'.cell? ⟨gb221, 4, none⟩ = some (.bool t212) ∧ w'.cell? ⟨gb221, 5, none⟩ = some (.bool t213) ∧ w'.cell? ⟨gb221, 6, none⟩ = some (.slice Ao39 t214.length co39) ∧ w'.cell? ⟨gb221, 7, none⟩ = some (.slice Ao40 t217.length co40) ∧ w'.cell? ⟨gb221, 8, none⟩ = some (.int .i64 t220)) (ds := [7]) #[false, false, false, false, false, false, false, false] (by kernel_rfl) rfl rfl ⟨(blk_cell BK221.out 0).trans rfl, (blk_cell BK221.out 1).trans rfl, (blk_cell BK221.out 2).trans rfl, (blk_cell BK221.out 3).trans rfl, (blk_cell BK221.out 4).trans rfl, (blk_cell BK221.out 5).trans rfl, (blk_cell BK221.out 6).trans rfl, (blk_cell BK221.out 7).trans rfl, (blk_cell BK221.out 8).trans rfl⟩ (fun hHeld => ?_); refine with_tabW impl_WriteW.tab4 impl_WriteW.bits4 (fun HT_ HW_ => ?_)
     generalize w42.drew = w43 at HO206 HO209 HO216 HO219 BK202 BK203 BK221 HB hHeld ⊢
     refine pu_ 0 (some 23) (bm_ 8 1) (any_of HT_.out (by kernel_rfl)) ?_
     refine pu_ 2 (some 25) (bm_ 8 5) (any_of HT_.out (by kernel_rfl)) ?_
     refine pu_ 3 (some 26) (bm_ 8 13) (any_of HT_.out (by kernel_rfl)) ?_
     refine pu_ 4 (some 27) (bm_ 8 29) (any_of HT_.out (by kernel_rfl)) ?_
     refine take_ (i := 1) (N := some 24) (v := ?_) (a' := ?_) (bm_ 8 31) rfl rfl (take_ofW HT_.out HW_.out (by kernel_rfl)) (fun _ _ _ h => h) (Or.inl ⟨by rfl, ?_⟩) hHeld ?_ ?_
     rotate_left
     ·rintro w' ⟨s0, s1, s2, s3, s4, s5, s6, s7, s8⟩
      go_simp
      with_reducible rfl
     rotate_left
     ·simp only [Act.put, List.setIfInBounds_toArray, List.set_cons_zero, List.set_cons_succ, i64_w, i32_w]
      rfl
     refine one_ (i := 5) (N := some 28) (bm_ 8 63) rfl rfl (one_of HT_.out (by kernel_rfl)) (by decide) (fun K hK => ?_)
     refine goes_ Try.func43 (by kernel_rfl) rfl #[.int .i64 a2] (by rfl) rfl rfl d5_ ?_
     with_reducible refine (impl_Wrap.calls a2 t223 _ A23.out).mono ?_
     rintro e w' ⟨rfl, ⟨nd, rfl⟩⟩
     refine ⟨_, rfl, ?_⟩
     have p27 : 0 ≤ ((ji24) : Int) := of_decide_eq_true d8_
     have q27 : ((ji24) : Int) < ((t204.length : Int) : Int) := of_decide_eq_true d8_
     obtain ⟨go27, co27, eo27, gb27, gl27, cl27, HG27⟩ := Kd.R_form HO206.out (by omega)
     (first | cases eo27 | (injection eo27 with ea_ en_ ec_; (first | subst ea_ | (injection ea_ with ea_; subst ea_)); subst ec_; clear en_))
     have GB27 := A_ gb27
     have GG27 := A_ HG27
     clear gb27 gl27 HG27
     obtain ⟨hx27_0, hf27_0⟩ := Kd.R_celln 0 HO206.out ((ji24) : Int) p27 q27
     replace p27 := eq_true p27
     replace q27 := eq_true q27
     have HP44 := Kd.R_putn HO206.out ((ji24) : Int) t223
     rw [← Ny224.out] at HP44
     have HQ44 := A_ HP44
     clear HP44
     refine hK.out _ _ ⟨(blk_cell BK221.out 0).trans rfl, (blk_cell BK221.out 1).trans rfl, (blk_cell BK221.out 2).trans rfl, (blk_cell BK221.out 3).trans rfl, (blk_cell BK221.out 4).trans rfl, (blk_cell BK221.out 5).trans rfl, (blk_cell BK221.out 6).trans rfl, (blk_cell BK221.out 7).trans rfl, (blk_cell BK221.out 8).trans rfl⟩ (fun hHeld => ?_)
     clear hK K
     refine norm_ (a' := ?_) ?_ ?_
     rotate_left
     ·show Act.put _ (some 28) _ = _
      simp only [Act.put, List.setIfInBounds_toArray, List.set_cons_zero, List.set_cons_succ, i64_w, i32_w]
      rfl
     refine pu_ 6 (some 29) (bm_ 8 127) (any_of HT_.out (by kernel_rfl)) ?_
     refine last_ (i := 7) (N := none) (bm_ 8 255) rfl rfl (one_of HT_.out (by kernel_rfl)) (by decide) (fun K hK => ?_)
     refine skip_ (w1 := ?_) (by rfl) rfl ?_ ?_
     rotate_left
     ·go_simp
      rfl
     refine hK.out _ _ ?_
     clear hK K
     refine done_ (done_of HT_.out (by kernel_rfl)) ?_
     have n0_ : Aside0 (Kd.R (Kd.int .i64) 3 (w43.setCell ⟨go27, ((ji24) : Int).toNat, none⟩ (.int .i64 t223)) w.heap.size (fun k_ => some k_ ≠ (.slice Ao38 t207.length co38 : Value).ownBlock ∧ some k_ ≠ (.slice Ao39 t214.length co39 : Value).ownBlock ∧ some k_ ≠ (.slice Ao40 t217.length co40 : Value).ownBlock) (.slice (some ⟨go27, 0, none⟩) t204.length co34) y224) := ⟨kr_ (HQ44.out)⟩
     have n1_ : Aside0 (Kd.R (Kd.int .i64) 3 (w43.setCell ⟨go27, ((ji24) : Int).toNat, none⟩ (.int .i64 t223)) w.heap.size (fun k_ => some k_ ≠ (.slice (some ⟨go27, 0, none⟩) t204.length co34 : Value).ownBlock ∧ some k_ ≠ (.slice Ao39 t214.length co39 : Value).ownBlock ∧ some k_ ≠ (.slice Ao40 t217.length co40 : Value).ownBlock) (.slice Ao38 t207.length co38) t207) := ⟨by (with_reducible repeat (first | apply Kd.R_alloc | apply Kd.R_drewN | apply Kd.R_drew)); exact Kd.R_mono (Kd.R_far (p := ⟨go27, ((ji24) : Int).toNat, none⟩) (Kd.R_mono HO209.out (fun k_ hk => (⟨hk, fun e_ => hk.1 (by rw [e_]; rfl)⟩ : _ ∧ k_ ≠ go27))) (fun _ hk => hk.2) (.int .i64 t223)) (fun _ hk => ⟨hk.1.1, ⟨hk.1.2.1, hk.1.2.2⟩⟩)⟩
     have n2_ : Aside0 (Kd.R (Kd.int .i64) 3 (w43.setCell ⟨go27, ((ji24) : Int).toNat, none⟩ (.int .i64 t223)) w.heap.size (fun k_ => some k_ ≠ (.slice (some ⟨go27, 0, none⟩) t204.length co34 : Value).ownBlock ∧ some k_ ≠ (.slice Ao38 t207.length co38 : Value).ownBlock ∧ some k_ ≠ (.slice Ao40 t217.length co40 : Value).ownBlock) (.slice Ao39 t214.length co39) t214) := ⟨by (with_reducible repeat (first | apply Kd.R_alloc | apply Kd.R_drewN | apply Kd.R_drew)); exact Kd.R_mono (Kd.R_far (p := ⟨go27, ((ji24) : Int).toNat, none⟩) (Kd.R_mono HO216.out (fun k_ hk => (⟨hk, fun e_ => hk.1 (by rw [e_]; rfl)⟩ : _ ∧ k_ ≠ go27))) (fun _ hk => hk.2) (.int .i64 t223)) (fun _ hk => ⟨hk.1.1, ⟨hk.1.2.1, hk.1.2.2⟩⟩)⟩
     have n3_ : Aside0 (Kd.R (Kd.int .i64) 3 (w43.setCell ⟨go27, ((ji24) : Int).toNat, none⟩ (.int .i64 t223)) w.heap.size (fun k_ => some k_ ≠ (.slice (some ⟨go27, 0, none⟩) t204.length co34 : Value).ownBlock ∧ some k_ ≠ (.slice Ao38 t207.length co38 : Value).ownBlock ∧ some k_ ≠ (.slice Ao39 t214.length co39 : Value).ownBlock) (.slice Ao40 t217.length co40) t217) := ⟨by (with_reducible repeat (first | apply Kd.R_alloc | apply Kd.R_drewN | apply Kd.R_drew)); exact Kd.R_mono (Kd.R_far (p := ⟨go27, ((ji24) : Int).toNat, none⟩) (Kd.R_mono HO219.out (fun k_ hk => (⟨hk, fun e_ => hk.1 (by rw [e_]; rfl)⟩ : _ ∧ k_ ≠ go27))) (fun _ hk => hk.2) (.int .i64 t223)) (fun _ hk => ⟨hk.1.1, ⟨hk.1.2.1, hk.1.2.2⟩⟩)⟩
     have n4_ : Aside0 ((w43.setCell ⟨go27, ((ji24) : Int).toNat, none⟩ (.int .i64 t223)).heap[gb202]? = some (.cells #[.slice A0_0 l0_0.length c0_0, .slice A0_1 l0_1.length c0_1, .bool a0_2, .bool a0_3, .bool a0_4, .bool a0_5, .slice A0_6 l0_6.length c0_6, .slice A0_7 l0_7.length c0_7, .int .i64 a0_8] 28 (0, 0))) := ⟨by refine bk_ ?_; refine blk_far ?_ (by have h_ := Kd.R_ne HO206.out BK202.out (by decide); intro e_; exact h_ (by rw [e_]; rfl)) _; refine bk_ ?_; exact BK202.out⟩
     have n5_ : Aside0 ((w43.setCell ⟨go27, ((ji24) : Int).toNat, none⟩ (.int .i64 t223)).heap[gb203]? = some (.cells #[.slice none 0 0, .slice none 0 0, .bool false, .bool false, .bool false, .bool false, .slice none 0 0, .slice none 0 0, .int .i64 0] 28 (0, 0))) := ⟨by refine bk_ ?_; refine blk_far ?_ (by have h_ := Kd.R_ne HO206.out BK203.out (by decide); intro e_; exact h_ (by rw [e_]; rfl)) _; refine bk_ ?_; exact BK203.out⟩
     have n6_ : Aside0 ((w43.setCell ⟨go27, ((ji24) : Int).toNat, none⟩ (.int .i64 t223)).heap[gb221]? = some (.cells #[.slice (some ⟨go27, 0, none⟩) t204.length co34, .slice Ao38 t207.length co38, .bool t210, .bool t211, .bool t212, .bool t213, .slice Ao39 t214.length co39, .slice Ao40 t217.length co40, .int .i64 t220] 28 (0, 0))) := ⟨by refine bk_ ?_; refine blk_far ?_ (by have h_ := Kd.R_ne HO206.out BK221.out (by decide); intro e_; exact h_ (by rw [e_]; rfl)) _; refine bk_ ?_; exact BK221.out⟩
     have n7_ : Aside0 (Below w.heap.size w (w43.setCell ⟨go27, ((ji24) : Int).toNat, none⟩ (.int .i64 t223))) := ⟨by repeat (first | (with_reducible first | exact HB.out | apply below_alloc | apply pw_below_drewN | apply below_drew1 | refine below_set ?_ GB27.out | refine below_set ?_ GE202.out | refine below_set ?_ GE203.out | refine below_set ?_ GE221.out) | exact HB.out)⟩
     (try clear HO206)
     (try clear HO209)
     (try clear HO216)
     (try clear HO219)
     (try clear BK202)
     (try clear BK203)
     (try clear BK221)
     (try clear HB)
     try rw [show (w43.drewN nd).setCell ⟨go27, ((ji24) : Int).toNat, none⟩ (.int .i64 t223) = (w43.setCell ⟨go27, ((ji24) : Int).toNat, none⟩ (.int .i64 t223)).drewN nd from rfl]
     generalize (w43.setCell ⟨go27, ((ji24) : Int).toNat, none⟩ (.int .i64 t223)) = w45 at n0_ n1_ n2_ n3_ n4_ n5_ n6_ n7_ ⊢
     have HO206 := n0_
     have HO209 := n1_
     have HO216 := n2_
     have HO219 := n3_
     have BK202 := n4_
     have BK203 := n5_
     have BK221 := n6_
     have HB := n7_
     clear n0_ n1_ n2_ n3_ n4_ n5_ n6_ n7_
     obtain ⟨y46_0, y46_1, y46_2, y46_3, y46_4, y46_5, y46_6, y46_7, y46_8, z46_0, z46_1, z46_2, z46_3, z46_4, z46_5, z46_6, z46_7, z46_8⟩ := cz9_ BK221.out
     obtain ⟨y47_0, y47_1, y47_2, y47_3, y47_4, y47_5, y47_6, y47_7, y47_8, z47_0, z47_1, z47_2, z47_3, z47_4, z47_5, z47_6, z47_7, z47_8⟩ := cz9_ BK203.out
     try go_wp2
     refine bodyPost_ret (results_ct rfl _ _ gb203 28 #[.slice (some ⟨go27, 0, none⟩) t204.length co34, .slice Ao38 t207.length co38, .bool t210, .bool t211, .bool t212, .bool t213, .slice Ao39 t214.length co39, .slice Ao40 t217.length co40, .int .i64 t220] (0, 0) _ rfl ?hb_ Try.underlying28 rfl (by kernel_rfl)) rfl ?_
     (case hb_ => exact bk_ (bp9_ (bk_ BK203.out)))
     exact ⟨_, _, _, _, by first | rfl | (simp [errW_none, errW_some] <;> rfl) | (simp only [← hji24]; first | rfl | (simp [errW_none, errW_some] <;> rfl)) | (simp [*, errW_none, errW_some] <;> rfl), by (with_reducible repeat (first | apply Kd.R_alloc | apply Kd.R_drewN | apply Kd.R_drew)); exact Kd.R_mono (rf9_ (Kd.R_types HO206.out BK203.out (by decide)) (fun _ hk => hk.2)) (fun _ hk => ⟨hk.1.1, ⟨hk.1.2.1, hk.1.2.2⟩⟩), by (with_reducible repeat (first | apply Kd.R_alloc | apply Kd.R_drewN | apply Kd.R_drew)); exact Kd.R_mono (rf9_ (Kd.R_types HO209.out BK203.out (by decide)) (fun _ hk => hk.2)) (fun _ hk => ⟨hk.1.1, ⟨hk.1.2.1, hk.1.2.2⟩⟩), by (with_reducible repeat (first | apply Kd.R_alloc | apply Kd.R_drewN | apply Kd.R_drew)); exact Kd.R_mono (rf9_ (Kd.R_types HO216.out BK203.out (by decide)) (fun _ hk => hk.2)) (fun _ hk => ⟨hk.1.1, ⟨hk.1.2.1, hk.1.2.2⟩⟩), by (with_reducible repeat (first | apply Kd.R_alloc | apply Kd.R_drewN | apply Kd.R_drew)); exact Kd.R_mono (rf9_ (Kd.R_types HO219.out BK203.out (by decide)) (fun _ hk => hk.2)) (fun _ hk => ⟨hk.1.1, ⟨hk.1.2.1, hk.1.2.2⟩⟩), bw_ HB.out⟩
    ·rw [if_neg c26] at H
     exact absurd H (by simp)
   ·rw [if_neg c25] at H
    exact absurd H (by simp)
 ·replace c6 := Bool.eq_false_iff.mpr c6
  subst c6
  rw [if_neg (show ¬ (false = true) by decide)] at H
  simp only [Option.some.injEq, Prod.mk.injEq] at H
  obtain ⟨rfl, rfl, rfl, rfl, rfl, rfl, rfl, rfl, rfl, rfl⟩ := H
  go_enter Try.func35, Try.ntmps35
  go_wp2_with (first | ((with_reducible refine gate_dst (N := 3) rfl ?_); (try (refine gate_guard (by rfl) ?_; dsimp only)); refine bx_ 3 #[.slice A0_0 l0_0.length c0_0, .slice A0_1 l0_1.length c0_1, .bool a0_2, .bool a0_3, .bool a0_4, .bool a0_5, .slice A0_6 l0_6.length c0_6, .slice A0_7 l0_7.length c0_7, .int .i64 a0_8] 28 ?_; intro gb202 hg w48 hbox hb; have n0_ := A_ (below_step (bw_ HB.out) hb); have n1_ := A_ (hbox); have n2_ := A_ ((d10_ : w.heap.size ≤ gb202)); have n3_ := n2_; clear HB; have HB := n0_; have BK202 := n1_; have GW202 := n2_; have GE202 := n3_; have GI202 := GeI.mk GE202.out; clear n0_ n1_ n2_ n3_; clear hb hbox hg) | ((with_reducible refine gate_dst (N := 6) rfl ?_); (try (refine gate_guard (by rfl) ?_; dsimp only)); refine bx_ 6 #[.slice none 0 0, .slice none 0 0, .bool false, .bool false, .bool false, .bool false, .slice none 0 0, .slice none 0 0, .int .i64 0] 28 ?_; intro gb203 hg w49 hbox hb; have n0_ := A_ (blk_below (bk_ BK202.out) hb); have n1_ := A_ (below_step (bw_ HB.out) hb); have n2_ := A_ (hbox); have n3_ := A_ ((d10_ : w.heap.size ≤ gb203)); have n4_ := n3_; have n5_ := A_ ((d28_ : gb202 ≠ gb203)); have n6_ := A_ n5_.out.symm; clear BK202; clear HB; have BK202 := n0_; have HB := n1_; have BK203 := n2_; have GW203 := n3_; have GE203 := n4_; have GI203 := GeI.mk GE203.out; have NB202_203 := n5_; have NB203_202 := n6_; clear n0_ n1_ n2_ n3_ n4_ n5_ n6_; clear hb hbox hg; have hnb50 := NB202_203.out; have hnc50 := NB203_202.out; obtain ⟨y51_0, y51_1, y51_2, y51_3, y51_4, y51_5, y51_6, y51_7, y51_8, z51_0, z51_1, z51_2, z51_3, z51_4, z51_5, z51_6, z51_7, z51_8⟩ := cz9_ BK202.out) | ((with_reducible refine gate_callee (f := 68) rfl ?_); refine gL_ (some 10) Try.func68 #[.agg #[.slice A0_0 l0_0.length c0_0, .slice A0_1 l0_1.length c0_1, .bool a0_2, .bool a0_3, .bool a0_4, .bool a0_5, .slice A0_6 l0_6.length c0_6, .slice A0_7 l0_7.length c0_7, .int .i64 a0_8]] ?_; (with_reducible refine (impl_copyMach.calls _ _ l0_0 _ _ l0_1 a0_2 a0_3 a0_4 a0_5 _ _ l0_6 _ _ l0_7 a0_8 t204 t207 t210 t211 t212 t213 t214 t217 t220 _ ?side1 ?side2 ?side3 ?side4 ?side5 ?side6 ?side7 ?side8 A4.out).mono ?_); (case side1 => repeat (first | exact (Kd.C_below HR0_0.out HB.out) | (with_reducible refine Kd.C_alloc ?_ _) | (with_reducible refine Kd.C_drewN ?_ _) | (with_reducible refine Kd.C_drew ?_))); (case side2 => exact HC0_0.out); (case side3 => repeat (first | exact (Kd.C_below HR0_1.out HB.out) | (with_reducible refine Kd.C_alloc ?_ _) | (with_reducible refine Kd.C_drewN ?_ _) | (with_reducible refine Kd.C_drew ?_))); (case side4 => exact HC0_1.out); (case side5 => repeat (first | exact (Kd.C_below HR0_6.out HB.out) | (with_reducible refine Kd.C_alloc ?_ _) | (with_reducible refine Kd.C_drewN ?_ _) | (with_reducible refine Kd.C_drew ?_))); (case side6 => exact HC0_6.out); (case side7 => repeat (first | exact (Kd.C_below HR0_7.out HB.out) | (with_reducible refine Kd.C_alloc ?_ _) | (with_reducible refine Kd.C_drewN ?_ _) | (with_reducible refine Kd.C_drew ?_))); (case side8 => exact HC0_7.out); rintro e w52 ⟨v205, v208, v215, v218, rfl, ho0, ho1, ho2, ho3, hb⟩; refine ⟨_, rfl, ?_⟩; have HO206 := A_ (Kd.R_lower ho0 (below_size (bw_ HB.out))); have HO209 := A_ (Kd.R_lower ho1 (below_size (bw_ HB.out))); have HO216 := A_ (Kd.R_lower ho2 (below_size (bw_ HB.out))); have HO219 := A_ (Kd.R_lower ho3 (below_size (bw_ HB.out))); replace BK202 := A_ (blk_below (bk_ BK202.out) hb); replace BK203 := A_ (blk_below (bk_ BK203.out) hb); replace HB := A_ (below_step (bw_ HB.out) hb); clear hb; (try clear ho0); (try clear ho1); (try clear ho2); (try clear ho3)) | ((with_reducible refine gate_dst (N := 8) rfl ?_); (try (refine gate_guard (by rfl) ?_; dsimp only)); refine bx_ 8 #[.slice none 0 0, .slice none 0 0, .bool false, .bool false, .bool false, .bool false, .slice none 0 0, .slice none 0 0, .int .i64 0] 28 ?_; intro gb221 hg w53 hbox hb; have n0_ := A_ (Kd.R_below (kr_ HO206.out) hb); have n1_ := A_ (Kd.R_below (kr_ HO209.out) hb); have n2_ := A_ (Kd.R_below (kr_ HO216.out) hb); have n3_ := A_ (Kd.R_below (kr_ HO219.out) hb); have n4_ := A_ (blk_below (bk_ BK202.out) hb); have n5_ := A_ (blk_below (bk_ BK203.out) hb); have n6_ := A_ (below_step (bw_ HB.out) hb); have n7_ := A_ (hbox); have n8_ := A_ ((d10_ : w.heap.size ≤ gb221)); have n9_ := n8_; have n10_ := A_ ((d28_ : gb202 ≠ gb221)); have n11_ := A_ n10_.out.symm; have n12_ := A_ ((by rw [hg]; exact Nat.ne_of_lt (blk_lt (bk_ BK203.out)) : gb203 ≠ gb221)); have n13_ := A_ n12_.out.symm; clear HO206; clear HO209; clear HO216; clear HO219; clear BK202; clear BK203; clear HB; have HO206 := n0_; have HO209 := n1_; have HO216 := n2_; have HO219 := n3_; have BK202 := n4_; have BK203 := n5_; have HB := n6_; have BK221 := n7_; have GW221 := n8_; have GE221 := n9_; have GI221 := GeI.mk GE221.out; have NB202_221 := n10_; have NB221_202 := n11_; have NB203_221 := n12_; have NB221_203 := n13_; clear n0_ n1_ n2_ n3_ n4_ n5_ n6_ n7_ n8_ n9_ n10_ n11_ n12_ n13_; clear hb hbox hg; obtain ⟨Ao54, co54, eo54⟩ := Kd.R_slice HO206.out; subst eo54; have hnb55 := NB221_202.out; have hnc55 := NB202_221.out; have hnb56 := NB221_203.out; have hnc56 := NB203_221.out; obtain ⟨y57_0, y57_1, y57_2, y57_3, y57_4, y57_5, y57_6, y57_7, y57_8, z57_0, z57_1, z57_2, z57_3, z57_4, z57_5, z57_6, z57_7, z57_8⟩ := cz9_ BK221.out; obtain ⟨Ao58, co58, eo58⟩ := Kd.R_slice HO209.out; subst eo58; obtain ⟨Ao59, co59, eo59⟩ := Kd.R_slice HO216.out; subst eo59; obtain ⟨Ao60, co60, eo60⟩ := Kd.R_slice HO219.out; subst eo60) | ((with_reducible refine gate_callee (f := 58) rfl ?_); refine gL_ (some 12) Try.func58 #[.int .i64 a1] ?_; (with_reducible refine (impl_isAddr.calls a1 false _ A5.out).mono ?_); rintro e w' ⟨rfl, ⟨nd, rfl⟩⟩; refine ⟨_, rfl, ?_⟩; obtain ⟨y61_0, y61_1, y61_2, y61_3, y61_4, y61_5, y61_6, y61_7, y61_8, z61_0, z61_1, z61_2, z61_3, z61_4, z61_5, z61_6, z61_7, z61_8⟩ := cz9_ BK203.out))
  refine bodyPost_ret (results_ct rfl _ _ gb203 28 #[.slice Ao54 t204.length co54, .slice Ao58 t207.length co58, .bool t210, .bool t211, .bool t212, .bool t213, .slice Ao59 t214.length co59, .slice Ao60 t217.length co60, .int .i64 t220] (0, 0) _ rfl ?hb_ Try.underlying28 rfl (by kernel_rfl)) rfl ?_
  (case hb_ => refine bk_ ?_; refine blk_put (cs := #[.slice Ao54 t204.length co54, .slice Ao58 t207.length co58, .bool t210, .bool t211, .bool t212, .bool t213, .slice Ao59 t214.length co59, .slice Ao60 t217.length co60, .int .i64 0]) ?_ 8 _ rfl; refine bk_ ?_; refine blk_put (cs := #[.slice Ao54 t204.length co54, .slice Ao58 t207.length co58, .bool t210, .bool t211, .bool t212, .bool t213, .slice Ao59 t214.length co59, .slice none 0 0, .int .i64 0]) ?_ 7 _ rfl; refine bk_ ?_; refine blk_put (cs := #[.slice Ao54 t204.length co54, .slice Ao58 t207.length co58, .bool t210, .bool t211, .bool t212, .bool t213, .slice none 0 0, .slice none 0 0, .int .i64 0]) ?_ 6 _ rfl; refine bk_ ?_; refine blk_put (cs := #[.slice Ao54 t204.length co54, .slice Ao58 t207.length co58, .bool t210, .bool t211, .bool t212, .bool false, .slice none 0 0, .slice none 0 0, .int .i64 0]) ?_ 5 _ rfl; refine bk_ ?_; refine blk_put (cs := #[.slice Ao54 t204.length co54, .slice Ao58 t207.length co58, .bool t210, .bool t211, .bool false, .bool false, .slice none 0 0, .slice none 0 0, .int .i64 0]) ?_ 4 _ rfl; refine bk_ ?_; refine blk_put (cs := #[.slice Ao54 t204.length co54, .slice Ao58 t207.length co58, .bool t210, .bool false, .bool false, .bool false, .slice none 0 0, .slice none 0 0, .int .i64 0]) ?_ 3 _ rfl; refine bk_ ?_; refine blk_put (cs := #[.slice Ao54 t204.length co54, .slice Ao58 t207.length co58, .bool false, .bool false, .bool false, .bool false, .slice none 0 0, .slice none 0 0, .int .i64 0]) ?_ 2 _ rfl; refine bk_ ?_; refine blk_put (cs := #[.slice Ao54 t204.length co54, .slice none 0 0, .bool false, .bool false, .bool false, .bool false, .slice none 0 0, .slice none 0 0, .int .i64 0]) ?_ 1 _ rfl; refine bk_ ?_; refine blk_put (cs := #[.slice none 0 0, .slice none 0 0, .bool false, .bool false, .bool false, .bool false, .slice none 0 0, .slice none 0 0, .int .i64 0]) ?_ 0 _ rfl; refine bk_ ?_; refine blk_far ?_ NB203_221.out _; refine bk_ ?_; refine blk_far ?_ NB203_221.out _; refine bk_ ?_; refine blk_far ?_ NB203_221.out _; refine bk_ ?_; refine blk_far ?_ NB203_221.out _; refine bk_ ?_; refine blk_far ?_ NB203_221.out _; refine bk_ ?_; refine blk_far ?_ NB203_221.out _; refine bk_ ?_; refine blk_far ?_ NB203_221.out _; refine bk_ ?_; refine blk_far ?_ NB203_221.out _; refine bk_ ?_; refine blk_far ?_ NB203_221.out _; refine bk_ ?_; exact BK203.out)
  exact ⟨_, _, _, _, by first | rfl | (simp [errW_none, errW_some] <;> rfl) | (simp [*, errW_none, errW_some] <;> rfl), by (with_reducible repeat (first | apply Kd.R_alloc | apply Kd.R_drewN | apply Kd.R_drew)); exact Kd.R_mono (rf9_ (Kd.R_drewN (Kd.R_far (p := ⟨gb221, 8, none⟩) (Kd.R_far (p := ⟨gb221, 7, none⟩) (Kd.R_far (p := ⟨gb221, 6, none⟩) (Kd.R_far (p := ⟨gb221, 5, none⟩) (Kd.R_far (p := ⟨gb221, 4, none⟩) (Kd.R_far (p := ⟨gb221, 3, none⟩) (Kd.R_far (p := ⟨gb221, 2, none⟩) (Kd.R_far (p := ⟨gb221, 1, none⟩) (Kd.R_far (p := ⟨gb221, 0, none⟩) (Kd.R_types (Kd.R_types HO206.out BK221.out (by decide)) BK203.out (by decide)) (fun _ hk => hk.1.2) (.slice Ao54 t204.length co54)) (fun _ hk => hk.1.2) (.slice Ao58 t207.length co58)) (fun _ hk => hk.1.2) (.bool t210)) (fun _ hk => hk.1.2) (.bool t211)) (fun _ hk => hk.1.2) (.bool t212)) (fun _ hk => hk.1.2) (.bool t213)) (fun _ hk => hk.1.2) (.slice Ao59 t214.length co59)) (fun _ hk => hk.1.2) (.slice Ao60 t217.length co60)) (fun _ hk => hk.1.2) (.int .i64 t220)) _) (fun _ hk => hk.2)) (fun _ hk => ⟨hk.1.1.1, ⟨hk.1.1.2.1, hk.1.1.2.2⟩⟩), by (with_reducible repeat (first | apply Kd.R_alloc | apply Kd.R_drewN | apply Kd.R_drew)); exact Kd.R_mono (rf9_ (Kd.R_drewN (Kd.R_far (p := ⟨gb221, 8, none⟩) (Kd.R_far (p := ⟨gb221, 7, none⟩) (Kd.R_far (p := ⟨gb221, 6, none⟩) (Kd.R_far (p := ⟨gb221, 5, none⟩) (Kd.R_far (p := ⟨gb221, 4, none⟩) (Kd.R_far (p := ⟨gb221, 3, none⟩) (Kd.R_far (p := ⟨gb221, 2, none⟩) (Kd.R_far (p := ⟨gb221, 1, none⟩) (Kd.R_far (p := ⟨gb221, 0, none⟩) (Kd.R_types (Kd.R_types HO209.out BK221.out (by decide)) BK203.out (by decide)) (fun _ hk => hk.1.2) (.slice Ao54 t204.length co54)) (fun _ hk => hk.1.2) (.slice Ao58 t207.length co58)) (fun _ hk => hk.1.2) (.bool t210)) (fun _ hk => hk.1.2) (.bool t211)) (fun _ hk => hk.1.2) (.bool t212)) (fun _ hk => hk.1.2) (.bool t213)) (fun _ hk => hk.1.2) (.slice Ao59 t214.length co59)) (fun _ hk => hk.1.2) (.slice Ao60 t217.length co60)) (fun _ hk => hk.1.2) (.int .i64 t220)) _) (fun _ hk => hk.2)) (fun _ hk => ⟨hk.1.1.1, ⟨hk.1.1.2.1, hk.1.1.2.2⟩⟩), by (with_reducible repeat (first | apply Kd.R_alloc | apply Kd.R_drewN | apply Kd.R_drew)); exact Kd.R_mono (rf9_ (Kd.R_drewN (Kd.R_far (p := ⟨gb221, 8, none⟩) (Kd.R_far (p := ⟨gb221, 7, none⟩) (Kd.R_far (p := ⟨gb221, 6, none⟩) (Kd.R_far (p := ⟨gb221, 5, none⟩) (Kd.R_far (p := ⟨gb221, 4, none⟩) (Kd.R_far (p := ⟨gb221, 3, none⟩) (Kd.R_far (p := ⟨gb221, 2, none⟩) (Kd.R_far (p := ⟨gb221, 1, none⟩) (Kd.R_far (p := ⟨gb221, 0, none⟩) (Kd.R_types (Kd.R_types HO216.out BK221.out (by decide)) BK203.out (by decide)) (fun _ hk => hk.1.2) (.slice Ao54 t204.length co54)) (fun _ hk => hk.1.2) (.slice Ao58 t207.length co58)) (fun _ hk => hk.1.2) (.bool t210)) (fun _ hk => hk.1.2) (.bool t211)) (fun _ hk => hk.1.2) (.bool t212)) (fun _ hk => hk.1.2) (.bool t213)) (fun _ hk => hk.1.2) (.slice Ao59 t214.length co59)) (fun _ hk => hk.1.2) (.slice Ao60 t217.length co60)) (fun _ hk => hk.1.2) (.int .i64 t220)) _) (fun _ hk => hk.2)) (fun _ hk => ⟨hk.1.1.1, ⟨hk.1.1.2.1, hk.1.1.2.2⟩⟩), by (with_reducible repeat (first | apply Kd.R_alloc | apply Kd.R_drewN | apply Kd.R_drew)); exact Kd.R_mono (rf9_ (Kd.R_drewN (Kd.R_far (p := ⟨gb221, 8, none⟩) (Kd.R_far (p := ⟨gb221, 7, none⟩) (Kd.R_far (p := ⟨gb221, 6, none⟩) (Kd.R_far (p := ⟨gb221, 5, none⟩) (Kd.R_far (p := ⟨gb221, 4, none⟩) (Kd.R_far (p := ⟨gb221, 3, none⟩) (Kd.R_far (p := ⟨gb221, 2, none⟩) (Kd.R_far (p := ⟨gb221, 1, none⟩) (Kd.R_far (p := ⟨gb221, 0, none⟩) (Kd.R_types (Kd.R_types HO219.out BK221.out (by decide)) BK203.out (by decide)) (fun _ hk => hk.1.2) (.slice Ao54 t204.length co54)) (fun _ hk => hk.1.2) (.slice Ao58 t207.length co58)) (fun _ hk => hk.1.2) (.bool t210)) (fun _ hk => hk.1.2) (.bool t211)) (fun _ hk => hk.1.2) (.bool t212)) (fun _ hk => hk.1.2) (.bool t213)) (fun _ hk => hk.1.2) (.slice Ao59 t214.length co59)) (fun _ hk => hk.1.2) (.slice Ao60 t217.length co60)) (fun _ hk => hk.1.2) (.int .i64 t220)) _) (fun _ hk => hk.2)) (fun _ hk => ⟨hk.1.1.1, ⟨hk.1.1.2.1, hk.1.1.2.2⟩⟩), bw_ HB.out⟩

/-! ### laws_big: function 38 -/
def laws_big.f (l0 : List Int) : Option (Bool) := some (decide ((l0.length : Int) > 1048576))
set_option maxHeartbeats 8000000 in
set_option maxRecDepth 100000 in
theorem laws_big.calls (A0 : Option Addr) (c0 : Nat) (l0 : List Int) (r : Bool) (w : World) (hr0 : Kd.C (Kd.int .u8) w A0 l0.length l0) (hc0 : l0.length ≤ c0) (h : laws_big.f l0 = some r) :
  Calls Try.prog 38 #[.slice A0 l0.length c0] w fun e w' => e = .returned (.bool r) ∧ Drawn0 w w' := by
 have HR0 := A_ hr0
 have HC0 := A_ hc0
 clear hr0 hc0
 have H : (some (decide ((l0.length : Int) > 1048576))) = some r := h
 clear h
 obtain rfl := Option.some.inj H
 go_enter Try.func38, Try.ntmps38
 go_wp2
 go_ret
 exact ⟨by first | rfl | (simp; done) | (simp [*]; done), by repeat (first | exact Drawn0.refl _ | apply Drawn0.step)⟩

/-! ### laws_sameInts: function 55 -/
def laws_sameInts.l0 : Nat → List Int → List Int → Int → Option (Bool)
 | 0, _, _, _ => none
 | k + 1, x0, x1, x5 => if x5 < (x0.length : Int) then (if 0 ≤ x5 then (if x5 < (x1.length : Int) then (if (rd x0 x5) = (rd x1 x5) then (laws_sameInts.l0 k x0 x1 (wrap64 (x5 + 1))) else (some false)) else (none)) else (none)) else (some true)
def laws_sameInts.f (k : Nat) (l0 : List Int) (l1 : List Int) : Option (Bool) := if (l0.length : Int) = (l1.length : Int) then (laws_sameInts.l0 k l0 l1 0) else (some false)
theorem laws_sameInts.mono_l : ∀ k, (∀ y0 y1 y2, LeO (laws_sameInts.l0 k y0 y1 y2) (laws_sameInts.l0 (k + 1) y0 y1 y2))
 | 0 => fun _ _ _ r h => by simp [laws_sameInts.l0] at h
 | k + 1 => by
  have ih0 := laws_sameInts.mono_l k
  ·intro y0 y1 y2
   unfold laws_sameInts.l0
   repeat' first
   | (with_reducible exact ih0 _ _ _)
   | (with_reducible exact LeO.refl _)
   | (with_reducible exact LeO.none _)
   | (with_reducible refine LeO.ite ?_ ?_)
   | (with_reducible refine LeO.bind ?_ (fun _ => ?_))
   | exact ih0 _ _ _
   | exact LeO.none _
   | refine LeO.ite ?_ ?_
   | refine LeO.bind ?_ (fun _ => ?_)
theorem laws_sameInts.mono : ∀ a0 a1 k, LeO (laws_sameInts.f k a0 a1) (laws_sameInts.f (k + 1) a0 a1) := by
 intro a0 a1 k
 have ih0 := laws_sameInts.mono_l k
 unfold laws_sameInts.f
 repeat' first
   | (with_reducible exact ih0 _ _ _)
   | (with_reducible exact LeO.refl _)
   | (with_reducible exact LeO.none _)
   | (with_reducible refine LeO.ite ?_ ?_)
   | (with_reducible refine LeO.bind ?_ (fun _ => ?_))
   | exact ih0 _ _ _
   | exact LeO.none _
   | refine LeO.ite ?_ ?_
   | refine LeO.bind ?_ (fun _ => ?_)
set_option maxHeartbeats 8000000 in
set_option maxRecDepth 100000 in
theorem laws_sameInts.calls (k : Nat) (A0 : Option Addr) (c0 : Nat) (l0 : List Int) (A1 : Option Addr) (c1 : Nat) (l1 : List Int) (r : Bool) (w : World) (hr0 : Kd.C (Kd.int .i64) w A0 l0.length l0) (hc0 : l0.length ≤ c0) (hr1 : Kd.C (Kd.int .i64) w A1 l1.length l1) (hc1 : l1.length ≤ c1) (h : laws_sameInts.f k l0 l1 = some r) :
  Calls Try.prog 55 #[.slice A0 l0.length c0, .slice A1 l1.length c1] w fun e w' => e = .returned (.bool r) ∧ Drawn0 w w' := by
 have HR0 := A_ hr0
 have HC0 := A_ hc0
 clear hr0 hc0
 have HR1 := A_ hr1
 have HC1 := A_ hc1
 clear hr1 hc1
 have H : (if (l0.length : Int) = (l1.length : Int) then (laws_sameInts.l0 k l0 l1 0) else (some false)) = some r := h
 clear h
 by_cases c3 : (l0.length : Int) = (l1.length : Int)
 ·rw [if_pos c3] at H
  have c3b0 := beq_iff_eq.mpr c3
  have c3b1 := bne_eq_false_iff_eq.mpr c3
  have c3b2 : (l0.length == l1.length) = true := by first | simpa using c3 | (simp at c3 ⊢; omega)
  clear c3
  have H' := A_ H
  clear H
  go_enter Try.func55, Try.ntmps55
  go_wp2
  repeat (go_quiet (fail); try go_wp2)
  go_loopg [5] k (fun kq v5 w' => ∃ (x5_1 : Int), v5 = .int .i64 x5_1 ∧ Aside0 (laws_sameInts.l0 kq l0 l1 x5_1 = some r) ∧ Aside0 (kq ≤ k) ∧ Drawn0 w w')
  case atStart => exact ⟨(0), d4_, H', ⟨Nat.le_refl _⟩, by repeat (first | exact Drawn0.refl _ | apply Drawn0.step)⟩
  case round =>
   clear H'
   try clear c1
   try clear p2
   try clear c3
   try clear c3b0
   try clear c3b1
   try clear c3b2
   obtain ⟨x5_1, rfl, HA, HK1, ⟨m1, rfl⟩⟩ := hrel
   cases gk with
   | zero => exact absurd HA.out (by simp [laws_sameInts.l0])
   | succ k1 =>
    have H := HA.out
    clear HA
    simp only [laws_sameInts.l0] at H
    by_cases c4 : x5_1 < (l0.length : Int)
    ·rw [if_pos c4] at H
     have c4b0 := decide_eq_true c4
     clear c4
     by_cases c5 : 0 ≤ x5_1
     ·rw [if_pos c5] at H
      have c5b0 := decide_eq_true c5
      clear c5
      by_cases c6 : x5_1 < (l1.length : Int)
      ·rw [if_pos c6] at H
       have c6b0 := decide_eq_true c6
       clear c6
       by_cases c7 : (rd l0 x5_1) = (rd l1 x5_1)
       ·rw [if_pos c7] at H
        have c7b0 := beq_iff_eq.mpr c7
        have c7b1 := bne_eq_false_iff_eq.mpr c7
        clear c7
        have H' := A_ H
        clear H
        have p225 : 0 ≤ (x5_1 : Int) := of_decide_eq_true d8_
        have q225 : x5_1 < (l0.length : Int) := of_decide_eq_true d8_
        obtain ⟨ad225, e225, hx225_0⟩ := Kd.at_int HR0.out x5_1 p225 q225
        cases e225
        replace p225 := eq_true p225
        replace q225 := eq_true q225
        have p226 : 0 ≤ (x5_1 : Int) := of_decide_eq_true d8_
        have q226 : x5_1 < (l1.length : Int) := of_decide_eq_true d8_
        obtain ⟨ad226, e226, hx226_0⟩ := Kd.at_int HR1.out x5_1 p226 q226
        cases e226
        replace p226 := eq_true p226
        replace q226 := eq_true q226
        go_wp2
        repeat (go_quiet (fail); try go_wp2)
        go_roundg k1
        case measure => have := HK1.out; omega
        case rel => exact ⟨(wrap64 (x5_1 + 1)), d4_, H', ⟨by have := HK1.out; omega⟩, by repeat (first | exact Drawn0.refl _ | apply Drawn0.step)⟩
       ·rw [if_neg c7] at H
        have c7b0 := beq_eq_false_iff_ne.mpr c7
        have c7b1 := bne_iff_ne.mpr c7
        obtain rfl := Option.some.inj H
        have p225 : 0 ≤ (x5_1 : Int) := of_decide_eq_true d8_
        have q225 : x5_1 < (l0.length : Int) := of_decide_eq_true d8_
        obtain ⟨ad225, e225, hx225_0⟩ := Kd.at_int HR0.out x5_1 p225 q225
        cases e225
        replace p225 := eq_true p225
        replace q225 := eq_true q225
        have p226 : 0 ≤ (x5_1 : Int) := of_decide_eq_true d8_
        have q226 : x5_1 < (l1.length : Int) := of_decide_eq_true d8_
        obtain ⟨ad226, e226, hx226_0⟩ := Kd.at_int HR1.out x5_1 p226 q226
        cases e226
        replace p226 := eq_true p226
        replace q226 := eq_true q226
        go_wp2
        repeat (go_quiet (fail); try go_wp2)
        go_ret
        exact ⟨by first | rfl | (simp; done) | (simp [*]; done), by repeat (first | exact Drawn0.refl _ | apply Drawn0.step)⟩
      ·rw [if_neg c6] at H
       exact absurd H (by simp)
     ·rw [if_neg c5] at H
      exact absurd H (by simp)
    ·rw [if_neg c4] at H
     have c4b0 := decide_eq_false c4
     clear c4
     obtain rfl := Option.some.inj H
     go_wp2
     repeat (go_quiet (fail); try go_wp2)
     go_ret
     exact ⟨by first | rfl | (simp; done) | (simp [*]; done), by repeat (first | exact Drawn0.refl _ | apply Drawn0.step)⟩
 ·rw [if_neg c3] at H
  have c3b0 := beq_eq_false_iff_ne.mpr c3
  have c3b1 := bne_iff_ne.mpr c3
  have c3b2 : (l0.length == l1.length) = false := by first | simpa using c3 | (simp at c3 ⊢; omega)
  obtain rfl := Option.some.inj H
  go_enter Try.func55, Try.ntmps55
  go_wp2
  repeat (go_quiet (fail); try go_wp2)
  go_ret
  exact ⟨by first | rfl | (simp; done) | (simp [*]; done), by repeat (first | exact Drawn0.refl _ | apply Drawn0.step)⟩

/-! ### laws_sameMach: function 42 -/
def laws_sameMach.f (k : Nat) (l0_0 : List Int) (l0_1 : List Int) (a0_2 : Bool) (a0_3 : Bool) (a0_4 : Bool) (a0_5 : Bool) (l0_6 : List Int) (l0_7 : List Int) (a0_8 : Int) (l1_0 : List Int) (l1_1 : List Int) (a1_2 : Bool) (a1_3 : Bool) (a1_4 : Bool) (a1_5 : Bool) (l1_6 : List Int) (l1_7 : List Int) (a1_8 : Int) : Option (Bool) := (laws_sameInts.f k l0_0 l1_0).bind fun t229 => (if t229 = true then ((laws_sameInts.f k l0_1 l1_1).bind fun t230 => (if t230 = true then (if (a0_2 == a1_2) = true then (if (a0_3 == a1_3) = true then (if (a0_4 == a1_4) = true then (if (a0_5 == a1_5) = true then ((laws_sameInts.f k l0_6 l1_6).bind fun t231 => (if t231 = true then ((laws_sameInts.f k l0_7 l1_7).bind fun t232 => (if t232 = true then (some (a0_8 == a1_8)) else (some false))) else (some false))) else (some false)) else (some false)) else (some false)) else (some false)) else (some false))) else (some false))
theorem laws_sameMach.mono : ∀ a0 a1 a2 a3 a4 a5 a6 a7 a8 a9 a10 a11 a12 a13 a14 a15 a16 a17 k, LeO (laws_sameMach.f k a0 a1 a2 a3 a4 a5 a6 a7 a8 a9 a10 a11 a12 a13 a14 a15 a16 a17) (laws_sameMach.f (k + 1) a0 a1 a2 a3 a4 a5 a6 a7 a8 a9 a10 a11 a12 a13 a14 a15 a16 a17) := by
 intro a0 a1 a2 a3 a4 a5 a6 a7 a8 a9 a10 a11 a12 a13 a14 a15 a16 a17 k
 unfold laws_sameMach.f
 repeat' first
   | (with_reducible exact laws_sameInts.mono _ _ _)
   | (with_reducible exact LeO.refl _)
   | (with_reducible exact LeO.none _)
   | (with_reducible refine LeO.ite ?_ ?_)
   | (with_reducible refine LeO.bind ?_ (fun _ => ?_))
   | exact laws_sameInts.mono _ _ _
   | exact LeO.none _
   | refine LeO.ite ?_ ?_
   | refine LeO.bind ?_ (fun _ => ?_)
set_option maxHeartbeats 8000000 in
set_option maxRecDepth 100000 in
theorem laws_sameMach.calls (k : Nat) (A0_0 : Option Addr) (c0_0 : Nat) (l0_0 : List Int) (A0_1 : Option Addr) (c0_1 : Nat) (l0_1 : List Int) (a0_2 : Bool) (a0_3 : Bool) (a0_4 : Bool) (a0_5 : Bool) (A0_6 : Option Addr) (c0_6 : Nat) (l0_6 : List Int) (A0_7 : Option Addr) (c0_7 : Nat) (l0_7 : List Int) (a0_8 : Int) (A1_0 : Option Addr) (c1_0 : Nat) (l1_0 : List Int) (A1_1 : Option Addr) (c1_1 : Nat) (l1_1 : List Int) (a1_2 : Bool) (a1_3 : Bool) (a1_4 : Bool) (a1_5 : Bool) (A1_6 : Option Addr) (c1_6 : Nat) (l1_6 : List Int) (A1_7 : Option Addr) (c1_7 : Nat) (l1_7 : List Int) (a1_8 : Int) (r : Bool) (w : World) (hr0_0 : Kd.C (Kd.int .i64) w A0_0 l0_0.length l0_0) (hc0_0 : l0_0.length ≤ c0_0) (hr0_1 : Kd.C (Kd.int .i64) w A0_1 l0_1.length l0_1) (hc0_1 : l0_1.length ≤ c0_1) (hr0_6 : Kd.C (Kd.int .i64) w A0_6 l0_6.length l0_6) (hc0_6 : l0_6.length ≤ c0_6) (hr0_7 : Kd.C (Kd.int .i64) w A0_7 l0_7.length l0_7) (hc0_7 : l0_7.length ≤ c0_7) (hr1_0 : Kd.C (Kd.int .i64) w A1_0 l1_0.length l1_0) (hc1_0 : l1_0.length ≤ c1_0) (hr1_1 : Kd.C (Kd.int .i64) w A1_1 l1_1.length l1_1) (hc1_1 : l1_1.length ≤ c1_1) (hr1_6 : Kd.C (Kd.int .i64) w A1_6 l1_6.length l1_6) (hc1_6 : l1_6.length ≤ c1_6) (hr1_7 : Kd.C (Kd.int .i64) w A1_7 l1_7.length l1_7) (hc1_7 : l1_7.length ≤ c1_7) (h : laws_sameMach.f k l0_0 l0_1 a0_2 a0_3 a0_4 a0_5 l0_6 l0_7 a0_8 l1_0 l1_1 a1_2 a1_3 a1_4 a1_5 l1_6 l1_7 a1_8 = some r) :
  Calls Try.prog 42 #[.agg #[.slice A0_0 l0_0.length c0_0, .slice A0_1 l0_1.length c0_1, .bool a0_2, .bool a0_3, .bool a0_4, .bool a0_5, .slice A0_6 l0_6.length c0_6, .slice A0_7 l0_7.length c0_7, .int .i64 a0_8], .agg #[.slice A1_0 l1_0.length c1_0, .slice A1_1 l1_1.length c1_1, .bool a1_2, .bool a1_3, .bool a1_4, .bool a1_5, .slice A1_6 l1_6.length c1_6, .slice A1_7 l1_7.length c1_7, .int .i64 a1_8]] w fun e w' => e = .returned (.bool r) ∧ Below w.heap.size w w' := by
 have hu28 := Try.underlying28
 have HR0_0 := A_ hr0_0
 have HC0_0 := A_ hc0_0
 clear hr0_0 hc0_0
 have HR0_1 := A_ hr0_1
 have HC0_1 := A_ hc0_1
 clear hr0_1 hc0_1
 have HR0_6 := A_ hr0_6
 have HC0_6 := A_ hc0_6
 clear hr0_6 hc0_6
 have HR0_7 := A_ hr0_7
 have HC0_7 := A_ hc0_7
 clear hr0_7 hc0_7
 have HR1_0 := A_ hr1_0
 have HC1_0 := A_ hc1_0
 clear hr1_0 hc1_0
 have HR1_1 := A_ hr1_1
 have HC1_1 := A_ hc1_1
 clear hr1_1 hc1_1
 have HR1_6 := A_ hr1_6
 have HC1_6 := A_ hc1_6
 clear hr1_6 hc1_6
 have HR1_7 := A_ hr1_7
 have HC1_7 := A_ hc1_7
 clear hr1_7 hc1_7
 have HB := A_ (Below.refl w.heap.size w)
 have H : ((laws_sameInts.f k l0_0 l1_0).bind fun t229 => (if t229 = true then ((laws_sameInts.f k l0_1 l1_1).bind fun t230 => (if t230 = true then (if (a0_2 == a1_2) = true then (if (a0_3 == a1_3) = true then (if (a0_4 == a1_4) = true then (if (a0_5 == a1_5) = true then ((laws_sameInts.f k l0_6 l1_6).bind fun t231 => (if t231 = true then ((laws_sameInts.f k l0_7 l1_7).bind fun t232 => (if t232 = true then (some (a0_8 == a1_8)) else (some false))) else (some false))) else (some false)) else (some false)) else (some false)) else (some false)) else (some false))) else (some false))) = some r := h
 clear h
 replace H := Option.bind_eq_some_iff.mp H
 obtain ⟨t229, A30, H⟩ := H
 try dsimp only at H
 have A3 := A_ A30
 clear A30
 by_cases c4 : t229 = true
 subst c4
 rw [if_pos rfl] at H
 replace H := Option.bind_eq_some_iff.mp H
 obtain ⟨t230, A50, H⟩ := H
 try dsimp only at H
 have A5 := A_ A50
 clear A50
 by_cases c6 : t230 = true
 subst c6
 rw [if_pos rfl] at H
 by_cases c7 : (a0_2 == a1_2) = true
 rw [if_pos c7] at H
 have c7b0 : (a0_2 == a1_2) = true := c7
 (try (have c7b1 : decide (a0_2 = a1_2) = true := by simpa using c7))
 (try (have c7b2 : (a0_2 == a1_2) = true := by simpa using c7))
 clear c7
 by_cases c8 : (a0_3 == a1_3) = true
 rw [if_pos c8] at H
 have c8b0 : (a0_3 == a1_3) = true := c8
 (try (have c8b1 : decide (a0_3 = a1_3) = true := by simpa using c8))
 (try (have c8b2 : (a0_3 == a1_3) = true := by simpa using c8))
 clear c8
 by_cases c9 : (a0_4 == a1_4) = true
 rw [if_pos c9] at H
 have c9b0 : (a0_4 == a1_4) = true := c9
 (try (have c9b1 : decide (a0_4 = a1_4) = true := by simpa using c9))
 (try (have c9b2 : (a0_4 == a1_4) = true := by simpa using c9))
 clear c9
 by_cases c10 : (a0_5 == a1_5) = true
 rw [if_pos c10] at H
 have c10b0 : (a0_5 == a1_5) = true := c10
 (try (have c10b1 : decide (a0_5 = a1_5) = true := by simpa using c10))
 (try (have c10b2 : (a0_5 == a1_5) = true := by simpa using c10))
 clear c10
 replace H := Option.bind_eq_some_iff.mp H
 obtain ⟨t231, A110, H⟩ := H
 try dsimp only at H
 have A11 := A_ A110
 clear A110
 by_cases c12 : t231 = true
 subst c12
 rw [if_pos rfl] at H
 replace H := Option.bind_eq_some_iff.mp H
 obtain ⟨t232, A130, H⟩ := H
 try dsimp only at H
 have A13 := A_ A130
 clear A130
 by_cases c14 : t232 = true
 subst c14
 rw [if_pos rfl] at H
 obtain rfl := Option.some.inj H
 rotate_left
 replace c14 := Bool.eq_false_iff.mpr c14
 subst c14
 rw [if_neg (show ¬ (false = true) by decide)] at H
 obtain rfl := Option.some.inj H
 rotate_left
 replace c12 := Bool.eq_false_iff.mpr c12
 subst c12
 rw [if_neg (show ¬ (false = true) by decide)] at H
 obtain rfl := Option.some.inj H
 rotate_left
 rw [if_neg c10] at H
 have c10b0 : (a0_5 == a1_5) = false := by simpa using c10
 (try (have c10b1 : decide (a0_5 = a1_5) = false := by simpa using c10))
 (try (have c10b2 : (a0_5 == a1_5) = false := by simpa using c10))
 (try (have c10b3 : ¬ (a0_5 = a1_5) := by simpa using c10))
 clear c10
 obtain rfl := Option.some.inj H
 rotate_left
 rw [if_neg c9] at H
 have c9b0 : (a0_4 == a1_4) = false := by simpa using c9
 (try (have c9b1 : decide (a0_4 = a1_4) = false := by simpa using c9))
 (try (have c9b2 : (a0_4 == a1_4) = false := by simpa using c9))
 (try (have c9b3 : ¬ (a0_4 = a1_4) := by simpa using c9))
 clear c9
 obtain rfl := Option.some.inj H
 rotate_left
 rw [if_neg c8] at H
 have c8b0 : (a0_3 == a1_3) = false := by simpa using c8
 (try (have c8b1 : decide (a0_3 = a1_3) = false := by simpa using c8))
 (try (have c8b2 : (a0_3 == a1_3) = false := by simpa using c8))
 (try (have c8b3 : ¬ (a0_3 = a1_3) := by simpa using c8))
 clear c8
 obtain rfl := Option.some.inj H
 rotate_left
 rw [if_neg c7] at H
 have c7b0 : (a0_2 == a1_2) = false := by simpa using c7
 (try (have c7b1 : decide (a0_2 = a1_2) = false := by simpa using c7))
 (try (have c7b2 : (a0_2 == a1_2) = false := by simpa using c7))
 (try (have c7b3 : ¬ (a0_2 = a1_2) := by simpa using c7))
 clear c7
 obtain rfl := Option.some.inj H
 rotate_left
 replace c6 := Bool.eq_false_iff.mpr c6
 subst c6
 rw [if_neg (show ¬ (false = true) by decide)] at H
 obtain rfl := Option.some.inj H
 rotate_left
 replace c4 := Bool.eq_false_iff.mpr c4
 subst c4
 rw [if_neg (show ¬ (false = true) by decide)] at H
 obtain rfl := Option.some.inj H
 rotate_left
 all_goals go_enter Try.func42, Try.ntmps42
 all_goals go_wp2_with (first | ((with_reducible refine gate_dst (N := 2) rfl ?_); refine bx_ 2 #[.slice A0_0 l0_0.length c0_0, .slice A0_1 l0_1.length c0_1, .bool a0_2, .bool a0_3, .bool a0_4, .bool a0_5, .slice A0_6 l0_6.length c0_6, .slice A0_7 l0_7.length c0_7, .int .i64 a0_8] 28 ?_; intro gb227 hg w15 hbox hb; have n0_ := A_ (below_step (bw_ HB.out) hb); have n1_ := A_ (hbox); have n2_ := A_ ((d10_ : w.heap.size ≤ gb227)); have n3_ := n2_; clear HB; have HB := n0_; have BK227 := n1_; have GW227 := n2_; have GE227 := n3_; have GI227 := GeI.mk GE227.out; clear n0_ n1_ n2_ n3_; clear hb hbox hg) | ((with_reducible refine gate_dst (N := 3) rfl ?_); refine bx_ 3 #[.slice A1_0 l1_0.length c1_0, .slice A1_1 l1_1.length c1_1, .bool a1_2, .bool a1_3, .bool a1_4, .bool a1_5, .slice A1_6 l1_6.length c1_6, .slice A1_7 l1_7.length c1_7, .int .i64 a1_8] 28 ?_; intro gb228 hg w16 hbox hb; have n0_ := A_ (blk_below (bk_ BK227.out) hb); have n1_ := A_ (below_step (bw_ HB.out) hb); have n2_ := A_ (hbox); have n3_ := A_ ((d10_ : w.heap.size ≤ gb228)); have n4_ := n3_; have n5_ := A_ ((by rw [hg]; exact Nat.ne_of_lt (blk_lt (bk_ BK227.out)) : gb227 ≠ gb228)); have n6_ := A_ n5_.out.symm; clear BK227; clear HB; have BK227 := n0_; have HB := n1_; have BK228 := n2_; have GW228 := n3_; have GE228 := n4_; have GI228 := GeI.mk GE228.out; have NB227_228 := n5_; have NB228_227 := n6_; clear n0_ n1_ n2_ n3_ n4_ n5_ n6_; clear hb hbox hg; have hnb17 := NB227_228.out; have hnc17 := NB228_227.out; obtain ⟨y18_0, y18_1, y18_2, y18_3, y18_4, y18_5, y18_6, y18_7, y18_8, z18_0, z18_1, z18_2, z18_3, z18_4, z18_5, z18_6, z18_7, z18_8⟩ := cz9_ BK227.out; obtain ⟨y19_0, y19_1, y19_2, y19_3, y19_4, y19_5, y19_6, y19_7, y19_8, z19_0, z19_1, z19_2, z19_3, z19_4, z19_5, z19_6, z19_7, z19_8⟩ := cz9_ BK228.out) | ((with_reducible refine gate_callee (f := 55) rfl ?_); refine gL_ (some 9) Try.func55 #[.slice A0_0 l0_0.length c0_0, .slice A1_0 l1_0.length c1_0] ?_; (with_reducible refine (laws_sameInts.calls k _ _ l0_0 _ _ l1_0 false _ ?side1 ?side2 ?side3 ?side4 A3.out).mono ?_); (case side1 => repeat (first | exact (Kd.C_below HR0_0.out HB.out) | (with_reducible refine Kd.C_alloc ?_ _) | (with_reducible refine Kd.C_drewN ?_ _) | (with_reducible refine Kd.C_drew ?_))); (case side2 => exact HC0_0.out); (case side3 => repeat (first | exact (Kd.C_below HR1_0.out HB.out) | (with_reducible refine Kd.C_alloc ?_ _) | (with_reducible refine Kd.C_drewN ?_ _) | (with_reducible refine Kd.C_drew ?_))); (case side4 => exact HC1_0.out); rintro e w' ⟨rfl, ⟨nd, rfl⟩⟩; refine ⟨_, rfl, ?_⟩) | ((with_reducible refine gate_callee (f := 55) rfl ?_); refine gL_ (some 9) Try.func55 #[.slice A0_0 l0_0.length c0_0, .slice A1_0 l1_0.length c1_0] ?_; (with_reducible refine (laws_sameInts.calls k _ _ l0_0 _ _ l1_0 true _ ?side1 ?side2 ?side3 ?side4 A3.out).mono ?_); (case side1 => repeat (first | exact (Kd.C_below HR0_0.out HB.out) | (with_reducible refine Kd.C_alloc ?_ _) | (with_reducible refine Kd.C_drewN ?_ _) | (with_reducible refine Kd.C_drew ?_))); (case side2 => exact HC0_0.out); (case side3 => repeat (first | exact (Kd.C_below HR1_0.out HB.out) | (with_reducible refine Kd.C_alloc ?_ _) | (with_reducible refine Kd.C_drewN ?_ _) | (with_reducible refine Kd.C_drew ?_))); (case side4 => exact HC1_0.out); rintro e w' ⟨rfl, ⟨nd, rfl⟩⟩; refine ⟨_, rfl, ?_⟩) | (go_at_call 55; (with_reducible refine (laws_sameInts.calls k _ _ l0_7 _ _ l1_7 false _ ?side1 ?side2 ?side3 ?side4 A13.out).mono ?_); (case side1 => repeat (first | exact (Kd.C_below HR0_7.out (bw_ HB.out)) | (with_reducible refine Kd.C_alloc ?_ _) | (with_reducible refine Kd.C_drewN ?_ _) | (with_reducible refine Kd.C_drew ?_))); (case side2 => exact HC0_7.out); (case side3 => repeat (first | exact (Kd.C_below HR1_7.out (bw_ HB.out)) | (with_reducible refine Kd.C_alloc ?_ _) | (with_reducible refine Kd.C_drewN ?_ _) | (with_reducible refine Kd.C_drew ?_))); (case side4 => exact HC1_7.out); rintro e w' ⟨rfl, ⟨nd, rfl⟩⟩) | (go_at_call 55; (with_reducible refine (laws_sameInts.calls k _ _ l0_6 _ _ l1_6 false _ ?side1 ?side2 ?side3 ?side4 A11.out).mono ?_); (case side1 => repeat (first | exact (Kd.C_below HR0_6.out (bw_ HB.out)) | (with_reducible refine Kd.C_alloc ?_ _) | (with_reducible refine Kd.C_drewN ?_ _) | (with_reducible refine Kd.C_drew ?_))); (case side2 => exact HC0_6.out); (case side3 => repeat (first | exact (Kd.C_below HR1_6.out (bw_ HB.out)) | (with_reducible refine Kd.C_alloc ?_ _) | (with_reducible refine Kd.C_drewN ?_ _) | (with_reducible refine Kd.C_drew ?_))); (case side4 => exact HC1_6.out); rintro e w' ⟨rfl, ⟨nd, rfl⟩⟩) | (go_at_call 55; (with_reducible refine (laws_sameInts.calls k _ _ l0_6 _ _ l1_6 true _ ?side1 ?side2 ?side3 ?side4 A11.out).mono ?_); (case side1 => repeat (first | exact (Kd.C_below HR0_6.out (bw_ HB.out)) | (with_reducible refine Kd.C_alloc ?_ _) | (with_reducible refine Kd.C_drewN ?_ _) | (with_reducible refine Kd.C_drew ?_))); (case side2 => exact HC0_6.out); (case side3 => repeat (first | exact (Kd.C_below HR1_6.out (bw_ HB.out)) | (with_reducible refine Kd.C_alloc ?_ _) | (with_reducible refine Kd.C_drewN ?_ _) | (with_reducible refine Kd.C_drew ?_))); (case side4 => exact HC1_6.out); rintro e w' ⟨rfl, ⟨nd, rfl⟩⟩) | (go_at_call 55; (with_reducible refine (laws_sameInts.calls k _ _ l0_7 _ _ l1_7 true _ ?side1 ?side2 ?side3 ?side4 A13.out).mono ?_); (case side1 => repeat (first | exact (Kd.C_below HR0_7.out (bw_ HB.out)) | (with_reducible refine Kd.C_alloc ?_ _) | (with_reducible refine Kd.C_drewN ?_ _) | (with_reducible refine Kd.C_drew ?_))); (case side2 => exact HC0_7.out); (case side3 => repeat (first | exact (Kd.C_below HR1_7.out (bw_ HB.out)) | (with_reducible refine Kd.C_alloc ?_ _) | (with_reducible refine Kd.C_drewN ?_ _) | (with_reducible refine Kd.C_drew ?_))); (case side4 => exact HC1_7.out); rintro e w' ⟨rfl, ⟨nd, rfl⟩⟩) | (go_at_call 55; (with_reducible refine (laws_sameInts.calls k _ _ l0_1 _ _ l1_1 false _ ?side1 ?side2 ?side3 ?side4 A5.out).mono ?_); (case side1 => repeat (first | exact (Kd.C_below HR0_1.out (bw_ HB.out)) | (with_reducible refine Kd.C_alloc ?_ _) | (with_reducible refine Kd.C_drewN ?_ _) | (with_reducible refine Kd.C_drew ?_))); (case side2 => exact HC0_1.out); (case side3 => repeat (first | exact (Kd.C_below HR1_1.out (bw_ HB.out)) | (with_reducible refine Kd.C_alloc ?_ _) | (with_reducible refine Kd.C_drewN ?_ _) | (with_reducible refine Kd.C_drew ?_))); (case side4 => exact HC1_1.out); rintro e w' ⟨rfl, ⟨nd, rfl⟩⟩) | (go_at_call 55; (with_reducible refine (laws_sameInts.calls k _ _ l0_1 _ _ l1_1 true _ ?side1 ?side2 ?side3 ?side4 A5.out).mono ?_); (case side1 => repeat (first | exact (Kd.C_below HR0_1.out (bw_ HB.out)) | (with_reducible refine Kd.C_alloc ?_ _) | (with_reducible refine Kd.C_drewN ?_ _) | (with_reducible refine Kd.C_drew ?_))); (case side2 => exact HC0_1.out); (case side3 => repeat (first | exact (Kd.C_below HR1_1.out (bw_ HB.out)) | (with_reducible refine Kd.C_alloc ?_ _) | (with_reducible refine Kd.C_drewN ?_ _) | (with_reducible refine Kd.C_drew ?_))); (case side4 => exact HC1_1.out); rintro e w' ⟨rfl, ⟨nd, rfl⟩⟩))
 ·go_ret
  exact rt_ (bw_ HB.out)
 ·go_ret
  exact rt_ (bw_ HB.out)
 ·go_ret
  exact rt_ (bw_ HB.out)
 ·go_ret
  exact rt_ (bw_ HB.out)
 ·go_ret
  exact rt_ (bw_ HB.out)
 ·go_ret
  exact rt_ (bw_ HB.out)
 ·go_ret
  exact rt_ (bw_ HB.out)
 ·go_ret
  exact rt_ (bw_ HB.out)
 ·go_ret
  exact rt_ (bw_ HB.out)

/-- A state of type 102 at block g of W; what its slices lead to came in by w0. -/
def IsS102 (w0 W : World) (g : Nat) (f0 : List Int) (f1 : Int) (f2 : Int) : Prop := ∃ A0 c0, W.heap[g]? = some (.cells #[.slice A0 f0.length c0, .int .i64 f1, .int .i64 f2] 102 (0, 0)) ∧ w0.heap.size ≤ g ∧ Kd.C (Kd.int .u8) w0 A0 f0.length f0
theorem IsS102.grown {w0 W : World} {g : Nat} {f0 : List Int} {f1 : Int} {f2 : Int} {W1 : World} {row : Option Nat} (h : IsS102 w0 W g f0 f1 f2) (hw : W.grownBy W1 row) (hne : some g ≠ row) : IsS102 w0 W1 g f0 f1 f2 := by
 obtain ⟨A0, c0, hb, hg, hr0⟩ := h
 exact ⟨A0, c0, blk_grown hb hw hne, hg, hr0⟩
theorem IsS102.own_neN {w0 W : World} {g : Nat} {f0 : List Int} {f1 : Int} {f2 : Int} {α : Type} {d : Kd α} {e : Nat} {base : Nat} {ok : Nat → Prop} {v : Value} {xs : List α} (h : IsS102 w0 W g f0 f1 f2) (ho : Kd.N d e W base ok v xs) (ht : e ≠ 102) : some g ≠ v.ownBlock := by
 obtain ⟨A0, c0, hb, hg, hr0⟩ := h
 exact Kd.N_ne ho hb ht
theorem IsS102.fresh {w0 W : World} {g : Nat} {f0 : List Int} {f1 : Int} {f2 : Int} (h : IsS102 w0 W g f0 f1 f2) : ∀ k, W.heap.size ≤ k → k ≠ g := by
 obtain ⟨A0, c0, hb, hg, hr0⟩ := h
 exact Kd.freshB hb
theorem IsS102.kept {w0 W : World} {g : Nat} {f0 : List Int} {f1 : Int} {f2 : Int} {W1 : World} {S : Nat → Prop} (h : IsS102 w0 W g f0 f1 f2) (hk : Kept W W1 S) (hne : ¬ S g) : IsS102 w0 W1 g f0 f1 f2 := by
 obtain ⟨A0, c0, hb, hg, hr0⟩ := h
 exact ⟨A0, c0, blk_kept hb hk hne, hg, hr0⟩
theorem IsS102.below {w0 W : World} {g : Nat} {f0 : List Int} {f1 : Int} {f2 : Int} {W1 : World} (h : IsS102 w0 W g f0 f1 f2) (hw : Below W.heap.size W W1) : IsS102 w0 W1 g f0 f1 f2 := h.grown (grown_of_below hw none) (by simp)
theorem IsS102.alloc {w0 W : World} {g : Nat} {f0 : List Int} {f1 : Int} {f2 : Int} (h : IsS102 w0 W g f0 f1 f2) (o : Obj) : IsS102 w0 (W.alloc o) g f0 f1 f2 := h.below (below_alloc (Below.refl _ _) o)
theorem IsS102.drewN {w0 W : World} {g : Nat} {f0 : List Int} {f1 : Int} {f2 : Int} (h : IsS102 w0 W g f0 f1 f2) (m : Nat) : IsS102 w0 (W.drewN m) g f0 f1 f2 := h
theorem IsS102.drew {w0 W : World} {g : Nat} {f0 : List Int} {f1 : Int} {f2 : Int} (h : IsS102 w0 W g f0 f1 f2) : IsS102 w0 W.drew g f0 f1 f2 := h
theorem IsS102.at_ {w0 W : World} {g : Nat} {f0 : List Int} {f1 : Int} {f2 : Int} {w' : World} {m : Nat} (hq : W.drewN m = w') (h : IsS102 w0 W g f0 f1 f2) : IsS102 w0 w' g f0 f1 f2 := by subst hq; exact IsS102.drewN h m
theorem IsS102.apart {w0 W : World} {g : Nat} {f0 : List Int} {f1 : Int} {f2 : Int} {α : Type} {d : Kd α} {e : Nat} {base : Nat} {ok : Nat → Prop} {v : Value} {xs : List α} (h : IsS102 w0 W g f0 f1 f2) (ho : d.R e W base ok v xs) (ht : ∀ q, q ∈ e :: d.E → q ≠ 102) : d.R e W base (fun k => ok k ∧ k ≠ g) v xs := by
 obtain ⟨A0, c0, hb, hg, hr0⟩ := h
 exact Kd.R_types ho hb ht
theorem IsS102.own_ne {w0 W : World} {g : Nat} {f0 : List Int} {f1 : Int} {f2 : Int} {α : Type} {d : Kd α} {e : Nat} {base : Nat} {ok : Nat → Prop} {v : Value} {xs : List α} (h : IsS102 w0 W g f0 f1 f2) (ho : d.R e W base ok v xs) (ht : e ≠ 102) : some g ≠ v.ownBlock := by
 obtain ⟨A0, c0, hb, hg, hr0⟩ := h
 exact Kd.R_ne ho hb ht
theorem IsS102.apartQ {w0 W : World} {g : Nat} {f0 : List Int} {f1 : Int} {f2 : Int} {α : Type} {d : Kd α} {e : Nat} {base : Nat} {ok : Nat → Prop} {v : Value} {xs : List α} (h : IsS102 w0 W g f0 f1 f2) (ho : d.Q e W base ok v xs) (ht : ∀ q, q ∈ e :: d.E → q ≠ 102) : d.Q e W base (fun k => ok k ∧ k ≠ g) v xs := by
 obtain ⟨A0, c0, hb, hg, hr0⟩ := h
 exact Kd.Q_types ho hb ht
theorem IsS102.own_neQ {w0 W : World} {g : Nat} {f0 : List Int} {f1 : Int} {f2 : Int} {α : Type} {d : Kd α} {e : Nat} {base : Nat} {ok : Nat → Prop} {v : Value} {xs : List α} (h : IsS102 w0 W g f0 f1 f2) (ho : d.Q e W base ok v xs) (ht : e ≠ 102) : some g ≠ v.ownBlock := by
 obtain ⟨A0, c0, hb, hg, hr0⟩ := h
 exact Kd.Q_ne ho hb ht
theorem IsS102.apartS {w0 W : World} {g : Nat} {f0 : List Int} {f1 : Int} {f2 : Int} {α : Type} {d : Kd α} {e : Nat} {base : Nat} {ok : Nat → Prop} {v : Value} {xs : List α} (h : IsS102 w0 W g f0 f1 f2) (ho : d.S e W base ok v xs) (ht : ∀ q, q ∈ e :: d.E → q ≠ 102) : d.S e W base (fun k => ok k ∧ k ≠ g) v xs := by
 obtain ⟨A0, c0, hb, hg, hr0⟩ := h
 exact Kd.S_types ho hb ht
theorem IsS102.own_neS {w0 W : World} {g : Nat} {f0 : List Int} {f1 : Int} {f2 : Int} {α : Type} {d : Kd α} {e : Nat} {base : Nat} {ok : Nat → Prop} {v : Value} {xs : List α} (h : IsS102 w0 W g f0 f1 f2) (ho : d.S e W base ok v xs) (ht : e ≠ 102) : some g ≠ v.ownBlock := by
 obtain ⟨A0, c0, hb, hg, hr0⟩ := h
 exact Kd.S_ne ho hb ht
theorem IsS102.lt {w0 W : World} {g : Nat} {f0 : List Int} {f1 : Int} {f2 : Int} (h : IsS102 w0 W g f0 f1 f2) : g < W.heap.size := by
 obtain ⟨A0, c0, hb, hg, hr0⟩ := h
 exact blk_lt hb
theorem IsS102.ge {w0 W : World} {g : Nat} {f0 : List Int} {f1 : Int} {f2 : Int} (h : IsS102 w0 W g f0 f1 f2) : w0.heap.size ≤ g := by
 obtain ⟨A0, c0, hb, hg, hr0⟩ := h
 exact hg
theorem IsS102.ne_blk {w0 W : World} {g : Nat} {f0 : List Int} {f1 : Int} {f2 : Int} {a : Nat} {cs : Array Value} {t : TypeId} {fr : Nat × Nat} (h : IsS102 w0 W g f0 f1 f2) (hb2 : W.heap[a]? = some (.cells cs t fr)) (ht : t ≠ 102) : g ≠ a := by
 obtain ⟨A0, c0, hb, hg, hr0⟩ := h
 rintro rfl
 rw [hb] at hb2
 injection hb2 with hb2
 injection hb2 with _ ht2
 exact ht ht2.symm
theorem IsS102.far {w0 W : World} {g : Nat} {f0 : List Int} {f1 : Int} {f2 : Int} {p : Addr} (h : IsS102 w0 W g f0 f1 f2) (hne : g ≠ p.block) (u : Value) : IsS102 w0 (W.setCell p u) g f0 f1 f2 := by
 obtain ⟨A0, c0, hb, hg, hr0⟩ := h
 exact ⟨A0, c0, blk_far hb hne u, hg, hr0⟩
theorem cellS102_0 {W : World} {g : Nat} {A0 : Option Addr} {c0 : Nat} {f0 : List Int} {f1 : Int} {f2 : Int} (h : W.heap[g]? = some (.cells #[.slice A0 f0.length c0, .int .i64 f1, .int .i64 f2] 102 (0, 0))) : W.cell? ⟨g, 0, none⟩ = some (.slice A0 f0.length c0) := (blk_cell h 0).trans rfl
theorem cellS102_1 {W : World} {g : Nat} {A0 : Option Addr} {c0 : Nat} {f0 : List Int} {f1 : Int} {f2 : Int} (h : W.heap[g]? = some (.cells #[.slice A0 f0.length c0, .int .i64 f1, .int .i64 f2] 102 (0, 0))) : W.cell? ⟨g, 1, none⟩ = some (.int .i64 f1) := (blk_cell h 1).trans rfl
theorem IsS102.set_1 {w0 W : World} {g : Nat} {f0 : List Int} {f1 : Int} {f2 : Int} (h : IsS102 w0 W g f0 f1 f2) (x : Int) : IsS102 w0 (W.setCell ⟨g, 1, none⟩ (.int .i64 x)) g f0 x f2 := by
 obtain ⟨A0, c0, hb, hg, hr0⟩ := h
 exact ⟨A0, c0, by simpa using blk_set hb 1 (.int .i64 x), hg, hr0⟩
theorem cellS102_2 {W : World} {g : Nat} {A0 : Option Addr} {c0 : Nat} {f0 : List Int} {f1 : Int} {f2 : Int} (h : W.heap[g]? = some (.cells #[.slice A0 f0.length c0, .int .i64 f1, .int .i64 f2] 102 (0, 0))) : W.cell? ⟨g, 2, none⟩ = some (.int .i64 f2) := (blk_cell h 2).trans rfl
theorem IsS102.set_2 {w0 W : World} {g : Nat} {f0 : List Int} {f1 : Int} {f2 : Int} (h : IsS102 w0 W g f0 f1 f2) (x : Int) : IsS102 w0 (W.setCell ⟨g, 2, none⟩ (.int .i64 x)) g f0 f1 x := by
 obtain ⟨A0, c0, hb, hg, hr0⟩ := h
 exact ⟨A0, c0, by simpa using blk_set hb 2 (.int .i64 x), hg, hr0⟩
theorem IsS102.new (w0 W : World) (A0 : Option Addr) (c0 : Nat) (f0 : List Int) (f1 : Int) (f2 : Int) (hB : Below w0.heap.size w0 W) (hr0 : Kd.C (Kd.int .u8) w0 A0 f0.length f0) : IsS102 w0 (W.alloc (.cells #[.slice A0 f0.length c0, .int .i64 f1, .int .i64 f2] 102)) W.heap.size f0 f1 f2 := ⟨A0, c0, by simpa using heap_alloc_new W _, hB.size, hr0⟩

/-! ### spec_l1New: function 69 -/
def spec_l1New.l0 : Nat → List Int → Int → Int → Option (List Int × Int × Int)
 | 0, _, _, _ => none
 | k + 1, x0, x3, x4 => if x4 < (x0.length : Int) then (if x4 < 4000 then (if 0 ≤ x4 then (spec_l1New.l0 k x0 (Go.bits .and .i64 (wrap64 ((wrap64 ((wrap64 (x3 * 137)) + (wrap64 (rd x0 x4)))) + 11)) 1073741823) (wrap64 (x4 + 1))) else (none)) else (some (x0, 0, x3))) else (some (x0, 0, x3))
def spec_l1New.f (k : Nat) (l0 : List Int) : Option (List Int × Int × Int) := spec_l1New.l0 k l0 (wrap64 (766766 + (l0.length : Int))) 0
theorem spec_l1New.mono_l : ∀ k, (∀ y0 y1 y2, LeO (spec_l1New.l0 k y0 y1 y2) (spec_l1New.l0 (k + 1) y0 y1 y2))
 | 0 => fun _ _ _ r h => by simp [spec_l1New.l0] at h
 | k + 1 => by
  have ih0 := spec_l1New.mono_l k
  ·intro y0 y1 y2
   unfold spec_l1New.l0
   repeat' first
   | (with_reducible exact ih0 _ _ _)
   | (with_reducible exact LeO.refl _)
   | (with_reducible exact LeO.none _)
   | (with_reducible refine LeO.ite ?_ ?_)
   | (with_reducible refine LeO.bind ?_ (fun _ => ?_))
   | exact ih0 _ _ _
   | exact LeO.none _
   | refine LeO.ite ?_ ?_
   | refine LeO.bind ?_ (fun _ => ?_)
theorem spec_l1New.mono : ∀ a0 k, LeO (spec_l1New.f k a0) (spec_l1New.f (k + 1) a0) := by
 intro a0 k
 have ih0 := spec_l1New.mono_l k
 unfold spec_l1New.f
 repeat' first
   | (with_reducible exact ih0 _ _ _)
   | (with_reducible exact LeO.refl _)
   | (with_reducible exact LeO.none _)
   | (with_reducible refine LeO.ite ?_ ?_)
   | (with_reducible refine LeO.bind ?_ (fun _ => ?_))
   | exact ih0 _ _ _
   | exact LeO.none _
   | refine LeO.ite ?_ ?_
   | refine LeO.bind ?_ (fun _ => ?_)
set_option maxHeartbeats 8000000 in
set_option maxRecDepth 100000 in
theorem spec_l1New.calls (k : Nat) (A0 : Option Addr) (c0 : Nat) (l0 : List Int) (r1 : List Int) (r2 : Int) (r3 : Int) (w0 w : World) (hB : Below w0.heap.size w0 w) (hr0 : Kd.C (Kd.int .u8) w0 A0 l0.length l0) (hc0 : l0.length ≤ c0) (h : spec_l1New.f k l0 = some (r1, r2, r3)) :
  Calls Try.prog 69 #[.slice A0 l0.length c0] w fun e w' => ∃ g_ : Nat, e = .returned (.pointer (some ⟨g_, 0, none⟩)) ∧ IsS102 w0 w' g_ r1 r2 r3 ∧ Below w0.heap.size w0 w' ∧ Below w.heap.size w w' := by
 have hu102 := Try.underlying102
 have HR0 := A_ hr0
 have HC0 := A_ hc0
 clear hr0 hc0
 have HBW := A_ (Below.refl w.heap.size w)
 have HW0 := A_ hB.size
 have HB := A_ hB
 clear hB
 have H : (spec_l1New.l0 k l0 (wrap64 (766766 + (l0.length : Int))) 0) = some (r1, r2, r3) := h
 clear h
 have H' := A_ H
 clear H
 go_enter Try.func69, Try.ntmps69
 go_wp2
 go_loopg [3, 4] k (fun kq v3 v4 w' => ∃ (x3_1 : Int) (x4_1 : Int), v3 = .int .i64 x3_1 ∧ v4 = .int .i64 x4_1 ∧ Aside0 (spec_l1New.l0 kq l0 x3_1 x4_1 = some (r1, r2, r3)) ∧ Aside0 (kq ≤ k) ∧ Aside0 (Below w0.heap.size w0 w') ∧ Aside0 (Below w.heap.size w w'))
 case atStart => exact ⟨(wrap64 (766766 + (l0.length : Int))), (0), d4_, d4_, H', ⟨Nat.le_refl _⟩, ⟨bw_ HB.out⟩, ⟨by repeat (first | (with_reducible first | exact HBW.out | apply below_alloc | apply pw_below_drewN | apply below_drew1) | exact HBW.out)⟩⟩
 case round =>
  clear H'
  clear HBW
  obtain ⟨x3_1, x4_1, rfl, rfl, HA, HK1, HB, HBW⟩ := hrel
  cases gk with
  | zero => exact absurd HA.out (by simp [spec_l1New.l0])
  | succ k1 =>
   have H := HA.out
   clear HA
   simp only [spec_l1New.l0] at H
   by_cases c2 : x4_1 < (l0.length : Int)
   ·rw [if_pos c2] at H
    have c2b0 := decide_eq_true c2
    clear c2
    by_cases c3 : x4_1 < 4000
    ·rw [if_pos c3] at H
     have c3b0 := decide_eq_true c3
     clear c3
     by_cases c4 : 0 ≤ x4_1
     ·rw [if_pos c4] at H
      have c4b0 := decide_eq_true c4
      clear c4
      have H' := A_ H
      clear H
      have p233 : 0 ≤ (x4_1 : Int) := of_decide_eq_true d8_
      have q233 : x4_1 < (l0.length : Int) := of_decide_eq_true d8_
      obtain ⟨ad233, e233, hx233_0⟩ := Kd.at_int HR0.out x4_1 p233 q233
      cases e233
      replace hx233_0 := pw_cell_below HB.out hx233_0
      replace p233 := eq_true p233
      replace q233 := eq_true q233
      go_wp2
      go_roundg k1
      case measure => have := HK1.out; omega
      case rel => exact ⟨(Go.bits .and .i64 (wrap64 ((wrap64 ((wrap64 (x3_1 * 137)) + (wrap64 (rd l0 x4_1)))) + 11)) 1073741823), (wrap64 (x4_1 + 1)), d4_, d4_, H', ⟨by have := HK1.out; omega⟩, ⟨bw_ HB.out⟩, ⟨by repeat (first | (with_reducible first | exact HBW.out | apply below_alloc | apply pw_below_drewN | apply below_drew1) | exact HBW.out)⟩⟩
     ·rw [if_neg c4] at H
      exact absurd H (by simp)
    ·rw [if_neg c3] at H
     have c3b0 := decide_eq_false c3
     clear c3
     simp only [Option.some.injEq, Prod.mk.injEq] at H
     obtain ⟨rfl, rfl, rfl⟩ := H
     go_wp2_with (first | ((with_reducible refine gate_dst (N := 31) rfl ?_); refine bx_ 31 #[.slice A0 l0.length c0, .int .i64 0, .int .i64 x3_1] 102 ?_; intro gb234 hg w5 hbox hb; replace HB := A_ (below_step (bw_ HB.out) hb); have BK234 := A_ (hbox); have GW234 := A_ ((d23_ : w.heap.size ≤ gb234)); have GE234 := A_ ((Nat.le_trans HW0.out (d23_ : w.heap.size ≤ gb234) : w0.heap.size ≤ gb234)); replace HBW := A_ (below_step HBW.out hb); have GI234 := GeI.mk GE234.out; clear hb hbox hg))
     go_ret
     exact ⟨_, rfl, (show IsS102 w0 _ gb234 l0 0 x3_1 from ⟨_, _, by refine bk_ ?_; exact BK234.out, GE234.out, HR0.out⟩), bw_ HB.out, by repeat (first | (with_reducible first | exact HBW.out | apply below_alloc | apply pw_below_drewN | apply below_drew1 | refine below_set ?_ GW234.out) | exact HBW.out)⟩
   ·rw [if_neg c2] at H
    have c2b0 := decide_eq_false c2
    clear c2
    simp only [Option.some.injEq, Prod.mk.injEq] at H
    obtain ⟨rfl, rfl, rfl⟩ := H
    go_wp2_with (first | ((with_reducible refine gate_dst (N := 31) rfl ?_); refine bx_ 31 #[.slice A0 l0.length c0, .int .i64 0, .int .i64 x3_1] 102 ?_; intro gb235 hg w6 hbox hb; replace HB := A_ (below_step (bw_ HB.out) hb); have BK235 := A_ (hbox); have GW235 := A_ ((d23_ : w.heap.size ≤ gb235)); have GE235 := A_ ((Nat.le_trans HW0.out (d23_ : w.heap.size ≤ gb235) : w0.heap.size ≤ gb235)); replace HBW := A_ (below_step HBW.out hb); have GI235 := GeI.mk GE235.out; clear hb hbox hg))
    go_ret
    exact ⟨_, rfl, (show IsS102 w0 _ gb235 l0 0 x3_1 from ⟨_, _, by refine bk_ ?_; exact BK235.out, GE235.out, HR0.out⟩), bw_ HB.out, by repeat (first | (with_reducible first | exact HBW.out | apply below_alloc | apply pw_below_drewN | apply below_drew1 | refine below_set ?_ GW235.out) | exact HBW.out)⟩

/-! ### spec_l1Byte: function 88 -/
def spec_l1Byte.f (s0_0 : List Int) (s0_1 : Int) (s0_2 : Int) : Option (Int × Int × Int) := if s0_1 < (s0_0.length : Int) then (if 0 ≤ s0_1 then (some (Go.bits .and .i64 (wrap64 ((Go.bits .and .i64 (Go.bits .xor .i64 ((wrap64 ((wrap64 (s0_2 * 6364136223846793005)) + 1442695040888963407)) / 8589934592) ((wrap64 ((wrap64 (s0_2 * 6364136223846793005)) + 1442695040888963407)) / 140737488355328)) 255) + (wrap64 (rd s0_0 s0_1)))) 255, wrap64 (s0_1 + 1), wrap64 ((wrap64 (s0_2 * 6364136223846793005)) + 1442695040888963407))) else (none)) else (some (Go.bits .and .i64 (Go.bits .xor .i64 ((wrap64 ((wrap64 (s0_2 * 6364136223846793005)) + 1442695040888963407)) / 8589934592) ((wrap64 ((wrap64 (s0_2 * 6364136223846793005)) + 1442695040888963407)) / 140737488355328)) 255, s0_1, wrap64 ((wrap64 (s0_2 * 6364136223846793005)) + 1442695040888963407)))
set_option maxHeartbeats 8000000 in
set_option maxRecDepth 100000 in
theorem spec_l1Byte.calls (g : Nat) (s0_0 : List Int) (s0_1 : Int) (s0_2 : Int) (r1 : Int) (r2 : Int) (r3 : Int) (w0 w : World) (hI : IsS102 w0 w g s0_0 s0_1 s0_2) (hB : Below w0.heap.size w0 w) (h : spec_l1Byte.f s0_0 s0_1 s0_2 = some (r1, r2, r3)) :
  Calls Try.prog 88 #[.pointer (some ⟨g, 0, none⟩)] w fun e w' => e = .returned (.int .i64 r1) ∧ IsS102 w0 w' g s0_0 r2 r3 ∧ Below w0.heap.size w0 w' ∧ KeepBut w w' g none := by
 have HI0 := A_ hI
 have HK := A_ (KeepBut.refl w g none)
 have HL := A_ hB.size
 clear hI
 have HW0 := A_ hB.size
 have HB := A_ hB
 clear hB
 have H : (if s0_1 < (s0_0.length : Int) then (if 0 ≤ s0_1 then (some (Go.bits .and .i64 (wrap64 ((Go.bits .and .i64 (Go.bits .xor .i64 ((wrap64 ((wrap64 (s0_2 * 6364136223846793005)) + 1442695040888963407)) / 8589934592) ((wrap64 ((wrap64 (s0_2 * 6364136223846793005)) + 1442695040888963407)) / 140737488355328)) 255) + (wrap64 (rd s0_0 s0_1)))) 255, wrap64 (s0_1 + 1), wrap64 ((wrap64 (s0_2 * 6364136223846793005)) + 1442695040888963407))) else (none)) else (some (Go.bits .and .i64 (Go.bits .xor .i64 ((wrap64 ((wrap64 (s0_2 * 6364136223846793005)) + 1442695040888963407)) / 8589934592) ((wrap64 ((wrap64 (s0_2 * 6364136223846793005)) + 1442695040888963407)) / 140737488355328)) 255, s0_1, wrap64 ((wrap64 (s0_2 * 6364136223846793005)) + 1442695040888963407)))) = some (r1, r2, r3) := h
 clear h
 by_cases c2 : s0_1 < (s0_0.length : Int)
 ·rw [if_pos c2] at H
  have c2b0 := decide_eq_true c2
  clear c2
  by_cases c3 : 0 ≤ s0_1
  ·rw [if_pos c3] at H
   have c3b0 := decide_eq_true c3
   clear c3
   simp only [Option.some.injEq, Prod.mk.injEq] at H
   obtain ⟨rfl, rfl, rfl⟩ := H
   obtain ⟨ASz4_0, cSz4_0, HGz4, hgz4, HSz4_0⟩ := HI0.out
   have y4_0 := cellS102_0 HGz4
   have y4_1 := cellS102_1 HGz4
   have y4_2 := cellS102_2 HGz4
   have z4_1 := blk_frozen HGz4 1
   have z4_2 := blk_frozen HGz4 2
   clear HGz4 hgz4
   have p236 : 0 ≤ (s0_1 : Int) := of_decide_eq_true d8_
   have q236 : s0_1 < (s0_0.length : Int) := of_decide_eq_true d8_
   obtain ⟨ad236, e236, hx236_0⟩ := Kd.at_int HSz4_0 s0_1 p236 q236
   cases e236
   have hn236_0 : ad236.block ≠ g := Nat.ne_of_lt (Nat.lt_of_lt_of_le (by have := World.block_lt_of_cell? _ _ hx236_0; first | rwa [add_block] at this | exact this) (IsS102.ge HI0.out))
   replace hx236_0 := pw_cell_below HB.out hx236_0
   replace hx236_0 := (cell_far (p := ⟨g, 2, none⟩) (by first | (rw [add_block]; exact hn236_0) | (show (Addr.add _ _).block ≠ _; rw [add_block]; exact hn236_0) | exact hn236_0) (.int .i64 (wrap64 ((wrap64 (s0_2 * 6364136223846793005)) + 1442695040888963407)))).trans hx236_0
   (try have hy236_0 := fun (n_ : Nat) => (show (((w.drewN n_).setCell ⟨g, 2, none⟩ (.int .i64 (wrap64 ((wrap64 (s0_2 * 6364136223846793005)) + 1442695040888963407))))).cell? _ = some _ from hx236_0))
   clear hn236_0
   replace p236 := eq_true p236
   replace q236 := eq_true q236
   go_enter Try.func88, Try.ntmps88
   go_wp2
   repeat (go_quiet (fail); try go_wp2)
   go_ret
   exact rt_ ⟨by repeat (first | (with_reducible first | exact HI0.out | apply IsS102.alloc | apply IsS102.drewN | apply IsS102.drew | apply IsS102.set_1 | apply IsS102.set_2) | exact HI0.out), (have := GeI.mk (IsS102.ge HI0.out); bw_ HB.out), by repeat (first | (with_reducible first | exact HK.out | apply KeepBut.set_ | apply keep_drewN | apply keep_drew | apply keep_alloc) | exact HK.out)⟩
  ·rw [if_neg c3] at H
   exact absurd H (by simp)
 ·rw [if_neg c2] at H
  have c2b0 := decide_eq_false c2
  clear c2
  simp only [Option.some.injEq, Prod.mk.injEq] at H
  obtain ⟨rfl, rfl, rfl⟩ := H
  obtain ⟨ASz5_0, cSz5_0, HGz5, hgz5, HSz5_0⟩ := HI0.out
  have y5_0 := cellS102_0 HGz5
  have y5_1 := cellS102_1 HGz5
  have y5_2 := cellS102_2 HGz5
  have z5_1 := blk_frozen HGz5 1
  have z5_2 := blk_frozen HGz5 2
  clear HGz5 hgz5
  go_enter Try.func88, Try.ntmps88
  go_wp2
  repeat (go_quiet (fail); try go_wp2)
  go_ret
  exact rt_ ⟨by repeat (first | (with_reducible first | exact HI0.out | apply IsS102.alloc | apply IsS102.drewN | apply IsS102.drew | apply IsS102.set_1 | apply IsS102.set_2) | exact HI0.out), (have := GeI.mk (IsS102.ge HI0.out); bw_ HB.out), by repeat (first | (with_reducible first | exact HK.out | apply KeepBut.set_ | apply keep_drewN | apply keep_drew | apply keep_alloc) | exact HK.out)⟩

end Go.Proofs.Ytiagbfilffbljaa.PFnMachsBent
