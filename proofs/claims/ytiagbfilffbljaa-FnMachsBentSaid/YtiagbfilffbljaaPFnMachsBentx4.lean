-- Laid by a program of this session (a changed copy of the kit's printer); Lean checks every line.
import Derived.Test.YtiagbfilffbljaaPFnMachsBentx0
import Derived.Test.YtiagbfilffbljaaPFnMachsBentx2
import Derived.Test.YtiagbfilffbljaaPFnMachsBentx3
namespace Go.Proofs.Ytiagbfilffbljaa.PFnMachsBent
open Go.RowKit Go.Proofs.YtiagbfilffbljaaW.PrintWords Go.Proofs.YtiagbfilffbljaaW.PrintLast Go.Proofs.YtiagbfilffbljaaW.PrintMore
attribute [local go_sem] max2_int min2_int max_two min_two max_three min_three max_four min_four   -- for this text's walks alone
set_option linter.unusedVariables false
set_option linter.unusedSimpArgs false

/-! ### spec_WriteW: function 34 -/
def spec_WriteW.f (l0_0 : List Int) (l0_1 : List Int) (a0_2 : Bool) (a0_3 : Bool) (a0_4 : Bool) (a0_5 : Bool) (l0_6 : List Int) (l0_7 : List Int) (a0_8 : Int) (a1 : Int) (a2 : Int) : Option (List Int × List Int × Bool × Bool × Bool × Bool × List Int × List Int × Int × Bool) := (spec_l5Copy.f l0_0 l0_1 a0_2 a0_3 a0_4 a0_5 l0_6 l0_7 a0_8).bind fun bt160 => ((spec_ReadW.f l0_0 l0_1 a0_2 a0_3 a0_4 a0_5 l0_6 l0_7 a0_8 a1).bind fun bt178 => (if bt178.2 = true then ((spec_Wrap.f a2).bind fun t180 => (if 0 ≤ (wrap64 (Int.tdiv a1 2)) then (if (wrap64 (Int.tdiv a1 2)) < (bt160.1.length : Int) then (some ((bt160.1.set ((wrap64 (Int.tdiv a1 2)) : Int).toNat t180), bt160.2.1, bt160.2.2.1, bt160.2.2.2.1, bt160.2.2.2.2.1, bt160.2.2.2.2.2.1, bt160.2.2.2.2.2.2.1, bt160.2.2.2.2.2.2.2.1, bt160.2.2.2.2.2.2.2.2, bt178.2)) else (none)) else (none))) else (some (bt160.1, bt160.2.1, bt160.2.2.1, bt160.2.2.2.1, bt160.2.2.2.2.1, bt160.2.2.2.2.2.1, bt160.2.2.2.2.2.2.1, bt160.2.2.2.2.2.2.2.1, bt160.2.2.2.2.2.2.2.2, bt178.2))))
def spec_WriteW.T4 : Bool × List (List Nat × List Nat) := (true, [([], []), ([0], [0]), ([], []), ([2], [2]), ([], []), ([4], [4]), ([1, 3, 0, 1, 2, 3, 4, 5], [1, 3]), ([6, 5, 5, 0, 1, 2, 3, 4, 5], [5, 6])])
def spec_WriteW.B4 : List Nat := [0, 1, 0, 4, 0, 16, 63, 127]
theorem spec_WriteW.tab4 : rtab .any (opsOf Try.f34 4) = spec_WriteW.T4 := by kernel_rfl
theorem spec_WriteW.bits4 : waitsOk spec_WriteW.T4.2 spec_WriteW.B4 = true := by kernel_rfl
set_option maxHeartbeats 8000000 in
set_option maxRecDepth 100000 in
theorem spec_WriteW.calls (A0_0 : Option Addr) (c0_0 : Nat) (l0_0 : List Int) (A0_1 : Option Addr) (c0_1 : Nat) (l0_1 : List Int) (a0_2 : Bool) (a0_3 : Bool) (a0_4 : Bool) (a0_5 : Bool) (A0_6 : Option Addr) (c0_6 : Nat) (l0_6 : List Int) (A0_7 : Option Addr) (c0_7 : Nat) (l0_7 : List Int) (a0_8 : Int) (a1 : Int) (a2 : Int) (r1 : List Int) (r2 : List Int) (r3 : Bool) (r4 : Bool) (r5 : Bool) (r6 : Bool) (r7 : List Int) (r8 : List Int) (r9 : Int) (r10 : Bool) (w : World) (hr0_0 : Kd.C (Kd.int .i64) w A0_0 l0_0.length l0_0) (hc0_0 : l0_0.length ≤ c0_0) (hr0_1 : Kd.C (Kd.int .i64) w A0_1 l0_1.length l0_1) (hc0_1 : l0_1.length ≤ c0_1) (hr0_6 : Kd.C (Kd.int .i64) w A0_6 l0_6.length l0_6) (hc0_6 : l0_6.length ≤ c0_6) (hr0_7 : Kd.C (Kd.int .i64) w A0_7 l0_7.length l0_7) (hc0_7 : l0_7.length ≤ c0_7) (h : spec_WriteW.f l0_0 l0_1 a0_2 a0_3 a0_4 a0_5 l0_6 l0_7 a0_8 a1 a2 = some (r1, r2, r3, r4, r5, r6, r7, r8, r9, r10)) :
  Calls Try.prog 34 #[.agg #[.slice A0_0 l0_0.length c0_0, .slice A0_1 l0_1.length c0_1, .bool a0_2, .bool a0_3, .bool a0_4, .bool a0_5, .slice A0_6 l0_6.length c0_6, .slice A0_7 l0_7.length c0_7, .int .i64 a0_8], .int .i64 a1, .int .i64 a2] w fun e w' => ∃ v0_ v1_ v6_ v7_ : Value, e = .returned (.tuple #[.agg #[v0_, v1_, .bool r3, .bool r4, .bool r5, .bool r6, v6_, v7_, .int .i64 r9], .bool r10]) ∧ Kd.R (Kd.int .i64) 3 w' w.heap.size (fun k_ => some k_ ≠ (v1_ : Value).ownBlock ∧ some k_ ≠ (v6_ : Value).ownBlock ∧ some k_ ≠ (v7_ : Value).ownBlock) v0_ r1 ∧ Kd.R (Kd.int .i64) 3 w' w.heap.size (fun k_ => some k_ ≠ (v0_ : Value).ownBlock ∧ some k_ ≠ (v6_ : Value).ownBlock ∧ some k_ ≠ (v7_ : Value).ownBlock) v1_ r2 ∧ Kd.R (Kd.int .i64) 3 w' w.heap.size (fun k_ => some k_ ≠ (v0_ : Value).ownBlock ∧ some k_ ≠ (v1_ : Value).ownBlock ∧ some k_ ≠ (v7_ : Value).ownBlock) v6_ r7 ∧ Kd.R (Kd.int .i64) 3 w' w.heap.size (fun k_ => some k_ ≠ (v0_ : Value).ownBlock ∧ some k_ ≠ (v1_ : Value).ownBlock ∧ some k_ ≠ (v6_ : Value).ownBlock) v7_ r8 ∧ Below w.heap.size w w' := by
 have hu28 := Try.underlying28
 have HR0_0 := A_ hr0_0
 have HC0_0 := A_ hc0_0
 clear hr0_0 hc0_0
 have HR0_1 := A_ hr0_1
 have HC0_1 := A_ hc0_1
 clear hr0_1 hc0_1
 have HR0_6 := A_ hr0_6
 have HC0_6 := A_ hc0_6
 clear hr0_6 hc0_6
 have HR0_7 := A_ hr0_7
 have HC0_7 := A_ hc0_7
 clear hr0_7 hc0_7
 have HB := A_ (Below.refl w.heap.size w)
 have H : ((spec_l5Copy.f l0_0 l0_1 a0_2 a0_3 a0_4 a0_5 l0_6 l0_7 a0_8).bind fun bt160 => ((spec_ReadW.f l0_0 l0_1 a0_2 a0_3 a0_4 a0_5 l0_6 l0_7 a0_8 a1).bind fun bt178 => (if bt178.2 = true then ((spec_Wrap.f a2).bind fun t180 => (if 0 ≤ (wrap64 (Int.tdiv a1 2)) then (if (wrap64 (Int.tdiv a1 2)) < (bt160.1.length : Int) then (some ((bt160.1.set ((wrap64 (Int.tdiv a1 2)) : Int).toNat t180), bt160.2.1, bt160.2.2.1, bt160.2.2.2.1, bt160.2.2.2.2.1, bt160.2.2.2.2.2.1, bt160.2.2.2.2.2.2.1, bt160.2.2.2.2.2.2.2.1, bt160.2.2.2.2.2.2.2.2, bt178.2)) else (none)) else (none))) else (some (bt160.1, bt160.2.1, bt160.2.2.1, bt160.2.2.2.1, bt160.2.2.2.2.1, bt160.2.2.2.2.2.1, bt160.2.2.2.2.2.2.1, bt160.2.2.2.2.2.2.2.1, bt160.2.2.2.2.2.2.2.2, bt178.2))))) = some (r1, r2, r3, r4, r5, r6, r7, r8, r9, r10) := h
 clear h
 replace H := Option.bind_eq_some_iff.mp H
 obtain ⟨⟨t160, t163, t166, t167, t168, t169, t170, t173, t176⟩, A40, H⟩ := H
 try dsimp only at H
 have A4 := A_ A40
 clear A40
 replace H := Option.bind_eq_some_iff.mp H
 obtain ⟨⟨t178, t179⟩, A50, H⟩ := H
 try dsimp only at H
 have A5 := A_ A50
 clear A50
 by_cases c6 : t179 = true
 ·subst c6
  rw [if_pos rfl] at H
  replace H := Option.bind_eq_some_iff.mp H
  obtain ⟨t180, A70, H⟩ := H
  try dsimp only at H
  have A7 := A_ A70
  clear A70
  obtain ⟨ji8, hji8⟩ : ∃ j_ : Int, (wrap64 (Int.tdiv a1 2)) = j_ := ⟨_, rfl⟩
  replace H : (if 0 ≤ (ji8) then (if (ji8) < (t160.length : Int) then (some ((t160.set ((ji8) : Int).toNat t180), t163, t166, t167, t168, t169, t170, t173, t176, true)) else (none)) else (none)) = some (r1, r2, r3, r4, r5, r6, r7, r8, r9, r10) := by first | (rw [hji8] at H; exact H) | (simp only [hji8] at H ⊢; exact H)
  (try rw [hji8] at A4)
  (try rw [hji8] at A5)
  (try rw [hji8] at A7)
  have hji8w : (IntKind.i64.wrap (Int.tdiv a1 2)) = ji8 := (i64_w _).trans hji8
  by_cases c9 : 0 ≤ (ji8)
  ·rw [if_pos c9] at H
   have c9b0 := decide_eq_true c9
   clear c9
   by_cases c10 : (ji8) < (t160.length : Int)
   ·rw [if_pos c10] at H
    have c10b0 := decide_eq_true c10
    clear c10
    obtain ⟨y181, hy181⟩ : ∃ y_ : List Int, y_ = (t160.set ((ji8) : Int).toNat t180) := ⟨_, rfl⟩
    replace H : (some (y181, t163, t166, t167, t168, t169, t170, t173, t176, true)) = some (r1, r2, r3, r4, r5, r6, r7, r8, r9, r10) := by first | (rw [hy181]; with_reducible exact H) | (have H2_ := (Option.bind_some _ _).symm.trans H; rw [hy181]; with_reducible exact H2_) | (have H2_ := (Option.bind_some _ _).symm.trans H; with_reducible exact H2_) | with_reducible exact H | (rw [hy181]; exact H) | exact H
    have Ny181 := A_ hy181
    clear hy181
    simp only [Option.some.injEq, Prod.mk.injEq] at H
    obtain ⟨rfl, rfl, rfl, rfl, rfl, rfl, rfl, rfl, rfl, rfl⟩ := H
    go_enter Try.func34, Try.ntmps34
    try go_wp2_with (first | ((with_reducible refine gate_dst (N := 3) rfl ?_); refine bx_ 3 #[.slice A0_0 l0_0.length c0_0, .slice A0_1 l0_1.length c0_1, .bool a0_2, .bool a0_3, .bool a0_4, .bool a0_5, .slice A0_6 l0_6.length c0_6, .slice A0_7 l0_7.length c0_7, .int .i64 a0_8] 28 ?_; intro gb158 hg w12 hbox hb; have n0_ := A_ (below_step (bw_ HB.out) hb); have n1_ := A_ (hbox); have n2_ := A_ ((d10_ : w.heap.size ≤ gb158)); have n3_ := n2_; clear HB; have HB := n0_; have BK158 := n1_; have GW158 := n2_; have GE158 := n3_; have GI158 := GeI.mk GE158.out; clear n0_ n1_ n2_ n3_; clear hb hbox hg) | ((with_reducible refine gate_dst (N := 6) rfl ?_); refine bx_ 6 #[.slice none 0 0, .slice none 0 0, .bool false, .bool false, .bool false, .bool false, .slice none 0 0, .slice none 0 0, .int .i64 0] 28 ?_; intro gb159 hg w13 hbox hb; have n0_ := A_ (blk_below (bk_ BK158.out) hb); have n1_ := A_ (below_step (bw_ HB.out) hb); have n2_ := A_ (hbox); have n3_ := A_ ((d10_ : w.heap.size ≤ gb159)); have n4_ := n3_; have n5_ := A_ ((d34_ : gb158 ≠ gb159)); have n6_ := A_ n5_.out.symm; clear BK158; clear HB; have BK158 := n0_; have HB := n1_; have BK159 := n2_; have GW159 := n3_; have GE159 := n4_; have GI159 := GeI.mk GE159.out; have NB158_159 := n5_; have NB159_158 := n6_; clear n0_ n1_ n2_ n3_ n4_ n5_ n6_; clear hb hbox hg; have hnb14 := NB158_159.out; have hnc14 := NB159_158.out; obtain ⟨y15_0, y15_1, y15_2, y15_3, y15_4, y15_5, y15_6, y15_7, y15_8, z15_0, z15_1, z15_2, z15_3, z15_4, z15_5, z15_6, z15_7, z15_8⟩ := cz9_ BK158.out) | ((with_reducible refine gate_callee (f := 66) rfl ?_); refine gL_ (some 12) Try.func66 #[.agg #[.slice A0_0 l0_0.length c0_0, .slice A0_1 l0_1.length c0_1, .bool a0_2, .bool a0_3, .bool a0_4, .bool a0_5, .slice A0_6 l0_6.length c0_6, .slice A0_7 l0_7.length c0_7, .int .i64 a0_8]] ?_; (with_reducible refine (spec_l5Copy.calls _ _ l0_0 _ _ l0_1 a0_2 a0_3 a0_4 a0_5 _ _ l0_6 _ _ l0_7 a0_8 t160 t163 t166 t167 t168 t169 t170 t173 t176 _ ?side1 ?side2 ?side3 ?side4 ?side5 ?side6 ?side7 ?side8 A4.out).mono ?_); (case side1 => repeat (first | exact (Kd.C_below HR0_0.out HB.out) | (with_reducible refine Kd.C_alloc ?_ _) | (with_reducible refine Kd.C_drewN ?_ _) | (with_reducible refine Kd.C_drew ?_))); (case side2 => exact HC0_0.out); (case side3 => repeat (first | exact (Kd.C_below HR0_1.out HB.out) | (with_reducible refine Kd.C_alloc ?_ _) | (with_reducible refine Kd.C_drewN ?_ _) | (with_reducible refine Kd.C_drew ?_))); (case side4 => exact HC0_1.out); (case side5 => repeat (first | exact (Kd.C_below HR0_6.out HB.out) | (with_reducible refine Kd.C_alloc ?_ _) | (with_reducible refine Kd.C_drewN ?_ _) | (with_reducible refine Kd.C_drew ?_))); (case side6 => exact HC0_6.out); (case side7 => repeat (first | exact (Kd.C_below HR0_7.out HB.out) | (with_reducible refine Kd.C_alloc ?_ _) | (with_reducible refine Kd.C_drewN ?_ _) | (with_reducible refine Kd.C_drew ?_))); (case side8 => exact HC0_7.out); rintro e w16 ⟨v161, v164, v171, v174, rfl, ho0, ho1, ho2, ho3, hb⟩; refine ⟨_, rfl, ?_⟩; have HO162 := A_ (Kd.R_lower ho0 (below_size (bw_ HB.out))); have HO165 := A_ (Kd.R_lower ho1 (below_size (bw_ HB.out))); have HO172 := A_ (Kd.R_lower ho2 (below_size (bw_ HB.out))); have HO175 := A_ (Kd.R_lower ho3 (below_size (bw_ HB.out))); replace BK158 := A_ (blk_below (bk_ BK158.out) hb); replace BK159 := A_ (blk_below (bk_ BK159.out) hb); replace HB := A_ (below_step (bw_ HB.out) hb); clear hb; (try clear ho0); (try clear ho1); (try clear ho2); (try clear ho3)) | ((with_reducible refine gate_dst (N := 8) rfl ?_); refine bx_ 8 #[.slice none 0 0, .slice none 0 0, .bool false, .bool false, .bool false, .bool false, .slice none 0 0, .slice none 0 0, .int .i64 0] 28 ?_; intro gb177 hg w17 hbox hb; have n0_ := A_ (Kd.R_below (kr_ HO162.out) hb); have n1_ := A_ (Kd.R_below (kr_ HO165.out) hb); have n2_ := A_ (Kd.R_below (kr_ HO172.out) hb); have n3_ := A_ (Kd.R_below (kr_ HO175.out) hb); have n4_ := A_ (blk_below (bk_ BK158.out) hb); have n5_ := A_ (blk_below (bk_ BK159.out) hb); have n6_ := A_ (below_step (bw_ HB.out) hb); have n7_ := A_ (hbox); have n8_ := A_ ((d10_ : w.heap.size ≤ gb177)); have n9_ := n8_; have n10_ := A_ ((d34_ : gb158 ≠ gb177)); have n11_ := A_ n10_.out.symm; have n12_ := A_ ((by rw [hg]; exact Nat.ne_of_lt (blk_lt (bk_ BK159.out)) : gb159 ≠ gb177)); have n13_ := A_ n12_.out.symm; clear HO162; clear HO165; clear HO172; clear HO175; clear BK158; clear BK159; clear HB; have HO162 := n0_; have HO165 := n1_; have HO172 := n2_; have HO175 := n3_; have BK158 := n4_; have BK159 := n5_; have HB := n6_; have BK177 := n7_; have GW177 := n8_; have GE177 := n9_; have GI177 := GeI.mk GE177.out; have NB158_177 := n10_; have NB177_158 := n11_; have NB159_177 := n12_; have NB177_159 := n13_; clear n0_ n1_ n2_ n3_ n4_ n5_ n6_ n7_ n8_ n9_ n10_ n11_ n12_ n13_; clear hb hbox hg; obtain ⟨Ao18, co18, eo18⟩ := Kd.R_slice HO162.out; subst eo18; have hnb19 := NB177_158.out; have hnc19 := NB158_177.out; have hnb20 := NB177_159.out; have hnc20 := NB159_177.out; obtain ⟨y21_0, y21_1, y21_2, y21_3, y21_4, y21_5, y21_6, y21_7, y21_8, z21_0, z21_1, z21_2, z21_3, z21_4, z21_5, z21_6, z21_7, z21_8⟩ := cz9_ BK177.out; obtain ⟨Ao22, co22, eo22⟩ := Kd.R_slice HO165.out; subst eo22; obtain ⟨Ao23, co23, eo23⟩ := Kd.R_slice HO172.out; subst eo23; obtain ⟨Ao24, co24, eo24⟩ := Kd.R_slice HO175.out; subst eo24; obtain ⟨y25_0, y25_1, y25_2, y25_3, y25_4, y25_5, y25_6, y25_7, y25_8, z25_0, z25_1, z25_2, z25_3, z25_4, z25_5, z25_6, z25_7, z25_8⟩ := cz9_ BK158.out) | ((with_reducible refine gate_callee (f := 16) rfl ?_); refine gL_ (some 16) Try.func16 #[.agg #[.slice A0_0 l0_0.length c0_0, .slice A0_1 l0_1.length c0_1, .bool a0_2, .bool a0_3, .bool a0_4, .bool a0_5, .slice A0_6 l0_6.length c0_6, .slice A0_7 l0_7.length c0_7, .int .i64 a0_8], .int .i64 a1] ?_; (with_reducible refine (spec_ReadW.calls _ _ l0_0 _ _ l0_1 a0_2 a0_3 a0_4 a0_5 _ _ l0_6 _ _ l0_7 a0_8 a1 t178 true _ ?side1 ?side2 ?side3 ?side4 ?side5 ?side6 ?side7 ?side8 A5.out).mono ?_); (case side1 => exact Kd.C_below HR0_0.out (bw_ HB.out)); (case side2 => exact HC0_0.out); (case side3 => exact Kd.C_below HR0_1.out (bw_ HB.out)); (case side4 => exact HC0_1.out); (case side5 => exact Kd.C_below HR0_6.out (bw_ HB.out)); (case side6 => exact HC0_6.out); (case side7 => exact Kd.C_below HR0_7.out (bw_ HB.out)); (case side8 => exact HC0_7.out); rintro e w26 ⟨rfl, hb⟩; refine ⟨_, rfl, ?_⟩; replace HO162 := A_ (Kd.R_below (by (with_reducible repeat (first | apply Kd.R_alloc | apply Kd.R_drewN | apply Kd.R_drew)); exact (Kd.R_mono (rf9_ (Kd.R_types HO162.out BK177.out (by decide)) (fun _ hk => hk.2)) (fun _ h_ => h_.1))) hb); replace HO165 := A_ (Kd.R_below (by (with_reducible repeat (first | apply Kd.R_alloc | apply Kd.R_drewN | apply Kd.R_drew)); exact (Kd.R_mono (rf9_ (Kd.R_types HO165.out BK177.out (by decide)) (fun _ hk => hk.2)) (fun _ h_ => h_.1))) hb); replace HO172 := A_ (Kd.R_below (by (with_reducible repeat (first | apply Kd.R_alloc | apply Kd.R_drewN | apply Kd.R_drew)); exact (Kd.R_mono (rf9_ (Kd.R_types HO172.out BK177.out (by decide)) (fun _ hk => hk.2)) (fun _ h_ => h_.1))) hb); replace HO175 := A_ (Kd.R_below (by (with_reducible repeat (first | apply Kd.R_alloc | apply Kd.R_drewN | apply Kd.R_drew)); exact (Kd.R_mono (rf9_ (Kd.R_types HO175.out BK177.out (by decide)) (fun _ hk => hk.2)) (fun _ h_ => h_.1))) hb); replace BK158 := A_ (blk_below (g := gb158) (o := .cells #[.slice A0_0 l0_0.length c0_0, .slice A0_1 l0_1.length c0_1, .bool a0_2, .bool a0_3, .bool a0_4, .bool a0_5, .slice A0_6 l0_6.length c0_6, .slice A0_7 l0_7.length c0_7, .int .i64 a0_8] 28 (0, 0)) (by refine bk_ ?_; refine blk_far ?_ NB158_177.out _; refine bk_ ?_; refine blk_far ?_ NB158_177.out _; refine bk_ ?_; refine blk_far ?_ NB158_177.out _; refine bk_ ?_; refine blk_far ?_ NB158_177.out _; refine bk_ ?_; refine blk_far ?_ NB158_177.out _; refine bk_ ?_; refine blk_far ?_ NB158_177.out _; refine bk_ ?_; refine blk_far ?_ NB158_177.out _; refine bk_ ?_; refine blk_far ?_ NB158_177.out _; refine bk_ ?_; refine blk_far ?_ NB158_177.out _; refine bk_ ?_; exact BK158.out) hb); replace BK159 := A_ (blk_below (g := gb159) (o := .cells #[.slice none 0 0, .slice none 0 0, .bool false, .bool false, .bool false, .bool false, .slice none 0 0, .slice none 0 0, .int .i64 0] 28 (0, 0)) (by refine bk_ ?_; refine blk_far ?_ NB159_177.out _; refine bk_ ?_; refine blk_far ?_ NB159_177.out _; refine bk_ ?_; refine blk_far ?_ NB159_177.out _; refine bk_ ?_; refine blk_far ?_ NB159_177.out _; refine bk_ ?_; refine blk_far ?_ NB159_177.out _; refine bk_ ?_; refine blk_far ?_ NB159_177.out _; refine bk_ ?_; refine blk_far ?_ NB159_177.out _; refine bk_ ?_; refine blk_far ?_ NB159_177.out _; refine bk_ ?_; refine blk_far ?_ NB159_177.out _; refine bk_ ?_; exact BK159.out) hb); replace BK177 := A_ (blk_below (g := gb177) (o := .cells #[.slice Ao18 t160.length co18, .slice Ao22 t163.length co22, .bool t166, .bool t167, .bool t168, .bool t169, .slice Ao23 t170.length co23, .slice Ao24 t173.length co24, .int .i64 t176] 28 (0, 0)) (by exact bk_ (bp9_ (bk_ BK177.out))) hb); replace HB := A_ (below_step (bw_ HB.out) hb); clear hb))
    replace HO162 := A_ (Kd.R_drew HO162.out)
    replace HO165 := A_ (Kd.R_drew HO165.out)
    replace HO172 := A_ (Kd.R_drew HO172.out)
    replace HO175 := A_ (Kd.R_drew HO175.out)
    replace BK158 := A_ (blk_drew BK158.out)
    replace BK159 := A_ (blk_drew BK159.out)
    replace BK177 := A_ (blk_drew BK177.out)
    replace HB := A_ (below_drew1 HB.out)
    refine start_ (n := 8) (S := fun w' => w'.cell? ⟨gb177, 0, none⟩ = some (.slice Ao18 t160.length co18) ∧ w'.cell? ⟨gb177, 1, none⟩ = some (.slice Ao22 t163.length co22) ∧ w'.cell? ⟨gb177, 2, none⟩ = some (.bool t166) ∧ w'.cell? ⟨gb177, 3, none⟩ = some (.bool t167) ∧ w'.cell? ⟨gb177, 4, none⟩ = some (.bool t168) ∧ w'.cell? ⟨gb177, 5, none⟩ = some (.bool t169) ∧ w'.cell? ⟨gb177, 6, none⟩ = some (.slice Ao23 t170.length co23) ∧ w'.cell? ⟨gb177, 7, none⟩ = some (.slice Ao24 t173.length co24) ∧ w'.cell? ⟨gb177, 8, none⟩ = some (.int .i64 t176)) (ds := [7]) #[false, false, false, false, false, false, false, false] (by kernel_rfl) rfl rfl ⟨(blk_cell BK177.out 0).trans rfl, (blk_cell BK177.out 1).trans rfl, (blk_cell BK177.out 2).trans rfl, (blk_cell BK177.out 3).trans rfl, (blk_cell BK177.out 4).trans rfl, (blk_cell BK177.out 5).trans rfl, (blk_cell BK177.out 6).trans rfl, (blk_cell BK177.out 7).trans rfl, (blk_cell BK177.out 8).trans rfl⟩ (fun hHeld => ?_); refine with_tabW spec_WriteW.tab4 spec_WriteW.bits4 (fun HT_ HW_ => ?_)
    generalize w26.drew = w27 at HO162 HO165 HO172 HO175 BK158 BK159 BK177 HB hHeld ⊢
    refine pu_ 0 (some 20) (bm_ 8 1) (any_of HT_.out (by kernel_rfl)) ?_
    refine pu_ 2 (some 22) (bm_ 8 5) (any_of HT_.out (by kernel_rfl)) ?_
    refine pu_ 3 (some 23) (bm_ 8 13) (any_of HT_.out (by kernel_rfl)) ?_
    refine pu_ 4 (some 24) (bm_ 8 29) (any_of HT_.out (by kernel_rfl)) ?_
    refine take_ (i := 1) (N := some 21) (v := ?_) (a' := ?_) (bm_ 8 31) rfl rfl (take_ofW HT_.out HW_.out (by kernel_rfl)) (fun _ _ _ h => h) (Or.inl ⟨by rfl, ?_⟩) hHeld ?_ ?_
    rotate_left
    ·rintro w' ⟨s0, s1, s2, s3, s4, s5, s6, s7, s8⟩
     go_simp
     with_reducible rfl
    rotate_left
    ·simp only [Act.put, List.setIfInBounds_toArray, List.set_cons_zero, List.set_cons_succ, i64_w, i32_w]
     rfl
    refine one_ (i := 5) (N := some 25) (bm_ 8 63) rfl rfl (one_of HT_.out (by kernel_rfl)) (by decide) (fun K hK => ?_)
    refine goes_ Try.func67 (by kernel_rfl) rfl #[.int .i64 a2] (by rfl) rfl rfl d5_ ?_
    with_reducible refine (spec_Wrap.calls a2 t180 _ A7.out).mono ?_
    rintro e w' ⟨rfl, ⟨nd, rfl⟩⟩
    refine ⟨_, rfl, ?_⟩
    have p11 : 0 ≤ ((ji8) : Int) := of_decide_eq_true d8_
    have q11 : ((ji8) : Int) < ((t160.length : Int) : Int) := of_decide_eq_true d8_
    obtain ⟨go11, co11, eo11, gb11, gl11, cl11, HG11⟩ := Kd.R_form HO162.out (by omega)
    (first | cases eo11 | (injection eo11 with ea_ en_ ec_; (first | subst ea_ | (injection ea_ with ea_; subst ea_)); subst ec_; clear en_))
    have GB11 := A_ gb11
    have GG11 := A_ HG11
    clear gb11 gl11 HG11
    obtain ⟨hx11_0, hf11_0⟩ := Kd.R_celln 0 HO162.out ((ji8) : Int) p11 q11
    replace p11 := eq_true p11
    replace q11 := eq_true q11
    have HP28 := Kd.R_putn HO162.out ((ji8) : Int) t180
    rw [← Ny181.out] at HP28
    have HQ28 := A_ HP28
    clear HP28
    refine hK.out _ _ ⟨(blk_cell BK177.out 0).trans rfl, (blk_cell BK177.out 1).trans rfl, (blk_cell BK177.out 2).trans rfl, (blk_cell BK177.out 3).trans rfl, (blk_cell BK177.out 4).trans rfl, (blk_cell BK177.out 5).trans rfl, (blk_cell BK177.out 6).trans rfl, (blk_cell BK177.out 7).trans rfl, (blk_cell BK177.out 8).trans rfl⟩ (fun hHeld => ?_)
    clear hK K
    refine norm_ (a' := ?_) ?_ ?_
    rotate_left
    ·show Act.put _ (some 25) _ = _
     simp only [Act.put, List.setIfInBounds_toArray, List.set_cons_zero, List.set_cons_succ, i64_w, i32_w]
     rfl
    refine pu_ 6 (some 26) (bm_ 8 127) (any_of HT_.out (by kernel_rfl)) ?_
    refine last_ (i := 7) (N := none) (bm_ 8 255) rfl rfl (one_of HT_.out (by kernel_rfl)) (by decide) (fun K hK => ?_)
    refine skip_ (w1 := ?_) (by rfl) rfl ?_ ?_
    rotate_left
    ·go_simp
     rfl
    refine hK.out _ _ ?_
    clear hK K
    refine done_ (done_of HT_.out (by kernel_rfl)) ?_
    have n0_ : Aside0 (Kd.R (Kd.int .i64) 3 (w27.setCell ⟨go11, ((ji8) : Int).toNat, none⟩ (.int .i64 t180)) w.heap.size (fun k_ => some k_ ≠ (.slice Ao22 t163.length co22 : Value).ownBlock ∧ some k_ ≠ (.slice Ao23 t170.length co23 : Value).ownBlock ∧ some k_ ≠ (.slice Ao24 t173.length co24 : Value).ownBlock) (.slice (some ⟨go11, 0, none⟩) t160.length co18) y181) := ⟨kr_ (HQ28.out)⟩
    have n1_ : Aside0 (Kd.R (Kd.int .i64) 3 (w27.setCell ⟨go11, ((ji8) : Int).toNat, none⟩ (.int .i64 t180)) w.heap.size (fun k_ => some k_ ≠ (.slice (some ⟨go11, 0, none⟩) t160.length co18 : Value).ownBlock ∧ some k_ ≠ (.slice Ao23 t170.length co23 : Value).ownBlock ∧ some k_ ≠ (.slice Ao24 t173.length co24 : Value).ownBlock) (.slice Ao22 t163.length co22) t163) := ⟨by (with_reducible repeat (first | apply Kd.R_alloc | apply Kd.R_drewN | apply Kd.R_drew)); exact Kd.R_mono (Kd.R_far (p := ⟨go11, ((ji8) : Int).toNat, none⟩) (Kd.R_mono HO165.out (fun k_ hk => (⟨hk, fun e_ => hk.1 (by rw [e_]; rfl)⟩ : _ ∧ k_ ≠ go11))) (fun _ hk => hk.2) (.int .i64 t180)) (fun _ hk => ⟨hk.1.1, ⟨hk.1.2.1, hk.1.2.2⟩⟩)⟩
    have n2_ : Aside0 (Kd.R (Kd.int .i64) 3 (w27.setCell ⟨go11, ((ji8) : Int).toNat, none⟩ (.int .i64 t180)) w.heap.size (fun k_ => some k_ ≠ (.slice (some ⟨go11, 0, none⟩) t160.length co18 : Value).ownBlock ∧ some k_ ≠ (.slice Ao22 t163.length co22 : Value).ownBlock ∧ some k_ ≠ (.slice Ao24 t173.length co24 : Value).ownBlock) (.slice Ao23 t170.length co23) t170) := ⟨by (with_reducible repeat (first | apply Kd.R_alloc | apply Kd.R_drewN | apply Kd.R_drew)); exact Kd.R_mono (Kd.R_far (p := ⟨go11, ((ji8) : Int).toNat, none⟩) (Kd.R_mono HO172.out (fun k_ hk => (⟨hk, fun e_ => hk.1 (by rw [e_]; rfl)⟩ : _ ∧ k_ ≠ go11))) (fun _ hk => hk.2) (.int .i64 t180)) (fun _ hk => ⟨hk.1.1, ⟨hk.1.2.1, hk.1.2.2⟩⟩)⟩
    have n3_ : Aside0 (Kd.R (Kd.int .i64) 3 (w27.setCell ⟨go11, ((ji8) : Int).toNat, none⟩ (.int .i64 t180)) w.heap.size (fun k_ => some k_ ≠ (.slice (some ⟨go11, 0, none⟩) t160.length co18 : Value).ownBlock ∧ some k_ ≠ (.slice Ao22 t163.length co22 : Value).ownBlock ∧ some k_ ≠ (.slice Ao23 t170.length co23 : Value).ownBlock) (.slice Ao24 t173.length co24) t173) := ⟨by (with_reducible repeat (first | apply Kd.R_alloc | apply Kd.R_drewN | apply Kd.R_drew)); exact Kd.R_mono (Kd.R_far (p := ⟨go11, ((ji8) : Int).toNat, none⟩) (Kd.R_mono HO175.out (fun k_ hk => (⟨hk, fun e_ => hk.1 (by rw [e_]; rfl)⟩ : _ ∧ k_ ≠ go11))) (fun _ hk => hk.2) (.int .i64 t180)) (fun _ hk => ⟨hk.1.1, ⟨hk.1.2.1, hk.1.2.2⟩⟩)⟩
    have n4_ : Aside0 ((w27.setCell ⟨go11, ((ji8) : Int).toNat, none⟩ (.int .i64 t180)).heap[gb158]? = some (.cells #[.slice A0_0 l0_0.length c0_0, .slice A0_1 l0_1.length c0_1, .bool a0_2, .bool a0_3, .bool a0_4, .bool a0_5, .slice A0_6 l0_6.length c0_6, .slice A0_7 l0_7.length c0_7, .int .i64 a0_8] 28 (0, 0))) := ⟨by refine bk_ ?_; refine blk_far ?_ (by have h_ := Kd.R_ne HO162.out BK158.out (by decide); intro e_; exact h_ (by rw [e_]; rfl)) _; refine bk_ ?_; exact BK158.out⟩
    have n5_ : Aside0 ((w27.setCell ⟨go11, ((ji8) : Int).toNat, none⟩ (.int .i64 t180)).heap[gb159]? = some (.cells #[.slice none 0 0, .slice none 0 0, .bool false, .bool false, .bool false, .bool false, .slice none 0 0, .slice none 0 0, .int .i64 0] 28 (0, 0))) := ⟨by refine bk_ ?_; refine blk_far ?_ (by have h_ := Kd.R_ne HO162.out BK159.out (by decide); intro e_; exact h_ (by rw [e_]; rfl)) _; refine bk_ ?_; exact BK159.out⟩
    have n6_ : Aside0 ((w27.setCell ⟨go11, ((ji8) : Int).toNat, none⟩ (.int .i64 t180)).heap[gb177]? = some (.cells #[.slice (some ⟨go11, 0, none⟩) t160.length co18, .slice Ao22 t163.length co22, .bool t166, .bool t167, .bool t168, .bool t169, .slice Ao23 t170.length co23, .slice Ao24 t173.length co24, .int .i64 t176] 28 (0, 0))) := ⟨by refine bk_ ?_; refine blk_far ?_ (by have h_ := Kd.R_ne HO162.out BK177.out (by decide); intro e_; exact h_ (by rw [e_]; rfl)) _; refine bk_ ?_; exact BK177.out⟩
    have n7_ : Aside0 (Below w.heap.size w (w27.setCell ⟨go11, ((ji8) : Int).toNat, none⟩ (.int .i64 t180))) := ⟨by repeat (first | (with_reducible first | exact HB.out | apply below_alloc | apply pw_below_drewN | apply below_drew1 | refine below_set ?_ GB11.out | refine below_set ?_ GE158.out | refine below_set ?_ GE159.out | refine below_set ?_ GE177.out) | exact HB.out)⟩
    (try clear HO162)
    (try clear HO165)
    (try clear HO172)
    (try clear HO175)
    (try clear BK158)
    (try clear BK159)
    (try clear BK177)
    (try clear HB)
    try rw [show (w27.drewN nd).setCell ⟨go11, ((ji8) : Int).toNat, none⟩ (.int .i64 t180) = (w27.setCell ⟨go11, ((ji8) : Int).toNat, none⟩ (.int .i64 t180)).drewN nd from rfl]
    generalize (w27.setCell ⟨go11, ((ji8) : Int).toNat, none⟩ (.int .i64 t180)) = w29 at n0_ n1_ n2_ n3_ n4_ n5_ n6_ n7_ ⊢
    have HO162 := n0_
    have HO165 := n1_
    have HO172 := n2_
    have HO175 := n3_
    have BK158 := n4_
    have BK159 := n5_
    have BK177 := n6_
    have HB := n7_
    clear n0_ n1_ n2_ n3_ n4_ n5_ n6_ n7_
    obtain ⟨y30_0, y30_1, y30_2, y30_3, y30_4, y30_5, y30_6, y30_7, y30_8, z30_0, z30_1, z30_2, z30_3, z30_4, z30_5, z30_6, z30_7, z30_8⟩ := cz9_ BK177.out
    obtain ⟨y31_0, y31_1, y31_2, y31_3, y31_4, y31_5, y31_6, y31_7, y31_8, z31_0, z31_1, z31_2, z31_3, z31_4, z31_5, z31_6, z31_7, z31_8⟩ := cz9_ BK159.out
    try go_wp2
    refine bodyPost_ret (results_ct rfl _ _ gb159 28 #[.slice (some ⟨go11, 0, none⟩) t160.length co18, .slice Ao22 t163.length co22, .bool t166, .bool t167, .bool t168, .bool t169, .slice Ao23 t170.length co23, .slice Ao24 t173.length co24, .int .i64 t176] (0, 0) _ rfl ?hb_ Try.underlying28 rfl (by kernel_rfl)) rfl ?_
    (case hb_ => exact bk_ (bp9_ (bk_ BK159.out)))
    exact ⟨_, _, _, _, by first | rfl | (simp [errW_none, errW_some] <;> rfl) | (simp only [← hji8]; first | rfl | (simp [errW_none, errW_some] <;> rfl)) | (simp [*, errW_none, errW_some] <;> rfl), by (with_reducible repeat (first | apply Kd.R_alloc | apply Kd.R_drewN | apply Kd.R_drew)); exact Kd.R_mono (rf9_ (Kd.R_types HO162.out BK159.out (by decide)) (fun _ hk => hk.2)) (fun _ hk => ⟨hk.1.1, ⟨hk.1.2.1, hk.1.2.2⟩⟩), by (with_reducible repeat (first | apply Kd.R_alloc | apply Kd.R_drewN | apply Kd.R_drew)); exact Kd.R_mono (rf9_ (Kd.R_types HO165.out BK159.out (by decide)) (fun _ hk => hk.2)) (fun _ hk => ⟨hk.1.1, ⟨hk.1.2.1, hk.1.2.2⟩⟩), by (with_reducible repeat (first | apply Kd.R_alloc | apply Kd.R_drewN | apply Kd.R_drew)); exact Kd.R_mono (rf9_ (Kd.R_types HO172.out BK159.out (by decide)) (fun _ hk => hk.2)) (fun _ hk => ⟨hk.1.1, ⟨hk.1.2.1, hk.1.2.2⟩⟩), by (with_reducible repeat (first | apply Kd.R_alloc | apply Kd.R_drewN | apply Kd.R_drew)); exact Kd.R_mono (rf9_ (Kd.R_types HO175.out BK159.out (by decide)) (fun _ hk => hk.2)) (fun _ hk => ⟨hk.1.1, ⟨hk.1.2.1, hk.1.2.2⟩⟩), bw_ HB.out⟩
   ·rw [if_neg c10] at H
    exact absurd H (by simp)
  ·rw [if_neg c9] at H
   exact absurd H (by simp)
 ·replace c6 := Bool.eq_false_iff.mpr c6
  subst c6
  rw [if_neg (show ¬ (false = true) by decide)] at H
  simp only [Option.some.injEq, Prod.mk.injEq] at H
  obtain ⟨rfl, rfl, rfl, rfl, rfl, rfl, rfl, rfl, rfl, rfl⟩ := H
  go_enter Try.func34, Try.ntmps34
  go_wp2_with (first | ((with_reducible refine gate_dst (N := 3) rfl ?_); refine bx_ 3 #[.slice A0_0 l0_0.length c0_0, .slice A0_1 l0_1.length c0_1, .bool a0_2, .bool a0_3, .bool a0_4, .bool a0_5, .slice A0_6 l0_6.length c0_6, .slice A0_7 l0_7.length c0_7, .int .i64 a0_8] 28 ?_; intro gb158 hg w32 hbox hb; have n0_ := A_ (below_step (bw_ HB.out) hb); have n1_ := A_ (hbox); have n2_ := A_ ((d10_ : w.heap.size ≤ gb158)); have n3_ := n2_; clear HB; have HB := n0_; have BK158 := n1_; have GW158 := n2_; have GE158 := n3_; have GI158 := GeI.mk GE158.out; clear n0_ n1_ n2_ n3_; clear hb hbox hg) | ((with_reducible refine gate_dst (N := 6) rfl ?_); refine bx_ 6 #[.slice none 0 0, .slice none 0 0, .bool false, .bool false, .bool false, .bool false, .slice none 0 0, .slice none 0 0, .int .i64 0] 28 ?_; intro gb159 hg w33 hbox hb; have n0_ := A_ (blk_below (bk_ BK158.out) hb); have n1_ := A_ (below_step (bw_ HB.out) hb); have n2_ := A_ (hbox); have n3_ := A_ ((d10_ : w.heap.size ≤ gb159)); have n4_ := n3_; have n5_ := A_ ((d34_ : gb158 ≠ gb159)); have n6_ := A_ n5_.out.symm; clear BK158; clear HB; have BK158 := n0_; have HB := n1_; have BK159 := n2_; have GW159 := n3_; have GE159 := n4_; have GI159 := GeI.mk GE159.out; have NB158_159 := n5_; have NB159_158 := n6_; clear n0_ n1_ n2_ n3_ n4_ n5_ n6_; clear hb hbox hg; have hnb34 := NB158_159.out; have hnc34 := NB159_158.out; obtain ⟨y35_0, y35_1, y35_2, y35_3, y35_4, y35_5, y35_6, y35_7, y35_8, z35_0, z35_1, z35_2, z35_3, z35_4, z35_5, z35_6, z35_7, z35_8⟩ := cz9_ BK158.out) | ((with_reducible refine gate_callee (f := 66) rfl ?_); refine gL_ (some 12) Try.func66 #[.agg #[.slice A0_0 l0_0.length c0_0, .slice A0_1 l0_1.length c0_1, .bool a0_2, .bool a0_3, .bool a0_4, .bool a0_5, .slice A0_6 l0_6.length c0_6, .slice A0_7 l0_7.length c0_7, .int .i64 a0_8]] ?_; (with_reducible refine (spec_l5Copy.calls _ _ l0_0 _ _ l0_1 a0_2 a0_3 a0_4 a0_5 _ _ l0_6 _ _ l0_7 a0_8 t160 t163 t166 t167 t168 t169 t170 t173 t176 _ ?side1 ?side2 ?side3 ?side4 ?side5 ?side6 ?side7 ?side8 A4.out).mono ?_); (case side1 => repeat (first | exact (Kd.C_below HR0_0.out HB.out) | (with_reducible refine Kd.C_alloc ?_ _) | (with_reducible refine Kd.C_drewN ?_ _) | (with_reducible refine Kd.C_drew ?_))); (case side2 => exact HC0_0.out); (case side3 => repeat (first | exact (Kd.C_below HR0_1.out HB.out) | (with_reducible refine Kd.C_alloc ?_ _) | (with_reducible refine Kd.C_drewN ?_ _) | (with_reducible refine Kd.C_drew ?_))); (case side4 => exact HC0_1.out); (case side5 => repeat (first | exact (Kd.C_below HR0_6.out HB.out) | (with_reducible refine Kd.C_alloc ?_ _) | (with_reducible refine Kd.C_drewN ?_ _) | (with_reducible refine Kd.C_drew ?_))); (case side6 => exact HC0_6.out); (case side7 => repeat (first | exact (Kd.C_below HR0_7.out HB.out) | (with_reducible refine Kd.C_alloc ?_ _) | (with_reducible refine Kd.C_drewN ?_ _) | (with_reducible refine Kd.C_drew ?_))); (case side8 => exact HC0_7.out); rintro e w36 ⟨v161, v164, v171, v174, rfl, ho0, ho1, ho2, ho3, hb⟩; refine ⟨_, rfl, ?_⟩; have HO162 := A_ (Kd.R_lower ho0 (below_size (bw_ HB.out))); have HO165 := A_ (Kd.R_lower ho1 (below_size (bw_ HB.out))); have HO172 := A_ (Kd.R_lower ho2 (below_size (bw_ HB.out))); have HO175 := A_ (Kd.R_lower ho3 (below_size (bw_ HB.out))); replace BK158 := A_ (blk_below (bk_ BK158.out) hb); replace BK159 := A_ (blk_below (bk_ BK159.out) hb); replace HB := A_ (below_step (bw_ HB.out) hb); clear hb; (try clear ho0); (try clear ho1); (try clear ho2); (try clear ho3)) | ((with_reducible refine gate_dst (N := 8) rfl ?_); refine bx_ 8 #[.slice none 0 0, .slice none 0 0, .bool false, .bool false, .bool false, .bool false, .slice none 0 0, .slice none 0 0, .int .i64 0] 28 ?_; intro gb177 hg w37 hbox hb; have n0_ := A_ (Kd.R_below (kr_ HO162.out) hb); have n1_ := A_ (Kd.R_below (kr_ HO165.out) hb); have n2_ := A_ (Kd.R_below (kr_ HO172.out) hb); have n3_ := A_ (Kd.R_below (kr_ HO175.out) hb); have n4_ := A_ (blk_below (bk_ BK158.out) hb); have n5_ := A_ (blk_below (bk_ BK159.out) hb); have n6_ := A_ (below_step (bw_ HB.out) hb); have n7_ := A_ (hbox); have n8_ := A_ ((d10_ : w.heap.size ≤ gb177)); have n9_ := n8_; have n10_ := A_ ((d34_ : gb158 ≠ gb177)); have n11_ := A_ n10_.out.symm; have n12_ := A_ ((by rw [hg]; exact Nat.ne_of_lt (blk_lt (bk_ BK159.out)) : gb159 ≠ gb177)); have n13_ := A_ n12_.out.symm; clear HO162; clear HO165; clear HO172; clear HO175; clear BK158; clear BK159; clear HB; have HO162 := n0_; have HO165 := n1_; have HO172 := n2_; have HO175 := n3_; have BK158 := n4_; have BK159 := n5_; have HB := n6_; have BK177 := n7_; have GW177 := n8_; have GE177 := n9_; have GI177 := GeI.mk GE177.out; have NB158_177 := n10_; have NB177_158 := n11_; have NB159_177 := n12_; have NB177_159 := n13_; clear n0_ n1_ n2_ n3_ n4_ n5_ n6_ n7_ n8_ n9_ n10_ n11_ n12_ n13_; clear hb hbox hg; obtain ⟨Ao38, co38, eo38⟩ := Kd.R_slice HO162.out; subst eo38; have hnb39 := NB177_158.out; have hnc39 := NB158_177.out; have hnb40 := NB177_159.out; have hnc40 := NB159_177.out; obtain ⟨y41_0, y41_1, y41_2, y41_3, y41_4, y41_5, y41_6, y41_7, y41_8, z41_0, z41_1, z41_2, z41_3, z41_4, z41_5, z41_6, z41_7, z41_8⟩ := cz9_ BK177.out; obtain ⟨Ao42, co42, eo42⟩ := Kd.R_slice HO165.out; subst eo42; obtain ⟨Ao43, co43, eo43⟩ := Kd.R_slice HO172.out; subst eo43; obtain ⟨Ao44, co44, eo44⟩ := Kd.R_slice HO175.out; subst eo44; obtain ⟨y45_0, y45_1, y45_2, y45_3, y45_4, y45_5, y45_6, y45_7, y45_8, z45_0, z45_1, z45_2, z45_3, z45_4, z45_5, z45_6, z45_7, z45_8⟩ := cz9_ BK158.out) | ((with_reducible refine gate_callee (f := 16) rfl ?_); refine gL_ (some 16) Try.func16 #[.agg #[.slice A0_0 l0_0.length c0_0, .slice A0_1 l0_1.length c0_1, .bool a0_2, .bool a0_3, .bool a0_4, .bool a0_5, .slice A0_6 l0_6.length c0_6, .slice A0_7 l0_7.length c0_7, .int .i64 a0_8], .int .i64 a1] ?_; (with_reducible refine (spec_ReadW.calls _ _ l0_0 _ _ l0_1 a0_2 a0_3 a0_4 a0_5 _ _ l0_6 _ _ l0_7 a0_8 a1 t178 false _ ?side1 ?side2 ?side3 ?side4 ?side5 ?side6 ?side7 ?side8 A5.out).mono ?_); (case side1 => exact Kd.C_below HR0_0.out (bw_ HB.out)); (case side2 => exact HC0_0.out); (case side3 => exact Kd.C_below HR0_1.out (bw_ HB.out)); (case side4 => exact HC0_1.out); (case side5 => exact Kd.C_below HR0_6.out (bw_ HB.out)); (case side6 => exact HC0_6.out); (case side7 => exact Kd.C_below HR0_7.out (bw_ HB.out)); (case side8 => exact HC0_7.out); rintro e w46 ⟨rfl, hb⟩; refine ⟨_, rfl, ?_⟩; replace HO162 := A_ (Kd.R_below (by (with_reducible repeat (first | apply Kd.R_alloc | apply Kd.R_drewN | apply Kd.R_drew)); exact (Kd.R_mono (rf9_ (Kd.R_types HO162.out BK177.out (by decide)) (fun _ hk => hk.2)) (fun _ h_ => h_.1))) hb); replace HO165 := A_ (Kd.R_below (by (with_reducible repeat (first | apply Kd.R_alloc | apply Kd.R_drewN | apply Kd.R_drew)); exact (Kd.R_mono (rf9_ (Kd.R_types HO165.out BK177.out (by decide)) (fun _ hk => hk.2)) (fun _ h_ => h_.1))) hb); replace HO172 := A_ (Kd.R_below (by (with_reducible repeat (first | apply Kd.R_alloc | apply Kd.R_drewN | apply Kd.R_drew)); exact (Kd.R_mono (rf9_ (Kd.R_types HO172.out BK177.out (by decide)) (fun _ hk => hk.2)) (fun _ h_ => h_.1))) hb); replace HO175 := A_ (Kd.R_below (by (with_reducible repeat (first | apply Kd.R_alloc | apply Kd.R_drewN | apply Kd.R_drew)); exact (Kd.R_mono (rf9_ (Kd.R_types HO175.out BK177.out (by decide)) (fun _ hk => hk.2)) (fun _ h_ => h_.1))) hb); replace BK158 := A_ (blk_below (g := gb158) (o := .cells #[.slice A0_0 l0_0.length c0_0, .slice A0_1 l0_1.length c0_1, .bool a0_2, .bool a0_3, .bool a0_4, .bool a0_5, .slice A0_6 l0_6.length c0_6, .slice A0_7 l0_7.length c0_7, .int .i64 a0_8] 28 (0, 0)) (by refine bk_ ?_; refine blk_far ?_ NB158_177.out _; refine bk_ ?_; refine blk_far ?_ NB158_177.out _; refine bk_ ?_; refine blk_far ?_ NB158_177.out _; refine bk_ ?_; refine blk_far ?_ NB158_177.out _; refine bk_ ?_; refine blk_far ?_ NB158_177.out _; refine bk_ ?_; refine blk_far ?_ NB158_177.out _; refine bk_ ?_; refine blk_far ?_ NB158_177.out _; refine bk_ ?_; refine blk_far ?_ NB158_177.out _; refine bk_ ?_; refine blk_far ?_ NB158_177.out _; refine bk_ ?_; exact BK158.out) hb); replace BK159 := A_ (blk_below (g := gb159) (o := .cells #[.slice none 0 0, .slice none 0 0, .bool false, .bool false, .bool false, .bool false, .slice none 0 0, .slice none 0 0, .int .i64 0] 28 (0, 0)) (by refine bk_ ?_; refine blk_far ?_ NB159_177.out _; refine bk_ ?_; refine blk_far ?_ NB159_177.out _; refine bk_ ?_; refine blk_far ?_ NB159_177.out _; refine bk_ ?_; refine blk_far ?_ NB159_177.out _; refine bk_ ?_; refine blk_far ?_ NB159_177.out _; refine bk_ ?_; refine blk_far ?_ NB159_177.out _; refine bk_ ?_; refine blk_far ?_ NB159_177.out _; refine bk_ ?_; refine blk_far ?_ NB159_177.out _; refine bk_ ?_; refine blk_far ?_ NB159_177.out _; refine bk_ ?_; exact BK159.out) hb); replace BK177 := A_ (blk_below (g := gb177) (o := .cells #[.slice Ao38 t160.length co38, .slice Ao42 t163.length co42, .bool t166, .bool t167, .bool t168, .bool t169, .slice Ao43 t170.length co43, .slice Ao44 t173.length co44, .int .i64 t176] 28 (0, 0)) (by exact bk_ (bp9_ (bk_ BK177.out))) hb); replace HB := A_ (below_step (bw_ HB.out) hb); clear hb; obtain ⟨y47_0, y47_1, y47_2, y47_3, y47_4, y47_5, y47_6, y47_7, y47_8, z47_0, z47_1, z47_2, z47_3, z47_4, z47_5, z47_6, z47_7, z47_8⟩ := cz9_ BK177.out; obtain ⟨y48_0, y48_1, y48_2, y48_3, y48_4, y48_5, y48_6, y48_7, y48_8, z48_0, z48_1, z48_2, z48_3, z48_4, z48_5, z48_6, z48_7, z48_8⟩ := cz9_ BK159.out))
  refine bodyPost_ret (results_ct rfl _ _ gb159 28 #[.slice Ao38 t160.length co38, .slice Ao42 t163.length co42, .bool t166, .bool t167, .bool t168, .bool t169, .slice Ao43 t170.length co43, .slice Ao44 t173.length co44, .int .i64 t176] (0, 0) _ rfl ?hb_ Try.underlying28 rfl (by kernel_rfl)) rfl ?_
  (case hb_ => exact bk_ (bp9_ (bk_ BK159.out)))
  exact ⟨_, _, _, _, by first | rfl | (simp [errW_none, errW_some] <;> rfl) | (simp [*, errW_none, errW_some] <;> rfl), by (with_reducible repeat (first | apply Kd.R_alloc | apply Kd.R_drewN | apply Kd.R_drew)); exact Kd.R_mono (rf9_ (Kd.R_types HO162.out BK159.out (by decide)) (fun _ hk => hk.2)) (fun _ hk => ⟨hk.1.1, ⟨hk.1.2.1, hk.1.2.2⟩⟩), by (with_reducible repeat (first | apply Kd.R_alloc | apply Kd.R_drewN | apply Kd.R_drew)); exact Kd.R_mono (rf9_ (Kd.R_types HO165.out BK159.out (by decide)) (fun _ hk => hk.2)) (fun _ hk => ⟨hk.1.1, ⟨hk.1.2.1, hk.1.2.2⟩⟩), by (with_reducible repeat (first | apply Kd.R_alloc | apply Kd.R_drewN | apply Kd.R_drew)); exact Kd.R_mono (rf9_ (Kd.R_types HO172.out BK159.out (by decide)) (fun _ hk => hk.2)) (fun _ hk => ⟨hk.1.1, ⟨hk.1.2.1, hk.1.2.2⟩⟩), by (with_reducible repeat (first | apply Kd.R_alloc | apply Kd.R_drewN | apply Kd.R_drew)); exact Kd.R_mono (rf9_ (Kd.R_types HO175.out BK159.out (by decide)) (fun _ hk => hk.2)) (fun _ hk => ⟨hk.1.1, ⟨hk.1.2.1, hk.1.2.2⟩⟩), bw_ HB.out⟩

/-! ### impl_Wrap: function 43 -/
def impl_Wrap.f (a0 : Int) : Option (Int) := some (Go.bits .and .i64 a0 65535)
set_option maxHeartbeats 8000000 in
set_option maxRecDepth 100000 in
theorem impl_Wrap.calls (a0 : Int) (r : Int) (w : World) (h : impl_Wrap.f a0 = some r) :
  Calls Try.prog 43 #[.int .i64 a0] w fun e w' => e = .returned (.int .i64 r) ∧ Drawn0 w w' := by
 have H : (some (Go.bits .and .i64 a0 65535)) = some r := h
 clear h
 obtain rfl := Option.some.inj H
 go_enter Try.func43, Try.ntmps43
 go_wp2
 go_ret
 exact ⟨by first | rfl | (simp; done) | (simp [*]; done), by repeat (first | exact Drawn0.refl _ | apply Drawn0.step)⟩

/-! ### impl_copyInts: function 64 -/
def impl_copyInts.f (l0 : List Int) : Option (List Int) := (some (([] : List Int) : List Int)).bind fun y182 => (if y182.length + l0.length < 17592186044416 then (some (y182 ++ l0)) else (none))
set_option maxHeartbeats 8000000 in
set_option maxRecDepth 100000 in
theorem impl_copyInts.calls (A0 : Option Addr) (c0 : Nat) (l0 : List Int) (r : List Int) (w : World) (hr0 : Kd.C (Kd.int .i64) w A0 l0.length l0) (hc0 : l0.length ≤ c0) (h : impl_copyInts.f l0 = some r) :
  Calls Try.prog 64 #[.slice A0 l0.length c0] w fun e w' => ∃ v0_ : Value, e = .returned (v0_) ∧ Kd.R (Kd.int .i64) 3 w' w.heap.size (fun _ => True) v0_ r ∧ Below w.heap.size w w' := by
 have HR0 := A_ hr0
 have HC0 := A_ hc0
 clear hr0 hc0
 have HB := A_ (Below.refl w.heap.size w)
 have H : ((some (([] : List Int) : List Int)).bind fun y182 => (if y182.length + l0.length < 17592186044416 then (some (y182 ++ l0)) else (none))) = some r := h
 clear h
 obtain ⟨y182, hy182⟩ : ∃ y_ : List Int, y_ = (([] : List Int)) := ⟨_, rfl⟩
 replace H : (if y182.length + l0.length < 17592186044416 then (some (y182 ++ l0)) else (none)) = some r := by first | (rw [hy182]; with_reducible exact H) | (have H2_ := (Option.bind_some _ _).symm.trans H; rw [hy182]; with_reducible exact H2_) | (have H2_ := (Option.bind_some _ _).symm.trans H; with_reducible exact H2_) | with_reducible exact H | (rw [hy182]; exact H) | exact H
 have Ny182 := A_ hy182
 clear hy182
 by_cases c2 : y182.length + l0.length < 17592186044416
 ·rw [if_pos c2] at H
  have LMc2 := A_ c2
  clear c2
  obtain ⟨y185, hy185⟩ : ∃ y_ : List Int, y_ = (y182 ++ l0) := ⟨_, rfl⟩
  replace H : (some y185) = some r := by first | (rw [hy185]; with_reducible exact H) | (have H2_ := (Option.bind_some _ _).symm.trans H; rw [hy185]; with_reducible exact H2_) | (have H2_ := (Option.bind_some _ _).symm.trans H; with_reducible exact H2_) | with_reducible exact H | (rw [hy185]; exact H) | exact H
  have Ny185 := A_ hy185
  clear hy185
  obtain rfl := Option.some.inj H
  go_enter Try.func64, Try.ntmps64
  go_wp2_with (first | ((with_reducible refine gate_dst (N := 3) rfl ?_); refine Kd.R_lit (Kd.int .i64) _ 3 ?hg (N := 3) ?hd (xs := ([] : List Int)) (inner := []) (ok := fun _ => True) (okp := fun _ => True) ?hr ?hp (fun _ hk => hk) trivial (Below.refl _ _) (Nat.le_refl _) (by simp) ?_; (case hd => rfl); (case hg => rfl); (case hr => first | (go_simp; done) | (go_simp; rfl)); (case hp => exact (Reps.none _ _)); intro v183 w3 ho4 hb hg_ hnew_; clear hg_ hnew_; (first | rw [← Ny182.out] at ho4 | (simp only [Int.reduceToNat] at ho4; rw [← Ny182.out] at ho4)); have HO184 := A_ (Kd.R_lower ho4 (below_size (bw_ HB.out))); replace HB := A_ (below_step (bw_ HB.out) hb); clear hb ho4) | ((with_reducible refine gate_builtin (b := .append) (xs := #[.tmp 3, .tmp 4]) rfl ?_); at_builtin; refine Kd.R_append_rows (Kd.int .i64) (w0 := w) w.heap.size rfl (.tmp 3) (.tmp 4) 22 3 (.int .i64 0) 8 rfl Try.underlying22 info3 rfl (by decide) (by omega) v183 y182 l0 _ _ _ (fun _ => True) (fun _ => False) rfl rfl ?aO ?aR (fun _ _ h => h) (fun _ h => h.elim) ?aF ?aB ?aS ?aL ?_; (case aR => repeat (first | exact (Kd.C_below HR0.out HB.out) | (with_reducible refine Kd.C_alloc ?_ _) | (with_reducible refine Kd.C_drewN ?_ _) | (with_reducible refine Kd.C_drew ?_))); (case aB => exact (bw_ HB.out)); (case aF => exact (fun _ _ => trivial)); (case aO => exact (kr_ HO184.out)); (case aS => exact (below_size (bw_ HB.out))); (case aL => have := LMc2.out; omega); intro v186 w5 ho hb hg hat; rw [← Ny185.out] at ho; have n0_ := A_ (hb); have n1_ := A_ (ho); clear HB; clear HO184; have HB := n0_; have HO187 := n1_; clear n0_ n1_; clear ho hb hg hat))
  go_ret
  exact ⟨_, by first | rfl | (simp [errW_none, errW_some] <;> rfl) | (simp [*, errW_none, errW_some] <;> rfl), kr_ HO187.out, bw_ HB.out⟩
 ·rw [if_neg c2] at H
  exact absurd H (by simp)

/-! ### impl_copyMach: function 68 -/
def impl_copyMach.f (l0_0 : List Int) (l0_1 : List Int) (a0_2 : Bool) (a0_3 : Bool) (a0_4 : Bool) (a0_5 : Bool) (l0_6 : List Int) (l0_7 : List Int) (a0_8 : Int) : Option (List Int × List Int × Bool × Bool × Bool × Bool × List Int × List Int × Int) := (impl_copyInts.f l0_0).bind fun t190 => ((impl_copyInts.f l0_1).bind fun t193 => ((impl_copyInts.f l0_6).bind fun t196 => ((impl_copyInts.f l0_7).bind fun t199 => (some (t190, t193, a0_2, a0_3, a0_4, a0_5, t196, t199, a0_8)))))
def impl_copyMach.T1 : Bool × List (List Nat × List Nat) := (true, [([], []), ([0], [0]), ([1], [1]), ([], []), ([3], [3]), ([4, 2], [4]), ([], []), ([6], [6]), ([7, 5], [7]), ([], []), ([9], [9]), ([10, 8], [10]), ([0, 1, 2, 3, 4, 6, 7, 9, 10], []), ([12, 2, 11, 0, 1, 2, 3, 4, 6, 7, 9, 10], [2, 12]), ([0, 1, 2, 3, 4, 5, 6, 7, 9, 10, 12, 13], []), ([14, 5, 13, 0, 1, 2, 3, 4, 5, 6, 7, 9, 10, 12, 13], [5, 14]), ([0, 1, 2, 3, 4, 5, 6, 7, 8, 9, 10, 12, 13, 14, 15], []), ([16, 8, 15, 0, 1, 2, 3, 4, 5, 6, 7, 8, 9, 10, 12, 13, 14, 15], [8, 16]), ([0, 1, 2, 3, 4, 5, 6, 7, 8, 9, 10, 11, 12, 13, 14, 15, 16, 17], []), ([18, 11, 17, 0, 1, 2, 3, 4, 5, 6, 7, 8, 9, 10, 11, 12, 13, 14, 15, 16, 17], [11, 18])])
def impl_copyMach.B1 : List Nat := [0, 1, 3, 0, 8, 31, 0, 64, 255, 0, 512, 2047, 1759, 8191, 16383, 32767, 65535, 131071, 262143, 524287]
theorem impl_copyMach.tab1 : rtab .any (opsOf Try.f68 1) = impl_copyMach.T1 := by kernel_rfl
theorem impl_copyMach.bits1 : waitsOk impl_copyMach.T1.2 impl_copyMach.B1 = true := by kernel_rfl
set_option maxHeartbeats 8000000 in
set_option maxRecDepth 100000 in
theorem impl_copyMach.calls (A0_0 : Option Addr) (c0_0 : Nat) (l0_0 : List Int) (A0_1 : Option Addr) (c0_1 : Nat) (l0_1 : List Int) (a0_2 : Bool) (a0_3 : Bool) (a0_4 : Bool) (a0_5 : Bool) (A0_6 : Option Addr) (c0_6 : Nat) (l0_6 : List Int) (A0_7 : Option Addr) (c0_7 : Nat) (l0_7 : List Int) (a0_8 : Int) (r1 : List Int) (r2 : List Int) (r3 : Bool) (r4 : Bool) (r5 : Bool) (r6 : Bool) (r7 : List Int) (r8 : List Int) (r9 : Int) (w : World) (hr0_0 : Kd.C (Kd.int .i64) w A0_0 l0_0.length l0_0) (hc0_0 : l0_0.length ≤ c0_0) (hr0_1 : Kd.C (Kd.int .i64) w A0_1 l0_1.length l0_1) (hc0_1 : l0_1.length ≤ c0_1) (hr0_6 : Kd.C (Kd.int .i64) w A0_6 l0_6.length l0_6) (hc0_6 : l0_6.length ≤ c0_6) (hr0_7 : Kd.C (Kd.int .i64) w A0_7 l0_7.length l0_7) (hc0_7 : l0_7.length ≤ c0_7) (h : impl_copyMach.f l0_0 l0_1 a0_2 a0_3 a0_4 a0_5 l0_6 l0_7 a0_8 = some (r1, r2, r3, r4, r5, r6, r7, r8, r9)) :
  Calls Try.prog 68 #[.agg #[.slice A0_0 l0_0.length c0_0, .slice A0_1 l0_1.length c0_1, .bool a0_2, .bool a0_3, .bool a0_4, .bool a0_5, .slice A0_6 l0_6.length c0_6, .slice A0_7 l0_7.length c0_7, .int .i64 a0_8]] w fun e w' => ∃ v0_ v1_ v6_ v7_ : Value, e = .returned (.agg #[v0_, v1_, .bool r3, .bool r4, .bool r5, .bool r6, v6_, v7_, .int .i64 r9]) ∧ Kd.R (Kd.int .i64) 3 w' w.heap.size (fun k_ => some k_ ≠ (v1_ : Value).ownBlock ∧ some k_ ≠ (v6_ : Value).ownBlock ∧ some k_ ≠ (v7_ : Value).ownBlock) v0_ r1 ∧ Kd.R (Kd.int .i64) 3 w' w.heap.size (fun k_ => some k_ ≠ (v0_ : Value).ownBlock ∧ some k_ ≠ (v6_ : Value).ownBlock ∧ some k_ ≠ (v7_ : Value).ownBlock) v1_ r2 ∧ Kd.R (Kd.int .i64) 3 w' w.heap.size (fun k_ => some k_ ≠ (v0_ : Value).ownBlock ∧ some k_ ≠ (v1_ : Value).ownBlock ∧ some k_ ≠ (v7_ : Value).ownBlock) v6_ r7 ∧ Kd.R (Kd.int .i64) 3 w' w.heap.size (fun k_ => some k_ ≠ (v0_ : Value).ownBlock ∧ some k_ ≠ (v1_ : Value).ownBlock ∧ some k_ ≠ (v6_ : Value).ownBlock) v7_ r8 ∧ Below w.heap.size w w' := by
 have hu28 := Try.underlying28
 have HR0_0 := A_ hr0_0
 have HC0_0 := A_ hc0_0
 clear hr0_0 hc0_0
 have HR0_1 := A_ hr0_1
 have HC0_1 := A_ hc0_1
 clear hr0_1 hc0_1
 have HR0_6 := A_ hr0_6
 have HC0_6 := A_ hc0_6
 clear hr0_6 hc0_6
 have HR0_7 := A_ hr0_7
 have HC0_7 := A_ hc0_7
 clear hr0_7 hc0_7
 have HB := A_ (Below.refl w.heap.size w)
 have H : ((impl_copyInts.f l0_0).bind fun t190 => ((impl_copyInts.f l0_1).bind fun t193 => ((impl_copyInts.f l0_6).bind fun t196 => ((impl_copyInts.f l0_7).bind fun t199 => (some (t190, t193, a0_2, a0_3, a0_4, a0_5, t196, t199, a0_8)))))) = some (r1, r2, r3, r4, r5, r6, r7, r8, r9) := h
 clear h
 replace H := Option.bind_eq_some_iff.mp H
 obtain ⟨t190, A20, H⟩ := H
 try dsimp only at H
 have A2 := A_ A20
 clear A20
 replace H := Option.bind_eq_some_iff.mp H
 obtain ⟨t193, A30, H⟩ := H
 try dsimp only at H
 have A3 := A_ A30
 clear A30
 replace H := Option.bind_eq_some_iff.mp H
 obtain ⟨t196, A40, H⟩ := H
 try dsimp only at H
 have A4 := A_ A40
 clear A40
 replace H := Option.bind_eq_some_iff.mp H
 obtain ⟨t199, A50, H⟩ := H
 try dsimp only at H
 have A5 := A_ A50
 clear A50
 simp only [Option.some.injEq, Prod.mk.injEq] at H
 obtain ⟨rfl, rfl, rfl, rfl, rfl, rfl, rfl, rfl, rfl⟩ := H
 go_enter Try.func68, Try.ntmps68
 try go_wp2_with (first | ((with_reducible refine gate_dst (N := 1) rfl ?_); refine bx_ 1 #[.slice A0_0 l0_0.length c0_0, .slice A0_1 l0_1.length c0_1, .bool a0_2, .bool a0_3, .bool a0_4, .bool a0_5, .slice A0_6 l0_6.length c0_6, .slice A0_7 l0_7.length c0_7, .int .i64 a0_8] 28 ?_; intro gb188 hg w6 hbox hb; have n0_ := A_ (below_step (bw_ HB.out) hb); have n1_ := A_ (hbox); have n2_ := A_ ((d10_ : w.heap.size ≤ gb188)); have n3_ := n2_; clear HB; have HB := n0_; have BK188 := n1_; have GW188 := n2_; have GE188 := n3_; have GI188 := GeI.mk GE188.out; clear n0_ n1_ n2_ n3_; clear hb hbox hg) | ((with_reducible refine gate_dst (N := 2) rfl ?_); refine bx_ 2 #[.slice none 0 0, .slice none 0 0, .bool false, .bool false, .bool false, .bool false, .slice none 0 0, .slice none 0 0, .int .i64 0] 28 ?_; intro gb189 hg w7 hbox hb; have n0_ := A_ (blk_below (bk_ BK188.out) hb); have n1_ := A_ (below_step (bw_ HB.out) hb); have n2_ := A_ (hbox); have n3_ := A_ ((d10_ : w.heap.size ≤ gb189)); have n4_ := n3_; have n5_ := A_ ((by rw [hg]; exact Nat.ne_of_lt (blk_lt (bk_ BK188.out)) : gb188 ≠ gb189)); have n6_ := A_ n5_.out.symm; clear BK188; clear HB; have BK188 := n0_; have HB := n1_; have BK189 := n2_; have GW189 := n3_; have GE189 := n4_; have GI189 := GeI.mk GE189.out; have NB188_189 := n5_; have NB189_188 := n6_; clear n0_ n1_ n2_ n3_ n4_ n5_ n6_; clear hb hbox hg))
 replace BK188 := A_ (blk_drew BK188.out)
 replace BK189 := A_ (blk_drew BK189.out)
 replace HB := A_ (below_drew1 HB.out)
 refine start_ (n := 20) (S := fun w' => w'.cell? ⟨gb188, 0, none⟩ = some (.slice A0_0 l0_0.length c0_0) ∧ w'.cell? ⟨gb188, 1, none⟩ = some (.slice A0_1 l0_1.length c0_1) ∧ w'.cell? ⟨gb188, 2, none⟩ = some (.bool a0_2) ∧ w'.cell? ⟨gb188, 3, none⟩ = some (.bool a0_3) ∧ w'.cell? ⟨gb188, 4, none⟩ = some (.bool a0_4) ∧ w'.cell? ⟨gb188, 5, none⟩ = some (.bool a0_5) ∧ w'.cell? ⟨gb188, 6, none⟩ = some (.slice A0_6 l0_6.length c0_6) ∧ w'.cell? ⟨gb188, 7, none⟩ = some (.slice A0_7 l0_7.length c0_7) ∧ w'.cell? ⟨gb188, 8, none⟩ = some (.int .i64 a0_8)) (ds := [13, 15, 17, 19]) #[false, false, false, false, false, false, false, false, false, false, false, false, false, false, false, false, false, false, false, false] (by kernel_rfl) rfl rfl ⟨(blk_cell BK188.out 0).trans rfl, (blk_cell BK188.out 1).trans rfl, (blk_cell BK188.out 2).trans rfl, (blk_cell BK188.out 3).trans rfl, (blk_cell BK188.out 4).trans rfl, (blk_cell BK188.out 5).trans rfl, (blk_cell BK188.out 6).trans rfl, (blk_cell BK188.out 7).trans rfl, (blk_cell BK188.out 8).trans rfl⟩ (fun hHeld => ?_); refine with_tabW impl_copyMach.tab1 impl_copyMach.bits1 (fun HT_ HW_ => ?_)
 generalize w7.drew = w8 at BK188 BK189 HB hHeld ⊢
 refine pu_ 0 (some 3) (bm_ 20 1) (any_of HT_.out (by kernel_rfl)) ?_
 refine pu_ 3 (some 6) (bm_ 20 9) (any_of HT_.out (by kernel_rfl)) ?_
 refine pu_ 6 (some 9) (bm_ 20 73) (any_of HT_.out (by kernel_rfl)) ?_
 refine pu_ 9 (some 12) (bm_ 20 585) (any_of HT_.out (by kernel_rfl)) ?_
 refine take_ (i := 1) (N := some 4) (v := ?_) (a' := ?_) (bm_ 20 587) rfl rfl (take_ofW HT_.out HW_.out (by kernel_rfl)) (fun _ _ _ h => h) (Or.inl ⟨by rfl, ?_⟩) hHeld ?_ ?_
 rotate_left
 ·rintro w' ⟨s0, s1, s2, s3, s4, s5, s6, s7, s8⟩
  go_simp
  with_reducible rfl
 rotate_left
 ·simp only [Act.put, List.setIfInBounds_toArray, List.set_cons_zero, List.set_cons_succ, i64_w, i32_w]
  rfl
 refine take_ (i := 4) (N := some 7) (v := ?_) (a' := ?_) (bm_ 20 603) rfl rfl (take_ofW HT_.out HW_.out (by kernel_rfl)) (fun _ _ _ h => h) (Or.inl ⟨by rfl, ?_⟩) hHeld ?_ ?_
 rotate_left
 ·rintro w' ⟨s0, s1, s2, s3, s4, s5, s6, s7, s8⟩
  go_simp
  with_reducible rfl
 rotate_left
 ·simp only [Act.put, List.setIfInBounds_toArray, List.set_cons_zero, List.set_cons_succ, i64_w, i32_w]
  rfl
 refine take_ (i := 7) (N := some 10) (v := ?_) (a' := ?_) (bm_ 20 731) rfl rfl (take_ofW HT_.out HW_.out (by kernel_rfl)) (fun _ _ _ h => h) (Or.inl ⟨by rfl, ?_⟩) hHeld ?_ ?_
 rotate_left
 ·rintro w' ⟨s0, s1, s2, s3, s4, s5, s6, s7, s8⟩
  go_simp
  with_reducible rfl
 rotate_left
 ·simp only [Act.put, List.setIfInBounds_toArray, List.set_cons_zero, List.set_cons_succ, i64_w, i32_w]
  rfl
 refine take_ (i := 10) (N := some 13) (v := ?_) (a' := ?_) (bm_ 20 1755) rfl rfl (take_ofW HT_.out HW_.out (by kernel_rfl)) (fun _ _ _ h => h) (Or.inl ⟨by rfl, ?_⟩) hHeld ?_ ?_
 rotate_left
 ·rintro w' ⟨s0, s1, s2, s3, s4, s5, s6, s7, s8⟩
  go_simp
  with_reducible rfl
 rotate_left
 ·simp only [Act.put, List.setIfInBounds_toArray, List.set_cons_zero, List.set_cons_succ, i64_w, i32_w]
  rfl
 refine one_ (i := 2) (N := some 5) (bm_ 20 1759) rfl rfl (one_of HT_.out (by kernel_rfl)) (by decide) (fun K hK => ?_)
 refine goes_ Try.func64 (by kernel_rfl) rfl #[.slice A0_0 l0_0.length c0_0] (by rfl) rfl rfl d5_ ?_
 with_reducible refine (impl_copyInts.calls _ _ l0_0 t190 _ ?side1 ?side2 A2.out).mono ?_
 (case side1 => repeat (first | exact (Kd.C_below HR0_0.out HB.out) | (with_reducible refine Kd.C_alloc ?_ _) | (with_reducible refine Kd.C_drewN ?_ _) | (with_reducible refine Kd.C_drew ?_)))
 (case side2 => exact HC0_0.out)
 rintro e w9 ⟨v191, rfl, ho0, hb⟩
 refine ⟨_, rfl, ?_⟩
 have HO192 := A_ (Kd.R_lower ho0 (below_size (bw_ HB.out)))
 replace BK188 := A_ (blk_below (bk_ BK188.out) hb)
 replace BK189 := A_ (blk_below (bk_ BK189.out) hb)
 replace HB := A_ (below_step (bw_ HB.out) hb)
 (try clear hb)
 (try clear hb2)
 (try clear hk)
 (try clear hi)
 (try clear ho0)
 refine hK.out _ _ ⟨(blk_cell BK188.out 0).trans rfl, (blk_cell BK188.out 1).trans rfl, (blk_cell BK188.out 2).trans rfl, (blk_cell BK188.out 3).trans rfl, (blk_cell BK188.out 4).trans rfl, (blk_cell BK188.out 5).trans rfl, (blk_cell BK188.out 6).trans rfl, (blk_cell BK188.out 7).trans rfl, (blk_cell BK188.out 8).trans rfl⟩ (fun hHeld => ?_)
 clear hK K
 refine norm_ (a' := ?_) ?_ ?_
 rotate_left
 ·show Act.put _ (some 5) _ = _
  simp only [Act.put, List.setIfInBounds_toArray, List.set_cons_zero, List.set_cons_succ, i64_w, i32_w]
  rfl
 refine pu_ 12 (some 15) (bm_ 20 5855) (any_of HT_.out (by kernel_rfl)) ?_
 refine one_ (i := 5) (N := some 8) (bm_ 20 5887) rfl rfl (one_of HT_.out (by kernel_rfl)) (by decide) (fun K hK => ?_)
 refine goes_ Try.func64 (by kernel_rfl) rfl #[.slice A0_1 l0_1.length c0_1] (by rfl) rfl rfl d5_ ?_
 with_reducible refine (impl_copyInts.calls _ _ l0_1 t193 _ ?side1 ?side2 A3.out).mono ?_
 (case side1 => repeat (first | exact (Kd.C_below HR0_1.out HB.out) | (with_reducible refine Kd.C_alloc ?_ _) | (with_reducible refine Kd.C_drewN ?_ _) | (with_reducible refine Kd.C_drew ?_)))
 (case side2 => exact HC0_1.out)
 rintro e w10 ⟨v194, rfl, ho0, hb⟩
 refine ⟨_, rfl, ?_⟩
 have HO195 := A_ (Kd.R_lower (Kd.R_new' ho0 (Kd.R_lt (kr_ HO192.out))) (below_size (bw_ HB.out)))
 replace HO192 := A_ (Kd.R_elder' (kr_ HO192.out) (Kd.R_base ho0) hb)
 replace BK188 := A_ (blk_below (bk_ BK188.out) hb)
 replace BK189 := A_ (blk_below (bk_ BK189.out) hb)
 replace HB := A_ (below_step (bw_ HB.out) hb)
 (try clear hb)
 (try clear hb2)
 (try clear hk)
 (try clear hi)
 (try clear ho0)
 refine hK.out _ _ ⟨(blk_cell BK188.out 0).trans rfl, (blk_cell BK188.out 1).trans rfl, (blk_cell BK188.out 2).trans rfl, (blk_cell BK188.out 3).trans rfl, (blk_cell BK188.out 4).trans rfl, (blk_cell BK188.out 5).trans rfl, (blk_cell BK188.out 6).trans rfl, (blk_cell BK188.out 7).trans rfl, (blk_cell BK188.out 8).trans rfl⟩ (fun hHeld => ?_)
 clear hK K
 refine norm_ (a' := ?_) ?_ ?_
 rotate_left
 ·show Act.put _ (some 8) _ = _
  simp only [Act.put, List.setIfInBounds_toArray, List.set_cons_zero, List.set_cons_succ, i64_w, i32_w]
  rfl
 refine one_ (i := 8) (N := some 11) (bm_ 20 6143) rfl rfl (one_of HT_.out (by kernel_rfl)) (by decide) (fun K hK => ?_)
 refine goes_ Try.func64 (by kernel_rfl) rfl #[.slice A0_6 l0_6.length c0_6] (by rfl) rfl rfl d5_ ?_
 with_reducible refine (impl_copyInts.calls _ _ l0_6 t196 _ ?side1 ?side2 A4.out).mono ?_
 (case side1 => repeat (first | exact (Kd.C_below HR0_6.out HB.out) | (with_reducible refine Kd.C_alloc ?_ _) | (with_reducible refine Kd.C_drewN ?_ _) | (with_reducible refine Kd.C_drew ?_)))
 (case side2 => exact HC0_6.out)
 rintro e w11 ⟨v197, rfl, ho0, hb⟩
 refine ⟨_, rfl, ?_⟩
 have HO198 := A_ (Kd.R_lower (Kd.R_new' (Kd.R_new' ho0 (Kd.R_lt (kr_ HO192.out))) (Kd.R_lt (kr_ HO195.out))) (below_size (bw_ HB.out)))
 replace HO192 := A_ (Kd.R_elder' (kr_ HO192.out) (Kd.R_base ho0) hb)
 replace HO195 := A_ (Kd.R_elder' (kr_ HO195.out) (Kd.R_base ho0) hb)
 replace BK188 := A_ (blk_below (bk_ BK188.out) hb)
 replace BK189 := A_ (blk_below (bk_ BK189.out) hb)
 replace HB := A_ (below_step (bw_ HB.out) hb)
 (try clear hb)
 (try clear hb2)
 (try clear hk)
 (try clear hi)
 (try clear ho0)
 refine hK.out _ _ ⟨(blk_cell BK188.out 0).trans rfl, (blk_cell BK188.out 1).trans rfl, (blk_cell BK188.out 2).trans rfl, (blk_cell BK188.out 3).trans rfl, (blk_cell BK188.out 4).trans rfl, (blk_cell BK188.out 5).trans rfl, (blk_cell BK188.out 6).trans rfl, (blk_cell BK188.out 7).trans rfl, (blk_cell BK188.out 8).trans rfl⟩ (fun hHeld => ?_)
 clear hK K
 refine norm_ (a' := ?_) ?_ ?_
 rotate_left
 ·show Act.put _ (some 11) _ = _
  simp only [Act.put, List.setIfInBounds_toArray, List.set_cons_zero, List.set_cons_succ, i64_w, i32_w]
  rfl
 refine one_ (i := 11) (N := some 14) (bm_ 20 8191) rfl rfl (one_of HT_.out (by kernel_rfl)) (by decide) (fun K hK => ?_)
 refine goes_ Try.func64 (by kernel_rfl) rfl #[.slice A0_7 l0_7.length c0_7] (by rfl) rfl rfl d5_ ?_
 with_reducible refine (impl_copyInts.calls _ _ l0_7 t199 _ ?side1 ?side2 A5.out).mono ?_
 (case side1 => repeat (first | exact (Kd.C_below HR0_7.out HB.out) | (with_reducible refine Kd.C_alloc ?_ _) | (with_reducible refine Kd.C_drewN ?_ _) | (with_reducible refine Kd.C_drew ?_)))
 (case side2 => exact HC0_7.out)
 rintro e w12 ⟨v200, rfl, ho0, hb⟩
 refine ⟨_, rfl, ?_⟩
 have HO201 := A_ (Kd.R_lower (Kd.R_new' (Kd.R_new' (Kd.R_new' ho0 (Kd.R_lt (kr_ HO192.out))) (Kd.R_lt (kr_ HO195.out))) (Kd.R_lt (kr_ HO198.out))) (below_size (bw_ HB.out)))
 replace HO192 := A_ (Kd.R_elder' (kr_ HO192.out) (Kd.R_base ho0) hb)
 replace HO195 := A_ (Kd.R_elder' (kr_ HO195.out) (Kd.R_base ho0) hb)
 replace HO198 := A_ (Kd.R_elder' (kr_ HO198.out) (Kd.R_base ho0) hb)
 replace BK188 := A_ (blk_below (bk_ BK188.out) hb)
 replace BK189 := A_ (blk_below (bk_ BK189.out) hb)
 replace HB := A_ (below_step (bw_ HB.out) hb)
 (try clear hb)
 (try clear hb2)
 (try clear hk)
 (try clear hi)
 (try clear ho0)
 obtain ⟨Ao13, co13, eo13⟩ := Kd.R_slice HO192.out
 (first | subst eo13 | (injection eo13 with f1_ f2_ f3_; have f4_ := f1_.symm; have f5_ := f3_.symm; clear f1_ f2_ f3_; subst f4_; subst f5_))
 obtain ⟨Ao15, co15, eo15⟩ := Kd.R_slice HO195.out
 (first | subst eo15 | (injection eo15 with f1_ f2_ f3_; have f4_ := f1_.symm; have f5_ := f3_.symm; clear f1_ f2_ f3_; subst f4_; subst f5_))
 obtain ⟨Ao17, co17, eo17⟩ := Kd.R_slice HO198.out
 (first | subst eo17 | (injection eo17 with f1_ f2_ f3_; have f4_ := f1_.symm; have f5_ := f3_.symm; clear f1_ f2_ f3_; subst f4_; subst f5_))
 obtain ⟨Ao19, co19, eo19⟩ := Kd.R_slice HO201.out
 (first | subst eo19 | (injection eo19 with f1_ f2_ f3_; have f4_ := f1_.symm; have f5_ := f3_.symm; clear f1_ f2_ f3_; subst f4_; subst f5_))
 refine hK.out _ _ ⟨(blk_cell BK188.out 0).trans rfl, (blk_cell BK188.out 1).trans rfl, (blk_cell BK188.out 2).trans rfl, (blk_cell BK188.out 3).trans rfl, (blk_cell BK188.out 4).trans rfl, (blk_cell BK188.out 5).trans rfl, (blk_cell BK188.out 6).trans rfl, (blk_cell BK188.out 7).trans rfl, (blk_cell BK188.out 8).trans rfl⟩ (fun hHeld => ?_)
 clear hK K
 refine norm_ (a' := ?_) ?_ ?_
 rotate_left
 ·show Act.put _ (some 14) _ = _
  simp only [Act.put, List.setIfInBounds_toArray, List.set_cons_zero, List.set_cons_succ, i64_w, i32_w]
  rfl
 refine last_ (i := 13) (N := none) (bm_ 20 16383) rfl rfl (one_of HT_.out (by kernel_rfl)) (by decide) (fun K hK => ?_)
 have hs14 : w12.cell? ⟨gb188, 0, none⟩ = some (.slice A0_0 l0_0.length c0_0) := (blk_cell BK188.out 0).trans rfl
 have hfs14 := blk_frozen BK188.out 0
 have hns14_1 := NB189_188.out
 have hms14_1 := NB188_189.out
 refine skip_ (w1 := ?_) (by rfl) rfl ?_ ?_
 rotate_left
 ·go_simp
  rfl
 refine hK.out _ _ ?_
 clear hK K
 refine pu_ 14 (some 16) (bm_ 20 32767) (any_of HT_.out (by kernel_rfl)) ?_
 refine last_ (i := 15) (N := none) (bm_ 20 65535) rfl rfl (one_of HT_.out (by kernel_rfl)) (by decide) (fun K hK => ?_)
 have hs16 : w12.cell? ⟨gb188, 1, none⟩ = some (.slice A0_1 l0_1.length c0_1) := (blk_cell BK188.out 1).trans rfl
 have hfs16 := blk_frozen BK188.out 1
 have hns16_1 := NB189_188.out
 have hms16_1 := NB188_189.out
 refine skip_ (w1 := ?_) (by rfl) rfl ?_ ?_
 rotate_left
 ·go_simp
  rfl
 refine hK.out _ _ ?_
 clear hK K
 refine pu_ 16 (some 17) (bm_ 20 131071) (any_of HT_.out (by kernel_rfl)) ?_
 refine last_ (i := 17) (N := none) (bm_ 20 262143) rfl rfl (one_of HT_.out (by kernel_rfl)) (by decide) (fun K hK => ?_)
 have hs18 : w12.cell? ⟨gb188, 6, none⟩ = some (.slice A0_6 l0_6.length c0_6) := (blk_cell BK188.out 6).trans rfl
 have hfs18 := blk_frozen BK188.out 6
 have hns18_1 := NB189_188.out
 have hms18_1 := NB188_189.out
 refine skip_ (w1 := ?_) (by rfl) rfl ?_ ?_
 rotate_left
 ·go_simp
  rfl
 refine hK.out _ _ ?_
 clear hK K
 refine pu_ 18 (some 18) (bm_ 20 524287) (any_of HT_.out (by kernel_rfl)) ?_
 refine last_ (i := 19) (N := none) (bm_ 20 1048575) rfl rfl (one_of HT_.out (by kernel_rfl)) (by decide) (fun K hK => ?_)
 have hs20 : w12.cell? ⟨gb188, 7, none⟩ = some (.slice A0_7 l0_7.length c0_7) := (blk_cell BK188.out 7).trans rfl
 have hfs20 := blk_frozen BK188.out 7
 have hns20_1 := NB189_188.out
 have hms20_1 := NB188_189.out
 refine skip_ (w1 := ?_) (by rfl) rfl ?_ ?_
 rotate_left
 ·go_simp
  rfl
 refine hK.out _ _ ?_
 clear hK K
 refine done_ (done_of HT_.out (by kernel_rfl)) ?_
 have hnb21 := NB188_189.out
 have hnc21 := NB189_188.out
 obtain ⟨y22_0, y22_1, y22_2, y22_3, y22_4, y22_5, y22_6, y22_7, y22_8, z22_0, z22_1, z22_2, z22_3, z22_4, z22_5, z22_6, z22_7, z22_8⟩ := cz9_ BK188.out
 obtain ⟨y23_0, y23_1, y23_2, y23_3, y23_4, y23_5, y23_6, y23_7, y23_8, z23_0, z23_1, z23_2, z23_3, z23_4, z23_5, z23_6, z23_7, z23_8⟩ := cz9_ BK189.out
 try go_wp2
 refine bodyPost_ret (results_cell_row rfl _ _ gb189 28 #[.slice Ao13 t190.length co13, .slice Ao15 t193.length co15, .bool a0_2, .bool a0_3, .bool a0_4, .bool a0_5, .slice Ao17 t196.length co17, .slice Ao19 t199.length co19, .int .i64 a0_8] (0, 0) _ rfl ?hb_ Try.underlying28 rfl (by kernel_rfl)) rfl ?_
 (case hb_ => refine bk_ ?_; refine blk_put (cs := #[.slice Ao13 t190.length co13, .slice Ao15 t193.length co15, .bool a0_2, .bool a0_3, .bool a0_4, .bool a0_5, .slice Ao17 t196.length co17, .slice Ao19 t199.length co19, .int .i64 0]) ?_ 8 _ rfl; refine bk_ ?_; refine blk_put (cs := #[.slice Ao13 t190.length co13, .slice Ao15 t193.length co15, .bool a0_2, .bool a0_3, .bool a0_4, .bool a0_5, .slice Ao17 t196.length co17, .slice none 0 0, .int .i64 0]) ?_ 7 _ rfl; refine bk_ ?_; refine blk_put (cs := #[.slice Ao13 t190.length co13, .slice Ao15 t193.length co15, .bool a0_2, .bool a0_3, .bool a0_4, .bool a0_5, .slice none 0 0, .slice none 0 0, .int .i64 0]) ?_ 6 _ rfl; refine bk_ ?_; refine blk_put (cs := #[.slice Ao13 t190.length co13, .slice Ao15 t193.length co15, .bool a0_2, .bool a0_3, .bool a0_4, .bool false, .slice none 0 0, .slice none 0 0, .int .i64 0]) ?_ 5 _ rfl; refine bk_ ?_; refine blk_put (cs := #[.slice Ao13 t190.length co13, .slice Ao15 t193.length co15, .bool a0_2, .bool a0_3, .bool false, .bool false, .slice none 0 0, .slice none 0 0, .int .i64 0]) ?_ 4 _ rfl; refine bk_ ?_; refine blk_put (cs := #[.slice Ao13 t190.length co13, .slice Ao15 t193.length co15, .bool a0_2, .bool false, .bool false, .bool false, .slice none 0 0, .slice none 0 0, .int .i64 0]) ?_ 3 _ rfl; refine bk_ ?_; refine blk_put (cs := #[.slice Ao13 t190.length co13, .slice Ao15 t193.length co15, .bool false, .bool false, .bool false, .bool false, .slice none 0 0, .slice none 0 0, .int .i64 0]) ?_ 2 _ rfl; refine bk_ ?_; refine blk_put (cs := #[.slice Ao13 t190.length co13, .slice none 0 0, .bool false, .bool false, .bool false, .bool false, .slice none 0 0, .slice none 0 0, .int .i64 0]) ?_ 1 _ rfl; refine bk_ ?_; refine blk_put (cs := #[.slice none 0 0, .slice none 0 0, .bool false, .bool false, .bool false, .bool false, .slice none 0 0, .slice none 0 0, .int .i64 0]) ?_ 0 _ rfl; refine bk_ ?_; refine blk_far ?_ NB189_188.out _; refine bk_ ?_; refine blk_far ?_ NB189_188.out _; refine bk_ ?_; refine blk_far ?_ NB189_188.out _; refine bk_ ?_; refine blk_far ?_ NB189_188.out _; refine bk_ ?_; exact BK189.out)
 exact ⟨_, _, _, _, by first | rfl | (simp [errW_none, errW_some] <;> rfl) | (simp [*, errW_none, errW_some] <;> rfl), kr_ (Kd.R_mono (rf9_ (Kd.R_far (p := ⟨gb188, 7, none⟩) (Kd.R_far (p := ⟨gb188, 6, none⟩) (Kd.R_far (p := ⟨gb188, 1, none⟩) (Kd.R_far (p := ⟨gb188, 0, none⟩) (Kd.R_types (Kd.R_types HO192.out BK188.out (by decide)) BK189.out (by decide)) (fun _ hk => hk.1.2) (.slice Ao13 t190.length co13)) (fun _ hk => hk.1.2) (.slice Ao15 t193.length co15)) (fun _ hk => hk.1.2) (.slice Ao17 t196.length co17)) (fun _ hk => hk.1.2) (.slice Ao19 t199.length co19)) (fun _ hk => hk.2)) (fun _ hk => ⟨hk.1.1.1.1.2, ⟨hk.1.1.1.2, hk.1.1.2⟩⟩)), kr_ (Kd.R_mono (rf9_ (Kd.R_far (p := ⟨gb188, 7, none⟩) (Kd.R_far (p := ⟨gb188, 6, none⟩) (Kd.R_far (p := ⟨gb188, 1, none⟩) (Kd.R_far (p := ⟨gb188, 0, none⟩) (Kd.R_types (Kd.R_types HO195.out BK188.out (by decide)) BK189.out (by decide)) (fun _ hk => hk.1.2) (.slice Ao13 t190.length co13)) (fun _ hk => hk.1.2) (.slice Ao15 t193.length co15)) (fun _ hk => hk.1.2) (.slice Ao17 t196.length co17)) (fun _ hk => hk.1.2) (.slice Ao19 t199.length co19)) (fun _ hk => hk.2)) (fun _ hk => ⟨hk.1.1.1.1.2, ⟨hk.1.1.1.2, hk.1.1.2⟩⟩)), kr_ (Kd.R_mono (rf9_ (Kd.R_far (p := ⟨gb188, 7, none⟩) (Kd.R_far (p := ⟨gb188, 6, none⟩) (Kd.R_far (p := ⟨gb188, 1, none⟩) (Kd.R_far (p := ⟨gb188, 0, none⟩) (Kd.R_types (Kd.R_types HO198.out BK188.out (by decide)) BK189.out (by decide)) (fun _ hk => hk.1.2) (.slice Ao13 t190.length co13)) (fun _ hk => hk.1.2) (.slice Ao15 t193.length co15)) (fun _ hk => hk.1.2) (.slice Ao17 t196.length co17)) (fun _ hk => hk.1.2) (.slice Ao19 t199.length co19)) (fun _ hk => hk.2)) (fun _ hk => ⟨hk.1.1.1.1.2, ⟨hk.1.1.1.2, hk.1.1.2⟩⟩)), kr_ (Kd.R_mono (rf9_ (Kd.R_far (p := ⟨gb188, 7, none⟩) (Kd.R_far (p := ⟨gb188, 6, none⟩) (Kd.R_far (p := ⟨gb188, 1, none⟩) (Kd.R_far (p := ⟨gb188, 0, none⟩) (Kd.R_types (Kd.R_types HO201.out BK188.out (by decide)) BK189.out (by decide)) (fun _ hk => hk.1.2) (.slice Ao13 t190.length co13)) (fun _ hk => hk.1.2) (.slice Ao15 t193.length co15)) (fun _ hk => hk.1.2) (.slice Ao17 t196.length co17)) (fun _ hk => hk.1.2) (.slice Ao19 t199.length co19)) (fun _ hk => hk.2)) (fun _ hk => ⟨hk.1.1.1.1.2, ⟨hk.1.1.1.2, hk.1.1.2⟩⟩)), bw_ HB.out⟩

end Go.Proofs.Ytiagbfilffbljaa.PFnMachsBent
