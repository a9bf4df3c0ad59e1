-- Laid by a program of this session (a changed copy of the kit's printer); Lean checks every line.
import Derived.Test.YtiagbfilffbljaaPFnStoredx0
import Derived.Test.YtiagbfilffbljaaPFnStoredx2
import Derived.Test.YtiagbfilffbljaaPFnStoredx3
namespace Go.Proofs.Ytiagbfilffbljaa.PFnStored
open Go.RowKit Go.Proofs.YtiagbfilffbljaaW.PrintWords Go.Proofs.YtiagbfilffbljaaW.PrintLast Go.Proofs.YtiagbfilffbljaaW.PrintMore
attribute [local go_sem] max2_int min2_int max_two min_two max_three min_three max_four min_four   -- for this text's walks alone
set_option linter.unusedVariables false
set_option linter.unusedSimpArgs false

/-! ### impl_Store: function 37 -/
def impl_Store.f (l0_0 : List Int) (l0_1 : List Int) (a0_2 : Bool) (a0_3 : Bool) (a0_4 : Bool) (a0_5 : Bool) (l0_6 : List Int) (l0_7 : List Int) (a0_8 : Int) (a1_0 : Int) (a1_1 : Int) (a2 : Int) : Option (List Int × List Int × Bool × Bool × Bool × Bool × List Int × List Int × Int × Bool) := (impl_isRegPlace.f l0_0 l0_1 a0_2 a0_3 a0_4 a0_5 l0_6 l0_7 a0_8 a1_0 a1_1).bind fun t178 => (if t178 = true then ((impl_copyMach.f l0_0 l0_1 a0_2 a0_3 a0_4 a0_5 l0_6 l0_7 a0_8).bind fun bt179 => ((impl_Wrap.f a2).bind fun t197 => (if 0 ≤ a1_0 then (if a1_0 < (bt179.2.1.length : Int) then (some (bt179.1, (bt179.2.1.set (a1_0 : Int).toNat t197), bt179.2.2.1, bt179.2.2.2.1, bt179.2.2.2.2.1, bt179.2.2.2.2.2.1, bt179.2.2.2.2.2.2.1, bt179.2.2.2.2.2.2.2.1, bt179.2.2.2.2.2.2.2.2, true)) else (none)) else (none)))) else (if a1_0 = (-1) then ((impl_WriteW.f l0_0 l0_1 a0_2 a0_3 a0_4 a0_5 l0_6 l0_7 a0_8 a1_1 a2).bind fun bt199 => (some (bt199.1, bt199.2.1, bt199.2.2.1, bt199.2.2.2.1, bt199.2.2.2.2.1, bt199.2.2.2.2.2.1, bt199.2.2.2.2.2.2.1, bt199.2.2.2.2.2.2.2.1, bt199.2.2.2.2.2.2.2.2.1, bt199.2.2.2.2.2.2.2.2.2))) else ((impl_copyMach.f l0_0 l0_1 a0_2 a0_3 a0_4 a0_5 l0_6 l0_7 a0_8).bind fun bt217 => (some (bt217.1, bt217.2.1, bt217.2.2.1, bt217.2.2.2.1, bt217.2.2.2.2.1, bt217.2.2.2.2.2.1, bt217.2.2.2.2.2.2.1, bt217.2.2.2.2.2.2.2.1, bt217.2.2.2.2.2.2.2.2, false)))))
def impl_Store.T3 : Bool × List (List Nat × List Nat) := (true, [([], []), ([0], [0]), ([], []), ([2], [2]), ([], []), ([4], [4]), ([1, 3, 0, 1, 2, 3, 4, 5], [1, 3]), ([6, 5, 5, 0, 1, 2, 3, 4, 5], [5, 6])])
def impl_Store.B3 : List Nat := [0, 1, 0, 4, 0, 16, 63, 127]
theorem impl_Store.tab3 : rtab .any (opsOf Try.f37 3) = impl_Store.T3 := by kernel_rfl
theorem impl_Store.bits3 : waitsOk impl_Store.T3.2 impl_Store.B3 = true := by kernel_rfl
set_option maxHeartbeats 8000000 in
set_option maxRecDepth 100000 in
theorem impl_Store.calls (A0_0 : Option Addr) (c0_0 : Nat) (l0_0 : List Int) (A0_1 : Option Addr) (c0_1 : Nat) (l0_1 : List Int) (a0_2 : Bool) (a0_3 : Bool) (a0_4 : Bool) (a0_5 : Bool) (A0_6 : Option Addr) (c0_6 : Nat) (l0_6 : List Int) (A0_7 : Option Addr) (c0_7 : Nat) (l0_7 : List Int) (a0_8 : Int) (a1_0 : Int) (a1_1 : Int) (a2 : Int) (r1 : List Int) (r2 : List Int) (r3 : Bool) (r4 : Bool) (r5 : Bool) (r6 : Bool) (r7 : List Int) (r8 : List Int) (r9 : Int) (r10 : Bool) (w : World) (hr0_0 : Kd.C (Kd.int .i64) w A0_0 l0_0.length l0_0) (hc0_0 : l0_0.length ≤ c0_0) (hr0_1 : Kd.C (Kd.int .i64) w A0_1 l0_1.length l0_1) (hc0_1 : l0_1.length ≤ c0_1) (hr0_6 : Kd.C (Kd.int .i64) w A0_6 l0_6.length l0_6) (hc0_6 : l0_6.length ≤ c0_6) (hr0_7 : Kd.C (Kd.int .i64) w A0_7 l0_7.length l0_7) (hc0_7 : l0_7.length ≤ c0_7) (h : impl_Store.f l0_0 l0_1 a0_2 a0_3 a0_4 a0_5 l0_6 l0_7 a0_8 a1_0 a1_1 a2 = some (r1, r2, r3, r4, r5, r6, r7, r8, r9, r10)) :
  Calls Try.prog 37 #[.agg #[.slice A0_0 l0_0.length c0_0, .slice A0_1 l0_1.length c0_1, .bool a0_2, .bool a0_3, .bool a0_4, .bool a0_5, .slice A0_6 l0_6.length c0_6, .slice A0_7 l0_7.length c0_7, .int .i64 a0_8], .agg #[.int .i64 a1_0, .int .i64 a1_1], .int .i64 a2] w fun e w' => ∃ v0_ v1_ v6_ v7_ : Value, e = .returned (.tuple #[.agg #[v0_, v1_, .bool r3, .bool r4, .bool r5, .bool r6, v6_, v7_, .int .i64 r9], .bool r10]) ∧ Kd.R (Kd.int .i64) 3 w' w.heap.size (fun k_ => some k_ ≠ (v1_ : Value).ownBlock ∧ some k_ ≠ (v6_ : Value).ownBlock ∧ some k_ ≠ (v7_ : Value).ownBlock) v0_ r1 ∧ Kd.R (Kd.int .i64) 3 w' w.heap.size (fun k_ => some k_ ≠ (v0_ : Value).ownBlock ∧ some k_ ≠ (v6_ : Value).ownBlock ∧ some k_ ≠ (v7_ : Value).ownBlock) v1_ r2 ∧ Kd.R (Kd.int .i64) 3 w' w.heap.size (fun k_ => some k_ ≠ (v0_ : Value).ownBlock ∧ some k_ ≠ (v1_ : Value).ownBlock ∧ some k_ ≠ (v7_ : Value).ownBlock) v6_ r7 ∧ Kd.R (Kd.int .i64) 3 w' w.heap.size (fun k_ => some k_ ≠ (v0_ : Value).ownBlock ∧ some k_ ≠ (v1_ : Value).ownBlock ∧ some k_ ≠ (v6_ : Value).ownBlock) v7_ r8 ∧ Below w.heap.size w w' := by
 have hu28 := Try.underlying28
 have hu38 := Try.underlying38
 have HR0_0 := A_ hr0_0
 have HC0_0 := A_ hc0_0
 clear hr0_0 hc0_0
 have HR0_1 := A_ hr0_1
 have HC0_1 := A_ hc0_1
 clear hr0_1 hc0_1
 have HR0_6 := A_ hr0_6
 have HC0_6 := A_ hc0_6
 clear hr0_6 hc0_6
 have HR0_7 := A_ hr0_7
 have HC0_7 := A_ hc0_7
 clear hr0_7 hc0_7
 have HB := A_ (Below.refl w.heap.size w)
 have H : ((impl_isRegPlace.f l0_0 l0_1 a0_2 a0_3 a0_4 a0_5 l0_6 l0_7 a0_8 a1_0 a1_1).bind fun t178 => (if t178 = true then ((impl_copyMach.f l0_0 l0_1 a0_2 a0_3 a0_4 a0_5 l0_6 l0_7 a0_8).bind fun bt179 => ((impl_Wrap.f a2).bind fun t197 => (if 0 ≤ a1_0 then (if a1_0 < (bt179.2.1.length : Int) then (some (bt179.1, (bt179.2.1.set (a1_0 : Int).toNat t197), bt179.2.2.1, bt179.2.2.2.1, bt179.2.2.2.2.1, bt179.2.2.2.2.2.1, bt179.2.2.2.2.2.2.1, bt179.2.2.2.2.2.2.2.1, bt179.2.2.2.2.2.2.2.2, true)) else (none)) else (none)))) else (if a1_0 = (-1) then ((impl_WriteW.f l0_0 l0_1 a0_2 a0_3 a0_4 a0_5 l0_6 l0_7 a0_8 a1_1 a2).bind fun bt199 => (some (bt199.1, bt199.2.1, bt199.2.2.1, bt199.2.2.2.1, bt199.2.2.2.2.1, bt199.2.2.2.2.2.1, bt199.2.2.2.2.2.2.1, bt199.2.2.2.2.2.2.2.1, bt199.2.2.2.2.2.2.2.2.1, bt199.2.2.2.2.2.2.2.2.2))) else ((impl_copyMach.f l0_0 l0_1 a0_2 a0_3 a0_4 a0_5 l0_6 l0_7 a0_8).bind fun bt217 => (some (bt217.1, bt217.2.1, bt217.2.2.1, bt217.2.2.2.1, bt217.2.2.2.2.1, bt217.2.2.2.2.2.1, bt217.2.2.2.2.2.2.1, bt217.2.2.2.2.2.2.2.1, bt217.2.2.2.2.2.2.2.2, false)))))) = some (r1, r2, r3, r4, r5, r6, r7, r8, r9, r10) := h
 clear h
 replace H := Option.bind_eq_some_iff.mp H
 obtain ⟨t178, A40, H⟩ := H
 try dsimp only at H
 have A4 := A_ A40
 clear A40
 by_cases c5 : t178 = true
 ·subst c5
  rw [if_pos rfl] at H
  replace H := Option.bind_eq_some_iff.mp H
  obtain ⟨⟨t179, t182, t185, t186, t187, t188, t189, t192, t195⟩, A60, H⟩ := H
  try dsimp only at H
  have A6 := A_ A60
  clear A60
  replace H := Option.bind_eq_some_iff.mp H
  obtain ⟨t197, A70, H⟩ := H
  try dsimp only at H
  have A7 := A_ A70
  clear A70
  by_cases c8 : 0 ≤ a1_0
  ·rw [if_pos c8] at H
   have c8b0 := decide_eq_true c8
   clear c8
   by_cases c9 : a1_0 < (t182.length : Int)
   ·rw [if_pos c9] at H
    have c9b0 := decide_eq_true c9
    clear c9
    obtain ⟨y198, hy198⟩ : ∃ y_ : List Int, y_ = (t182.set (a1_0 : Int).toNat t197) := ⟨_, rfl⟩
    replace H : (some (t179, y198, t185, t186, t187, t188, t189, t192, t195, true)) = some (r1, r2, r3, r4, r5, r6, r7, r8, r9, r10) := by first | (rw [hy198]; with_reducible exact H) | (have H2_ := (Option.bind_some _ _).symm.trans H; rw [hy198]; with_reducible exact H2_) | (have H2_ := (Option.bind_some _ _).symm.trans H; with_reducible exact H2_) | with_reducible exact H | (rw [hy198]; exact H) | exact H
    have Ny198 := A_ hy198
    clear hy198
    simp only [Option.some.injEq, Prod.mk.injEq] at H
    obtain ⟨rfl, rfl, rfl, rfl, rfl, rfl, rfl, rfl, rfl, rfl⟩ := H
    go_enter Try.func37, Try.ntmps37
    try go_wp2_with (first | ((with_reducible refine gate_dst (N := 3) rfl ?_); refine bx_ 3 #[.slice A0_0 l0_0.length c0_0, .slice A0_1 l0_1.length c0_1, .bool a0_2, .bool a0_3, .bool a0_4, .bool a0_5, .slice A0_6 l0_6.length c0_6, .slice A0_7 l0_7.length c0_7, .int .i64 a0_8] 28 ?_; intro gb175 hg w11 hbox hb; have n0_ := A_ (below_step (bw_ HB.out) hb); have n1_ := A_ (hbox); have n2_ := A_ ((d5_ : w.heap.size ≤ gb175)); have n3_ := n2_; clear HB; have HB := n0_; have BK175 := n1_; have GW175 := n2_; have GE175 := n3_; have GI175 := GeI.mk GE175.out; clear n0_ n1_ n2_ n3_; clear hb hbox hg) | ((with_reducible refine gate_dst (N := 4) rfl ?_); refine bx_ 4 #[.int .i64 a1_0, .int .i64 a1_1] 38 ?_; intro gb176 hg w12 hbox hb; have n0_ := A_ (blk_below (bk_ BK175.out) hb); have n1_ := A_ (below_step (bw_ HB.out) hb); have n2_ := A_ (hbox); have n3_ := A_ ((d5_ : w.heap.size ≤ gb176)); have n4_ := n3_; have n5_ := A_ ((d37_ : gb175 ≠ gb176)); have n6_ := A_ n5_.out.symm; clear BK175; clear HB; have BK175 := n0_; have HB := n1_; have BK176 := n2_; have GW176 := n3_; have GE176 := n4_; have GI176 := GeI.mk GE176.out; have NB175_176 := n5_; have NB176_175 := n6_; clear n0_ n1_ n2_ n3_ n4_ n5_ n6_; clear hb hbox hg) | ((with_reducible refine gate_dst (N := 6) rfl ?_); refine bx_ 6 #[.slice none 0 0, .slice none 0 0, .bool false, .bool false, .bool false, .bool false, .slice none 0 0, .slice none 0 0, .int .i64 0] 28 ?_; intro gb177 hg w13 hbox hb; have n0_ := A_ (blk_below (bk_ BK175.out) hb); have n1_ := A_ (blk_below (bk_ BK176.out) hb); have n2_ := A_ (below_step (bw_ HB.out) hb); have n3_ := A_ (hbox); have n4_ := A_ ((d5_ : w.heap.size ≤ gb177)); have n5_ := n4_; have n6_ := A_ ((d37_ : gb175 ≠ gb177)); have n7_ := A_ n6_.out.symm; have n8_ := A_ ((d48_ : gb176 ≠ gb177)); have n9_ := A_ n8_.out.symm; clear BK175; clear BK176; clear HB; have BK175 := n0_; have BK176 := n1_; have HB := n2_; have BK177 := n3_; have GW177 := n4_; have GE177 := n5_; have GI177 := GeI.mk GE177.out; have NB175_177 := n6_; have NB177_175 := n7_; have NB176_177 := n8_; have NB177_176 := n9_; clear n0_ n1_ n2_ n3_ n4_ n5_ n6_ n7_ n8_ n9_; clear hb hbox hg; have hnb14 := NB175_176.out; have hnc14 := NB176_175.out; have hnb15 := NB175_177.out; have hnc15 := NB177_175.out; obtain ⟨y16_0, y16_1, y16_2, y16_3, y16_4, y16_5, y16_6, y16_7, y16_8, z16_0, z16_1, z16_2, z16_3, z16_4, z16_5, z16_6, z16_7, z16_8⟩ := cz9_ BK175.out; have hnb17 := NB176_177.out; have hnc17 := NB177_176.out; have y18_0 : w13.cell? ⟨gb176, 0, none⟩ = some (.int .i64 a1_0) := (blk_cell BK176.out 0).trans rfl; have y18_1 : w13.cell? ⟨gb176, 1, none⟩ = some (.int .i64 a1_1) := (blk_cell BK176.out 1).trans rfl; have z18_0 := blk_frozen BK176.out 0; have z18_1 := blk_frozen BK176.out 1) | ((with_reducible refine gate_callee (f := 62) rfl ?_); refine gL_ (some 11) Try.func62 #[.agg #[.slice A0_0 l0_0.length c0_0, .slice A0_1 l0_1.length c0_1, .bool a0_2, .bool a0_3, .bool a0_4, .bool a0_5, .slice A0_6 l0_6.length c0_6, .slice A0_7 l0_7.length c0_7, .int .i64 a0_8], .agg #[.int .i64 a1_0, .int .i64 a1_1]] ?_; (with_reducible refine (impl_isRegPlace.calls _ _ l0_0 _ _ l0_1 a0_2 a0_3 a0_4 a0_5 _ _ l0_6 _ _ l0_7 a0_8 a1_0 a1_1 true _ ?side1 ?side2 ?side3 ?side4 ?side5 ?side6 ?side7 ?side8 A4.out).mono ?_); (case side1 => exact Kd.C_below HR0_0.out (bw_ HB.out)); (case side2 => exact HC0_0.out); (case side3 => exact Kd.C_below HR0_1.out (bw_ HB.out)); (case side4 => exact HC0_1.out); (case side5 => exact Kd.C_below HR0_6.out (bw_ HB.out)); (case side6 => exact HC0_6.out); (case side7 => exact Kd.C_below HR0_7.out (bw_ HB.out)); (case side8 => exact HC0_7.out); rintro e w19 ⟨rfl, hb⟩; refine ⟨_, rfl, ?_⟩; replace BK175 := A_ (blk_below (bk_ BK175.out) hb); replace BK176 := A_ (blk_below (bk_ BK176.out) hb); replace BK177 := A_ (blk_below (bk_ BK177.out) hb); replace HB := A_ (below_step (bw_ HB.out) hb); clear hb; obtain ⟨y20_0, y20_1, y20_2, y20_3, y20_4, y20_5, y20_6, y20_7, y20_8, z20_0, z20_1, z20_2, z20_3, z20_4, z20_5, z20_6, z20_7, z20_8⟩ := cz9_ BK175.out) | ((with_reducible refine gate_callee (f := 68) rfl ?_); refine gL_ (some 13) Try.func68 #[.agg #[.slice A0_0 l0_0.length c0_0, .slice A0_1 l0_1.length c0_1, .bool a0_2, .bool a0_3, .bool a0_4, .bool a0_5, .slice A0_6 l0_6.length c0_6, .slice A0_7 l0_7.length c0_7, .int .i64 a0_8]] ?_; (with_reducible refine (impl_copyMach.calls _ _ l0_0 _ _ l0_1 a0_2 a0_3 a0_4 a0_5 _ _ l0_6 _ _ l0_7 a0_8 t179 t182 t185 t186 t187 t188 t189 t192 t195 _ ?side1 ?side2 ?side3 ?side4 ?side5 ?side6 ?side7 ?side8 A6.out).mono ?_); (case side1 => exact Kd.C_below HR0_0.out (bw_ HB.out)); (case side2 => exact HC0_0.out); (case side3 => exact Kd.C_below HR0_1.out (bw_ HB.out)); (case side4 => exact HC0_1.out); (case side5 => exact Kd.C_below HR0_6.out (bw_ HB.out)); (case side6 => exact HC0_6.out); (case side7 => exact Kd.C_below HR0_7.out (bw_ HB.out)); (case side8 => exact HC0_7.out); rintro e w21 ⟨v180, v183, v190, v193, rfl, ho0, ho1, ho2, ho3, hb⟩; refine ⟨_, rfl, ?_⟩; have HO181 := A_ (Kd.R_lower ho0 (below_size (bw_ HB.out))); have HO184 := A_ (Kd.R_lower ho1 (below_size (bw_ HB.out))); have HO191 := A_ (Kd.R_lower ho2 (below_size (bw_ HB.out))); have HO194 := A_ (Kd.R_lower ho3 (below_size (bw_ HB.out))); replace BK175 := A_ (blk_below (bk_ BK175.out) hb); replace BK176 := A_ (blk_below (bk_ BK176.out) hb); replace BK177 := A_ (blk_below (bk_ BK177.out) hb); replace HB := A_ (below_step (bw_ HB.out) hb); clear hb; (try clear ho0); (try clear ho1); (try clear ho2); (try clear ho3)) | ((with_reducible refine gate_dst (N := 8) rfl ?_); refine bx_ 8 #[.slice none 0 0, .slice none 0 0, .bool false, .bool false, .bool false, .bool false, .slice none 0 0, .slice none 0 0, .int .i64 0] 28 ?_; intro gb196 hg w22 hbox hb; have n0_ := A_ (Kd.R_below (kr_ HO181.out) hb); have n1_ := A_ (Kd.R_below (kr_ HO184.out) hb); have n2_ := A_ (Kd.R_below (kr_ HO191.out) hb); have n3_ := A_ (Kd.R_below (kr_ HO194.out) hb); have n4_ := A_ (blk_below (bk_ BK175.out) hb); have n5_ := A_ (blk_below (bk_ BK176.out) hb); have n6_ := A_ (blk_below (bk_ BK177.out) hb); have n7_ := A_ (below_step (bw_ HB.out) hb); have n8_ := A_ (hbox); have n9_ := A_ ((d5_ : w.heap.size ≤ gb196)); have n10_ := n9_; have n11_ := A_ ((d37_ : gb175 ≠ gb196)); have n12_ := A_ n11_.out.symm; have n13_ := A_ ((d48_ : gb176 ≠ gb196)); have n14_ := A_ n13_.out.symm; have n15_ := A_ ((by rw [hg]; exact Nat.ne_of_lt (blk_lt (bk_ BK177.out)) : gb177 ≠ gb196)); have n16_ := A_ n15_.out.symm; clear HO181; clear HO184; clear HO191; clear HO194; clear BK175; clear BK176; clear BK177; clear HB; have HO181 := n0_; have HO184 := n1_; have HO191 := n2_; have HO194 := n3_; have BK175 := n4_; have BK176 := n5_; have BK177 := n6_; have HB := n7_; have BK196 := n8_; have GW196 := n9_; have GE196 := n10_; have GI196 := GeI.mk GE196.out; have NB175_196 := n11_; have NB196_175 := n12_; have NB176_196 := n13_; have NB196_176 := n14_; have NB177_196 := n15_; have NB196_177 := n16_; clear n0_ n1_ n2_ n3_ n4_ n5_ n6_ n7_ n8_ n9_ n10_ n11_ n12_ n13_ n14_ n15_ n16_; clear hb hbox hg; obtain ⟨Ao23, co23, eo23⟩ := Kd.R_slice HO181.out; subst eo23; have hnb24 := NB196_175.out; have hnc24 := NB175_196.out; have hnb25 := NB196_176.out; have hnc25 := NB176_196.out; have hnb26 := NB196_177.out; have hnc26 := NB177_196.out; obtain ⟨y27_0, y27_1, y27_2, y27_3, y27_4, y27_5, y27_6, y27_7, y27_8, z27_0, z27_1, z27_2, z27_3, z27_4, z27_5, z27_6, z27_7, z27_8⟩ := cz9_ BK196.out; obtain ⟨Ao28, co28, eo28⟩ := Kd.R_slice HO184.out; subst eo28; obtain ⟨Ao29, co29, eo29⟩ := Kd.R_slice HO191.out; subst eo29; obtain ⟨Ao30, co30, eo30⟩ := Kd.R_slice HO194.out; subst eo30))
    obtain ⟨w31, hz_⟩ : ∃ z_, z_ = (((((((((w22.setCell ⟨gb196, 0, none⟩ (.slice Ao23 t179.length co23)).setCell ⟨gb196, 1, none⟩ (.slice Ao28 t182.length co28)).setCell ⟨gb196, 2, none⟩ (.bool t185)).setCell ⟨gb196, 3, none⟩ (.bool t186)).setCell ⟨gb196, 4, none⟩ (.bool t187)).setCell ⟨gb196, 5, none⟩ (.bool t188)).setCell ⟨gb196, 6, none⟩ (.slice Ao29 t189.length co29)).setCell ⟨gb196, 7, none⟩ (.slice Ao30 t192.length co30)).setCell ⟨gb196, 8, none⟩ (.int .i64 t195)) := ⟨_, rfl⟩
    have n0_ : Aside0 (Kd.R (Kd.int .i64) 3 w31 w.heap.size (fun k_ => some k_ ≠ (.slice Ao28 t182.length co28 : Value).ownBlock ∧ some k_ ≠ (.slice Ao29 t189.length co29 : Value).ownBlock ∧ some k_ ≠ (.slice Ao30 t192.length co30 : Value).ownBlock) (.slice Ao23 t179.length co23) t179) := ⟨by rw [hz_]; (with_reducible repeat (first | apply Kd.R_alloc | apply Kd.R_drewN | apply Kd.R_drew)); exact Kd.R_mono (rf9_ (Kd.R_types HO181.out BK196.out (by decide)) (fun _ hk => hk.2)) (fun _ hk => ⟨hk.1.1, ⟨hk.1.2.1, hk.1.2.2⟩⟩)⟩
    have n1_ : Aside0 (Kd.R (Kd.int .i64) 3 w31 w.heap.size (fun k_ => some k_ ≠ (.slice Ao23 t179.length co23 : Value).ownBlock ∧ some k_ ≠ (.slice Ao29 t189.length co29 : Value).ownBlock ∧ some k_ ≠ (.slice Ao30 t192.length co30 : Value).ownBlock) (.slice Ao28 t182.length co28) t182) := ⟨by rw [hz_]; (with_reducible repeat (first | apply Kd.R_alloc | apply Kd.R_drewN | apply Kd.R_drew)); exact Kd.R_mono (rf9_ (Kd.R_types HO184.out BK196.out (by decide)) (fun _ hk => hk.2)) (fun _ hk => ⟨hk.1.1, ⟨hk.1.2.1, hk.1.2.2⟩⟩)⟩
    have n2_ : Aside0 (Kd.R (Kd.int .i64) 3 w31 w.heap.size (fun k_ => some k_ ≠ (.slice Ao23 t179.length co23 : Value).ownBlock ∧ some k_ ≠ (.slice Ao28 t182.length co28 : Value).ownBlock ∧ some k_ ≠ (.slice Ao30 t192.length co30 : Value).ownBlock) (.slice Ao29 t189.length co29) t189) := ⟨by rw [hz_]; (with_reducible repeat (first | apply Kd.R_alloc | apply Kd.R_drewN | apply Kd.R_drew)); exact Kd.R_mono (rf9_ (Kd.R_types HO191.out BK196.out (by decide)) (fun _ hk => hk.2)) (fun _ hk => ⟨hk.1.1, ⟨hk.1.2.1, hk.1.2.2⟩⟩)⟩
    have n3_ : Aside0 (Kd.R (Kd.int .i64) 3 w31 w.heap.size (fun k_ => some k_ ≠ (.slice Ao23 t179.length co23 : Value).ownBlock ∧ some k_ ≠ (.slice Ao28 t182.length co28 : Value).ownBlock ∧ some k_ ≠ (.slice Ao29 t189.length co29 : Value).ownBlock) (.slice Ao30 t192.length co30) t192) := ⟨by rw [hz_]; (with_reducible repeat (first | apply Kd.R_alloc | apply Kd.R_drewN | apply Kd.R_drew)); exact Kd.R_mono (rf9_ (Kd.R_types HO194.out BK196.out (by decide)) (fun _ hk => hk.2)) (fun _ hk => ⟨hk.1.1, ⟨hk.1.2.1, hk.1.2.2⟩⟩)⟩
    have n4_ : Aside0 (w31.heap[gb175]? = some (.cells #[.slice A0_0 l0_0.length c0_0, .slice A0_1 l0_1.length c0_1, .bool a0_2, .bool a0_3, .bool a0_4, .bool a0_5, .slice A0_6 l0_6.length c0_6, .slice A0_7 l0_7.length c0_7, .int .i64 a0_8] 28 (0, 0))) := ⟨by rw [hz_]; refine bk_ ?_; refine blk_far ?_ NB175_196.out _; refine bk_ ?_; refine blk_far ?_ NB175_196.out _; refine bk_ ?_; refine blk_far ?_ NB175_196.out _; refine bk_ ?_; refine blk_far ?_ NB175_196.out _; refine bk_ ?_; refine blk_far ?_ NB175_196.out _; refine bk_ ?_; refine blk_far ?_ NB175_196.out _; refine bk_ ?_; refine blk_far ?_ NB175_196.out _; refine bk_ ?_; refine blk_far ?_ NB175_196.out _; refine bk_ ?_; refine blk_far ?_ NB175_196.out _; refine bk_ ?_; exact BK175.out⟩
    have n5_ : Aside0 (w31.heap[gb176]? = some (.cells #[.int .i64 a1_0, .int .i64 a1_1] 38 (0, 0))) := ⟨by rw [hz_]; refine bk_ ?_; refine blk_far ?_ NB176_196.out _; refine bk_ ?_; refine blk_far ?_ NB176_196.out _; refine bk_ ?_; refine blk_far ?_ NB176_196.out _; refine bk_ ?_; refine blk_far ?_ NB176_196.out _; refine bk_ ?_; refine blk_far ?_ NB176_196.out _; refine bk_ ?_; refine blk_far ?_ NB176_196.out _; refine bk_ ?_; refine blk_far ?_ NB176_196.out _; refine bk_ ?_; refine blk_far ?_ NB176_196.out _; refine bk_ ?_; refine blk_far ?_ NB176_196.out _; refine bk_ ?_; exact BK176.out⟩
    have n6_ : Aside0 (w31.heap[gb177]? = some (.cells #[.slice none 0 0, .slice none 0 0, .bool false, .bool false, .bool false, .bool false, .slice none 0 0, .slice none 0 0, .int .i64 0] 28 (0, 0))) := ⟨by rw [hz_]; refine bk_ ?_; refine blk_far ?_ NB177_196.out _; refine bk_ ?_; refine blk_far ?_ NB177_196.out _; refine bk_ ?_; refine blk_far ?_ NB177_196.out _; refine bk_ ?_; refine blk_far ?_ NB177_196.out _; refine bk_ ?_; refine blk_far ?_ NB177_196.out _; refine bk_ ?_; refine blk_far ?_ NB177_196.out _; refine bk_ ?_; refine blk_far ?_ NB177_196.out _; refine bk_ ?_; refine blk_far ?_ NB177_196.out _; refine bk_ ?_; refine blk_far ?_ NB177_196.out _; refine bk_ ?_; exact BK177.out⟩
    have n7_ : Aside0 (w31.heap[gb196]? = some (.cells #[.slice Ao23 t179.length co23, .slice Ao28 t182.length co28, .bool t185, .bool t186, .bool t187, .bool t188, .slice Ao29 t189.length co29, .slice Ao30 t192.length co30, .int .i64 t195] 28 (0, 0))) := ⟨by rw [hz_]; exact bk_ (bp9_ (bk_ BK196.out))⟩
    have n8_ : Aside0 (Below w.heap.size w w31) := ⟨by rw [hz_]; exact bw_ HB.out⟩
    (try clear HO181)
    (try clear HO184)
    (try clear HO191)
    (try clear HO194)
    (try clear BK175)
    (try clear BK176)
    (try clear BK177)
    (try clear BK196)
    (try clear HB)
    rw [← hz_]
    clear hz_
    have HO181 := n0_
    have HO184 := n1_
    have HO191 := n2_
    have HO194 := n3_
    have BK175 := n4_
    have BK176 := n5_
    have BK177 := n6_
    have BK196 := n7_
    have HB := n8_
    clear n0_ n1_ n2_ n3_ n4_ n5_ n6_ n7_ n8_
    replace HO181 := A_ (Kd.R_drew HO181.out)
    replace HO184 := A_ (Kd.R_drew HO184.out)
    replace HO191 := A_ (Kd.R_drew HO191.out)
    replace HO194 := A_ (Kd.R_drew HO194.out)
    replace BK175 := A_ (blk_drew BK175.out)
    replace BK176 := A_ (blk_drew BK176.out)
    replace BK177 := A_ (blk_drew BK177.out)
    replace BK196 := A_ (blk_drew BK196.out)
    replace HB := A_ (below_drew1 HB.out)
    refine start_ (n := 8) (S := fun w' => w'.cell? ⟨gb196, 0, none⟩ = some (.slice Ao23 t179.length co23) ∧ w'.cell? ⟨gb196, 1, none⟩ = some (.slice Ao28 t182.length co28) ∧ w'.cell? ⟨gb196, 2, none⟩ = some (.bool t185) ∧ w'.cell? ⟨gb196, 3, none⟩ = some (.bool t186) ∧ w'.cell? ⟨gb196, 4, none⟩ = some (.bool t187) ∧ w'.cell? ⟨gb196, 5, none⟩ = some (.bool t188) ∧ w'.cell? ⟨gb196, 6, none⟩ = some (.slice Ao29 t189.length co29) ∧ w'.cell? ⟨gb196, 7, none⟩ = some (.slice Ao30 t192.length co30) ∧ w'.cell? ⟨gb196, 8, none⟩ = some (.int .i64 t195) ∧ w'.cell? ⟨gb176, 0, none⟩ = some (.int .i64 a1_0) ∧ w'.cell? ⟨gb176, 1, none⟩ = some (.int .i64 a1_1)) (ds := [7]) #[false, false, false, false, false, false, false, false] (by kernel_rfl) rfl rfl ⟨(blk_cell BK196.out 0).trans rfl, (blk_cell BK196.out 1).trans rfl, (blk_cell BK196.out 2).trans rfl, (blk_cell BK196.out 3).trans rfl, (blk_cell BK196.out 4).trans rfl, (blk_cell BK196.out 5).trans rfl, (blk_cell BK196.out 6).trans rfl, (blk_cell BK196.out 7).trans rfl, (blk_cell BK196.out 8).trans rfl, (blk_cell BK176.out 0).trans rfl, (blk_cell BK176.out 1).trans rfl⟩ (fun hHeld => ?_); refine with_tabW impl_Store.tab3 impl_Store.bits3 (fun HT_ HW_ => ?_)
    generalize w31.drew = w32 at HO181 HO184 HO191 HO194 BK175 BK176 BK177 BK196 HB hHeld ⊢
    refine pu_ 0 (some 14) (bm_ 8 1) (any_of HT_.out (by kernel_rfl)) ?_
    refine pu_ 2 (some 16) (bm_ 8 5) (any_of HT_.out (by kernel_rfl)) ?_
    refine pu_ 4 (some 18) (bm_ 8 21) (any_of HT_.out (by kernel_rfl)) ?_
    refine take_ (i := 1) (N := some 15) (v := ?_) (a' := ?_) (bm_ 8 23) rfl rfl (take_ofW HT_.out HW_.out (by kernel_rfl)) (fun _ _ _ h => h) (Or.inl ⟨by rfl, ?_⟩) hHeld ?_ ?_
    rotate_left
    ·rintro w' ⟨s0, s1, s2, s3, s4, s5, s6, s7, s8, s9, s10⟩
     go_simp
     with_reducible rfl
    rotate_left
    ·simp only [Act.put, List.setIfInBounds_toArray, List.set_cons_zero, List.set_cons_succ, i64_w, i32_w]
     rfl
    refine take_ (i := 3) (N := some 17) (v := ?_) (a' := ?_) (bm_ 8 31) rfl rfl (take_ofW HT_.out HW_.out (by kernel_rfl)) (fun _ _ _ h => h) (Or.inl ⟨by rfl, ?_⟩) hHeld ?_ ?_
    rotate_left
    ·rintro w' ⟨s0, s1, s2, s3, s4, s5, s6, s7, s8, s9, s10⟩
     go_simp
     with_reducible rfl
    rotate_left
    ·simp only [Act.put, List.setIfInBounds_toArray, List.set_cons_zero, List.set_cons_succ, i64_w, i32_w]
     rfl
    refine one_ (i := 5) (N := some 19) (bm_ 8 63) rfl rfl (one_of HT_.out (by kernel_rfl)) (by decide) (fun K hK => ?_)
    refine goes_ Try.func43 (by kernel_rfl) rfl #[.int .i64 a2] (by rfl) rfl rfl d9_ ?_
    with_reducible refine (impl_Wrap.calls a2 t197 _ A7.out).mono ?_
    rintro e w' ⟨rfl, ⟨nd, rfl⟩⟩
    refine ⟨_, rfl, ?_⟩
    have p10 : 0 ≤ (a1_0 : Int) := of_decide_eq_true d8_
    have q10 : (a1_0 : Int) < ((t182.length : Int) : Int) := of_decide_eq_true d8_
    obtain ⟨go10, co10, eo10, gb10, gl10, cl10, HG10⟩ := Kd.R_form HO184.out (by omega)
    (first | cases eo10 | (injection eo10 with ea_ en_ ec_; (first | subst ea_ | (injection ea_ with ea_; subst ea_)); subst ec_; clear en_))
    have GB10 := A_ gb10
    have GG10 := A_ HG10
    clear gb10 gl10 HG10
    obtain ⟨hx10_0, hf10_0⟩ := Kd.R_celln 0 HO184.out (a1_0 : Int) p10 q10
    replace p10 := eq_true p10
    replace q10 := eq_true q10
    have HP33 := Kd.R_putn HO184.out (a1_0 : Int) t197
    rw [← Ny198.out] at HP33
    have HQ33 := A_ HP33
    clear HP33
    refine hK.out _ _ ⟨(blk_cell BK196.out 0).trans rfl, (blk_cell BK196.out 1).trans rfl, (blk_cell BK196.out 2).trans rfl, (blk_cell BK196.out 3).trans rfl, (blk_cell BK196.out 4).trans rfl, (blk_cell BK196.out 5).trans rfl, (blk_cell BK196.out 6).trans rfl, (blk_cell BK196.out 7).trans rfl, (blk_cell BK196.out 8).trans rfl, (blk_cell BK176.out 0).trans rfl, (blk_cell BK176.out 1).trans rfl⟩ (fun hHeld => ?_)
    clear hK K
    refine norm_ (a' := ?_) ?_ ?_
    rotate_left
    ·show Act.put _ (some 19) _ = _
     simp only [Act.put, List.setIfInBounds_toArray, List.set_cons_zero, List.set_cons_succ, i64_w, i32_w]
     rfl
    refine pu_ 6 (some 20) (bm_ 8 127) (any_of HT_.out (by kernel_rfl)) ?_
    refine last_ (i := 7) (N := none) (bm_ 8 255) rfl rfl (one_of HT_.out (by kernel_rfl)) (by decide) (fun K hK => ?_)
    refine skip_ (w1 := ?_) (by rfl) rfl ?_ ?_
    rotate_left
    ·go_simp
     rfl
    refine hK.out _ _ ?_
    clear hK K
    refine done_ (done_of HT_.out (by kernel_rfl)) ?_
    have n0_ : Aside0 (Kd.R (Kd.int .i64) 3 (w32.setCell ⟨go10, (a1_0 : Int).toNat, none⟩ (.int .i64 t197)) w.heap.size (fun k_ => some k_ ≠ (.slice (some ⟨go10, 0, none⟩) t182.length co28 : Value).ownBlock ∧ some k_ ≠ (.slice Ao29 t189.length co29 : Value).ownBlock ∧ some k_ ≠ (.slice Ao30 t192.length co30 : Value).ownBlock) (.slice Ao23 t179.length co23) t179) := ⟨by (with_reducible repeat (first | apply Kd.R_alloc | apply Kd.R_drewN | apply Kd.R_drew)); exact Kd.R_mono (Kd.R_far (p := ⟨go10, (a1_0 : Int).toNat, none⟩) (Kd.R_mono HO181.out (fun k_ hk => (⟨hk, fun e_ => hk.1 (by rw [e_]; rfl)⟩ : _ ∧ k_ ≠ go10))) (fun _ hk => hk.2) (.int .i64 t197)) (fun _ hk => ⟨hk.1.1, ⟨hk.1.2.1, hk.1.2.2⟩⟩)⟩
    have n1_ : Aside0 (Kd.R (Kd.int .i64) 3 (w32.setCell ⟨go10, (a1_0 : Int).toNat, none⟩ (.int .i64 t197)) w.heap.size (fun k_ => some k_ ≠ (.slice Ao23 t179.length co23 : Value).ownBlock ∧ some k_ ≠ (.slice Ao29 t189.length co29 : Value).ownBlock ∧ some k_ ≠ (.slice Ao30 t192.length co30 : Value).ownBlock) (.slice (some ⟨go10, 0, none⟩) t182.length co28) y198) := ⟨kr_ (HQ33.out)⟩
    have n2_ : Aside0 (Kd.R (Kd.int .i64) 3 (w32.setCell ⟨go10, (a1_0 : Int).toNat, none⟩ (.int .i64 t197)) w.heap.size (fun k_ => some k_ ≠ (.slice Ao23 t179.length co23 : Value).ownBlock ∧ some k_ ≠ (.slice (some ⟨go10, 0, none⟩) t182.length co28 : Value).ownBlock ∧ some k_ ≠ (.slice Ao30 t192.length co30 : Value).ownBlock) (.slice Ao29 t189.length co29) t189) := ⟨by (with_reducible repeat (first | apply Kd.R_alloc | apply Kd.R_drewN | apply Kd.R_drew)); exact Kd.R_mono (Kd.R_far (p := ⟨go10, (a1_0 : Int).toNat, none⟩) (Kd.R_mono HO191.out (fun k_ hk => (⟨hk, fun e_ => hk.2.1 (by rw [e_]; rfl)⟩ : _ ∧ k_ ≠ go10))) (fun _ hk => hk.2) (.int .i64 t197)) (fun _ hk => ⟨hk.1.1, ⟨hk.1.2.1, hk.1.2.2⟩⟩)⟩
    have n3_ : Aside0 (Kd.R (Kd.int .i64) 3 (w32.setCell ⟨go10, (a1_0 : Int).toNat, none⟩ (.int .i64 t197)) w.heap.size (fun k_ => some k_ ≠ (.slice Ao23 t179.length co23 : Value).ownBlock ∧ some k_ ≠ (.slice (some ⟨go10, 0, none⟩) t182.length co28 : Value).ownBlock ∧ some k_ ≠ (.slice Ao29 t189.length co29 : Value).ownBlock) (.slice Ao30 t192.length co30) t192) := ⟨by (with_reducible repeat (first | apply Kd.R_alloc | apply Kd.R_drewN | apply Kd.R_drew)); exact Kd.R_mono (Kd.R_far (p := ⟨go10, (a1_0 : Int).toNat, none⟩) (Kd.R_mono HO194.out (fun k_ hk => (⟨hk, fun e_ => hk.2.1 (by rw [e_]; rfl)⟩ : _ ∧ k_ ≠ go10))) (fun _ hk => hk.2) (.int .i64 t197)) (fun _ hk => ⟨hk.1.1, ⟨hk.1.2.1, hk.1.2.2⟩⟩)⟩
    have n4_ : Aside0 ((w32.setCell ⟨go10, (a1_0 : Int).toNat, none⟩ (.int .i64 t197)).heap[gb175]? = some (.cells #[.slice A0_0 l0_0.length c0_0, .slice A0_1 l0_1.length c0_1, .bool a0_2, .bool a0_3, .bool a0_4, .bool a0_5, .slice A0_6 l0_6.length c0_6, .slice A0_7 l0_7.length c0_7, .int .i64 a0_8] 28 (0, 0))) := ⟨by refine bk_ ?_; refine blk_far ?_ (by have h_ := Kd.R_ne HO184.out BK175.out (by decide); intro e_; exact h_ (by rw [e_]; rfl)) _; refine bk_ ?_; exact BK175.out⟩
    have n5_ : Aside0 ((w32.setCell ⟨go10, (a1_0 : Int).toNat, none⟩ (.int .i64 t197)).heap[gb176]? = some (.cells #[.int .i64 a1_0, .int .i64 a1_1] 38 (0, 0))) := ⟨by refine bk_ ?_; refine blk_far ?_ (by have h_ := Kd.R_ne HO184.out BK176.out (by decide); intro e_; exact h_ (by rw [e_]; rfl)) _; refine bk_ ?_; exact BK176.out⟩
    have n6_ : Aside0 ((w32.setCell ⟨go10, (a1_0 : Int).toNat, none⟩ (.int .i64 t197)).heap[gb177]? = some (.cells #[.slice none 0 0, .slice none 0 0, .bool false, .bool false, .bool false, .bool false, .slice none 0 0, .slice none 0 0, .int .i64 0] 28 (0, 0))) := ⟨by refine bk_ ?_; refine blk_far ?_ (by have h_ := Kd.R_ne HO184.out BK177.out (by decide); intro e_; exact h_ (by rw [e_]; rfl)) _; refine bk_ ?_; exact BK177.out⟩
    have n7_ : Aside0 ((w32.setCell ⟨go10, (a1_0 : Int).toNat, none⟩ (.int .i64 t197)).heap[gb196]? = some (.cells #[.slice Ao23 t179.length co23, .slice (some ⟨go10, 0, none⟩) t182.length co28, .bool t185, .bool t186, .bool t187, .bool t188, .slice Ao29 t189.length co29, .slice Ao30 t192.length co30, .int .i64 t195] 28 (0, 0))) := ⟨by refine bk_ ?_; refine blk_far ?_ (by have h_ := Kd.R_ne HO184.out BK196.out (by decide); intro e_; exact h_ (by rw [e_]; rfl)) _; refine bk_ ?_; exact BK196.out⟩
    have n8_ : Aside0 (Below w.heap.size w (w32.setCell ⟨go10, (a1_0 : Int).toNat, none⟩ (.int .i64 t197))) := ⟨by repeat (first | (with_reducible first | exact HB.out | apply below_alloc | apply pw_below_drewN | apply below_drew1 | refine below_set ?_ GB10.out | refine below_set ?_ GE175.out | refine below_set ?_ GE176.out | refine below_set ?_ GE177.out | refine below_set ?_ GE196.out) | exact HB.out)⟩
    (try clear HO181)
    (try clear HO184)
    (try clear HO191)
    (try clear HO194)
    (try clear BK175)
    (try clear BK176)
    (try clear BK177)
    (try clear BK196)
    (try clear HB)
    try rw [show (w32.drewN nd).setCell ⟨go10, (a1_0 : Int).toNat, none⟩ (.int .i64 t197) = (w32.setCell ⟨go10, (a1_0 : Int).toNat, none⟩ (.int .i64 t197)).drewN nd from rfl]
    generalize (w32.setCell ⟨go10, (a1_0 : Int).toNat, none⟩ (.int .i64 t197)) = w34 at n0_ n1_ n2_ n3_ n4_ n5_ n6_ n7_ n8_ ⊢
    have HO181 := n0_
    have HO184 := n1_
    have HO191 := n2_
    have HO194 := n3_
    have BK175 := n4_
    have BK176 := n5_
    have BK177 := n6_
    have BK196 := n7_
    have HB := n8_
    clear n0_ n1_ n2_ n3_ n4_ n5_ n6_ n7_ n8_
    obtain ⟨y35_0, y35_1, y35_2, y35_3, y35_4, y35_5, y35_6, y35_7, y35_8, z35_0, z35_1, z35_2, z35_3, z35_4, z35_5, z35_6, z35_7, z35_8⟩ := cz9_ BK196.out
    obtain ⟨y36_0, y36_1, y36_2, y36_3, y36_4, y36_5, y36_6, y36_7, y36_8, z36_0, z36_1, z36_2, z36_3, z36_4, z36_5, z36_6, z36_7, z36_8⟩ := cz9_ BK177.out
    try go_wp2
    refine bodyPost_ret (results_ct rfl _ _ gb177 28 #[.slice Ao23 t179.length co23, .slice (some ⟨go10, 0, none⟩) t182.length co28, .bool t185, .bool t186, .bool t187, .bool t188, .slice Ao29 t189.length co29, .slice Ao30 t192.length co30, .int .i64 t195] (0, 0) _ rfl ?hb_ Try.underlying28 rfl (by kernel_rfl)) rfl ?_
    (case hb_ => exact bk_ (bp9_ (bk_ BK177.out)))
    exact ⟨_, _, _, _, by first | rfl | (simp [errW_none, errW_some] <;> rfl) | (simp [*, errW_none, errW_some] <;> rfl), by (with_reducible repeat (first | apply Kd.R_alloc | apply Kd.R_drewN | apply Kd.R_drew)); exact Kd.R_mono (rf9_ (Kd.R_types HO181.out BK177.out (by decide)) (fun _ hk => hk.2)) (fun _ hk => ⟨hk.1.1, ⟨hk.1.2.1, hk.1.2.2⟩⟩), by (with_reducible repeat (first | apply Kd.R_alloc | apply Kd.R_drewN | apply Kd.R_drew)); exact Kd.R_mono (rf9_ (Kd.R_types HO184.out BK177.out (by decide)) (fun _ hk => hk.2)) (fun _ hk => ⟨hk.1.1, ⟨hk.1.2.1, hk.1.2.2⟩⟩), by (with_reducible repeat (first | apply Kd.R_alloc | apply Kd.R_drewN | apply Kd.R_drew)); exact Kd.R_mono (rf9_ (Kd.R_types HO191.out BK177.out (by decide)) (fun _ hk => hk.2)) (fun _ hk => ⟨hk.1.1, ⟨hk.1.2.1, hk.1.2.2⟩⟩), by (with_reducible repeat (first | apply Kd.R_alloc | apply Kd.R_drewN | apply Kd.R_drew)); exact Kd.R_mono (rf9_ (Kd.R_types HO194.out BK177.out (by decide)) (fun _ hk => hk.2)) (fun _ hk => ⟨hk.1.1, ⟨hk.1.2.1, hk.1.2.2⟩⟩), bw_ HB.out⟩
   ·rw [if_neg c9] at H
    exact absurd H (by simp)
  ·rw [if_neg c8] at H
   exact absurd H (by simp)
 ·replace c5 := Bool.eq_false_iff.mpr c5
  subst c5
  rw [if_neg (show ¬ (false = true) by decide)] at H
  by_cases c37 : a1_0 = (-1)
  ·rw [if_pos c37] at H
   have c37b0 := beq_iff_eq.mpr c37
   have c37b1 := bne_eq_false_iff_eq.mpr c37
   clear c37
   replace H := Option.bind_eq_some_iff.mp H
   obtain ⟨⟨t199, t202, t205, t206, t207, t208, t209, t212, t215, t216⟩, A380, H⟩ := H
   try dsimp only at H
   have A38 := A_ A380
   clear A380
   simp only [Option.some.injEq, Prod.mk.injEq] at H
   obtain ⟨rfl, rfl, rfl, rfl, rfl, rfl, rfl, rfl, rfl, rfl⟩ := H
   go_enter Try.func37, Try.ntmps37
   go_wp2_with (first | ((with_reducible refine gate_dst (N := 3) rfl ?_); refine bx_ 3 #[.slice A0_0 l0_0.length c0_0, .slice A0_1 l0_1.length c0_1, .bool a0_2, .bool a0_3, .bool a0_4, .bool a0_5, .slice A0_6 l0_6.length c0_6, .slice A0_7 l0_7.length c0_7, .int .i64 a0_8] 28 ?_; intro gb175 hg w39 hbox hb; have n0_ := A_ (below_step (bw_ HB.out) hb); have n1_ := A_ (hbox); have n2_ := A_ ((d5_ : w.heap.size ≤ gb175)); have n3_ := n2_; clear HB; have HB := n0_; have BK175 := n1_; have GW175 := n2_; have GE175 := n3_; have GI175 := GeI.mk GE175.out; clear n0_ n1_ n2_ n3_; clear hb hbox hg) | ((with_reducible refine gate_dst (N := 4) rfl ?_); refine bx_ 4 #[.int .i64 a1_0, .int .i64 a1_1] 38 ?_; intro gb176 hg w40 hbox hb; have n0_ := A_ (blk_below (bk_ BK175.out) hb); have n1_ := A_ (below_step (bw_ HB.out) hb); have n2_ := A_ (hbox); have n3_ := A_ ((d5_ : w.heap.size ≤ gb176)); have n4_ := n3_; have n5_ := A_ ((d37_ : gb175 ≠ gb176)); have n6_ := A_ n5_.out.symm; clear BK175; clear HB; have BK175 := n0_; have HB := n1_; have BK176 := n2_; have GW176 := n3_; have GE176 := n4_; have GI176 := GeI.mk GE176.out; have NB175_176 := n5_; have NB176_175 := n6_; clear n0_ n1_ n2_ n3_ n4_ n5_ n6_; clear hb hbox hg) | ((with_reducible refine gate_dst (N := 6) rfl ?_); refine bx_ 6 #[.slice none 0 0, .slice none 0 0, .bool false, .bool false, .bool false, .bool false, .slice none 0 0, .slice none 0 0, .int .i64 0] 28 ?_; intro gb177 hg w41 hbox hb; have n0_ := A_ (blk_below (bk_ BK175.out) hb); have n1_ := A_ (blk_below (bk_ BK176.out) hb); have n2_ := A_ (below_step (bw_ HB.out) hb); have n3_ := A_ (hbox); have n4_ := A_ ((d5_ : w.heap.size ≤ gb177)); have n5_ := n4_; have n6_ := A_ ((d37_ : gb175 ≠ gb177)); have n7_ := A_ n6_.out.symm; have n8_ := A_ ((d48_ : gb176 ≠ gb177)); have n9_ := A_ n8_.out.symm; clear BK175; clear BK176; clear HB; have BK175 := n0_; have BK176 := n1_; have HB := n2_; have BK177 := n3_; have GW177 := n4_; have GE177 := n5_; have GI177 := GeI.mk GE177.out; have NB175_177 := n6_; have NB177_175 := n7_; have NB176_177 := n8_; have NB177_176 := n9_; clear n0_ n1_ n2_ n3_ n4_ n5_ n6_ n7_ n8_ n9_; clear hb hbox hg; have hnb42 := NB175_176.out; have hnc42 := NB176_175.out; have hnb43 := NB175_177.out; have hnc43 := NB177_175.out; obtain ⟨y44_0, y44_1, y44_2, y44_3, y44_4, y44_5, y44_6, y44_7, y44_8, z44_0, z44_1, z44_2, z44_3, z44_4, z44_5, z44_6, z44_7, z44_8⟩ := cz9_ BK175.out; have hnb45 := NB176_177.out; have hnc45 := NB177_176.out; have y46_0 : w41.cell? ⟨gb176, 0, none⟩ = some (.int .i64 a1_0) := (blk_cell BK176.out 0).trans rfl; have y46_1 : w41.cell? ⟨gb176, 1, none⟩ = some (.int .i64 a1_1) := (blk_cell BK176.out 1).trans rfl; have z46_0 := blk_frozen BK176.out 0; have z46_1 := blk_frozen BK176.out 1) | ((with_reducible refine gate_callee (f := 62) rfl ?_); refine gL_ (some 11) Try.func62 #[.agg #[.slice A0_0 l0_0.length c0_0, .slice A0_1 l0_1.length c0_1, .bool a0_2, .bool a0_3, .bool a0_4, .bool a0_5, .slice A0_6 l0_6.length c0_6, .slice A0_7 l0_7.length c0_7, .int .i64 a0_8], .agg #[.int .i64 a1_0, .int .i64 a1_1]] ?_; (with_reducible refine (impl_isRegPlace.calls _ _ l0_0 _ _ l0_1 a0_2 a0_3 a0_4 a0_5 _ _ l0_6 _ _ l0_7 a0_8 a1_0 a1_1 false _ ?side1 ?side2 ?side3 ?side4 ?side5 ?side6 ?side7 ?side8 A4.out).mono ?_); (case side1 => exact Kd.C_below HR0_0.out (bw_ HB.out)); (case side2 => exact HC0_0.out); (case side3 => exact Kd.C_below HR0_1.out (bw_ HB.out)); (case side4 => exact HC0_1.out); (case side5 => exact Kd.C_below HR0_6.out (bw_ HB.out)); (case side6 => exact HC0_6.out); (case side7 => exact Kd.C_below HR0_7.out (bw_ HB.out)); (case side8 => exact HC0_7.out); rintro e w47 ⟨rfl, hb⟩; refine ⟨_, rfl, ?_⟩; replace BK175 := A_ (blk_below (bk_ BK175.out) hb); replace BK176 := A_ (blk_below (bk_ BK176.out) hb); replace BK177 := A_ (blk_below (bk_ BK177.out) hb); replace HB := A_ (below_step (bw_ HB.out) hb); clear hb; have y48_0 : w47.cell? ⟨gb176, 0, none⟩ = some (.int .i64 a1_0) := (blk_cell BK176.out 0).trans rfl; have y48_1 : w47.cell? ⟨gb176, 1, none⟩ = some (.int .i64 a1_1) := (blk_cell BK176.out 1).trans rfl; have z48_0 := blk_frozen BK176.out 0; have z48_1 := blk_frozen BK176.out 1; obtain ⟨y49_0, y49_1, y49_2, y49_3, y49_4, y49_5, y49_6, y49_7, y49_8, z49_0, z49_1, z49_2, z49_3, z49_4, z49_5, z49_6, z49_7, z49_8⟩ := cz9_ BK175.out) | ((with_reducible refine gate_callee (f := 35) rfl ?_); refine gL_ (some 31) Try.func35 #[.agg #[.slice A0_0 l0_0.length c0_0, .slice A0_1 l0_1.length c0_1, .bool a0_2, .bool a0_3, .bool a0_4, .bool a0_5, .slice A0_6 l0_6.length c0_6, .slice A0_7 l0_7.length c0_7, .int .i64 a0_8], .int .i64 a1_1, .int .i64 a2] ?_; (with_reducible refine (impl_WriteW.calls _ _ l0_0 _ _ l0_1 a0_2 a0_3 a0_4 a0_5 _ _ l0_6 _ _ l0_7 a0_8 a1_1 a2 t199 t202 t205 t206 t207 t208 t209 t212 t215 t216 _ ?side1 ?side2 ?side3 ?side4 ?side5 ?side6 ?side7 ?side8 A38.out).mono ?_); (case side1 => exact Kd.C_below HR0_0.out (bw_ HB.out)); (case side2 => exact HC0_0.out); (case side3 => exact Kd.C_below HR0_1.out (bw_ HB.out)); (case side4 => exact HC0_1.out); (case side5 => exact Kd.C_below HR0_6.out (bw_ HB.out)); (case side6 => exact HC0_6.out); (case side7 => exact Kd.C_below HR0_7.out (bw_ HB.out)); (case side8 => exact HC0_7.out); rintro e w50 ⟨v200, v203, v210, v213, rfl, ho0, ho1, ho2, ho3, hb⟩; refine ⟨_, rfl, ?_⟩; have HO201 := A_ (Kd.R_lower ho0 (below_size (bw_ HB.out))); have HO204 := A_ (Kd.R_lower ho1 (below_size (bw_ HB.out))); have HO211 := A_ (Kd.R_lower ho2 (below_size (bw_ HB.out))); have HO214 := A_ (Kd.R_lower ho3 (below_size (bw_ HB.out))); replace BK175 := A_ (blk_below (bk_ BK175.out) hb); replace BK176 := A_ (blk_below (bk_ BK176.out) hb); replace BK177 := A_ (blk_below (bk_ BK177.out) hb); replace HB := A_ (below_step (bw_ HB.out) hb); clear hb; (try clear ho0); (try clear ho1); (try clear ho2); (try clear ho3); obtain ⟨Ao51, co51, eo51⟩ := Kd.R_slice HO201.out; subst eo51; obtain ⟨y52_0, y52_1, y52_2, y52_3, y52_4, y52_5, y52_6, y52_7, y52_8, z52_0, z52_1, z52_2, z52_3, z52_4, z52_5, z52_6, z52_7, z52_8⟩ := cz9_ BK177.out; obtain ⟨Ao53, co53, eo53⟩ := Kd.R_slice HO204.out; subst eo53; obtain ⟨Ao54, co54, eo54⟩ := Kd.R_slice HO211.out; subst eo54; obtain ⟨Ao55, co55, eo55⟩ := Kd.R_slice HO214.out; subst eo55))
   refine bodyPost_ret (results_ct rfl _ _ gb177 28 #[.slice Ao51 t199.length co51, .slice Ao53 t202.length co53, .bool t205, .bool t206, .bool t207, .bool t208, .slice Ao54 t209.length co54, .slice Ao55 t212.length co55, .int .i64 t215] (0, 0) _ rfl ?hb_ Try.underlying28 rfl (by kernel_rfl)) rfl ?_
   (case hb_ => exact bk_ (bp9_ (bk_ BK177.out)))
   exact ⟨_, _, _, _, by first | rfl | (simp [errW_none, errW_some] <;> rfl) | (simp [*, errW_none, errW_some] <;> rfl), by (with_reducible repeat (first | apply Kd.R_alloc | apply Kd.R_drewN | apply Kd.R_drew)); exact Kd.R_mono (rf9_ (Kd.R_types HO201.out BK177.out (by decide)) (fun _ hk => hk.2)) (fun _ hk => ⟨hk.1.1, ⟨hk.1.2.1, hk.1.2.2⟩⟩), by (with_reducible repeat (first | apply Kd.R_alloc | apply Kd.R_drewN | apply Kd.R_drew)); exact Kd.R_mono (rf9_ (Kd.R_types HO204.out BK177.out (by decide)) (fun _ hk => hk.2)) (fun _ hk => ⟨hk.1.1, ⟨hk.1.2.1, hk.1.2.2⟩⟩), by (with_reducible repeat (first | apply Kd.R_alloc | apply Kd.R_drewN | apply Kd.R_drew)); exact Kd.R_mono (rf9_ (Kd.R_types HO211.out BK177.out (by decide)) (fun _ hk => hk.2)) (fun _ hk => ⟨hk.1.1, ⟨hk.1.2.1, hk.1.2.2⟩⟩), by (with_reducible repeat (first | apply Kd.R_alloc | apply Kd.R_drewN | apply Kd.R_drew)); exact Kd.R_mono (rf9_ (Kd.R_types HO214.out BK177.out (by decide)) (fun _ hk => hk.2)) (fun _ hk => ⟨hk.1.1, ⟨hk.1.2.1, hk.1.2.2⟩⟩), bw_ HB.out⟩
  ·rw [if_neg c37] at H
   have c37b0 := beq_eq_false_iff_ne.mpr c37
   have c37b1 := bne_iff_ne.mpr c37
   replace H := Option.bind_eq_some_iff.mp H
   obtain ⟨⟨t217, t220, t223, t224, t225, t226, t227, t230, t233⟩, A560, H⟩ := H
   try dsimp only at H
   have A56 := A_ A560
   clear A560
   simp only [Option.some.injEq, Prod.mk.injEq] at H
   obtain ⟨rfl, rfl, rfl, rfl, rfl, rfl, rfl, rfl, rfl, rfl⟩ := H
   go_enter Try.func37, Try.ntmps37
   go_wp2_with (first | ((with_reducible refine gate_dst (N := 3) rfl ?_); refine bx_ 3 #[.slice A0_0 l0_0.length c0_0, .slice A0_1 l0_1.length c0_1, .bool a0_2, .bool a0_3, .bool a0_4, .bool a0_5, .slice A0_6 l0_6.length c0_6, .slice A0_7 l0_7.length c0_7, .int .i64 a0_8] 28 ?_; intro gb175 hg w57 hbox hb; have n0_ := A_ (below_step (bw_ HB.out) hb); have n1_ := A_ (hbox); have n2_ := A_ ((d5_ : w.heap.size ≤ gb175)); have n3_ := n2_; clear HB; have HB := n0_; have BK175 := n1_; have GW175 := n2_; have GE175 := n3_; have GI175 := GeI.mk GE175.out; clear n0_ n1_ n2_ n3_; clear hb hbox hg) | ((with_reducible refine gate_dst (N := 4) rfl ?_); refine bx_ 4 #[.int .i64 a1_0, .int .i64 a1_1] 38 ?_; intro gb176 hg w58 hbox hb; have n0_ := A_ (blk_below (bk_ BK175.out) hb); have n1_ := A_ (below_step (bw_ HB.out) hb); have n2_ := A_ (hbox); have n3_ := A_ ((d5_ : w.heap.size ≤ gb176)); have n4_ := n3_; have n5_ := A_ ((d37_ : gb175 ≠ gb176)); have n6_ := A_ n5_.out.symm; clear BK175; clear HB; have BK175 := n0_; have HB := n1_; have BK176 := n2_; have GW176 := n3_; have GE176 := n4_; have GI176 := GeI.mk GE176.out; have NB175_176 := n5_; have NB176_175 := n6_; clear n0_ n1_ n2_ n3_ n4_ n5_ n6_; clear hb hbox hg) | ((with_reducible refine gate_dst (N := 6) rfl ?_); refine bx_ 6 #[.slice none 0 0, .slice none 0 0, .bool false, .bool false, .bool false, .bool false, .slice none 0 0, .slice none 0 0, .int .i64 0] 28 ?_; intro gb177 hg w59 hbox hb; have n0_ := A_ (blk_below (bk_ BK175.out) hb); have n1_ := A_ (blk_below (bk_ BK176.out) hb); have n2_ := A_ (below_step (bw_ HB.out) hb); have n3_ := A_ (hbox); have n4_ := A_ ((d5_ : w.heap.size ≤ gb177)); have n5_ := n4_; have n6_ := A_ ((d37_ : gb175 ≠ gb177)); have n7_ := A_ n6_.out.symm; have n8_ := A_ ((d48_ : gb176 ≠ gb177)); have n9_ := A_ n8_.out.symm; clear BK175; clear BK176; clear HB; have BK175 := n0_; have BK176 := n1_; have HB := n2_; have BK177 := n3_; have GW177 := n4_; have GE177 := n5_; have GI177 := GeI.mk GE177.out; have NB175_177 := n6_; have NB177_175 := n7_; have NB176_177 := n8_; have NB177_176 := n9_; clear n0_ n1_ n2_ n3_ n4_ n5_ n6_ n7_ n8_ n9_; clear hb hbox hg; have hnb60 := NB175_176.out; have hnc60 := NB176_175.out; have hnb61 := NB175_177.out; have hnc61 := NB177_175.out; obtain ⟨y62_0, y62_1, y62_2, y62_3, y62_4, y62_5, y62_6, y62_7, y62_8, z62_0, z62_1, z62_2, z62_3, z62_4, z62_5, z62_6, z62_7, z62_8⟩ := cz9_ BK175.out; have hnb63 := NB176_177.out; have hnc63 := NB177_176.out; have y64_0 : w59.cell? ⟨gb176, 0, none⟩ = some (.int .i64 a1_0) := (blk_cell BK176.out 0).trans rfl; have y64_1 : w59.cell? ⟨gb176, 1, none⟩ = some (.int .i64 a1_1) := (blk_cell BK176.out 1).trans rfl; have z64_0 := blk_frozen BK176.out 0; have z64_1 := blk_frozen BK176.out 1) | ((with_reducible refine gate_callee (f := 62) rfl ?_); refine gL_ (some 11) Try.func62 #[.agg #[.slice A0_0 l0_0.length c0_0, .slice A0_1 l0_1.length c0_1, .bool a0_2, .bool a0_3, .bool a0_4, .bool a0_5, .slice A0_6 l0_6.length c0_6, .slice A0_7 l0_7.length c0_7, .int .i64 a0_8], .agg #[.int .i64 a1_0, .int .i64 a1_1]] ?_; (with_reducible refine (impl_isRegPlace.calls _ _ l0_0 _ _ l0_1 a0_2 a0_3 a0_4 a0_5 _ _ l0_6 _ _ l0_7 a0_8 a1_0 a1_1 false _ ?side1 ?side2 ?side3 ?side4 ?side5 ?side6 ?side7 ?side8 A4.out).mono ?_); (case side1 => exact Kd.C_below HR0_0.out (bw_ HB.out)); (case side2 => exact HC0_0.out); (case side3 => exact Kd.C_below HR0_1.out (bw_ HB.out)); (case side4 => exact HC0_1.out); (case side5 => exact Kd.C_below HR0_6.out (bw_ HB.out)); (case side6 => exact HC0_6.out); (case side7 => exact Kd.C_below HR0_7.out (bw_ HB.out)); (case side8 => exact HC0_7.out); rintro e w65 ⟨rfl, hb⟩; refine ⟨_, rfl, ?_⟩; replace BK175 := A_ (blk_below (bk_ BK175.out) hb); replace BK176 := A_ (blk_below (bk_ BK176.out) hb); replace BK177 := A_ (blk_below (bk_ BK177.out) hb); replace HB := A_ (below_step (bw_ HB.out) hb); clear hb; have y66_0 : w65.cell? ⟨gb176, 0, none⟩ = some (.int .i64 a1_0) := (blk_cell BK176.out 0).trans rfl; have y66_1 : w65.cell? ⟨gb176, 1, none⟩ = some (.int .i64 a1_1) := (blk_cell BK176.out 1).trans rfl; have z66_0 := blk_frozen BK176.out 0; have z66_1 := blk_frozen BK176.out 1; obtain ⟨y67_0, y67_1, y67_2, y67_3, y67_4, y67_5, y67_6, y67_7, y67_8, z67_0, z67_1, z67_2, z67_3, z67_4, z67_5, z67_6, z67_7, z67_8⟩ := cz9_ BK175.out) | ((with_reducible refine gate_callee (f := 68) rfl ?_); refine gL_ (some 26) Try.func68 #[.agg #[.slice A0_0 l0_0.length c0_0, .slice A0_1 l0_1.length c0_1, .bool a0_2, .bool a0_3, .bool a0_4, .bool a0_5, .slice A0_6 l0_6.length c0_6, .slice A0_7 l0_7.length c0_7, .int .i64 a0_8]] ?_; (with_reducible refine (impl_copyMach.calls _ _ l0_0 _ _ l0_1 a0_2 a0_3 a0_4 a0_5 _ _ l0_6 _ _ l0_7 a0_8 t217 t220 t223 t224 t225 t226 t227 t230 t233 _ ?side1 ?side2 ?side3 ?side4 ?side5 ?side6 ?side7 ?side8 A56.out).mono ?_); (case side1 => exact Kd.C_below HR0_0.out (bw_ HB.out)); (case side2 => exact HC0_0.out); (case side3 => exact Kd.C_below HR0_1.out (bw_ HB.out)); (case side4 => exact HC0_1.out); (case side5 => exact Kd.C_below HR0_6.out (bw_ HB.out)); (case side6 => exact HC0_6.out); (case side7 => exact Kd.C_below HR0_7.out (bw_ HB.out)); (case side8 => exact HC0_7.out); rintro e w68 ⟨v218, v221, v228, v231, rfl, ho0, ho1, ho2, ho3, hb⟩; refine ⟨_, rfl, ?_⟩; have HO219 := A_ (Kd.R_lower ho0 (below_size (bw_ HB.out))); have HO222 := A_ (Kd.R_lower ho1 (below_size (bw_ HB.out))); have HO229 := A_ (Kd.R_lower ho2 (below_size (bw_ HB.out))); have HO232 := A_ (Kd.R_lower ho3 (below_size (bw_ HB.out))); replace BK175 := A_ (blk_below (bk_ BK175.out) hb); replace BK176 := A_ (blk_below (bk_ BK176.out) hb); replace BK177 := A_ (blk_below (bk_ BK177.out) hb); replace HB := A_ (below_step (bw_ HB.out) hb); clear hb; (try clear ho0); (try clear ho1); (try clear ho2); (try clear ho3); obtain ⟨Ao69, co69, eo69⟩ := Kd.R_slice HO219.out; subst eo69; obtain ⟨y70_0, y70_1, y70_2, y70_3, y70_4, y70_5, y70_6, y70_7, y70_8, z70_0, z70_1, z70_2, z70_3, z70_4, z70_5, z70_6, z70_7, z70_8⟩ := cz9_ BK177.out; obtain ⟨Ao71, co71, eo71⟩ := Kd.R_slice HO222.out; subst eo71; obtain ⟨Ao72, co72, eo72⟩ := Kd.R_slice HO229.out; subst eo72; obtain ⟨Ao73, co73, eo73⟩ := Kd.R_slice HO232.out; subst eo73))
   refine bodyPost_ret (results_ct rfl _ _ gb177 28 #[.slice Ao69 t217.length co69, .slice Ao71 t220.length co71, .bool t223, .bool t224, .bool t225, .bool t226, .slice Ao72 t227.length co72, .slice Ao73 t230.length co73, .int .i64 t233] (0, 0) _ rfl ?hb_ Try.underlying28 rfl (by kernel_rfl)) rfl ?_
   (case hb_ => exact bk_ (bp9_ (bk_ BK177.out)))
   exact ⟨_, _, _, _, by first | rfl | (simp [errW_none, errW_some] <;> rfl) | (simp [*, errW_none, errW_some] <;> rfl), by (with_reducible repeat (first | apply Kd.R_alloc | apply Kd.R_drewN | apply Kd.R_drew)); exact Kd.R_mono (rf9_ (Kd.R_types HO219.out BK177.out (by decide)) (fun _ hk => hk.2)) (fun _ hk => ⟨hk.1.1, ⟨hk.1.2.1, hk.1.2.2⟩⟩), by (with_reducible repeat (first | apply Kd.R_alloc | apply Kd.R_drewN | apply Kd.R_drew)); exact Kd.R_mono (rf9_ (Kd.R_types HO222.out BK177.out (by decide)) (fun _ hk => hk.2)) (fun _ hk => ⟨hk.1.1, ⟨hk.1.2.1, hk.1.2.2⟩⟩), by (with_reducible repeat (first | apply Kd.R_alloc | apply Kd.R_drewN | apply Kd.R_drew)); exact Kd.R_mono (rf9_ (Kd.R_types HO229.out BK177.out (by decide)) (fun _ hk => hk.2)) (fun _ hk => ⟨hk.1.1, ⟨hk.1.2.1, hk.1.2.2⟩⟩), by (with_reducible repeat (first | apply Kd.R_alloc | apply Kd.R_drewN | apply Kd.R_drew)); exact Kd.R_mono (rf9_ (Kd.R_types HO232.out BK177.out (by decide)) (fun _ hk => hk.2)) (fun _ hk => ⟨hk.1.1, ⟨hk.1.2.1, hk.1.2.2⟩⟩), bw_ HB.out⟩

/-! ### laws_big: function 38 -/
def laws_big.f (l0 : List Int) : Option (Bool) := some (decide ((l0.length : Int) > 1048576))
set_option maxHeartbeats 8000000 in
set_option maxRecDepth 100000 in
theorem laws_big.calls (A0 : Option Addr) (c0 : Nat) (l0 : List Int) (r : Bool) (w : World) (hr0 : Kd.C (Kd.int .u8) w A0 l0.length l0) (hc0 : l0.length ≤ c0) (h : laws_big.f l0 = some r) :
  Calls Try.prog 38 #[.slice A0 l0.length c0] w fun e w' => e = .returned (.bool r) ∧ Drawn0 w w' := by
 have HR0 := A_ hr0
 have HC0 := A_ hc0
 clear hr0 hc0
 have H : (some (decide ((l0.length : Int) > 1048576))) = some r := h
 clear h
 obtain rfl := Option.some.inj H
 go_enter Try.func38, Try.ntmps38
 go_wp2
 go_ret
 exact ⟨by first | rfl | (simp; done) | (simp [*]; done), by repeat (first | exact Drawn0.refl _ | apply Drawn0.step)⟩

/-- A state of type 102 at block g of W; what its slices lead to came in by w0. -/
def IsS102 (w0 W : World) (g : Nat) (f0 : List Int) (f1 : Int) (f2 : Int) : Prop := ∃ A0 c0, W.heap[g]? = some (.cells #[.slice A0 f0.length c0, .int .i64 f1, .int .i64 f2] 102 (0, 0)) ∧ w0.heap.size ≤ g ∧ Kd.C (Kd.int .u8) w0 A0 f0.length f0
theorem IsS102.grown {w0 W : World} {g : Nat} {f0 : List Int} {f1 : Int} {f2 : Int} {W1 : World} {row : Option Nat} (h : IsS102 w0 W g f0 f1 f2) (hw : W.grownBy W1 row) (hne : some g ≠ row) : IsS102 w0 W1 g f0 f1 f2 := by
 obtain ⟨A0, c0, hb, hg, hr0⟩ := h
 exact ⟨A0, c0, blk_grown hb hw hne, hg, hr0⟩
theorem IsS102.own_neN {w0 W : World} {g : Nat} {f0 : List Int} {f1 : Int} {f2 : Int} {α : Type} {d : Kd α} {e : Nat} {base : Nat} {ok : Nat → Prop} {v : Value} {xs : List α} (h : IsS102 w0 W g f0 f1 f2) (ho : Kd.N d e W base ok v xs) (ht : e ≠ 102) : some g ≠ v.ownBlock := by
 obtain ⟨A0, c0, hb, hg, hr0⟩ := h
 exact Kd.N_ne ho hb ht
theorem IsS102.fresh {w0 W : World} {g : Nat} {f0 : List Int} {f1 : Int} {f2 : Int} (h : IsS102 w0 W g f0 f1 f2) : ∀ k, W.heap.size ≤ k → k ≠ g := by
 obtain ⟨A0, c0, hb, hg, hr0⟩ := h
 exact Kd.freshB hb
theorem IsS102.kept {w0 W : World} {g : Nat} {f0 : List Int} {f1 : Int} {f2 : Int} {W1 : World} {S : Nat → Prop} (h : IsS102 w0 W g f0 f1 f2) (hk : Kept W W1 S) (hne : ¬ S g) : IsS102 w0 W1 g f0 f1 f2 := by
 obtain ⟨A0, c0, hb, hg, hr0⟩ := h
 exact ⟨A0, c0, blk_kept hb hk hne, hg, hr0⟩
theorem IsS102.below {w0 W : World} {g : Nat} {f0 : List Int} {f1 : Int} {f2 : Int} {W1 : World} (h : IsS102 w0 W g f0 f1 f2) (hw : Below W.heap.size W W1) : IsS102 w0 W1 g f0 f1 f2 := h.grown (grown_of_below hw none) (by simp)
theorem IsS102.alloc {w0 W : World} {g : Nat} {f0 : List Int} {f1 : Int} {f2 : Int} (h : IsS102 w0 W g f0 f1 f2) (o : Obj) : IsS102 w0 (W.alloc o) g f0 f1 f2 := h.below (below_alloc (Below.refl _ _) o)
theorem IsS102.drewN {w0 W : World} {g : Nat} {f0 : List Int} {f1 : Int} {f2 : Int} (h : IsS102 w0 W g f0 f1 f2) (m : Nat) : IsS102 w0 (W.drewN m) g f0 f1 f2 := h
theorem IsS102.drew {w0 W : World} {g : Nat} {f0 : List Int} {f1 : Int} {f2 : Int} (h : IsS102 w0 W g f0 f1 f2) : IsS102 w0 W.drew g f0 f1 f2 := h
theorem IsS102.at_ {w0 W : World} {g : Nat} {f0 : List Int} {f1 : Int} {f2 : Int} {w' : World} {m : Nat} (hq : W.drewN m = w') (h : IsS102 w0 W g f0 f1 f2) : IsS102 w0 w' g f0 f1 f2 := by subst hq; exact IsS102.drewN h m
theorem IsS102.apart {w0 W : World} {g : Nat} {f0 : List Int} {f1 : Int} {f2 : Int} {α : Type} {d : Kd α} {e : Nat} {base : Nat} {ok : Nat → Prop} {v : Value} {xs : List α} (h : IsS102 w0 W g f0 f1 f2) (ho : d.R e W base ok v xs) (ht : ∀ q, q ∈ e :: d.E → q ≠ 102) : d.R e W base (fun k => ok k ∧ k ≠ g) v xs := by
 obtain ⟨A0, c0, hb, hg, hr0⟩ := h
 exact Kd.R_types ho hb ht
theorem IsS102.own_ne {w0 W : World} {g : Nat} {f0 : List Int} {f1 : Int} {f2 : Int} {α : Type} {d : Kd α} {e : Nat} {base : Nat} {ok : Nat → Prop} {v : Value} {xs : List α} (h : IsS102 w0 W g f0 f1 f2) (ho : d.R e W base ok v xs) (ht : e ≠ 102) : some g ≠ v.ownBlock := by
 obtain ⟨A0, c0, hb, hg, hr0⟩ := h
 exact Kd.R_ne ho hb ht
theorem IsS102.apartQ {w0 W : World} {g : Nat} {f0 : List Int} {f1 : Int} {f2 : Int} {α : Type} {d : Kd α} {e : Nat} {base : Nat} {ok : Nat → Prop} {v : Value} {xs : List α} (h : IsS102 w0 W g f0 f1 f2) (ho : d.Q e W base ok v xs) (ht : ∀ q, q ∈ e :: d.E → q ≠ 102) : d.Q e W base (fun k => ok k ∧ k ≠ g) v xs := by
 obtain ⟨A0, c0, hb, hg, hr0⟩ := h
 exact Kd.Q_types ho hb ht
theorem IsS102.own_neQ {w0 W : World} {g : Nat} {f0 : List Int} {f1 : Int} {f2 : Int} {α : Type} {d : Kd α} {e : Nat} {base : Nat} {ok : Nat → Prop} {v : Value} {xs : List α} (h : IsS102 w0 W g f0 f1 f2) (ho : d.Q e W base ok v xs) (ht : e ≠ 102) : some g ≠ v.ownBlock := by
 obtain ⟨A0, c0, hb, hg, hr0⟩ := h
 exact Kd.Q_ne ho hb ht
theorem IsS102.apartS {w0 W : World} {g : Nat} {f0 : List Int} {f1 : Int} {f2 : Int} {α : Type} {d : Kd α} {e : Nat} {base : Nat} {ok : Nat → Prop} {v : Value} {xs : List α} (h : IsS102 w0 W g f0 f1 f2) (ho : d.S e W base ok v xs) (ht : ∀ q, q ∈ e :: d.E → q ≠ 102) : d.S e W base (fun k => ok k ∧ k ≠ g) v xs := by
 obtain ⟨A0, c0, hb, hg, hr0⟩ := h
 exact Kd.S_types ho hb ht
theorem IsS102.own_neS {w0 W : World} {g : Nat} {f0 : List Int} {f1 : Int} {f2 : Int} {α : Type} {d : Kd α} {e : Nat} {base : Nat} {ok : Nat → Prop} {v : Value} {xs : List α} (h : IsS102 w0 W g f0 f1 f2) (ho : d.S e W base ok v xs) (ht : e ≠ 102) : some g ≠ v.ownBlock := by
 obtain ⟨A0, c0, hb, hg, hr0⟩ := h
 exact Kd.S_ne ho hb ht
theorem IsS102.lt {w0 W : World} {g : Nat} {f0 : List Int} {f1 : Int} {f2 : Int} (h : IsS102 w0 W g f0 f1 f2) : g < W.heap.size := by
 obtain ⟨A0, c0, hb, hg, hr0⟩ := h
 exact blk_lt hb
theorem IsS102.ge {w0 W : World} {g : Nat} {f0 : List Int} {f1 : Int} {f2 : Int} (h : IsS102 w0 W g f0 f1 f2) : w0.heap.size ≤ g := by
 obtain ⟨A0, c0, hb, hg, hr0⟩ := h
 exact hg
theorem IsS102.ne_blk {w0 W : World} {g : Nat} {f0 : List Int} {f1 : Int} {f2 : Int} {a : Nat} {cs : Array Value} {t : TypeId} {fr : Nat × Nat} (h : IsS102 w0 W g f0 f1 f2) (hb2 : W.heap[a]? = some (.cells cs t fr)) (ht : t ≠ 102) : g ≠ a := by
 obtain ⟨A0, c0, hb, hg, hr0⟩ := h
 rintro rfl
 rw [hb] at hb2
 injection hb2 with hb2
 injection hb2 with _ ht2
 exact ht ht2.symm
theorem IsS102.far {w0 W : World} {g : Nat} {f0 : List Int} {f1 : Int} {f2 : Int} {p : Addr} (h : IsS102 w0 W g f0 f1 f2) (hne : g ≠ p.block) (u : Value) : IsS102 w0 (W.setCell p u) g f0 f1 f2 := by
 obtain ⟨A0, c0, hb, hg, hr0⟩ := h
 exact ⟨A0, c0, blk_far hb hne u, hg, hr0⟩
theorem cellS102_0 {W : World} {g : Nat} {A0 : Option Addr} {c0 : Nat} {f0 : List Int} {f1 : Int} {f2 : Int} (h : W.heap[g]? = some (.cells #[.slice A0 f0.length c0, .int .i64 f1, .int .i64 f2] 102 (0, 0))) : W.cell? ⟨g, 0, none⟩ = some (.slice A0 f0.length c0) := (blk_cell h 0).trans rfl
theorem cellS102_1 {W : World} {g : Nat} {A0 : Option Addr} {c0 : Nat} {f0 : List Int} {f1 : Int} {f2 : Int} (h : W.heap[g]? = some (.cells #[.slice A0 f0.length c0, .int .i64 f1, .int .i64 f2] 102 (0, 0))) : W.cell? ⟨g, 1, none⟩ = some (.int .i64 f1) := (blk_cell h 1).trans rfl
theorem IsS102.set_1 {w0 W : World} {g : Nat} {f0 : List Int} {f1 : Int} {f2 : Int} (h : IsS102 w0 W g f0 f1 f2) (x : Int) : IsS102 w0 (W.setCell ⟨g, 1, none⟩ (.int .i64 x)) g f0 x f2 := by
 obtain ⟨A0, c0, hb, hg, hr0⟩ := h
 exact ⟨A0, c0, by simpa using blk_set hb 1 (.int .i64 x), hg, hr0⟩
theorem cellS102_2 {W : World} {g : Nat} {A0 : Option Addr} {c0 : Nat} {f0 : List Int} {f1 : Int} {f2 : Int} (h : W.heap[g]? = some (.cells #[.slice A0 f0.length c0, .int .i64 f1, .int .i64 f2] 102 (0, 0))) : W.cell? ⟨g, 2, none⟩ = some (.int .i64 f2) := (blk_cell h 2).trans rfl
theorem IsS102.set_2 {w0 W : World} {g : Nat} {f0 : List Int} {f1 : Int} {f2 : Int} (h : IsS102 w0 W g f0 f1 f2) (x : Int) : IsS102 w0 (W.setCell ⟨g, 2, none⟩ (.int .i64 x)) g f0 f1 x := by
 obtain ⟨A0, c0, hb, hg, hr0⟩ := h
 exact ⟨A0, c0, by simpa using blk_set hb 2 (.int .i64 x), hg, hr0⟩
theorem IsS102.new (w0 W : World) (A0 : Option Addr) (c0 : Nat) (f0 : List Int) (f1 : Int) (f2 : Int) (hB : Below w0.heap.size w0 W) (hr0 : Kd.C (Kd.int .u8) w0 A0 f0.length f0) : IsS102 w0 (W.alloc (.cells #[.slice A0 f0.length c0, .int .i64 f1, .int .i64 f2] 102)) W.heap.size f0 f1 f2 := ⟨A0, c0, by simpa using heap_alloc_new W _, hB.size, hr0⟩
theorem hI0_ {w0 W : World} {g : Nat} {f0 : List Int} {f1 f2 : Int} (h : IsS102 w0 W g f0 f1 f2 := by repeat (first | (with_reducible first | exact HI0.out | apply IsS102.alloc | apply IsS102.drewN | apply IsS102.drew | apply IsS102.set_1 | apply IsS102.set_2 | refine IsS102.far ?_ (Aside0.out (by with_reducible assumption)) _) | exact HI0.out)) : IsS102 w0 W g f0 f1 f2 := h
theorem hI1_ {w0 W : World} {g : Nat} {f0 : List Int} {f1 f2 : Int} (h : IsS102 w0 W g f0 f1 f2 := by repeat (first | (with_reducible first | exact HI506.out | apply IsS102.alloc | apply IsS102.drewN | apply IsS102.drew | apply IsS102.set_1 | apply IsS102.set_2 | refine IsS102.far ?_ (Aside0.out (by with_reducible assumption)) _) | exact HI506.out)) : IsS102 w0 W g f0 f1 f2 := h
theorem hI2_ {w0 W : World} {g : Nat} {f0 : List Int} {f1 f2 : Int} (h : IsS102 w0 W g f0 f1 f2 := by repeat (first | (with_reducible first | exact HI659.out | apply IsS102.alloc | apply IsS102.drewN | apply IsS102.drew | apply IsS102.set_1 | apply IsS102.set_2 | refine IsS102.far ?_ (Aside0.out (by with_reducible assumption)) _) | exact HI659.out)) : IsS102 w0 W g f0 f1 f2 := h
theorem kI_ {w0 W W0 W1 : World} {g : Nat} {f0 : List Int} {f1 f2 : Int} {α : Type} {d : Kd α} {e : Nat} {base : Nat} {ok : Nat → Prop} {v : Value} {xs : List α} (h : IsS102 w0 W g f0 f1 f2) (hk : KeepBut W W1 g none) [KrI W0 W] (ho : Aside0 (d.R e W0 base ok v xs)) (ht : ∀ q, q ∈ e :: d.E → q ≠ 102 := by decide) : Aside0 (d.R e W1 base ok v xs) :=
 A_ (Kd.R_mono (Kd.R_keep (IsS102.apart h (kr_ ho.out) ht) hk (fun _ h => h.2)) (fun _ h => h.1))

/-! ### spec_l1New: function 69 -/
def spec_l1New.l0 : Nat → List Int → Int → Int → Option (List Int × Int × Int)
 | 0, _, _, _ => none
 | k + 1, x0, x3, x4 => if x4 < (x0.length : Int) then (if x4 < 4000 then (if 0 ≤ x4 then (spec_l1New.l0 k x0 (Go.bits .and .i64 (wrap64 ((wrap64 ((wrap64 (x3 * 137)) + (wrap64 (rd x0 x4)))) + 11)) 1073741823) (wrap64 (x4 + 1))) else (none)) else (some (x0, 0, x3))) else (some (x0, 0, x3))
def spec_l1New.f (k : Nat) (l0 : List Int) : Option (List Int × Int × Int) := spec_l1New.l0 k l0 (wrap64 (766766 + (l0.length : Int))) 0
theorem spec_l1New.mono_l : ∀ k, (∀ y0 y1 y2, LeO (spec_l1New.l0 k y0 y1 y2) (spec_l1New.l0 (k + 1) y0 y1 y2))
 | 0 => fun _ _ _ r h => by simp [spec_l1New.l0] at h
 | k + 1 => by
  have ih0 := spec_l1New.mono_l k
  ·intro y0 y1 y2
   unfold spec_l1New.l0
   repeat' first
   | (with_reducible exact ih0 _ _ _)
   | (with_reducible exact LeO.refl _)
   | (with_reducible exact LeO.none _)
   | (with_reducible refine LeO.ite ?_ ?_)
   | (with_reducible refine LeO.bind ?_ (fun _ => ?_))
   | exact ih0 _ _ _
   | exact LeO.none _
   | refine LeO.ite ?_ ?_
   | refine LeO.bind ?_ (fun _ => ?_)
theorem spec_l1New.mono : ∀ a0 k, LeO (spec_l1New.f k a0) (spec_l1New.f (k + 1) a0) := by
 intro a0 k
 have ih0 := spec_l1New.mono_l k
 unfold spec_l1New.f
 repeat' first
   | (with_reducible exact ih0 _ _ _)
   | (with_reducible exact LeO.refl _)
   | (with_reducible exact LeO.none _)
   | (with_reducible refine LeO.ite ?_ ?_)
   | (with_reducible refine LeO.bind ?_ (fun _ => ?_))
   | exact ih0 _ _ _
   | exact LeO.none _
   | refine LeO.ite ?_ ?_
   | refine LeO.bind ?_ (fun _ => ?_)
set_option maxHeartbeats 8000000 in
set_option maxRecDepth 100000 in
theorem spec_l1New.calls (k : Nat) (A0 : Option Addr) (c0 : Nat) (l0 : List Int) (r1 : List Int) (r2 : Int) (r3 : Int) (w0 w : World) (hB : Below w0.heap.size w0 w) (hr0 : Kd.C (Kd.int .u8) w0 A0 l0.length l0) (hc0 : l0.length ≤ c0) (h : spec_l1New.f k l0 = some (r1, r2, r3)) :
  Calls Try.prog 69 #[.slice A0 l0.length c0] w fun e w' => ∃ g_ : Nat, e = .returned (.pointer (some ⟨g_, 0, none⟩)) ∧ IsS102 w0 w' g_ r1 r2 r3 ∧ Below w0.heap.size w0 w' ∧ Below w.heap.size w w' := by
 have hu102 := Try.underlying102
 have HR0 := A_ hr0
 have HC0 := A_ hc0
 clear hr0 hc0
 have HBW := A_ (Below.refl w.heap.size w)
 have HW0 := A_ hB.size
 have HB := A_ hB
 clear hB
 have H : (spec_l1New.l0 k l0 (wrap64 (766766 + (l0.length : Int))) 0) = some (r1, r2, r3) := h
 clear h
 have H' := A_ H
 clear H
 go_enter Try.func69, Try.ntmps69
 go_wp2
 go_loopg [3, 4] k (fun kq v3 v4 w' => ∃ (x3_1 : Int) (x4_1 : Int), v3 = .int .i64 x3_1 ∧ v4 = .int .i64 x4_1 ∧ Aside0 (spec_l1New.l0 kq l0 x3_1 x4_1 = some (r1, r2, r3)) ∧ Aside0 (kq ≤ k) ∧ Aside0 (Below w0.heap.size w0 w') ∧ Aside0 (Below w.heap.size w w'))
 case atStart => exact ⟨(wrap64 (766766 + (l0.length : Int))), (0), d6_, d6_, H', ⟨Nat.le_refl _⟩, ⟨bw_ HB.out⟩, ⟨by repeat (first | (with_reducible first | exact HBW.out | apply below_alloc | apply pw_below_drewN | apply below_drew1) | exact HBW.out)⟩⟩
 case round =>
  clear H'
  clear HBW
  obtain ⟨x3_1, x4_1, rfl, rfl, HA, HK1, HB, HBW⟩ := hrel
  cases gk with
  | zero => exact absurd HA.out (by simp [spec_l1New.l0])
  | succ k1 =>
   have H := HA.out
   clear HA
   simp only [spec_l1New.l0] at H
   by_cases c2 : x4_1 < (l0.length : Int)
   ·rw [if_pos c2] at H
    have c2b0 := decide_eq_true c2
    clear c2
    by_cases c3 : x4_1 < 4000
    ·rw [if_pos c3] at H
     have c3b0 := decide_eq_true c3
     clear c3
     by_cases c4 : 0 ≤ x4_1
     ·rw [if_pos c4] at H
      have c4b0 := decide_eq_true c4
      clear c4
      have H' := A_ H
      clear H
      have p234 : 0 ≤ (x4_1 : Int) := of_decide_eq_true d8_
      have q234 : x4_1 < (l0.length : Int) := of_decide_eq_true d8_
      obtain ⟨ad234, e234, hx234_0⟩ := Kd.at_int HR0.out x4_1 p234 q234
      cases e234
      replace hx234_0 := pw_cell_below HB.out hx234_0
      replace p234 := eq_true p234
      replace q234 := eq_true q234
      go_wp2
      go_roundg k1
      case measure => have := HK1.out; omega
      case rel => exact ⟨(Go.bits .and .i64 (wrap64 ((wrap64 ((wrap64 (x3_1 * 137)) + (wrap64 (rd l0 x4_1)))) + 11)) 1073741823), (wrap64 (x4_1 + 1)), d6_, d6_, H', ⟨by have := HK1.out; omega⟩, ⟨bw_ HB.out⟩, ⟨by repeat (first | (with_reducible first | exact HBW.out | apply below_alloc | apply pw_below_drewN | apply below_drew1) | exact HBW.out)⟩⟩
     ·rw [if_neg c4] at H
      exact absurd H (by simp)
    ·rw [if_neg c3] at H
     have c3b0 := decide_eq_false c3
     clear c3
     simp only [Option.some.injEq, Prod.mk.injEq] at H
     obtain ⟨rfl, rfl, rfl⟩ := H
     go_wp2_with (first | ((with_reducible refine gate_dst (N := 31) rfl ?_); refine bx_ 31 #[.slice A0 l0.length c0, .int .i64 0, .int .i64 x3_1] 102 ?_; intro gb235 hg w5 hbox hb; replace HB := A_ (below_step (bw_ HB.out) hb); have BK235 := A_ (hbox); have GW235 := A_ ((d33_ : w.heap.size ≤ gb235)); have GE235 := A_ ((Nat.le_trans HW0.out (d33_ : w.heap.size ≤ gb235) : w0.heap.size ≤ gb235)); replace HBW := A_ (below_step HBW.out hb); have GI235 := GeI.mk GE235.out; clear hb hbox hg))
     go_ret
     exact ⟨_, rfl, (show IsS102 w0 _ gb235 l0 0 x3_1 from ⟨_, _, by refine bk_ ?_; exact BK235.out, GE235.out, HR0.out⟩), bw_ HB.out, by repeat (first | (with_reducible first | exact HBW.out | apply below_alloc | apply pw_below_drewN | apply below_drew1 | refine below_set ?_ GW235.out) | exact HBW.out)⟩
   ·rw [if_neg c2] at H
    have c2b0 := decide_eq_false c2
    clear c2
    simp only [Option.some.injEq, Prod.mk.injEq] at H
    obtain ⟨rfl, rfl, rfl⟩ := H
    go_wp2_with (first | ((with_reducible refine gate_dst (N := 31) rfl ?_); refine bx_ 31 #[.slice A0 l0.length c0, .int .i64 0, .int .i64 x3_1] 102 ?_; intro gb236 hg w6 hbox hb; replace HB := A_ (below_step (bw_ HB.out) hb); have BK236 := A_ (hbox); have GW236 := A_ ((d33_ : w.heap.size ≤ gb236)); have GE236 := A_ ((Nat.le_trans HW0.out (d33_ : w.heap.size ≤ gb236) : w0.heap.size ≤ gb236)); replace HBW := A_ (below_step HBW.out hb); have GI236 := GeI.mk GE236.out; clear hb hbox hg))
    go_ret
    exact ⟨_, rfl, (show IsS102 w0 _ gb236 l0 0 x3_1 from ⟨_, _, by refine bk_ ?_; exact BK236.out, GE236.out, HR0.out⟩), bw_ HB.out, by repeat (first | (with_reducible first | exact HBW.out | apply below_alloc | apply pw_below_drewN | apply below_drew1 | refine below_set ?_ GW236.out) | exact HBW.out)⟩

/-! ### spec_l5Words: function 59 -/
def spec_l5Words.l0 : Nat → List Int → Int → Option (Bool)
 | 0, _, _ => none
 | k + 1, x0, x3 => if x3 < (x0.length : Int) then (if 0 ≤ x3 then ((spec_l1In.f (rd x0 x3) 0 65535).bind fun t238 => (if t238 = true then (spec_l5Words.l0 k x0 (wrap64 (x3 + 1))) else (some false))) else (none)) else (some true)
def spec_l5Words.f (k : Nat) (l0 : List Int) : Option (Bool) := spec_l5Words.l0 k l0 0
theorem spec_l5Words.mono_l : ∀ k, (∀ y0 y1, LeO (spec_l5Words.l0 k y0 y1) (spec_l5Words.l0 (k + 1) y0 y1))
 | 0 => fun _ _ r h => by simp [spec_l5Words.l0] at h
 | k + 1 => by
  have ih0 := spec_l5Words.mono_l k
  ·intro y0 y1
   unfold spec_l5Words.l0
   repeat' first
   | (with_reducible exact ih0 _ _)
   | (with_reducible exact LeO.refl _)
   | (with_reducible exact LeO.none _)
   | (with_reducible refine LeO.ite ?_ ?_)
   | (with_reducible refine LeO.bind ?_ (fun _ => ?_))
   | exact ih0 _ _
   | exact LeO.none _
   | refine LeO.ite ?_ ?_
   | refine LeO.bind ?_ (fun _ => ?_)
theorem spec_l5Words.mono : ∀ a0 k, LeO (spec_l5Words.f k a0) (spec_l5Words.f (k + 1) a0) := by
 intro a0 k
 have ih0 := spec_l5Words.mono_l k
 unfold spec_l5Words.f
 repeat' first
   | (with_reducible exact ih0 _ _)
   | (with_reducible exact LeO.refl _)
   | (with_reducible exact LeO.none _)
   | (with_reducible refine LeO.ite ?_ ?_)
   | (with_reducible refine LeO.bind ?_ (fun _ => ?_))
   | exact ih0 _ _
   | exact LeO.none _
   | refine LeO.ite ?_ ?_
   | refine LeO.bind ?_ (fun _ => ?_)
set_option maxHeartbeats 8000000 in
set_option maxRecDepth 100000 in
theorem spec_l5Words.calls (k : Nat) (A0 : Option Addr) (c0 : Nat) (l0 : List Int) (r : Bool) (w : World) (hr0 : Kd.C (Kd.int .i64) w A0 l0.length l0) (hc0 : l0.length ≤ c0) (h : spec_l5Words.f k l0 = some r) :
  Calls Try.prog 59 #[.slice A0 l0.length c0] w fun e w' => e = .returned (.bool r) ∧ Drawn0 w w' := by
 have HR0 := A_ hr0
 have HC0 := A_ hc0
 clear hr0 hc0
 have H : (spec_l5Words.l0 k l0 0) = some r := h
 clear h
 have H' := A_ H
 clear H
 go_enter Try.func59, Try.ntmps59
 go_wp2
 go_loopg [3] k (fun kq v3 w' => ∃ (x3_1 : Int), v3 = .int .i64 x3_1 ∧ Aside0 (spec_l5Words.l0 kq l0 x3_1 = some r) ∧ Aside0 (kq ≤ k) ∧ Drawn0 w w')
 case atStart => exact ⟨(0), d6_, H', ⟨Nat.le_refl _⟩, by repeat (first | exact Drawn0.refl _ | apply Drawn0.step)⟩
 case round =>
  clear H'
  obtain ⟨x3_1, rfl, HA, HK1, ⟨m1, rfl⟩⟩ := hrel
  cases gk with
  | zero => exact absurd HA.out (by simp [spec_l5Words.l0])
  | succ k1 =>
   have H := HA.out
   clear HA
   simp only [spec_l5Words.l0] at H
   by_cases c2 : x3_1 < (l0.length : Int)
   ·rw [if_pos c2] at H
    have c2b0 := decide_eq_true c2
    clear c2
    by_cases c3 : 0 ≤ x3_1
    ·rw [if_pos c3] at H
     have c3b0 := decide_eq_true c3
     clear c3
     replace H := Option.bind_eq_some_iff.mp H
     obtain ⟨t238, A40, H⟩ := H
     try dsimp only at H
     have A4 := A_ A40
     clear A40
     by_cases c5 : t238 = true
     ·subst c5
      rw [if_pos rfl] at H
      have H' := A_ H
      clear H
      have p237 : 0 ≤ (x3_1 : Int) := of_decide_eq_true d8_
      have q237 : x3_1 < (l0.length : Int) := of_decide_eq_true d8_
      obtain ⟨ad237, e237, hx237_0⟩ := Kd.at_int HR0.out x3_1 p237 q237
      cases e237
      replace p237 := eq_true p237
      replace q237 := eq_true q237
      go_wp2_with (first | ((with_reducible refine gate_callee (f := 57) rfl ?_); refine gL_ (some 14) Try.func57 #[.int .i64 (rd l0 x3_1), .int .i64 0, .int .i64 65535] ?_; (with_reducible refine (spec_l1In.calls (rd l0 x3_1) 0 65535 true _ A4.out).mono ?_); rintro e w' ⟨rfl, ⟨nd, rfl⟩⟩; refine ⟨_, rfl, ?_⟩))
      go_roundg k1
      case measure => have := HK1.out; omega
      case rel => exact ⟨(wrap64 (x3_1 + 1)), d6_, H', ⟨by have := HK1.out; omega⟩, by repeat (first | exact Drawn0.refl _ | apply Drawn0.step)⟩
     ·replace c5 := Bool.eq_false_iff.mpr c5
      subst c5
      rw [if_neg (show ¬ (false = true) by decide)] at H
      obtain rfl := Option.some.inj H
      have p237 : 0 ≤ (x3_1 : Int) := of_decide_eq_true d8_
      have q237 : x3_1 < (l0.length : Int) := of_decide_eq_true d8_
      obtain ⟨ad237, e237, hx237_0⟩ := Kd.at_int HR0.out x3_1 p237 q237
      cases e237
      replace p237 := eq_true p237
      replace q237 := eq_true q237
      go_wp2_with (first | ((with_reducible refine gate_callee (f := 57) rfl ?_); refine gL_ (some 14) Try.func57 #[.int .i64 (rd l0 x3_1), .int .i64 0, .int .i64 65535] ?_; (with_reducible refine (spec_l1In.calls (rd l0 x3_1) 0 65535 false _ A4.out).mono ?_); rintro e w' ⟨rfl, ⟨nd, rfl⟩⟩; refine ⟨_, rfl, ?_⟩))
      go_ret
      exact ⟨by first | rfl | (simp; done) | (simp [*]; done), by repeat (first | exact Drawn0.refl _ | apply Drawn0.step)⟩
    ·rw [if_neg c3] at H
     exact absurd H (by simp)
   ·rw [if_neg c2] at H
    have c2b0 := decide_eq_false c2
    clear c2
    obtain rfl := Option.some.inj H
    go_wp2
    go_ret
    exact ⟨by first | rfl | (simp; done) | (simp [*]; done), by repeat (first | exact Drawn0.refl _ | apply Drawn0.step)⟩

end Go.Proofs.Ytiagbfilffbljaa.PFnStored
