-- Laid by a program of this session (a changed copy of the kit's printer); Lean checks every line.
import Derived.Test.YtiagbfilffbljaaPFnStoredx0
import Derived.Test.YtiagbfilffbljaaPFnStoredx2
namespace Go.Proofs.Ytiagbfilffbljaa.PFnStored
open Go.RowKit Go.Proofs.YtiagbfilffbljaaW.PrintWords Go.Proofs.YtiagbfilffbljaaW.PrintLast Go.Proofs.YtiagbfilffbljaaW.PrintMore
attribute [local go_sem] max2_int min2_int max_two min_two max_three min_three max_four min_four   -- for this text's walks alone
set_option linter.unusedVariables false
set_option linter.unusedSimpArgs false

/-! ### impl_Load: function 26 -/
def impl_Load.f (l0_0 : List Int) (l0_1 : List Int) (a0_2 : Bool) (a0_3 : Bool) (a0_4 : Bool) (a0_5 : Bool) (l0_6 : List Int) (l0_7 : List Int) (a0_8 : Int) (a1_0 : Int) (a1_1 : Int) : Option (Int × Bool) := (impl_isRegPlace.f l0_0 l0_1 a0_2 a0_3 a0_4 a0_5 l0_6 l0_7 a0_8 a1_0 a1_1).bind fun t128 => (if t128 = true then (if 0 ≤ a1_0 then (if a1_0 < (l0_1.length : Int) then (some (rd l0_1 a1_0, true)) else (none)) else (none)) else (if a1_0 = (-1) then ((impl_ReadW.f l0_0 l0_1 a0_2 a0_3 a0_4 a0_5 l0_6 l0_7 a0_8 a1_1).bind fun bt130 => (some (bt130.1, bt130.2))) else (some (0, false))))
set_option maxHeartbeats 8000000 in
set_option maxRecDepth 100000 in
theorem impl_Load.calls (A0_0 : Option Addr) (c0_0 : Nat) (l0_0 : List Int) (A0_1 : Option Addr) (c0_1 : Nat) (l0_1 : List Int) (a0_2 : Bool) (a0_3 : Bool) (a0_4 : Bool) (a0_5 : Bool) (A0_6 : Option Addr) (c0_6 : Nat) (l0_6 : List Int) (A0_7 : Option Addr) (c0_7 : Nat) (l0_7 : List Int) (a0_8 : Int) (a1_0 : Int) (a1_1 : Int) (r1 : Int) (r2 : Bool) (w : World) (hr0_0 : Kd.C (Kd.int .i64) w A0_0 l0_0.length l0_0) (hc0_0 : l0_0.length ≤ c0_0) (hr0_1 : Kd.C (Kd.int .i64) w A0_1 l0_1.length l0_1) (hc0_1 : l0_1.length ≤ c0_1) (hr0_6 : Kd.C (Kd.int .i64) w A0_6 l0_6.length l0_6) (hc0_6 : l0_6.length ≤ c0_6) (hr0_7 : Kd.C (Kd.int .i64) w A0_7 l0_7.length l0_7) (hc0_7 : l0_7.length ≤ c0_7) (h : impl_Load.f l0_0 l0_1 a0_2 a0_3 a0_4 a0_5 l0_6 l0_7 a0_8 a1_0 a1_1 = some (r1, r2)) :
  Calls Try.prog 26 #[.agg #[.slice A0_0 l0_0.length c0_0, .slice A0_1 l0_1.length c0_1, .bool a0_2, .bool a0_3, .bool a0_4, .bool a0_5, .slice A0_6 l0_6.length c0_6, .slice A0_7 l0_7.length c0_7, .int .i64 a0_8], .agg #[.int .i64 a1_0, .int .i64 a1_1]] w fun e w' => e = .returned (.tuple #[.int .i64 r1, .bool r2]) ∧ Below w.heap.size w w' := by
 have hu28 := Try.underlying28
 have hu38 := Try.underlying38
 have HR0_0 := A_ hr0_0
 have HC0_0 := A_ hc0_0
 clear hr0_0 hc0_0
 have HR0_1 := A_ hr0_1
 have HC0_1 := A_ hc0_1
 clear hr0_1 hc0_1
 have HR0_6 := A_ hr0_6
 have HC0_6 := A_ hc0_6
 clear hr0_6 hc0_6
 have HR0_7 := A_ hr0_7
 have HC0_7 := A_ hc0_7
 clear hr0_7 hc0_7
 have HB := A_ (Below.refl w.heap.size w)
 have H : ((impl_isRegPlace.f l0_0 l0_1 a0_2 a0_3 a0_4 a0_5 l0_6 l0_7 a0_8 a1_0 a1_1).bind fun t128 => (if t128 = true then (if 0 ≤ a1_0 then (if a1_0 < (l0_1.length : Int) then (some (rd l0_1 a1_0, true)) else (none)) else (none)) else (if a1_0 = (-1) then ((impl_ReadW.f l0_0 l0_1 a0_2 a0_3 a0_4 a0_5 l0_6 l0_7 a0_8 a1_1).bind fun bt130 => (some (bt130.1, bt130.2))) else (some (0, false))))) = some (r1, r2) := h
 clear h
 replace H := Option.bind_eq_some_iff.mp H
 obtain ⟨t128, A30, H⟩ := H
 try dsimp only at H
 have A3 := A_ A30
 clear A30
 by_cases c4 : t128 = true
 subst c4
 rw [if_pos rfl] at H
 by_cases c5 : 0 ≤ a1_0
 rw [if_pos c5] at H
 have c5b0 := decide_eq_true c5
 clear c5
 by_cases c6 : a1_0 < (l0_1.length : Int)
 rw [if_pos c6] at H
 have c6b0 := decide_eq_true c6
 clear c6
 simp only [Option.some.injEq, Prod.mk.injEq] at H
 obtain ⟨rfl, rfl⟩ := H
 rotate_left
 rw [if_neg c6] at H
 exact absurd H (by simp)
 rw [if_neg c5] at H
 exact absurd H (by simp)
 replace c4 := Bool.eq_false_iff.mpr c4
 subst c4
 rw [if_neg (show ¬ (false = true) by decide)] at H
 by_cases c15 : a1_0 = (-1)
 rw [if_pos c15] at H
 have c15b0 := beq_iff_eq.mpr c15
 have c15b1 := bne_eq_false_iff_eq.mpr c15
 clear c15
 replace H := Option.bind_eq_some_iff.mp H
 obtain ⟨⟨t130, t131⟩, A160, H⟩ := H
 try dsimp only at H
 have A16 := A_ A160
 clear A160
 simp only [Option.some.injEq, Prod.mk.injEq] at H
 obtain ⟨rfl, rfl⟩ := H
 rotate_left
 rw [if_neg c15] at H
 have c15b0 := beq_eq_false_iff_ne.mpr c15
 have c15b1 := bne_iff_ne.mpr c15
 simp only [Option.some.injEq, Prod.mk.injEq] at H
 obtain ⟨rfl, rfl⟩ := H
 rotate_left
 all_goals go_enter Try.func26, Try.ntmps26
 all_goals go_wp2_with (first | ((with_reducible refine gate_dst (N := 2) rfl ?_); refine bx_ 2 #[.slice A0_0 l0_0.length c0_0, .slice A0_1 l0_1.length c0_1, .bool a0_2, .bool a0_3, .bool a0_4, .bool a0_5, .slice A0_6 l0_6.length c0_6, .slice A0_7 l0_7.length c0_7, .int .i64 a0_8] 28 ?_; intro gb126 hg w7 hbox hb; have n0_ := A_ (below_step (bw_ HB.out) hb); have n1_ := A_ (hbox); have n2_ := A_ ((d5_ : w.heap.size ≤ gb126)); have n3_ := n2_; clear HB; have HB := n0_; have BK126 := n1_; have GW126 := n2_; have GE126 := n3_; have GI126 := GeI.mk GE126.out; clear n0_ n1_ n2_ n3_; clear hb hbox hg) | ((with_reducible refine gate_dst (N := 3) rfl ?_); refine bx_ 3 #[.int .i64 a1_0, .int .i64 a1_1] 38 ?_; intro gb127 hg w8 hbox hb; have n0_ := A_ (blk_below (bk_ BK126.out) hb); have n1_ := A_ (below_step (bw_ HB.out) hb); have n2_ := A_ (hbox); have n3_ := A_ ((d5_ : w.heap.size ≤ gb127)); have n4_ := n3_; have n5_ := A_ ((by rw [hg]; exact Nat.ne_of_lt (blk_lt (bk_ BK126.out)) : gb126 ≠ gb127)); have n6_ := A_ n5_.out.symm; clear BK126; clear HB; have BK126 := n0_; have HB := n1_; have BK127 := n2_; have GW127 := n3_; have GE127 := n4_; have GI127 := GeI.mk GE127.out; have NB126_127 := n5_; have NB127_126 := n6_; clear n0_ n1_ n2_ n3_ n4_ n5_ n6_; clear hb hbox hg; have hnb9 := NB126_127.out; have hnc9 := NB127_126.out; obtain ⟨y10_0, y10_1, y10_2, y10_3, y10_4, y10_5, y10_6, y10_7, y10_8, z10_0, z10_1, z10_2, z10_3, z10_4, z10_5, z10_6, z10_7, z10_8⟩ := cz9_ BK126.out; have y11_0 : w8.cell? ⟨gb127, 0, none⟩ = some (.int .i64 a1_0) := (blk_cell BK127.out 0).trans rfl; have y11_1 : w8.cell? ⟨gb127, 1, none⟩ = some (.int .i64 a1_1) := (blk_cell BK127.out 1).trans rfl; have z11_0 := blk_frozen BK127.out 0; have z11_1 := blk_frozen BK127.out 1) | ((with_reducible refine gate_callee (f := 62) rfl ?_); refine gL_ (some 8) Try.func62 #[.agg #[.slice A0_0 l0_0.length c0_0, .slice A0_1 l0_1.length c0_1, .bool a0_2, .bool a0_3, .bool a0_4, .bool a0_5, .slice A0_6 l0_6.length c0_6, .slice A0_7 l0_7.length c0_7, .int .i64 a0_8], .agg #[.int .i64 a1_0, .int .i64 a1_1]] ?_; (with_reducible refine (impl_isRegPlace.calls _ _ l0_0 _ _ l0_1 a0_2 a0_3 a0_4 a0_5 _ _ l0_6 _ _ l0_7 a0_8 a1_0 a1_1 true _ ?side1 ?side2 ?side3 ?side4 ?side5 ?side6 ?side7 ?side8 A3.out).mono ?_); (case side1 => exact Kd.C_below HR0_0.out (bw_ HB.out)); (case side2 => exact HC0_0.out); (case side3 => exact Kd.C_below HR0_1.out (bw_ HB.out)); (case side4 => exact HC0_1.out); (case side5 => exact Kd.C_below HR0_6.out (bw_ HB.out)); (case side6 => exact HC0_6.out); (case side7 => exact Kd.C_below HR0_7.out (bw_ HB.out)); (case side8 => exact HC0_7.out); rintro e w12 ⟨rfl, hb⟩; refine ⟨_, rfl, ?_⟩; replace BK126 := A_ (blk_below (bk_ BK126.out) hb); replace BK127 := A_ (blk_below (bk_ BK127.out) hb); replace HB := A_ (below_step (bw_ HB.out) hb); clear hb; obtain ⟨y13_0, y13_1, y13_2, y13_3, y13_4, y13_5, y13_6, y13_7, y13_8, z13_0, z13_1, z13_2, z13_3, z13_4, z13_5, z13_6, z13_7, z13_8⟩ := cz9_ BK126.out; have y14_0 : w12.cell? ⟨gb127, 0, none⟩ = some (.int .i64 a1_0) := (blk_cell BK127.out 0).trans rfl; have y14_1 : w12.cell? ⟨gb127, 1, none⟩ = some (.int .i64 a1_1) := (blk_cell BK127.out 1).trans rfl; have z14_0 := blk_frozen BK127.out 0; have z14_1 := blk_frozen BK127.out 1; have p129 : 0 ≤ (a1_0 : Int) := of_decide_eq_true d8_; have q129 : a1_0 < (l0_1.length : Int) := of_decide_eq_true d8_; obtain ⟨ad129, e129, hx129_0⟩ := Kd.at_int HR0_1.out a1_0 p129 q129; cases e129; replace hx129_0 := (HB.out.cell (World.block_lt_of_cell? w _ hx129_0)).trans hx129_0; replace p129 := eq_true p129; replace q129 := eq_true q129) | ((with_reducible refine gate_callee (f := 62) rfl ?_); refine gL_ (some 8) Try.func62 #[.agg #[.slice A0_0 l0_0.length c0_0, .slice A0_1 l0_1.length c0_1, .bool a0_2, .bool a0_3, .bool a0_4, .bool a0_5, .slice A0_6 l0_6.length c0_6, .slice A0_7 l0_7.length c0_7, .int .i64 a0_8], .agg #[.int .i64 a1_0, .int .i64 a1_1]] ?_; (with_reducible refine (impl_isRegPlace.calls _ _ l0_0 _ _ l0_1 a0_2 a0_3 a0_4 a0_5 _ _ l0_6 _ _ l0_7 a0_8 a1_0 a1_1 false _ ?side1 ?side2 ?side3 ?side4 ?side5 ?side6 ?side7 ?side8 A3.out).mono ?_); (case side1 => exact Kd.C_below HR0_0.out (bw_ HB.out)); (case side2 => exact HC0_0.out); (case side3 => exact Kd.C_below HR0_1.out (bw_ HB.out)); (case side4 => exact HC0_1.out); (case side5 => exact Kd.C_below HR0_6.out (bw_ HB.out)); (case side6 => exact HC0_6.out); (case side7 => exact Kd.C_below HR0_7.out (bw_ HB.out)); (case side8 => exact HC0_7.out); rintro e w22 ⟨rfl, hb⟩; refine ⟨_, rfl, ?_⟩; replace BK126 := A_ (blk_below (bk_ BK126.out) hb); replace BK127 := A_ (blk_below (bk_ BK127.out) hb); replace HB := A_ (below_step (bw_ HB.out) hb); clear hb; have y23_0 : w22.cell? ⟨gb127, 0, none⟩ = some (.int .i64 a1_0) := (blk_cell BK127.out 0).trans rfl; have y23_1 : w22.cell? ⟨gb127, 1, none⟩ = some (.int .i64 a1_1) := (blk_cell BK127.out 1).trans rfl; have z23_0 := blk_frozen BK127.out 0; have z23_1 := blk_frozen BK127.out 1; obtain ⟨y24_0, y24_1, y24_2, y24_3, y24_4, y24_5, y24_6, y24_7, y24_8, z24_0, z24_1, z24_2, z24_3, z24_4, z24_5, z24_6, z24_7, z24_8⟩ := cz9_ BK126.out) | ((with_reducible refine gate_callee (f := 18) rfl ?_); refine gL_ (some 21) Try.func18 #[.agg #[.slice A0_0 l0_0.length c0_0, .slice A0_1 l0_1.length c0_1, .bool a0_2, .bool a0_3, .bool a0_4, .bool a0_5, .slice A0_6 l0_6.length c0_6, .slice A0_7 l0_7.length c0_7, .int .i64 a0_8], .int .i64 a1_1] ?_; (with_reducible refine (impl_ReadW.calls _ _ l0_0 _ _ l0_1 a0_2 a0_3 a0_4 a0_5 _ _ l0_6 _ _ l0_7 a0_8 a1_1 t130 t131 _ ?side1 ?side2 ?side3 ?side4 ?side5 ?side6 ?side7 ?side8 A16.out).mono ?_); (case side1 => exact Kd.C_below HR0_0.out (bw_ HB.out)); (case side2 => exact HC0_0.out); (case side3 => exact Kd.C_below HR0_1.out (bw_ HB.out)); (case side4 => exact HC0_1.out); (case side5 => exact Kd.C_below HR0_6.out (bw_ HB.out)); (case side6 => exact HC0_6.out); (case side7 => exact Kd.C_below HR0_7.out (bw_ HB.out)); (case side8 => exact HC0_7.out); rintro e w25 ⟨rfl, hb⟩; refine ⟨_, rfl, ?_⟩; replace BK126 := A_ (blk_below (bk_ BK126.out) hb); replace BK127 := A_ (blk_below (bk_ BK127.out) hb); replace HB := A_ (below_step (bw_ HB.out) hb); clear hb) | ((with_reducible refine gate_callee (f := 62) rfl ?_); refine gL_ (some 8) Try.func62 #[.agg #[.slice A0_0 l0_0.length c0_0, .slice A0_1 l0_1.length c0_1, .bool a0_2, .bool a0_3, .bool a0_4, .bool a0_5, .slice A0_6 l0_6.length c0_6, .slice A0_7 l0_7.length c0_7, .int .i64 a0_8], .agg #[.int .i64 a1_0, .int .i64 a1_1]] ?_; (with_reducible refine (impl_isRegPlace.calls _ _ l0_0 _ _ l0_1 a0_2 a0_3 a0_4 a0_5 _ _ l0_6 _ _ l0_7 a0_8 a1_0 a1_1 false _ ?side1 ?side2 ?side3 ?side4 ?side5 ?side6 ?side7 ?side8 A3.out).mono ?_); (case side1 => exact Kd.C_below HR0_0.out (bw_ HB.out)); (case side2 => exact HC0_0.out); (case side3 => exact Kd.C_below HR0_1.out (bw_ HB.out)); (case side4 => exact HC0_1.out); (case side5 => exact Kd.C_below HR0_6.out (bw_ HB.out)); (case side6 => exact HC0_6.out); (case side7 => exact Kd.C_below HR0_7.out (bw_ HB.out)); (case side8 => exact HC0_7.out); rintro e w31 ⟨rfl, hb⟩; refine ⟨_, rfl, ?_⟩; replace BK126 := A_ (blk_below (bk_ BK126.out) hb); replace BK127 := A_ (blk_below (bk_ BK127.out) hb); replace HB := A_ (below_step (bw_ HB.out) hb); clear hb; have y32_0 : w31.cell? ⟨gb127, 0, none⟩ = some (.int .i64 a1_0) := (blk_cell BK127.out 0).trans rfl; have y32_1 : w31.cell? ⟨gb127, 1, none⟩ = some (.int .i64 a1_1) := (blk_cell BK127.out 1).trans rfl; have z32_0 := blk_frozen BK127.out 0; have z32_1 := blk_frozen BK127.out 1))
 ·go_ret2
  exact rt_ (bw_ HB.out)
 ·go_ret2
  exact rt_ (bw_ HB.out)
 ·go_ret2
  exact rt_ (bw_ HB.out)

/-! ### impl_Wrap: function 43 -/
def impl_Wrap.f (a0 : Int) : Option (Int) := some (Go.bits .and .i64 a0 65535)
set_option maxHeartbeats 8000000 in
set_option maxRecDepth 100000 in
theorem impl_Wrap.calls (a0 : Int) (r : Int) (w : World) (h : impl_Wrap.f a0 = some r) :
  Calls Try.prog 43 #[.int .i64 a0] w fun e w' => e = .returned (.int .i64 r) ∧ Drawn0 w w' := by
 have H : (some (Go.bits .and .i64 a0 65535)) = some r := h
 clear h
 obtain rfl := Option.some.inj H
 go_enter Try.func43, Try.ntmps43
 go_wp2
 go_ret
 exact ⟨by first | rfl | (simp; done) | (simp [*]; done), by repeat (first | exact Drawn0.refl _ | apply Drawn0.step)⟩

/-! ### impl_copyInts: function 64 -/
def impl_copyInts.f (l0 : List Int) : Option (List Int) := (some (([] : List Int) : List Int)).bind fun y132 => (if y132.length + l0.length < 17592186044416 then (some (y132 ++ l0)) else (none))
set_option maxHeartbeats 8000000 in
set_option maxRecDepth 100000 in
theorem impl_copyInts.calls (A0 : Option Addr) (c0 : Nat) (l0 : List Int) (r : List Int) (w : World) (hr0 : Kd.C (Kd.int .i64) w A0 l0.length l0) (hc0 : l0.length ≤ c0) (h : impl_copyInts.f l0 = some r) :
  Calls Try.prog 64 #[.slice A0 l0.length c0] w fun e w' => ∃ v0_ : Value, e = .returned (v0_) ∧ Kd.R (Kd.int .i64) 3 w' w.heap.size (fun _ => True) v0_ r ∧ Below w.heap.size w w' := by
 have HR0 := A_ hr0
 have HC0 := A_ hc0
 clear hr0 hc0
 have HB := A_ (Below.refl w.heap.size w)
 have H : ((some (([] : List Int) : List Int)).bind fun y132 => (if y132.length + l0.length < 17592186044416 then (some (y132 ++ l0)) else (none))) = some r := h
 clear h
 obtain ⟨y132, hy132⟩ : ∃ y_ : List Int, y_ = (([] : List Int)) := ⟨_, rfl⟩
 replace H : (if y132.length + l0.length < 17592186044416 then (some (y132 ++ l0)) else (none)) = some r := by first | (rw [hy132]; with_reducible exact H) | (have H2_ := (Option.bind_some _ _).symm.trans H; rw [hy132]; with_reducible exact H2_) | (have H2_ := (Option.bind_some _ _).symm.trans H; with_reducible exact H2_) | with_reducible exact H | (rw [hy132]; exact H) | exact H
 have Ny132 := A_ hy132
 clear hy132
 by_cases c2 : y132.length + l0.length < 17592186044416
 ·rw [if_pos c2] at H
  have LMc2 := A_ c2
  clear c2
  obtain ⟨y135, hy135⟩ : ∃ y_ : List Int, y_ = (y132 ++ l0) := ⟨_, rfl⟩
  replace H : (some y135) = some r := by first | (rw [hy135]; with_reducible exact H) | (have H2_ := (Option.bind_some _ _).symm.trans H; rw [hy135]; with_reducible exact H2_) | (have H2_ := (Option.bind_some _ _).symm.trans H; with_reducible exact H2_) | with_reducible exact H | (rw [hy135]; exact H) | exact H
  have Ny135 := A_ hy135
  clear hy135
  obtain rfl := Option.some.inj H
  go_enter Try.func64, Try.ntmps64
  go_wp2_with (first | ((with_reducible refine gate_dst (N := 3) rfl ?_); refine Kd.R_lit (Kd.int .i64) _ 3 ?hg (N := 3) ?hd (xs := ([] : List Int)) (inner := []) (ok := fun _ => True) (okp := fun _ => True) ?hr ?hp (fun _ hk => hk) trivial (Below.refl _ _) (Nat.le_refl _) (by simp) ?_; (case hd => rfl); (case hg => rfl); (case hr => first | (go_simp; done) | (go_simp; rfl)); (case hp => exact (Reps.none _ _)); intro v133 w3 ho4 hb hg_ hnew_; clear hg_ hnew_; (first | rw [← Ny132.out] at ho4 | (simp only [Int.reduceToNat] at ho4; rw [← Ny132.out] at ho4)); have HO134 := A_ (Kd.R_lower ho4 (below_size (bw_ HB.out))); replace HB := A_ (below_step (bw_ HB.out) hb); clear hb ho4) | ((with_reducible refine gate_builtin (b := .append) (xs := #[.tmp 3, .tmp 4]) rfl ?_); at_builtin; refine Kd.R_append_rows (Kd.int .i64) (w0 := w) w.heap.size rfl (.tmp 3) (.tmp 4) 22 3 (.int .i64 0) 8 rfl Try.underlying22 info3 rfl (by decide) (by omega) v133 y132 l0 _ _ _ (fun _ => True) (fun _ => False) rfl rfl ?aO ?aR (fun _ _ h => h) (fun _ h => h.elim) ?aF ?aB ?aS ?aL ?_; (case aR => repeat (first | exact (Kd.C_below HR0.out HB.out) | (with_reducible refine Kd.C_alloc ?_ _) | (with_reducible refine Kd.C_drewN ?_ _) | (with_reducible refine Kd.C_drew ?_))); (case aB => exact (bw_ HB.out)); (case aF => exact (fun _ _ => trivial)); (case aO => exact (kr_ HO134.out)); (case aS => exact (below_size (bw_ HB.out))); (case aL => have := LMc2.out; omega); intro v136 w5 ho hb hg hat; rw [← Ny135.out] at ho; have n0_ := A_ (hb); have n1_ := A_ (ho); clear HB; clear HO134; have HB := n0_; have HO137 := n1_; clear n0_ n1_; clear ho hb hg hat))
  go_ret
  exact ⟨_, by first | rfl | (simp [errW_none, errW_some] <;> rfl) | (simp [*, errW_none, errW_some] <;> rfl), kr_ HO137.out, bw_ HB.out⟩
 ·rw [if_neg c2] at H
  exact absurd H (by simp)

/-! ### impl_copyMach: function 68 -/
def impl_copyMach.f (l0_0 : List Int) (l0_1 : List Int) (a0_2 : Bool) (a0_3 : Bool) (a0_4 : Bool) (a0_5 : Bool) (l0_6 : List Int) (l0_7 : List Int) (a0_8 : Int) : Option (List Int × List Int × Bool × Bool × Bool × Bool × List Int × List Int × Int) := (impl_copyInts.f l0_0).bind fun t140 => ((impl_copyInts.f l0_1).bind fun t143 => ((impl_copyInts.f l0_6).bind fun t146 => ((impl_copyInts.f l0_7).bind fun t149 => (some (t140, t143, a0_2, a0_3, a0_4, a0_5, t146, t149, a0_8)))))
def impl_copyMach.T1 : Bool × List (List Nat × List Nat) := (true, [([], []), ([0], [0]), ([1], [1]), ([], []), ([3], [3]), ([4, 2], [4]), ([], []), ([6], [6]), ([7, 5], [7]), ([], []), ([9], [9]), ([10, 8], [10]), ([0, 1, 2, 3, 4, 6, 7, 9, 10], []), ([12, 2, 11, 0, 1, 2, 3, 4, 6, 7, 9, 10], [2, 12]), ([0, 1, 2, 3, 4, 5, 6, 7, 9, 10, 12, 13], []), ([14, 5, 13, 0, 1, 2, 3, 4, 5, 6, 7, 9, 10, 12, 13], [5, 14]), ([0, 1, 2, 3, 4, 5, 6, 7, 8, 9, 10, 12, 13, 14, 15], []), ([16, 8, 15, 0, 1, 2, 3, 4, 5, 6, 7, 8, 9, 10, 12, 13, 14, 15], [8, 16]), ([0, 1, 2, 3, 4, 5, 6, 7, 8, 9, 10, 11, 12, 13, 14, 15, 16, 17], []), ([18, 11, 17, 0, 1, 2, 3, 4, 5, 6, 7, 8, 9, 10, 11, 12, 13, 14, 15, 16, 17], [11, 18])])
def impl_copyMach.B1 : List Nat := [0, 1, 3, 0, 8, 31, 0, 64, 255, 0, 512, 2047, 1759, 8191, 16383, 32767, 65535, 131071, 262143, 524287]
theorem impl_copyMach.tab1 : rtab .any (opsOf Try.f68 1) = impl_copyMach.T1 := by kernel_rfl
theorem impl_copyMach.bits1 : waitsOk impl_copyMach.T1.2 impl_copyMach.B1 = true := by kernel_rfl
set_option maxHeartbeats 8000000 in
set_option maxRecDepth 100000 in
theorem impl_copyMach.calls (A0_0 : Option Addr) (c0_0 : Nat) (l0_0 : List Int) (A0_1 : Option Addr) (c0_1 : Nat) (l0_1 : List Int) (a0_2 : Bool) (a0_3 : Bool) (a0_4 : Bool) (a0_5 : Bool) (A0_6 : Option Addr) (c0_6 : Nat) (l0_6 : List Int) (A0_7 : Option Addr) (c0_7 : Nat) (l0_7 : List Int) (a0_8 : Int) (r1 : List Int) (r2 : List Int) (r3 : Bool) (r4 : Bool) (r5 : Bool) (r6 : Bool) (r7 : List Int) (r8 : List Int) (r9 : Int) (w : World) (hr0_0 : Kd.C (Kd.int .i64) w A0_0 l0_0.length l0_0) (hc0_0 : l0_0.length ≤ c0_0) (hr0_1 : Kd.C (Kd.int .i64) w A0_1 l0_1.length l0_1) (hc0_1 : l0_1.length ≤ c0_1) (hr0_6 : Kd.C (Kd.int .i64) w A0_6 l0_6.length l0_6) (hc0_6 : l0_6.length ≤ c0_6) (hr0_7 : Kd.C (Kd.int .i64) w A0_7 l0_7.length l0_7) (hc0_7 : l0_7.length ≤ c0_7) (h : impl_copyMach.f l0_0 l0_1 a0_2 a0_3 a0_4 a0_5 l0_6 l0_7 a0_8 = some (r1, r2, r3, r4, r5, r6, r7, r8, r9)) :
  Calls Try.prog 68 #[.agg #[.slice A0_0 l0_0.length c0_0, .slice A0_1 l0_1.length c0_1, .bool a0_2, .bool a0_3, .bool a0_4, .bool a0_5, .slice A0_6 l0_6.length c0_6, .slice A0_7 l0_7.length c0_7, .int .i64 a0_8]] w fun e w' => ∃ v0_ v1_ v6_ v7_ : Value, e = .returned (.agg #[v0_, v1_, .bool r3, .bool r4, .bool r5, .bool r6, v6_, v7_, .int .i64 r9]) ∧ Kd.R (Kd.int .i64) 3 w' w.heap.size (fun k_ => some k_ ≠ (v1_ : Value).ownBlock ∧ some k_ ≠ (v6_ : Value).ownBlock ∧ some k_ ≠ (v7_ : Value).ownBlock) v0_ r1 ∧ Kd.R (Kd.int .i64) 3 w' w.heap.size (fun k_ => some k_ ≠ (v0_ : Value).ownBlock ∧ some k_ ≠ (v6_ : Value).ownBlock ∧ some k_ ≠ (v7_ : Value).ownBlock) v1_ r2 ∧ Kd.R (Kd.int .i64) 3 w' w.heap.size (fun k_ => some k_ ≠ (v0_ : Value).ownBlock ∧ some k_ ≠ (v1_ : Value).ownBlock ∧ some k_ ≠ (v7_ : Value).ownBlock) v6_ r7 ∧ Kd.R (Kd.int .i64) 3 w' w.heap.size (fun k_ => some k_ ≠ (v0_ : Value).ownBlock ∧ some k_ ≠ (v1_ : Value).ownBlock ∧ some k_ ≠ (v6_ : Value).ownBlock) v7_ r8 ∧ Below w.heap.size w w' := by
 have hu28 := Try.underlying28
 have HR0_0 := A_ hr0_0
 have HC0_0 := A_ hc0_0
 clear hr0_0 hc0_0
 have HR0_1 := A_ hr0_1
 have HC0_1 := A_ hc0_1
 clear hr0_1 hc0_1
 have HR0_6 := A_ hr0_6
 have HC0_6 := A_ hc0_6
 clear hr0_6 hc0_6
 have HR0_7 := A_ hr0_7
 have HC0_7 := A_ hc0_7
 clear hr0_7 hc0_7
 have HB := A_ (Below.refl w.heap.size w)
 have H : ((impl_copyInts.f l0_0).bind fun t140 => ((impl_copyInts.f l0_1).bind fun t143 => ((impl_copyInts.f l0_6).bind fun t146 => ((impl_copyInts.f l0_7).bind fun t149 => (some (t140, t143, a0_2, a0_3, a0_4, a0_5, t146, t149, a0_8)))))) = some (r1, r2, r3, r4, r5, r6, r7, r8, r9) := h
 clear h
 replace H := Option.bind_eq_some_iff.mp H
 obtain ⟨t140, A20, H⟩ := H
 try dsimp only at H
 have A2 := A_ A20
 clear A20
 replace H := Option.bind_eq_some_iff.mp H
 obtain ⟨t143, A30, H⟩ := H
 try dsimp only at H
 have A3 := A_ A30
 clear A30
 replace H := Option.bind_eq_some_iff.mp H
 obtain ⟨t146, A40, H⟩ := H
 try dsimp only at H
 have A4 := A_ A40
 clear A40
 replace H := Option.bind_eq_some_iff.mp H
 obtain ⟨t149, A50, H⟩ := H
 try dsimp only at H
 have A5 := A_ A50
 clear A50
 simp only [Option.some.injEq, Prod.mk.injEq] at H
 obtain ⟨rfl, rfl, rfl, rfl, rfl, rfl, rfl, rfl, rfl⟩ := H
 go_enter Try.func68, Try.ntmps68
 try go_wp2_with (first | ((with_reducible refine gate_dst (N := 1) rfl ?_); refine bx_ 1 #[.slice A0_0 l0_0.length c0_0, .slice A0_1 l0_1.length c0_1, .bool a0_2, .bool a0_3, .bool a0_4, .bool a0_5, .slice A0_6 l0_6.length c0_6, .slice A0_7 l0_7.length c0_7, .int .i64 a0_8] 28 ?_; intro gb138 hg w6 hbox hb; have n0_ := A_ (below_step (bw_ HB.out) hb); have n1_ := A_ (hbox); have n2_ := A_ ((d5_ : w.heap.size ≤ gb138)); have n3_ := n2_; clear HB; have HB := n0_; have BK138 := n1_; have GW138 := n2_; have GE138 := n3_; have GI138 := GeI.mk GE138.out; clear n0_ n1_ n2_ n3_; clear hb hbox hg) | ((with_reducible refine gate_dst (N := 2) rfl ?_); refine bx_ 2 #[.slice none 0 0, .slice none 0 0, .bool false, .bool false, .bool false, .bool false, .slice none 0 0, .slice none 0 0, .int .i64 0] 28 ?_; intro gb139 hg w7 hbox hb; have n0_ := A_ (blk_below (bk_ BK138.out) hb); have n1_ := A_ (below_step (bw_ HB.out) hb); have n2_ := A_ (hbox); have n3_ := A_ ((d5_ : w.heap.size ≤ gb139)); have n4_ := n3_; have n5_ := A_ ((by rw [hg]; exact Nat.ne_of_lt (blk_lt (bk_ BK138.out)) : gb138 ≠ gb139)); have n6_ := A_ n5_.out.symm; clear BK138; clear HB; have BK138 := n0_; have HB := n1_; have BK139 := n2_; have GW139 := n3_; have GE139 := n4_; have GI139 := GeI.mk GE139.out; have NB138_139 := n5_; have NB139_138 := n6_; clear n0_ n1_ n2_ n3_ n4_ n5_ n6_; clear hb hbox hg))
 replace BK138 := A_ (blk_drew BK138.out)
 replace BK139 := A_ (blk_drew BK139.out)
 replace HB := A_ (below_drew1 HB.out)
 refine start_ (n := 20) (S := fun w' => w'.cell? ⟨gb138, 0, none⟩ = some (.slice A0_0 l0_0.length c0_0) ∧ w'.cell? ⟨gb138, 1, none⟩ = some (.slice A0_1 l0_1.length c0_1) ∧ w'.cell? ⟨gb138, 2, none⟩ = some (.bool a0_2) ∧ w'.cell? ⟨gb138, 3, none⟩ = some (.bool a0_3) ∧ w'.cell? ⟨gb138, 4, none⟩ = some (.bool a0_4) ∧ w'.cell? ⟨gb138, 5, none⟩ = some (.bool a0_5) ∧ w'.cell? ⟨gb138, 6, none⟩ = some (.slice A0_6 l0_6.length c0_6) ∧ w'.cell? ⟨gb138, 7, none⟩ = some (.slice A0_7 l0_7.length c0_7) ∧ w'.cell? ⟨gb138, 8, none⟩ = some (.int .i64 a0_8)) (ds := [13, 15, 17, 19]) #[false, false, false, false, false, false, false, false, false, false, false, false, false, false, false, false, false, false, false, false] (by kernel_rfl) rfl rfl (c9_ BK138) (fun hHeld => ?_); refine with_tabW impl_copyMach.tab1 impl_copyMach.bits1 (fun HT_ HW_ => ?_)
 generalize w7.drew = w8 at BK138 BK139 HB hHeld ⊢
 refine pu_ 0 (some 3) (bm_ 20 1) (any_of HT_.out (by kernel_rfl)) ?_
 refine pu_ 3 (some 6) (bm_ 20 9) (any_of HT_.out (by kernel_rfl)) ?_
 refine pu_ 6 (some 9) (bm_ 20 73) (any_of HT_.out (by kernel_rfl)) ?_
 refine pu_ 9 (some 12) (bm_ 20 585) (any_of HT_.out (by kernel_rfl)) ?_
 refine take_ (i := 1) (N := some 4) (v := ?_) (a' := ?_) (bm_ 20 587) rfl rfl (take_ofW HT_.out HW_.out (by kernel_rfl)) (fun _ _ _ h => h) (Or.inl ⟨by rfl, ?_⟩) hHeld ?_ ?_
 rotate_left
 ·rintro w' ⟨s0, s1, s2, s3, s4, s5, s6, s7, s8⟩
  go_simp
  with_reducible rfl
 rotate_left
 ·simp only [Act.put, List.setIfInBounds_toArray, List.set_cons_zero, List.set_cons_succ, i64_w, i32_w]
  rfl
 refine take_ (i := 4) (N := some 7) (v := ?_) (a' := ?_) (bm_ 20 603) rfl rfl (take_ofW HT_.out HW_.out (by kernel_rfl)) (fun _ _ _ h => h) (Or.inl ⟨by rfl, ?_⟩) hHeld ?_ ?_
 rotate_left
 ·rintro w' ⟨s0, s1, s2, s3, s4, s5, s6, s7, s8⟩
  go_simp
  with_reducible rfl
 rotate_left
 ·simp only [Act.put, List.setIfInBounds_toArray, List.set_cons_zero, List.set_cons_succ, i64_w, i32_w]
  rfl
 refine take_ (i := 7) (N := some 10) (v := ?_) (a' := ?_) (bm_ 20 731) rfl rfl (take_ofW HT_.out HW_.out (by kernel_rfl)) (fun _ _ _ h => h) (Or.inl ⟨by rfl, ?_⟩) hHeld ?_ ?_
 rotate_left
 ·rintro w' ⟨s0, s1, s2, s3, s4, s5, s6, s7, s8⟩
  go_simp
  with_reducible rfl
 rotate_left
 ·simp only [Act.put, List.setIfInBounds_toArray, List.set_cons_zero, List.set_cons_succ, i64_w, i32_w]
  rfl
 refine take_ (i := 10) (N := some 13) (v := ?_) (a' := ?_) (bm_ 20 1755) rfl rfl (take_ofW HT_.out HW_.out (by kernel_rfl)) (fun _ _ _ h => h) (Or.inl ⟨by rfl, ?_⟩) hHeld ?_ ?_
 rotate_left
 ·rintro w' ⟨s0, s1, s2, s3, s4, s5, s6, s7, s8⟩
  go_simp
  with_reducible rfl
 rotate_left
 ·simp only [Act.put, List.setIfInBounds_toArray, List.set_cons_zero, List.set_cons_succ, i64_w, i32_w]
  rfl
 refine one_ (i := 2) (N := some 5) (bm_ 20 1759) rfl rfl (one_of HT_.out (by kernel_rfl)) (by decide) (fun K hK => ?_)
 refine goes_ Try.func64 (by kernel_rfl) rfl #[.slice A0_0 l0_0.length c0_0] (by rfl) rfl rfl d9_ ?_
 with_reducible refine (impl_copyInts.calls _ _ l0_0 t140 _ ?side1 ?side2 A2.out).mono ?_
 (case side1 => exact Kd.C_below HR0_0.out (bw_ HB.out))
 (case side2 => exact HC0_0.out)
 rintro e w9 ⟨v141, rfl, ho0, hb⟩
 refine ⟨_, rfl, ?_⟩
 have HO142 := A_ (Kd.R_lower ho0 (below_size (bw_ HB.out)))
 replace BK138 := A_ (blk_below (bk_ BK138.out) hb)
 replace BK139 := A_ (blk_below (bk_ BK139.out) hb)
 replace HB := A_ (below_step (bw_ HB.out) hb)
 (try clear hb)
 (try clear hb2)
 (try clear hk)
 (try clear hi)
 (try clear ho0)
 refine hK.out _ _ (c9_ BK138) (fun hHeld => ?_)
 clear hK K
 refine norm_ (a' := ?_) ?_ ?_
 rotate_left
 ·show Act.put _ (some 5) _ = _
  simp only [Act.put, List.setIfInBounds_toArray, List.set_cons_zero, List.set_cons_succ, i64_w, i32_w]
  rfl
 refine pu_ 12 (some 15) (bm_ 20 5855) (any_of HT_.out (by kernel_rfl)) ?_
 refine one_ (i := 5) (N := some 8) (bm_ 20 5887) rfl rfl (one_of HT_.out (by kernel_rfl)) (by decide) (fun K hK => ?_)
 refine goes_ Try.func64 (by kernel_rfl) rfl #[.slice A0_1 l0_1.length c0_1] (by rfl) rfl rfl d9_ ?_
 with_reducible refine (impl_copyInts.calls _ _ l0_1 t143 _ ?side1 ?side2 A3.out).mono ?_
 (case side1 => exact Kd.C_below HR0_1.out (bw_ HB.out))
 (case side2 => exact HC0_1.out)
 rintro e w10 ⟨v144, rfl, ho0, hb⟩
 refine ⟨_, rfl, ?_⟩
 have HO145 := A_ (Kd.R_lower (Kd.R_new' ho0 (Kd.R_lt (kr_ HO142.out))) (below_size (bw_ HB.out)))
 replace HO142 := A_ (Kd.R_elder' (kr_ HO142.out) (Kd.R_base ho0) hb)
 replace BK138 := A_ (blk_below (bk_ BK138.out) hb)
 replace BK139 := A_ (blk_below (bk_ BK139.out) hb)
 replace HB := A_ (below_step (bw_ HB.out) hb)
 (try clear hb)
 (try clear hb2)
 (try clear hk)
 (try clear hi)
 (try clear ho0)
 refine hK.out _ _ (c9_ BK138) (fun hHeld => ?_)
 clear hK K
 refine norm_ (a' := ?_) ?_ ?_
 rotate_left
 ·show Act.put _ (some 8) _ = _
  simp only [Act.put, List.setIfInBounds_toArray, List.set_cons_zero, List.set_cons_succ, i64_w, i32_w]
  rfl
 refine one_ (i := 8) (N := some 11) (bm_ 20 6143) rfl rfl (one_of HT_.out (by kernel_rfl)) (by decide) (fun K hK => ?_)
 refine goes_ Try.func64 (by kernel_rfl) rfl #[.slice A0_6 l0_6.length c0_6] (by rfl) rfl rfl d9_ ?_
 with_reducible refine (impl_copyInts.calls _ _ l0_6 t146 _ ?side1 ?side2 A4.out).mono ?_
 (case side1 => exact Kd.C_below HR0_6.out (bw_ HB.out))
 (case side2 => exact HC0_6.out)
 rintro e w11 ⟨v147, rfl, ho0, hb⟩
 refine ⟨_, rfl, ?_⟩
 have HO148 := A_ (Kd.R_lower (Kd.R_new' (Kd.R_new' ho0 (Kd.R_lt (kr_ HO142.out))) (Kd.R_lt (kr_ HO145.out))) (below_size (bw_ HB.out)))
 replace HO142 := A_ (Kd.R_elder' (kr_ HO142.out) (Kd.R_base ho0) hb)
 replace HO145 := A_ (Kd.R_elder' (kr_ HO145.out) (Kd.R_base ho0) hb)
 replace BK138 := A_ (blk_below (bk_ BK138.out) hb)
 replace BK139 := A_ (blk_below (bk_ BK139.out) hb)
 replace HB := A_ (below_step (bw_ HB.out) hb)
 (try clear hb)
 (try clear hb2)
 (try clear hk)
 (try clear hi)
 (try clear ho0)
 refine hK.out _ _ (c9_ BK138) (fun hHeld => ?_)
 clear hK K
 refine norm_ (a' := ?_) ?_ ?_
 rotate_left
 ·show Act.put _ (some 11) _ = _
  simp only [Act.put, List.setIfInBounds_toArray, List.set_cons_zero, List.set_cons_succ, i64_w, i32_w]
  rfl
 refine one_ (i := 11) (N := some 14) (bm_ 20 8191) rfl rfl (one_of HT_.out (by kernel_rfl)) (by decide) (fun K hK => ?_)
 refine goes_ Try.func64 (by kernel_rfl) rfl #[.slice A0_7 l0_7.length c0_7] (by rfl) rfl rfl d9_ ?_
 with_reducible refine (impl_copyInts.calls _ _ l0_7 t149 _ ?side1 ?side2 A5.out).mono ?_
 (case side1 => exact Kd.C_below HR0_7.out (bw_ HB.out))
 (case side2 => exact HC0_7.out)
 rintro e w12 ⟨v150, rfl, ho0, hb⟩
 refine ⟨_, rfl, ?_⟩
 have HO151 := A_ (Kd.R_lower (Kd.R_new' (Kd.R_new' (Kd.R_new' ho0 (Kd.R_lt (kr_ HO142.out))) (Kd.R_lt (kr_ HO145.out))) (Kd.R_lt (kr_ HO148.out))) (below_size (bw_ HB.out)))
 replace HO142 := A_ (Kd.R_elder' (kr_ HO142.out) (Kd.R_base ho0) hb)
 replace HO145 := A_ (Kd.R_elder' (kr_ HO145.out) (Kd.R_base ho0) hb)
 replace HO148 := A_ (Kd.R_elder' (kr_ HO148.out) (Kd.R_base ho0) hb)
 replace BK138 := A_ (blk_below (bk_ BK138.out) hb)
 replace BK139 := A_ (blk_below (bk_ BK139.out) hb)
 replace HB := A_ (below_step (bw_ HB.out) hb)
 (try clear hb)
 (try clear hb2)
 (try clear hk)
 (try clear hi)
 (try clear ho0)
 obtain ⟨Ao13, co13, eo13⟩ := Kd.R_slice HO142.out
 (first | subst eo13 | (injection eo13 with f1_ f2_ f3_; have f4_ := f1_.symm; have f5_ := f3_.symm; clear f1_ f2_ f3_; subst f4_; subst f5_))
 obtain ⟨Ao15, co15, eo15⟩ := Kd.R_slice HO145.out
 (first | subst eo15 | (injection eo15 with f1_ f2_ f3_; have f4_ := f1_.symm; have f5_ := f3_.symm; clear f1_ f2_ f3_; subst f4_; subst f5_))
 obtain ⟨Ao17, co17, eo17⟩ := Kd.R_slice HO148.out
 (first | subst eo17 | (injection eo17 with f1_ f2_ f3_; have f4_ := f1_.symm; have f5_ := f3_.symm; clear f1_ f2_ f3_; subst f4_; subst f5_))
 obtain ⟨Ao19, co19, eo19⟩ := Kd.R_slice HO151.out
 (first | subst eo19 | (injection eo19 with f1_ f2_ f3_; have f4_ := f1_.symm; have f5_ := f3_.symm; clear f1_ f2_ f3_; subst f4_; subst f5_))
 refine hK.out _ _ (c9_ BK138) (fun hHeld => ?_)
 clear hK K
 refine norm_ (a' := ?_) ?_ ?_
 rotate_left
 ·show Act.put _ (some 14) _ = _
  simp only [Act.put, List.setIfInBounds_toArray, List.set_cons_zero, List.set_cons_succ, i64_w, i32_w]
  rfl
 refine last_ (i := 13) (N := none) (bm_ 20 16383) rfl rfl (one_of HT_.out (by kernel_rfl)) (by decide) (fun K hK => ?_)
 have hs14 : w12.cell? ⟨gb138, 0, none⟩ = some (.slice A0_0 l0_0.length c0_0) := (blk_cell BK138.out 0).trans rfl
 have hfs14 := blk_frozen BK138.out 0
 have hns14_1 := NB139_138.out
 have hms14_1 := NB138_139.out
 refine skip_ (w1 := ?_) (by rfl) rfl ?_ ?_
 rotate_left
 ·go_simp
  rfl
 refine hK.out _ _ ?_
 clear hK K
 refine pu_ 14 (some 16) (bm_ 20 32767) (any_of HT_.out (by kernel_rfl)) ?_
 refine last_ (i := 15) (N := none) (bm_ 20 65535) rfl rfl (one_of HT_.out (by kernel_rfl)) (by decide) (fun K hK => ?_)
 have hs16 : w12.cell? ⟨gb138, 1, none⟩ = some (.slice A0_1 l0_1.length c0_1) := (blk_cell BK138.out 1).trans rfl
 have hfs16 := blk_frozen BK138.out 1
 have hns16_1 := NB139_138.out
 have hms16_1 := NB138_139.out
 refine skip_ (w1 := ?_) (by rfl) rfl ?_ ?_
 rotate_left
 ·go_simp
  rfl
 refine hK.out _ _ ?_
 clear hK K
 refine pu_ 16 (some 17) (bm_ 20 131071) (any_of HT_.out (by kernel_rfl)) ?_
 refine last_ (i := 17) (N := none) (bm_ 20 262143) rfl rfl (one_of HT_.out (by kernel_rfl)) (by decide) (fun K hK => ?_)
 have hs18 : w12.cell? ⟨gb138, 6, none⟩ = some (.slice A0_6 l0_6.length c0_6) := (blk_cell BK138.out 6).trans rfl
 have hfs18 := blk_frozen BK138.out 6
 have hns18_1 := NB139_138.out
 have hms18_1 := NB138_139.out
 refine skip_ (w1 := ?_) (by rfl) rfl ?_ ?_
 rotate_left
 ·go_simp
  rfl
 refine hK.out _ _ ?_
 clear hK K
 refine pu_ 18 (some 18) (bm_ 20 524287) (any_of HT_.out (by kernel_rfl)) ?_
 refine last_ (i := 19) (N := none) (bm_ 20 1048575) rfl rfl (one_of HT_.out (by kernel_rfl)) (by decide) (fun K hK => ?_)
 have hs20 : w12.cell? ⟨gb138, 7, none⟩ = some (.slice A0_7 l0_7.length c0_7) := (blk_cell BK138.out 7).trans rfl
 have hfs20 := blk_frozen BK138.out 7
 have hns20_1 := NB139_138.out
 have hms20_1 := NB138_139.out
 refine skip_ (w1 := ?_) (by rfl) rfl ?_ ?_
 rotate_left
 ·go_simp
  rfl
 refine hK.out _ _ ?_
 clear hK K
 refine done_ (done_of HT_.out (by kernel_rfl)) ?_
 have hnb21 := NB138_139.out
 have hnc21 := NB139_138.out
 obtain ⟨y22_0, y22_1, y22_2, y22_3, y22_4, y22_5, y22_6, y22_7, y22_8, z22_0, z22_1, z22_2, z22_3, z22_4, z22_5, z22_6, z22_7, z22_8⟩ := cz9_ BK138.out
 obtain ⟨y23_0, y23_1, y23_2, y23_3, y23_4, y23_5, y23_6, y23_7, y23_8, z23_0, z23_1, z23_2, z23_3, z23_4, z23_5, z23_6, z23_7, z23_8⟩ := cz9_ BK139.out
 try go_wp2
 refine bodyPost_ret (results_cell_row rfl _ _ gb139 28 #[.slice Ao13 t140.length co13, .slice Ao15 t143.length co15, .bool a0_2, .bool a0_3, .bool a0_4, .bool a0_5, .slice Ao17 t146.length co17, .slice Ao19 t149.length co19, .int .i64 a0_8] (0, 0) _ rfl ?hb_ Try.underlying28 rfl (by kernel_rfl)) rfl ?_
 (case hb_ => refine bk_ ?_; refine blk_put (cs := #[.slice Ao13 t140.length co13, .slice Ao15 t143.length co15, .bool a0_2, .bool a0_3, .bool a0_4, .bool a0_5, .slice Ao17 t146.length co17, .slice Ao19 t149.length co19, .int .i64 0]) ?_ 8 _ rfl; refine bk_ ?_; refine blk_put (cs := #[.slice Ao13 t140.length co13, .slice Ao15 t143.length co15, .bool a0_2, .bool a0_3, .bool a0_4, .bool a0_5, .slice Ao17 t146.length co17, .slice none 0 0, .int .i64 0]) ?_ 7 _ rfl; refine bk_ ?_; refine blk_put (cs := #[.slice Ao13 t140.length co13, .slice Ao15 t143.length co15, .bool a0_2, .bool a0_3, .bool a0_4, .bool a0_5, .slice none 0 0, .slice none 0 0, .int .i64 0]) ?_ 6 _ rfl; refine bk_ ?_; refine blk_put (cs := #[.slice Ao13 t140.length co13, .slice Ao15 t143.length co15, .bool a0_2, .bool a0_3, .bool a0_4, .bool false, .slice none 0 0, .slice none 0 0, .int .i64 0]) ?_ 5 _ rfl; refine bk_ ?_; refine blk_put (cs := #[.slice Ao13 t140.length co13, .slice Ao15 t143.length co15, .bool a0_2, .bool a0_3, .bool false, .bool false, .slice none 0 0, .slice none 0 0, .int .i64 0]) ?_ 4 _ rfl; refine bk_ ?_; refine blk_put (cs := #[.slice Ao13 t140.length co13, .slice Ao15 t143.length co15, .bool a0_2, .bool false, .bool false, .bool false, .slice none 0 0, .slice none 0 0, .int .i64 0]) ?_ 3 _ rfl; refine bk_ ?_; refine blk_put (cs := #[.slice Ao13 t140.length co13, .slice Ao15 t143.length co15, .bool false, .bool false, .bool false, .bool false, .slice none 0 0, .slice none 0 0, .int .i64 0]) ?_ 2 _ rfl; refine bk_ ?_; refine blk_put (cs := #[.slice Ao13 t140.length co13, .slice none 0 0, .bool false, .bool false, .bool false, .bool false, .slice none 0 0, .slice none 0 0, .int .i64 0]) ?_ 1 _ rfl; refine bk_ ?_; refine blk_put (cs := #[.slice none 0 0, .slice none 0 0, .bool false, .bool false, .bool false, .bool false, .slice none 0 0, .slice none 0 0, .int .i64 0]) ?_ 0 _ rfl; refine bk_ ?_; refine blk_far ?_ NB139_138.out _; refine bk_ ?_; refine blk_far ?_ NB139_138.out _; refine bk_ ?_; refine blk_far ?_ NB139_138.out _; refine bk_ ?_; refine blk_far ?_ NB139_138.out _; refine bk_ ?_; exact BK139.out)
 exact ⟨_, _, _, _, by first | rfl | (simp [errW_none, errW_some] <;> rfl) | (simp [*, errW_none, errW_some] <;> rfl), kr_ (Kd.R_mono (rf9_ (Kd.R_far (p := ⟨gb138, 7, none⟩) (Kd.R_far (p := ⟨gb138, 6, none⟩) (Kd.R_far (p := ⟨gb138, 1, none⟩) (Kd.R_far (p := ⟨gb138, 0, none⟩) (Kd.R_types (Kd.R_types HO142.out BK138.out (by decide)) BK139.out (by decide)) (fun _ hk => hk.1.2) (.slice Ao13 t140.length co13)) (fun _ hk => hk.1.2) (.slice Ao15 t143.length co15)) (fun _ hk => hk.1.2) (.slice Ao17 t146.length co17)) (fun _ hk => hk.1.2) (.slice Ao19 t149.length co19)) (fun _ hk => hk.2)) (fun _ hk => ⟨hk.1.1.1.1.2, ⟨hk.1.1.1.2, hk.1.1.2⟩⟩)), kr_ (Kd.R_mono (rf9_ (Kd.R_far (p := ⟨gb138, 7, none⟩) (Kd.R_far (p := ⟨gb138, 6, none⟩) (Kd.R_far (p := ⟨gb138, 1, none⟩) (Kd.R_far (p := ⟨gb138, 0, none⟩) (Kd.R_types (Kd.R_types HO145.out BK138.out (by decide)) BK139.out (by decide)) (fun _ hk => hk.1.2) (.slice Ao13 t140.length co13)) (fun _ hk => hk.1.2) (.slice Ao15 t143.length co15)) (fun _ hk => hk.1.2) (.slice Ao17 t146.length co17)) (fun _ hk => hk.1.2) (.slice Ao19 t149.length co19)) (fun _ hk => hk.2)) (fun _ hk => ⟨hk.1.1.1.1.2, ⟨hk.1.1.1.2, hk.1.1.2⟩⟩)), kr_ (Kd.R_mono (rf9_ (Kd.R_far (p := ⟨gb138, 7, none⟩) (Kd.R_far (p := ⟨gb138, 6, none⟩) (Kd.R_far (p := ⟨gb138, 1, none⟩) (Kd.R_far (p := ⟨gb138, 0, none⟩) (Kd.R_types (Kd.R_types HO148.out BK138.out (by decide)) BK139.out (by decide)) (fun _ hk => hk.1.2) (.slice Ao13 t140.length co13)) (fun _ hk => hk.1.2) (.slice Ao15 t143.length co15)) (fun _ hk => hk.1.2) (.slice Ao17 t146.length co17)) (fun _ hk => hk.1.2) (.slice Ao19 t149.length co19)) (fun _ hk => hk.2)) (fun _ hk => ⟨hk.1.1.1.1.2, ⟨hk.1.1.1.2, hk.1.1.2⟩⟩)), kr_ (Kd.R_mono (rf9_ (Kd.R_far (p := ⟨gb138, 7, none⟩) (Kd.R_far (p := ⟨gb138, 6, none⟩) (Kd.R_far (p := ⟨gb138, 1, none⟩) (Kd.R_far (p := ⟨gb138, 0, none⟩) (Kd.R_types (Kd.R_types HO151.out BK138.out (by decide)) BK139.out (by decide)) (fun _ hk => hk.1.2) (.slice Ao13 t140.length co13)) (fun _ hk => hk.1.2) (.slice Ao15 t143.length co15)) (fun _ hk => hk.1.2) (.slice Ao17 t146.length co17)) (fun _ hk => hk.1.2) (.slice Ao19 t149.length co19)) (fun _ hk => hk.2)) (fun _ hk => ⟨hk.1.1.1.1.2, ⟨hk.1.1.1.2, hk.1.1.2⟩⟩)), bw_ HB.out⟩

/-! ### impl_WriteW: function 35 -/
def impl_WriteW.f (l0_0 : List Int) (l0_1 : List Int) (a0_2 : Bool) (a0_3 : Bool) (a0_4 : Bool) (a0_5 : Bool) (l0_6 : List Int) (l0_7 : List Int) (a0_8 : Int) (a1 : Int) (a2 : Int) : Option (List Int × List Int × Bool × Bool × Bool × Bool × List Int × List Int × Int × Bool) := (impl_copyMach.f l0_0 l0_1 a0_2 a0_3 a0_4 a0_5 l0_6 l0_7 a0_8).bind fun bt154 => ((impl_isAddr.f a1).bind fun t172 => (if t172 = true then (if (wrap64 (Int.tdiv a1 2)) ≥ (l0_0.length : Int) then (some (bt154.1, bt154.2.1, bt154.2.2.1, bt154.2.2.2.1, bt154.2.2.2.2.1, bt154.2.2.2.2.2.1, bt154.2.2.2.2.2.2.1, bt154.2.2.2.2.2.2.2.1, bt154.2.2.2.2.2.2.2.2, false)) else ((impl_Wrap.f a2).bind fun t173 => (if 0 ≤ (wrap64 (Int.tdiv a1 2)) then (if (wrap64 (Int.tdiv a1 2)) < (bt154.1.length : Int) then (some ((bt154.1.set ((wrap64 (Int.tdiv a1 2)) : Int).toNat t173), bt154.2.1, bt154.2.2.1, bt154.2.2.2.1, bt154.2.2.2.2.1, bt154.2.2.2.2.2.1, bt154.2.2.2.2.2.2.1, bt154.2.2.2.2.2.2.2.1, bt154.2.2.2.2.2.2.2.2, true)) else (none)) else (none)))) else (some (bt154.1, bt154.2.1, bt154.2.2.1, bt154.2.2.2.1, bt154.2.2.2.2.1, bt154.2.2.2.2.2.1, bt154.2.2.2.2.2.2.1, bt154.2.2.2.2.2.2.2.1, bt154.2.2.2.2.2.2.2.2, false))))
def impl_WriteW.T4 : Bool × List (List Nat × List Nat) := (true, [([], []), ([0], [0]), ([], []), ([2], [2]), ([], []), ([4], [4]), ([1, 3, 0, 1, 2, 3, 4, 5], [1, 3]), ([6, 5, 5, 0, 1, 2, 3, 4, 5], [5, 6])])
def impl_WriteW.B4 : List Nat := [0, 1, 0, 4, 0, 16, 63, 127]
theorem impl_WriteW.tab4 : rtab .any (opsOf Try.f35 4) = impl_WriteW.T4 := by kernel_rfl
theorem impl_WriteW.bits4 : waitsOk impl_WriteW.T4.2 impl_WriteW.B4 = true := by kernel_rfl
set_option maxHeartbeats 8000000 in
set_option maxRecDepth 100000 in
theorem impl_WriteW.calls (A0_0 : Option Addr) (c0_0 : Nat) (l0_0 : List Int) (A0_1 : Option Addr) (c0_1 : Nat) (l0_1 : List Int) (a0_2 : Bool) (a0_3 : Bool) (a0_4 : Bool) (a0_5 : Bool) (A0_6 : Option Addr) (c0_6 : Nat) (l0_6 : List Int) (A0_7 : Option Addr) (c0_7 : Nat) (l0_7 : List Int) (a0_8 : Int) (a1 : Int) (a2 : Int) (r1 : List Int) (r2 : List Int) (r3 : Bool) (r4 : Bool) (r5 : Bool) (r6 : Bool) (r7 : List Int) (r8 : List Int) (r9 : Int) (r10 : Bool) (w : World) (hr0_0 : Kd.C (Kd.int .i64) w A0_0 l0_0.length l0_0) (hc0_0 : l0_0.length ≤ c0_0) (hr0_1 : Kd.C (Kd.int .i64) w A0_1 l0_1.length l0_1) (hc0_1 : l0_1.length ≤ c0_1) (hr0_6 : Kd.C (Kd.int .i64) w A0_6 l0_6.length l0_6) (hc0_6 : l0_6.length ≤ c0_6) (hr0_7 : Kd.C (Kd.int .i64) w A0_7 l0_7.length l0_7) (hc0_7 : l0_7.length ≤ c0_7) (h : impl_WriteW.f l0_0 l0_1 a0_2 a0_3 a0_4 a0_5 l0_6 l0_7 a0_8 a1 a2 = some (r1, r2, r3, r4, r5, r6, r7, r8, r9, r10)) :
  Calls Try.prog 35 #[.agg #[.slice A0_0 l0_0.length c0_0, .slice A0_1 l0_1.length c0_1, .bool a0_2, .bool a0_3, .bool a0_4, .bool a0_5, .slice A0_6 l0_6.length c0_6, .slice A0_7 l0_7.length c0_7, .int .i64 a0_8], .int .i64 a1, .int .i64 a2] w fun e w' => ∃ v0_ v1_ v6_ v7_ : Value, e = .returned (.tuple #[.agg #[v0_, v1_, .bool r3, .bool r4, .bool r5, .bool r6, v6_, v7_, .int .i64 r9], .bool r10]) ∧ Kd.R (Kd.int .i64) 3 w' w.heap.size (fun k_ => some k_ ≠ (v1_ : Value).ownBlock ∧ some k_ ≠ (v6_ : Value).ownBlock ∧ some k_ ≠ (v7_ : Value).ownBlock) v0_ r1 ∧ Kd.R (Kd.int .i64) 3 w' w.heap.size (fun k_ => some k_ ≠ (v0_ : Value).ownBlock ∧ some k_ ≠ (v6_ : Value).ownBlock ∧ some k_ ≠ (v7_ : Value).ownBlock) v1_ r2 ∧ Kd.R (Kd.int .i64) 3 w' w.heap.size (fun k_ => some k_ ≠ (v0_ : Value).ownBlock ∧ some k_ ≠ (v1_ : Value).ownBlock ∧ some k_ ≠ (v7_ : Value).ownBlock) v6_ r7 ∧ Kd.R (Kd.int .i64) 3 w' w.heap.size (fun k_ => some k_ ≠ (v0_ : Value).ownBlock ∧ some k_ ≠ (v1_ : Value).ownBlock ∧ some k_ ≠ (v6_ : Value).ownBlock) v7_ r8 ∧ Below w.heap.size w w' := by
 have hu28 := Try.underlying28
 have HR0_0 := A_ hr0_0
 have HC0_0 := A_ hc0_0
 clear hr0_0 hc0_0
 have HR0_1 := A_ hr0_1
 have HC0_1 := A_ hc0_1
 clear hr0_1 hc0_1
 have HR0_6 := A_ hr0_6
 have HC0_6 := A_ hc0_6
 clear hr0_6 hc0_6
 have HR0_7 := A_ hr0_7
 have HC0_7 := A_ hc0_7
 clear hr0_7 hc0_7
 have HB := A_ (Below.refl w.heap.size w)
 have H : ((impl_copyMach.f l0_0 l0_1 a0_2 a0_3 a0_4 a0_5 l0_6 l0_7 a0_8).bind fun bt154 => ((impl_isAddr.f a1).bind fun t172 => (if t172 = true then (if (wrap64 (Int.tdiv a1 2)) ≥ (l0_0.length : Int) then (some (bt154.1, bt154.2.1, bt154.2.2.1, bt154.2.2.2.1, bt154.2.2.2.2.1, bt154.2.2.2.2.2.1, bt154.2.2.2.2.2.2.1, bt154.2.2.2.2.2.2.2.1, bt154.2.2.2.2.2.2.2.2, false)) else ((impl_Wrap.f a2).bind fun t173 => (if 0 ≤ (wrap64 (Int.tdiv a1 2)) then (if (wrap64 (Int.tdiv a1 2)) < (bt154.1.length : Int) then (some ((bt154.1.set ((wrap64 (Int.tdiv a1 2)) : Int).toNat t173), bt154.2.1, bt154.2.2.1, bt154.2.2.2.1, bt154.2.2.2.2.1, bt154.2.2.2.2.2.1, bt154.2.2.2.2.2.2.1, bt154.2.2.2.2.2.2.2.1, bt154.2.2.2.2.2.2.2.2, true)) else (none)) else (none)))) else (some (bt154.1, bt154.2.1, bt154.2.2.1, bt154.2.2.2.1, bt154.2.2.2.2.1, bt154.2.2.2.2.2.1, bt154.2.2.2.2.2.2.1, bt154.2.2.2.2.2.2.2.1, bt154.2.2.2.2.2.2.2.2, false))))) = some (r1, r2, r3, r4, r5, r6, r7, r8, r9, r10) := h
 clear h
 replace H := Option.bind_eq_some_iff.mp H
 obtain ⟨⟨t154, t157, t160, t161, t162, t163, t164, t167, t170⟩, A40, H⟩ := H
 try dsimp only at H
 have A4 := A_ A40
 clear A40
 replace H := Option.bind_eq_some_iff.mp H
 obtain ⟨t172, A50, H⟩ := H
 try dsimp only at H
 have A5 := A_ A50
 clear A50
 by_cases c6 : t172 = true
 ·subst c6
  rw [if_pos rfl] at H
  by_cases c7 : (wrap64 (Int.tdiv a1 2)) ≥ (l0_0.length : Int)
  ·rw [if_pos c7] at H
   have c7b0 := decide_eq_true c7
   clear c7
   simp only [Option.some.injEq, Prod.mk.injEq] at H
   obtain ⟨rfl, rfl, rfl, rfl, rfl, rfl, rfl, rfl, rfl, rfl⟩ := H
   go_enter Try.func35, Try.ntmps35
   go_wp2_with (first | ((with_reducible refine gate_dst (N := 3) rfl ?_); (try (refine gate_guard (by rfl) ?_; dsimp only)); refine bx_ 3 #[.slice A0_0 l0_0.length c0_0, .slice A0_1 l0_1.length c0_1, .bool a0_2, .bool a0_3, .bool a0_4, .bool a0_5, .slice A0_6 l0_6.length c0_6, .slice A0_7 l0_7.length c0_7, .int .i64 a0_8] 28 ?_; intro gb152 hg w8 hbox hb; have n0_ := A_ (below_step (bw_ HB.out) hb); have n1_ := A_ (hbox); have n2_ := A_ ((d5_ : w.heap.size ≤ gb152)); have n3_ := n2_; clear HB; have HB := n0_; have BK152 := n1_; have GW152 := n2_; have GE152 := n3_; have GI152 := GeI.mk GE152.out; clear n0_ n1_ n2_ n3_; clear hb hbox hg) | ((with_reducible refine gate_dst (N := 6) rfl ?_); (try (refine gate_guard (by rfl) ?_; dsimp only)); refine bx_ 6 #[.slice none 0 0, .slice none 0 0, .bool false, .bool false, .bool false, .bool false, .slice none 0 0, .slice none 0 0, .int .i64 0] 28 ?_; intro gb153 hg w9 hbox hb; have n0_ := A_ (blk_below (bk_ BK152.out) hb); have n1_ := A_ (below_step (bw_ HB.out) hb); have n2_ := A_ (hbox); have n3_ := A_ ((d5_ : w.heap.size ≤ gb153)); have n4_ := n3_; have n5_ := A_ ((d42_ : gb152 ≠ gb153)); have n6_ := A_ n5_.out.symm; clear BK152; clear HB; have BK152 := n0_; have HB := n1_; have BK153 := n2_; have GW153 := n3_; have GE153 := n4_; have GI153 := GeI.mk GE153.out; have NB152_153 := n5_; have NB153_152 := n6_; clear n0_ n1_ n2_ n3_ n4_ n5_ n6_; clear hb hbox hg; have hnb10 := NB152_153.out; have hnc10 := NB153_152.out; obtain ⟨y11_0, y11_1, y11_2, y11_3, y11_4, y11_5, y11_6, y11_7, y11_8, z11_0, z11_1, z11_2, z11_3, z11_4, z11_5, z11_6, z11_7, z11_8⟩ := cz9_ BK152.out) | ((with_reducible refine gate_callee (f := 68) rfl ?_); refine gL_ (some 10) Try.func68 #[.agg #[.slice A0_0 l0_0.length c0_0, .slice A0_1 l0_1.length c0_1, .bool a0_2, .bool a0_3, .bool a0_4, .bool a0_5, .slice A0_6 l0_6.length c0_6, .slice A0_7 l0_7.length c0_7, .int .i64 a0_8]] ?_; (with_reducible refine (impl_copyMach.calls _ _ l0_0 _ _ l0_1 a0_2 a0_3 a0_4 a0_5 _ _ l0_6 _ _ l0_7 a0_8 t154 t157 t160 t161 t162 t163 t164 t167 t170 _ ?side1 ?side2 ?side3 ?side4 ?side5 ?side6 ?side7 ?side8 A4.out).mono ?_); (case side1 => exact Kd.C_below HR0_0.out (bw_ HB.out)); (case side2 => exact HC0_0.out); (case side3 => exact Kd.C_below HR0_1.out (bw_ HB.out)); (case side4 => exact HC0_1.out); (case side5 => exact Kd.C_below HR0_6.out (bw_ HB.out)); (case side6 => exact HC0_6.out); (case side7 => exact Kd.C_below HR0_7.out (bw_ HB.out)); (case side8 => exact HC0_7.out); rintro e w12 ⟨v155, v158, v165, v168, rfl, ho0, ho1, ho2, ho3, hb⟩; refine ⟨_, rfl, ?_⟩; have HO156 := A_ (Kd.R_lower ho0 (below_size (bw_ HB.out))); have HO159 := A_ (Kd.R_lower ho1 (below_size (bw_ HB.out))); have HO166 := A_ (Kd.R_lower ho2 (below_size (bw_ HB.out))); have HO169 := A_ (Kd.R_lower ho3 (below_size (bw_ HB.out))); replace BK152 := A_ (blk_below (bk_ BK152.out) hb); replace BK153 := A_ (blk_below (bk_ BK153.out) hb); replace HB := A_ (below_step (bw_ HB.out) hb); clear hb; (try clear ho0); (try clear ho1); (try clear ho2); (try clear ho3)) | ((with_reducible refine gate_dst (N := 8) rfl ?_); (try (refine gate_guard (by rfl) ?_; dsimp only)); refine bx_ 8 #[.slice none 0 0, .slice none 0 0, .bool false, .bool false, .bool false, .bool false, .slice none 0 0, .slice none 0 0, .int .i64 0] 28 ?_; intro gb171 hg w13 hbox hb; have n0_ := A_ (Kd.R_below (kr_ HO156.out) hb); have n1_ := A_ (Kd.R_below (kr_ HO159.out) hb); have n2_ := A_ (Kd.R_below (kr_ HO166.out) hb); have n3_ := A_ (Kd.R_below (kr_ HO169.out) hb); have n4_ := A_ (blk_below (bk_ BK152.out) hb); have n5_ := A_ (blk_below (bk_ BK153.out) hb); have n6_ := A_ (below_step (bw_ HB.out) hb); have n7_ := A_ (hbox); have n8_ := A_ ((d5_ : w.heap.size ≤ gb171)); have n9_ := n8_; have n10_ := A_ ((d42_ : gb152 ≠ gb171)); have n11_ := A_ n10_.out.symm; have n12_ := A_ ((by rw [hg]; exact Nat.ne_of_lt (blk_lt (bk_ BK153.out)) : gb153 ≠ gb171)); have n13_ := A_ n12_.out.symm; clear HO156; clear HO159; clear HO166; clear HO169; clear BK152; clear BK153; clear HB; have HO156 := n0_; have HO159 := n1_; have HO166 := n2_; have HO169 := n3_; have BK152 := n4_; have BK153 := n5_; have HB := n6_; have BK171 := n7_; have GW171 := n8_; have GE171 := n9_; have GI171 := GeI.mk GE171.out; have NB152_171 := n10_; have NB171_152 := n11_; have NB153_171 := n12_; have NB171_153 := n13_; clear n0_ n1_ n2_ n3_ n4_ n5_ n6_ n7_ n8_ n9_ n10_ n11_ n12_ n13_; clear hb hbox hg; obtain ⟨Ao14, co14, eo14⟩ := Kd.R_slice HO156.out; subst eo14; have hnb15 := NB171_152.out; have hnc15 := NB152_171.out; have hnb16 := NB171_153.out; have hnc16 := NB153_171.out; obtain ⟨y17_0, y17_1, y17_2, y17_3, y17_4, y17_5, y17_6, y17_7, y17_8, z17_0, z17_1, z17_2, z17_3, z17_4, z17_5, z17_6, z17_7, z17_8⟩ := cz9_ BK171.out; obtain ⟨Ao18, co18, eo18⟩ := Kd.R_slice HO159.out; subst eo18; obtain ⟨Ao19, co19, eo19⟩ := Kd.R_slice HO166.out; subst eo19; obtain ⟨Ao20, co20, eo20⟩ := Kd.R_slice HO169.out; subst eo20) | ((with_reducible refine gate_callee (f := 58) rfl ?_); refine gL_ (some 12) Try.func58 #[.int .i64 a1] ?_; (with_reducible refine (impl_isAddr.calls a1 true _ A5.out).mono ?_); rintro e w' ⟨rfl, ⟨nd, rfl⟩⟩; refine ⟨_, rfl, ?_⟩; obtain ⟨y21_0, y21_1, y21_2, y21_3, y21_4, y21_5, y21_6, y21_7, y21_8, z21_0, z21_1, z21_2, z21_3, z21_4, z21_5, z21_6, z21_7, z21_8⟩ := cz9_ BK152.out; obtain ⟨y22_0, y22_1, y22_2, y22_3, y22_4, y22_5, y22_6, y22_7, y22_8, z22_0, z22_1, z22_2, z22_3, z22_4, z22_5, z22_6, z22_7, z22_8⟩ := cz9_ BK153.out))
   refine bodyPost_ret (results_ct rfl _ _ gb153 28 #[.slice Ao14 t154.length co14, .slice Ao18 t157.length co18, .bool t160, .bool t161, .bool t162, .bool t163, .slice Ao19 t164.length co19, .slice Ao20 t167.length co20, .int .i64 t170] (0, 0) _ rfl ?hb_ Try.underlying28 rfl (by kernel_rfl)) rfl ?_
   (case hb_ => refine bk_ ?_; refine blk_put (cs := #[.slice Ao14 t154.length co14, .slice Ao18 t157.length co18, .bool t160, .bool t161, .bool t162, .bool t163, .slice Ao19 t164.length co19, .slice Ao20 t167.length co20, .int .i64 0]) ?_ 8 _ rfl; refine bk_ ?_; refine blk_put (cs := #[.slice Ao14 t154.length co14, .slice Ao18 t157.length co18, .bool t160, .bool t161, .bool t162, .bool t163, .slice Ao19 t164.length co19, .slice none 0 0, .int .i64 0]) ?_ 7 _ rfl; refine bk_ ?_; refine blk_put (cs := #[.slice Ao14 t154.length co14, .slice Ao18 t157.length co18, .bool t160, .bool t161, .bool t162, .bool t163, .slice none 0 0, .slice none 0 0, .int .i64 0]) ?_ 6 _ rfl; refine bk_ ?_; refine blk_put (cs := #[.slice Ao14 t154.length co14, .slice Ao18 t157.length co18, .bool t160, .bool t161, .bool t162, .bool false, .slice none 0 0, .slice none 0 0, .int .i64 0]) ?_ 5 _ rfl; refine bk_ ?_; refine blk_put (cs := #[.slice Ao14 t154.length co14, .slice Ao18 t157.length co18, .bool t160, .bool t161, .bool false, .bool false, .slice none 0 0, .slice none 0 0, .int .i64 0]) ?_ 4 _ rfl; refine bk_ ?_; refine blk_put (cs := #[.slice Ao14 t154.length co14, .slice Ao18 t157.length co18, .bool t160, .bool false, .bool false, .bool false, .slice none 0 0, .slice none 0 0, .int .i64 0]) ?_ 3 _ rfl; refine bk_ ?_; refine blk_put (cs := #[.slice Ao14 t154.length co14, .slice Ao18 t157.length co18, .bool false, .bool false, .bool false, .bool false, .slice none 0 0, .slice none 0 0, .int .i64 0]) ?_ 2 _ rfl; refine bk_ ?_; refine blk_put (cs := #[.slice Ao14 t154.length co14, .slice none 0 0, .bool false, .bool false, .bool false, .bool false, .slice none 0 0, .slice none 0 0, .int .i64 0]) ?_ 1 _ rfl; refine bk_ ?_; refine blk_put (cs := #[.slice none 0 0, .slice none 0 0, .bool false, .bool false, .bool false, .bool false, .slice none 0 0, .slice none 0 0, .int .i64 0]) ?_ 0 _ rfl; refine bk_ ?_; refine blk_far ?_ NB153_171.out _; refine bk_ ?_; refine blk_far ?_ NB153_171.out _; refine bk_ ?_; refine blk_far ?_ NB153_171.out _; refine bk_ ?_; refine blk_far ?_ NB153_171.out _; refine bk_ ?_; refine blk_far ?_ NB153_171.out _; refine bk_ ?_; refine blk_far ?_ NB153_171.out _; refine bk_ ?_; refine blk_far ?_ NB153_171.out _; refine bk_ ?_; refine blk_far ?_ NB153_171.out _; refine bk_ ?_; refine blk_far ?_ NB153_171.out _; refine bk_ ?_; exact BK153.out)
   exact ⟨_, _, _, _, by first | rfl | (simp [errW_none, errW_some] <;> rfl) | (simp [*, errW_none, errW_some] <;> rfl), by (with_reducible repeat (first | apply Kd.R_alloc | apply Kd.R_drewN | apply Kd.R_drew)); exact Kd.R_mono (rf9_ (Kd.R_drewN (Kd.R_far (p := ⟨gb171, 8, none⟩) (Kd.R_far (p := ⟨gb171, 7, none⟩) (Kd.R_far (p := ⟨gb171, 6, none⟩) (Kd.R_far (p := ⟨gb171, 5, none⟩) (Kd.R_far (p := ⟨gb171, 4, none⟩) (Kd.R_far (p := ⟨gb171, 3, none⟩) (Kd.R_far (p := ⟨gb171, 2, none⟩) (Kd.R_far (p := ⟨gb171, 1, none⟩) (Kd.R_far (p := ⟨gb171, 0, none⟩) (Kd.R_types (Kd.R_types HO156.out BK171.out (by decide)) BK153.out (by decide)) (fun _ hk => hk.1.2) (.slice Ao14 t154.length co14)) (fun _ hk => hk.1.2) (.slice Ao18 t157.length co18)) (fun _ hk => hk.1.2) (.bool t160)) (fun _ hk => hk.1.2) (.bool t161)) (fun _ hk => hk.1.2) (.bool t162)) (fun _ hk => hk.1.2) (.bool t163)) (fun _ hk => hk.1.2) (.slice Ao19 t164.length co19)) (fun _ hk => hk.1.2) (.slice Ao20 t167.length co20)) (fun _ hk => hk.1.2) (.int .i64 t170)) _) (fun _ hk => hk.2)) (fun _ hk => ⟨hk.1.1.1, ⟨hk.1.1.2.1, hk.1.1.2.2⟩⟩), by (with_reducible repeat (first | apply Kd.R_alloc | apply Kd.R_drewN | apply Kd.R_drew)); exact Kd.R_mono (rf9_ (Kd.R_drewN (Kd.R_far (p := ⟨gb171, 8, none⟩) (Kd.R_far (p := ⟨gb171, 7, none⟩) (Kd.R_far (p := ⟨gb171, 6, none⟩) (Kd.R_far (p := ⟨gb171, 5, none⟩) (Kd.R_far (p := ⟨gb171, 4, none⟩) (Kd.R_far (p := ⟨gb171, 3, none⟩) (Kd.R_far (p := ⟨gb171, 2, none⟩) (Kd.R_far (p := ⟨gb171, 1, none⟩) (Kd.R_far (p := ⟨gb171, 0, none⟩) (Kd.R_types (Kd.R_types HO159.out BK171.out (by decide)) BK153.out (by decide)) (fun _ hk => hk.1.2) (.slice Ao14 t154.length co14)) (fun _ hk => hk.1.2) (.slice Ao18 t157.length co18)) (fun _ hk => hk.1.2) (.bool t160)) (fun _ hk => hk.1.2) (.bool t161)) (fun _ hk => hk.1.2) (.bool t162)) (fun _ hk => hk.1.2) (.bool t163)) (fun _ hk => hk.1.2) (.slice Ao19 t164.length co19)) (fun _ hk => hk.1.2) (.slice Ao20 t167.length co20)) (fun _ hk => hk.1.2) (.int .i64 t170)) _) (fun _ hk => hk.2)) (fun _ hk => ⟨hk.1.1.1, ⟨hk.1.1.2.1, hk.1.1.2.2⟩⟩), by (with_reducible repeat (first | apply Kd.R_alloc | apply Kd.R_drewN | apply Kd.R_drew)); exact Kd.R_mono (rf9_ (Kd.R_drewN (Kd.R_far (p := ⟨gb171, 8, none⟩) (Kd.R_far (p := ⟨gb171, 7, none⟩) (Kd.R_far (p := ⟨gb171, 6, none⟩) (Kd.R_far (p := ⟨gb171, 5, none⟩) (Kd.R_far (p := ⟨gb171, 4, none⟩) (Kd.R_far (p := ⟨gb171, 3, none⟩) (Kd.R_far (p := ⟨gb171, 2, none⟩) (Kd.R_far (p := ⟨gb171, 1, none⟩) (Kd.R_far (p := ⟨gb171, 0, none⟩) (Kd.R_types (Kd.R_types HO166.out BK171.out (by decide)) BK153.out (by decide)) (fun _ hk => hk.1.2) (.slice Ao14 t154.length co14)) (fun _ hk => hk.1.2) (.slice Ao18 t157.length co18)) (fun _ hk => hk.1.2) (.bool t160)) (fun _ hk => hk.1.2) (.bool t161)) (fun _ hk => hk.1.2) (.bool t162)) (fun _ hk => hk.1.2) (.bool t163)) (fun _ hk => hk.1.2) (.slice Ao19 t164.length co19)) (fun _ hk => hk.1.2) (.slice Ao20 t167.length co20)) (fun _ hk => hk.1.2) (.int .i64 t170)) _) (fun _ hk => hk.2)) (fun _ hk => ⟨hk.1.1.1, ⟨hk.1.1.2.1, hk.1.1.2.2⟩⟩), by (with_reducible repeat (first | apply Kd.R_alloc | apply Kd.R_drewN | apply Kd.R_drew)); exact Kd.R_mono (rf9_ (Kd.R_drewN (Kd.R_far (p := ⟨gb171, 8, none⟩) (Kd.R_far (p := ⟨gb171, 7, none⟩) (Kd.R_far (p := ⟨gb171, 6, none⟩) (Kd.R_far (p := ⟨gb171, 5, none⟩) (Kd.R_far (p := ⟨gb171, 4, none⟩) (Kd.R_far (p := ⟨gb171, 3, none⟩) (Kd.R_far (p := ⟨gb171, 2, none⟩) (Kd.R_far (p := ⟨gb171, 1, none⟩) (Kd.R_far (p := ⟨gb171, 0, none⟩) (Kd.R_types (Kd.R_types HO169.out BK171.out (by decide)) BK153.out (by decide)) (fun _ hk => hk.1.2) (.slice Ao14 t154.length co14)) (fun _ hk => hk.1.2) (.slice Ao18 t157.length co18)) (fun _ hk => hk.1.2) (.bool t160)) (fun _ hk => hk.1.2) (.bool t161)) (fun _ hk => hk.1.2) (.bool t162)) (fun _ hk => hk.1.2) (.bool t163)) (fun _ hk => hk.1.2) (.slice Ao19 t164.length co19)) (fun _ hk => hk.1.2) (.slice Ao20 t167.length co20)) (fun _ hk => hk.1.2) (.int .i64 t170)) _) (fun _ hk => hk.2)) (fun _ hk => ⟨hk.1.1.1, ⟨hk.1.1.2.1, hk.1.1.2.2⟩⟩), bw_ HB.out⟩
  ·rw [if_neg c7] at H
   have c7b0 := decide_eq_false c7
   clear c7
   replace H := Option.bind_eq_some_iff.mp H
   obtain ⟨t173, A230, H⟩ := H
   try dsimp only at H
   have A23 := A_ A230
   clear A230
   obtain ⟨ji24, hji24⟩ : ∃ j_ : Int, (wrap64 (Int.tdiv a1 2)) = j_ := ⟨_, rfl⟩
   replace H : (if 0 ≤ (ji24) then (if (ji24) < (t154.length : Int) then (some ((t154.set ((ji24) : Int).toNat t173), t157, t160, t161, t162, t163, t164, t167, t170, true)) else (none)) else (none)) = some (r1, r2, r3, r4, r5, r6, r7, r8, r9, r10) := by first | (rw [hji24] at H; exact H) | (simp only [hji24] at H ⊢; exact H)
   (try rw [hji24] at c7b0)
   (try rw [hji24] at A4)
   (try rw [hji24] at A5)
   (try rw [hji24] at A23)
   have hji24w : (IntKind.i64.wrap (Int.tdiv a1 2)) = ji24 := (i64_w _).trans hji24
   by_cases c25 : 0 ≤ (ji24)
   ·rw [if_pos c25] at H
    have c25b0 := decide_eq_true c25
    clear c25
    by_cases c26 : (ji24) < (t154.length : Int)
    ·rw [if_pos c26] at H
     have c26b0 := decide_eq_true c26
     clear c26
     obtain ⟨y174, hy174⟩ : ∃ y_ : List Int, y_ = (t154.set ((ji24) : Int).toNat t173) := ⟨_, rfl⟩
     replace H : (some (y174, t157, t160, t161, t162, t163, t164, t167, t170, true)) = some (r1, r2, r3, r4, r5, r6, r7, r8, r9, r10) := by first | (rw [hy174]; with_reducible exact H) | (have H2_ := (Option.bind_some _ _).symm.trans H; rw [hy174]; with_reducible exact H2_) | (have H2_ := (Option.bind_some _ _).symm.trans H; with_reducible exact H2_) | with_reducible exact H | (rw [hy174]; exact H) | exact H
     have Ny174 := A_ hy174
     clear hy174
     simp only [Option.some.injEq, Prod.mk.injEq] at H
     obtain ⟨rfl, rfl, rfl, rfl, rfl, rfl, rfl, rfl, rfl, rfl⟩ := H
     go_enter Try.func35, Try.ntmps35
     try go_wp2_with (first | ((with_reducible refine gate_dst (N := 3) rfl ?_); (try (refine gate_guard (by rfl) ?_; dsimp only)); refine bx_ 3 #[.slice A0_0 l0_0.length c0_0, .slice A0_1 l0_1.length c0_1, .bool a0_2, .bool a0_3, .bool a0_4, .bool a0_5, .slice A0_6 l0_6.length c0_6, .slice A0_7 l0_7.length c0_7, .int .i64 a0_8] 28 ?_; intro gb152 hg w28 hbox hb; have n0_ := A_ (below_step (bw_ HB.out) hb); have n1_ := A_ (hbox); have n2_ := A_ ((d5_ : w.heap.size ≤ gb152)); have n3_ := n2_; clear HB; have HB := n0_; have BK152 := n1_; have GW152 := n2_; have GE152 := n3_; have GI152 := GeI.mk GE152.out; clear n0_ n1_ n2_ n3_; clear hb hbox hg) | ((with_reducible refine gate_dst (N := 6) rfl ?_); (try (refine gate_guard (by rfl) ?_; dsimp only)); refine bx_ 6 #[.slice none 0 0, .slice none 0 0, .bool false, .bool false, .bool false, .bool false, .slice none 0 0, .slice none 0 0, .int .i64 0] 28 ?_; intro gb153 hg w29 hbox hb; have n0_ := A_ (blk_below (bk_ BK152.out) hb); have n1_ := A_ (below_step (bw_ HB.out) hb); have n2_ := A_ (hbox); have n3_ := A_ ((d5_ : w.heap.size ≤ gb153)); have n4_ := n3_; have n5_ := A_ ((d42_ : gb152 ≠ gb153)); have n6_ := A_ n5_.out.symm; clear BK152; clear HB; have BK152 := n0_; have HB := n1_; have BK153 := n2_; have GW153 := n3_; have GE153 := n4_; have GI153 := GeI.mk GE153.out; have NB152_153 := n5_; have NB153_152 := n6_; clear n0_ n1_ n2_ n3_ n4_ n5_ n6_; clear hb hbox hg; have hnb30 := NB152_153.out; have hnc30 := NB153_152.out; obtain ⟨y31_0, y31_1, y31_2, y31_3, y31_4, y31_5, y31_6, y31_7, y31_8, z31_0, z31_1, z31_2, z31_3, z31_4, z31_5, z31_6, z31_7, z31_8⟩ := cz9_ BK152.out) | ((with_reducible refine gate_callee (f := 68) rfl ?_); refine gL_ (some 10) Try.func68 #[.agg #[.slice A0_0 l0_0.length c0_0, .slice A0_1 l0_1.length c0_1, .bool a0_2, .bool a0_3, .bool a0_4, .bool a0_5, .slice A0_6 l0_6.length c0_6, .slice A0_7 l0_7.length c0_7, .int .i64 a0_8]] ?_; (with_reducible refine (impl_copyMach.calls _ _ l0_0 _ _ l0_1 a0_2 a0_3 a0_4 a0_5 _ _ l0_6 _ _ l0_7 a0_8 t154 t157 t160 t161 t162 t163 t164 t167 t170 _ ?side1 ?side2 ?side3 ?side4 ?side5 ?side6 ?side7 ?side8 A4.out).mono ?_); (case side1 => exact Kd.C_below HR0_0.out (bw_ HB.out)); (case side2 => exact HC0_0.out); (case side3 => exact Kd.C_below HR0_1.out (bw_ HB.out)); (case side4 => exact HC0_1.out); (case side5 => exact Kd.C_below HR0_6.out (bw_ HB.out)); (case side6 => exact HC0_6.out); (case side7 => exact Kd.C_below HR0_7.out (bw_ HB.out)); (case side8 => exact HC0_7.out); rintro e w32 ⟨v155, v158, v165, v168, rfl, ho0, ho1, ho2, ho3, hb⟩; refine ⟨_, rfl, ?_⟩; have HO156 := A_ (Kd.R_lower ho0 (below_size (bw_ HB.out))); have HO159 := A_ (Kd.R_lower ho1 (below_size (bw_ HB.out))); have HO166 := A_ (Kd.R_lower ho2 (below_size (bw_ HB.out))); have HO169 := A_ (Kd.R_lower ho3 (below_size (bw_ HB.out))); replace BK152 := A_ (blk_below (bk_ BK152.out) hb); replace BK153 := A_ (blk_below (bk_ BK153.out) hb); replace HB := A_ (below_step (bw_ HB.out) hb); clear hb; (try clear ho0); (try clear ho1); (try clear ho2); (try clear ho3)) | ((with_reducible refine gate_dst (N := 8) rfl ?_); (try (refine gate_guard (by rfl) ?_; dsimp only)); refine bx_ 8 #[.slice none 0 0, .slice none 0 0, .bool false, .bool false, .bool false, .bool false, .slice none 0 0, .slice none 0 0, .int .i64 0] 28 ?_; intro gb171 hg w33 hbox hb; have n0_ := A_ (Kd.R_below (kr_ HO156.out) hb); have n1_ := A_ (Kd.R_below (kr_ HO159.out) hb); have n2_ := A_ (Kd.R_below (kr_ HO166.out) hb); have n3_ := A_ (Kd.R_below (kr_ HO169.out) hb); have n4_ := A_ (blk_below (bk_ BK152.out) hb); have n5_ := A_ (blk_below (bk_ BK153.out) hb); have n6_ := A_ (below_step (bw_ HB.out) hb); have n7_ := A_ (hbox); have n8_ := A_ ((d5_ : w.heap.size ≤ gb171)); have n9_ := n8_; have n10_ := A_ ((d42_ : gb152 ≠ gb171)); have n11_ := A_ n10_.out.symm; have n12_ := A_ ((by rw [hg]; exact Nat.ne_of_lt (blk_lt (bk_ BK153.out)) : gb153 ≠ gb171)); have n13_ := A_ n12_.out.symm; clear HO156; clear HO159; clear HO166; clear HO169; clear BK152; clear BK153; clear HB; have HO156 := n0_; have HO159 := n1_; have HO166 := n2_; have HO169 := n3_; have BK152 := n4_; have BK153 := n5_; have HB := n6_; have BK171 := n7_; have GW171 := n8_; have GE171 := n9_; have GI171 := GeI.mk GE171.out; have NB152_171 := n10_; have NB171_152 := n11_; have NB153_171 := n12_; have NB171_153 := n13_; clear n0_ n1_ n2_ n3_ n4_ n5_ n6_ n7_ n8_ n9_ n10_ n11_ n12_ n13_; clear hb hbox hg; obtain ⟨Ao34, co34, eo34⟩ := Kd.R_slice HO156.out; subst eo34; have hnb35 := NB171_152.out; have hnc35 := NB152_171.out; have hnb36 := NB171_153.out; have hnc36 := NB153_171.out; obtain ⟨y37_0, y37_1, y37_2, y37_3, y37_4, y37_5, y37_6, y37_7, y37_8, z37_0, z37_1, z37_2, z37_3, z37_4, z37_5, z37_6, z37_7, z37_8⟩ := cz9_ BK171.out; obtain ⟨Ao38, co38, eo38⟩ := Kd.R_slice HO159.out; subst eo38; obtain ⟨Ao39, co39, eo39⟩ := Kd.R_slice HO166.out; subst eo39; obtain ⟨Ao40, co40, eo40⟩ := Kd.R_slice HO169.out; subst eo40) | ((with_reducible refine gate_callee (f := 58) rfl ?_); refine gL_ (some 12) Try.func58 #[.int .i64 a1] ?_; (with_reducible refine (impl_isAddr.calls a1 true _ A5.out).mono ?_); rintro e w' ⟨rfl, ⟨nd, rfl⟩⟩; refine ⟨_, rfl, ?_⟩; obtain ⟨y41_0, y41_1, y41_2, y41_3, y41_4, y41_5, y41_6, y41_7, y41_8, z41_0, z41_1, z41_2, z41_3, z41_4, z41_5, z41_6, z41_7, z41_8⟩ := cz9_ BK152.out))
     obtain ⟨w42, hz_⟩ : ∃ z_, z_ = (((((((((w33.setCell ⟨gb171, 0, none⟩ (.slice Ao34 t154.length co34)).setCell ⟨gb171, 1, none⟩ (.slice Ao38 t157.length co38)).setCell ⟨gb171, 2, none⟩ (.bool t160)).setCell ⟨gb171, 3, none⟩ (.bool t161)).setCell ⟨gb171, 4, none⟩ (.bool t162)).setCell ⟨gb171, 5, none⟩ (.bool t163)).setCell ⟨gb171, 6, none⟩ (.slice Ao39 t164.length co39)).setCell ⟨gb171, 7, none⟩ (.slice Ao40 t167.length co40)).setCell ⟨gb171, 8, none⟩ (.int .i64 t170)) := ⟨_, rfl⟩
     have n0_ : Aside0 (Kd.R (Kd.int .i64) 3 w42 w.heap.size (fun k_ => some k_ ≠ (.slice Ao38 t157.length co38 : Value).ownBlock ∧ some k_ ≠ (.slice Ao39 t164.length co39 : Value).ownBlock ∧ some k_ ≠ (.slice Ao40 t167.length co40 : Value).ownBlock) (.slice Ao34 t154.length co34) t154) := ⟨by rw [hz_]; (with_reducible repeat (first | apply Kd.R_alloc | apply Kd.R_drewN | apply Kd.R_drew)); exact Kd.R_mono (rf9_ (Kd.R_types HO156.out BK171.out (by decide)) (fun _ hk => hk.2)) (fun _ hk => ⟨hk.1.1, ⟨hk.1.2.1, hk.1.2.2⟩⟩)⟩
     have n1_ : Aside0 (Kd.R (Kd.int .i64) 3 w42 w.heap.size (fun k_ => some k_ ≠ (.slice Ao34 t154.length co34 : Value).ownBlock ∧ some k_ ≠ (.slice Ao39 t164.length co39 : Value).ownBlock ∧ some k_ ≠ (.slice Ao40 t167.length co40 : Value).ownBlock) (.slice Ao38 t157.length co38) t157) := ⟨by rw [hz_]; (with_reducible repeat (first | apply Kd.R_alloc | apply Kd.R_drewN | apply Kd.R_drew)); exact Kd.R_mono (rf9_ (Kd.R_types HO159.out BK171.out (by decide)) (fun _ hk => hk.2)) (fun _ hk => ⟨hk.1.1, ⟨hk.1.2.1, hk.1.2.2⟩⟩)⟩
     have n2_ : Aside0 (Kd.R (Kd.int .i64) 3 w42 w.heap.size (fun k_ => some k_ ≠ (.slice Ao34 t154.length co34 : Value).ownBlock ∧ some k_ ≠ (.slice Ao38 t157.length co38 : Value).ownBlock ∧ some k_ ≠ (.slice Ao40 t167.length co40 : Value).ownBlock) (.slice Ao39 t164.length co39) t164) := ⟨by rw [hz_]; (with_reducible repeat (first | apply Kd.R_alloc | apply Kd.R_drewN | apply Kd.R_drew)); exact Kd.R_mono (rf9_ (Kd.R_types HO166.out BK171.out (by decide)) (fun _ hk => hk.2)) (fun _ hk => ⟨hk.1.1, ⟨hk.1.2.1, hk.1.2.2⟩⟩)⟩
     have n3_ : Aside0 (Kd.R (Kd.int .i64) 3 w42 w.heap.size (fun k_ => some k_ ≠ (.slice Ao34 t154.length co34 : Value).ownBlock ∧ some k_ ≠ (.slice Ao38 t157.length co38 : Value).ownBlock ∧ some k_ ≠ (.slice Ao39 t164.length co39 : Value).ownBlock) (.slice Ao40 t167.length co40) t167) := ⟨by rw [hz_]; (with_reducible repeat (first | apply Kd.R_alloc | apply Kd.R_drewN | apply Kd.R_drew)); exact Kd.R_mono (rf9_ (Kd.R_types HO169.out BK171.out (by decide)) (fun _ hk => hk.2)) (fun _ hk => ⟨hk.1.1, ⟨hk.1.2.1, hk.1.2.2⟩⟩)⟩
     have n4_ : Aside0 (w42.heap[gb152]? = some (.cells #[.slice A0_0 l0_0.length c0_0, .slice A0_1 l0_1.length c0_1, .bool a0_2, .bool a0_3, .bool a0_4, .bool a0_5, .slice A0_6 l0_6.length c0_6, .slice A0_7 l0_7.length c0_7, .int .i64 a0_8] 28 (0, 0))) := ⟨by rw [hz_]; refine bk_ ?_; refine blk_far ?_ NB152_171.out _; refine bk_ ?_; refine blk_far ?_ NB152_171.out _; refine bk_ ?_; refine blk_far ?_ NB152_171.out _; refine bk_ ?_; refine blk_far ?_ NB152_171.out _; refine bk_ ?_; refine blk_far ?_ NB152_171.out _; refine bk_ ?_; refine blk_far ?_ NB152_171.out _; refine bk_ ?_; refine blk_far ?_ NB152_171.out _; refine bk_ ?_; refine blk_far ?_ NB152_171.out _; refine bk_ ?_; refine blk_far ?_ NB152_171.out _; refine bk_ ?_; exact BK152.out⟩
     have n5_ : Aside0 (w42.heap[gb153]? = some (.cells #[.slice none 0 0, .slice none 0 0, .bool false, .bool false, .bool false, .bool false, .slice none 0 0, .slice none 0 0, .int .i64 0] 28 (0, 0))) := ⟨by rw [hz_]; refine bk_ ?_; refine blk_far ?_ NB153_171.out _; refine bk_ ?_; refine blk_far ?_ NB153_171.out _; refine bk_ ?_; refine blk_far ?_ NB153_171.out _; refine bk_ ?_; refine blk_far ?_ NB153_171.out _; refine bk_ ?_; refine blk_far ?_ NB153_171.out _; refine bk_ ?_; refine blk_far ?_ NB153_171.out _; refine bk_ ?_; refine blk_far ?_ NB153_171.out _; refine bk_ ?_; refine blk_far ?_ NB153_171.out _; refine bk_ ?_; refine blk_far ?_ NB153_171.out _; refine bk_ ?_; exact BK153.out⟩
     have n6_ : Aside0 (w42.heap[gb171]? = some (.cells #[.slice Ao34 t154.length co34, .slice Ao38 t157.length co38, .bool t160, .bool t161, .bool t162, .bool t163, .slice Ao39 t164.length co39, .slice Ao40 t167.length co40, .int .i64 t170] 28 (0, 0))) := ⟨by rw [hz_]; exact bk_ (bp9_ (bk_ BK171.out))⟩
     have n7_ : Aside0 (Below w.heap.size w w42) := ⟨by rw [hz_]; exact bw_ HB.out⟩
     (try clear HO156)
     (try clear HO159)
     (try clear HO166)
     (try clear HO169)
     (try clear BK152)
     (try clear BK153)
     (try clear BK171)
     (try clear HB)
     rw [← hz_]
     clear hz_
     have HO156 := n0_
     have HO159 := n1_
     have HO166 := n2_
     have HO169 := n3_
     have BK152 := n4_
     have BK153 := n5_
     have BK171 := n6_
     have HB := n7_
     clear n0_ n1_ n2_ n3_ n4_ n5_ n6_ n7_
     (try (rw [drewN_self w42]; generalize hq_ : World.drewN w42 _ = w42; have n0_ := A_ (rq_ hq_ HO156.out); have n1_ := A_ (rq_ hq_ HO159.out); have n2_ := A_ (rq_ hq_ HO166.out); have n3_ := A_ (rq_ hq_ HO169.out); have n4_ := A_ (bq_ hq_ BK152.out); have n5_ := A_ (bq_ hq_ BK153.out); have n6_ := A_ (bq_ hq_ BK171.out); have n7_ := A_ (wq_ hq_ HB.out); clear HO156 HO159 HO166 HO169 BK152 BK153 BK171 HB hq_; have HO156 := n0_; have HO159 := n1_; have HO166 := n2_; have HO169 := n3_; have BK152 := n4_; have BK153 := n5_; have BK171 := n6_; have HB := n7_; clear n0_ n1_ n2_ n3_ n4_ n5_ n6_ n7_; have hcq152_0 : w42.cell? ⟨gb152, 0, none⟩ = some (.slice A0_0 l0_0.length c0_0) := (blk_cell BK152.out 0).trans rfl; have hcq152_1 : w42.cell? ⟨gb152, 1, none⟩ = some (.slice A0_1 l0_1.length c0_1) := (blk_cell BK152.out 1).trans rfl; have hcq152_2 : w42.cell? ⟨gb152, 2, none⟩ = some (.bool a0_2) := (blk_cell BK152.out 2).trans rfl; have hcq152_3 : w42.cell? ⟨gb152, 3, none⟩ = some (.bool a0_3) := (blk_cell BK152.out 3).trans rfl; have hcq152_4 : w42.cell? ⟨gb152, 4, none⟩ = some (.bool a0_4) := (blk_cell BK152.out 4).trans rfl; have hcq152_5 : w42.cell? ⟨gb152, 5, none⟩ = some (.bool a0_5) := (blk_cell BK152.out 5).trans rfl; have hcq152_6 : w42.cell? ⟨gb152, 6, none⟩ = some (.slice A0_6 l0_6.length c0_6) := (blk_cell BK152.out 6).trans rfl; have hcq152_7 : w42.cell? ⟨gb152, 7, none⟩ = some (.slice A0_7 l0_7.length c0_7) := (blk_cell BK152.out 7).trans rfl; have hcq152_8 : w42.cell? ⟨gb152, 8, none⟩ = some (.int .i64 a0_8) := (blk_cell BK152.out 8).trans rfl; have hcq153_0 : w42.cell? ⟨gb153, 0, none⟩ = some (.slice none 0 0) := (blk_cell BK153.out 0).trans rfl; have hcq153_1 : w42.cell? ⟨gb153, 1, none⟩ = some (.slice none 0 0) := (blk_cell BK153.out 1).trans rfl; have hcq153_2 : w42.cell? ⟨gb153, 2, none⟩ = some (.bool false) := (blk_cell BK153.out 2).trans rfl; have hcq153_3 : w42.cell? ⟨gb153, 3, none⟩ = some (.bool false) := (blk_cell BK153.out 3).trans rfl; have hcq153_4 : w42.cell? ⟨gb153, 4, none⟩ = some (.bool false) := (blk_cell BK153.out 4).trans rfl; have hcq153_5 : w42.cell? ⟨gb153, 5, none⟩ = some (.bool false) := (blk_cell BK153.out 5).trans rfl; have hcq153_6 : w42.cell? ⟨gb153, 6, none⟩ = some (.slice none 0 0) := (blk_cell BK153.out 6).trans rfl; have hcq153_7 : w42.cell? ⟨gb153, 7, none⟩ = some (.slice none 0 0) := (blk_cell BK153.out 7).trans rfl; have hcq153_8 : w42.cell? ⟨gb153, 8, none⟩ = some (.int .i64 0) := (blk_cell BK153.out 8).trans rfl; have hcq171_0 : w42.cell? ⟨gb171, 0, none⟩ = some (.slice Ao34 t154.length co34) := (blk_cell BK171.out 0).trans rfl; have hcq171_1 : w42.cell? ⟨gb171, 1, none⟩ = some (.slice Ao38 t157.length co38) := (blk_cell BK171.out 1).trans rfl; have hcq171_2 : w42.cell? ⟨gb171, 2, none⟩ = some (.bool t160) := (blk_cell BK171.out 2).trans rfl; have hcq171_3 : w42.cell? ⟨gb171, 3, none⟩ = some (.bool t161) := (blk_cell BK171.out 3).trans rfl; have hcq171_4 : w42.cell? ⟨gb171, 4, none⟩ = some (.bool t162) := (blk_cell BK171.out 4).trans rfl; have hcq171_5 : w42.cell? ⟨gb171, 5, none⟩ = some (.bool t163) := (blk_cell BK171.out 5).trans rfl; have hcq171_6 : w42.cell? ⟨gb171, 6, none⟩ = some (.slice Ao39 t164.length co39) := (blk_cell BK171.out 6).trans rfl; have hcq171_7 : w42.cell? ⟨gb171, 7, none⟩ = some (.slice Ao40 t167.length co40) := (blk_cell BK171.out 7).trans rfl; have hcq171_8 : w42.cell? ⟨gb171, 8, none⟩ = some (.int .i64 t170) := (blk_cell BK171.out 8).trans rfl))
     replace HO156 := A_ (Kd.R_drew HO156.out)
     replace HO159 := A_ (Kd.R_drew HO159.out)
     replace HO166 := A_ (Kd.R_drew HO166.out)
     replace HO169 := A_ (Kd.R_drew HO169.out)
     replace BK152 := A_ (blk_drew BK152.out)
     replace BK153 := A_ (blk_drew BK153.out)
     replace BK171 := A_ (blk_drew BK171.out)
     replace HB := A_ (below_drew1 HB.out)
     refine start_ (n := 8) (S := fun w' => w'.cell? ⟨gb171, 0, none⟩ = some (.slice Ao34 t154.length co34) ∧ w'.cell? ⟨gb171, 1, none⟩ = some (.slice Ao38 t157.length co38) ∧ w'.cell? ⟨gb171, 2, none⟩ = some (.bool t160) ∧ w'.cell? ⟨gb171, 3, none⟩ = some (.bool t161) ∧ w'.cell? ⟨gb171, 4, none⟩ = some (.bool t162) ∧ w'.cell? ⟨gb171, 5, none⟩ = some (.bool t163) ∧ w'.cell? ⟨gb171, 6, none⟩ = some (.slice Ao39 t164.length co39) ∧ w'.cell? ⟨gb171, 7, none⟩ = some (.slice Ao40 t167.length co40) ∧ w'.cell? ⟨gb171, 8, none⟩ = some (.int .i64 t170)) (ds := [7]) #[false, false, false, false, false, false, false, false] (by kernel_rfl) rfl rfl (c9_ BK171) (fun hHeld => ?_); refine with_tabW impl_WriteW.tab4 impl_WriteW.bits4 (fun HT_ HW_ => ?_)
     generalize w42.drew = w43 at HO156 HO159 HO166 HO169 BK152 BK153 BK171 HB hHeld ⊢
     refine pu_ 0 (some 23) (bm_ 8 1) (any_of HT_.out (by kernel_rfl)) ?_
     refine pu_ 2 (some 25) (bm_ 8 5) (any_of HT_.out (by kernel_rfl)) ?_
     refine pu_ 3 (some 26) (bm_ 8 13) (any_of HT_.out (by kernel_rfl)) ?_
     refine pu_ 4 (some 27) (bm_ 8 29) (any_of HT_.out (by kernel_rfl)) ?_
     refine take_ (i := 1) (N := some 24) (v := ?_) (a' := ?_) (bm_ 8 31) rfl rfl (take_ofW HT_.out HW_.out (by kernel_rfl)) (fun _ _ _ h => h) (Or.inl ⟨by rfl, ?_⟩) hHeld ?_ ?_
     rotate_left
     ·rintro w' ⟨s0, s1, s2, s3, s4, s5, s6, s7, s8⟩
      go_simp
      with_reducible rfl
     rotate_left
     ·simp only [Act.put, List.setIfInBounds_toArray, List.set_cons_zero, List.set_cons_succ, i64_w, i32_w]
      rfl
     refine one_ (i := 5) (N := some 28) (bm_ 8 63) rfl rfl (one_of HT_.out (by kernel_rfl)) (by decide) (fun K hK => ?_)
     refine goes_ Try.func43 (by kernel_rfl) rfl #[.int .i64 a2] (by rfl) rfl rfl d9_ ?_
     with_reducible refine (impl_Wrap.calls a2 t173 _ A23.out).mono ?_
     rintro e w' ⟨rfl, ⟨nd, rfl⟩⟩
     refine ⟨_, rfl, ?_⟩
     have p27 : 0 ≤ ((ji24) : Int) := of_decide_eq_true d8_
     have q27 : ((ji24) : Int) < ((t154.length : Int) : Int) := of_decide_eq_true d8_
     obtain ⟨go27, co27, eo27, gb27, gl27, cl27, HG27⟩ := Kd.R_form HO156.out (by omega)
     (first | cases eo27 | (injection eo27 with ea_ en_ ec_; (first | subst ea_ | (injection ea_ with ea_; subst ea_)); subst ec_; clear en_))
     have GB27 := A_ gb27
     have GG27 := A_ HG27
     clear gb27 gl27 HG27
     obtain ⟨hx27_0, hf27_0⟩ := Kd.R_celln 0 HO156.out ((ji24) : Int) p27 q27
     replace p27 := eq_true p27
     replace q27 := eq_true q27
     have HP44 := Kd.R_putn HO156.out ((ji24) : Int) t173
     rw [← Ny174.out] at HP44
     have HQ44 := A_ HP44
     clear HP44
     refine hK.out _ _ (c9_ BK171) (fun hHeld => ?_)
     clear hK K
     refine norm_ (a' := ?_) ?_ ?_
     rotate_left
     ·show Act.put _ (some 28) _ = _
      simp only [Act.put, List.setIfInBounds_toArray, List.set_cons_zero, List.set_cons_succ, i64_w, i32_w]
      rfl
     refine pu_ 6 (some 29) (bm_ 8 127) (any_of HT_.out (by kernel_rfl)) ?_
     refine last_ (i := 7) (N := none) (bm_ 8 255) rfl rfl (one_of HT_.out (by kernel_rfl)) (by decide) (fun K hK => ?_)
     refine skip_ (w1 := ?_) (by rfl) rfl ?_ ?_
     rotate_left
     ·go_simp
      rfl
     refine hK.out _ _ ?_
     clear hK K
     refine done_ (done_of HT_.out (by kernel_rfl)) ?_
     have n0_ : Aside0 (Kd.R (Kd.int .i64) 3 (w43.setCell ⟨go27, ((ji24) : Int).toNat, none⟩ (.int .i64 t173)) w.heap.size (fun k_ => some k_ ≠ (.slice Ao38 t157.length co38 : Value).ownBlock ∧ some k_ ≠ (.slice Ao39 t164.length co39 : Value).ownBlock ∧ some k_ ≠ (.slice Ao40 t167.length co40 : Value).ownBlock) (.slice (some ⟨go27, 0, none⟩) t154.length co34) y174) := ⟨kr_ (HQ44.out)⟩
     have n1_ : Aside0 (Kd.R (Kd.int .i64) 3 (w43.setCell ⟨go27, ((ji24) : Int).toNat, none⟩ (.int .i64 t173)) w.heap.size (fun k_ => some k_ ≠ (.slice (some ⟨go27, 0, none⟩) t154.length co34 : Value).ownBlock ∧ some k_ ≠ (.slice Ao39 t164.length co39 : Value).ownBlock ∧ some k_ ≠ (.slice Ao40 t167.length co40 : Value).ownBlock) (.slice Ao38 t157.length co38) t157) := ⟨by (with_reducible repeat (first | apply Kd.R_alloc | apply Kd.R_drewN | apply Kd.R_drew)); exact Kd.R_mono (Kd.R_far (p := ⟨go27, ((ji24) : Int).toNat, none⟩) (Kd.R_mono HO159.out (fun k_ hk => (⟨hk, fun e_ => hk.1 (by rw [e_]; rfl)⟩ : _ ∧ k_ ≠ go27))) (fun _ hk => hk.2) (.int .i64 t173)) (fun _ hk => ⟨hk.1.1, ⟨hk.1.2.1, hk.1.2.2⟩⟩)⟩
     have n2_ : Aside0 (Kd.R (Kd.int .i64) 3 (w43.setCell ⟨go27, ((ji24) : Int).toNat, none⟩ (.int .i64 t173)) w.heap.size (fun k_ => some k_ ≠ (.slice (some ⟨go27, 0, none⟩) t154.length co34 : Value).ownBlock ∧ some k_ ≠ (.slice Ao38 t157.length co38 : Value).ownBlock ∧ some k_ ≠ (.slice Ao40 t167.length co40 : Value).ownBlock) (.slice Ao39 t164.length co39) t164) := ⟨by (with_reducible repeat (first | apply Kd.R_alloc | apply Kd.R_drewN | apply Kd.R_drew)); exact Kd.R_mono (Kd.R_far (p := ⟨go27, ((ji24) : Int).toNat, none⟩) (Kd.R_mono HO166.out (fun k_ hk => (⟨hk, fun e_ => hk.1 (by rw [e_]; rfl)⟩ : _ ∧ k_ ≠ go27))) (fun _ hk => hk.2) (.int .i64 t173)) (fun _ hk => ⟨hk.1.1, ⟨hk.1.2.1, hk.1.2.2⟩⟩)⟩
     have n3_ : Aside0 (Kd.R (Kd.int .i64) 3 (w43.setCell ⟨go27, ((ji24) : Int).toNat, none⟩ (.int .i64 t173)) w.heap.size (fun k_ => some k_ ≠ (.slice (some ⟨go27, 0, none⟩) t154.length co34 : Value).ownBlock ∧ some k_ ≠ (.slice Ao38 t157.length co38 : Value).ownBlock ∧ some k_ ≠ (.slice Ao39 t164.length co39 : Value).ownBlock) (.slice Ao40 t167.length co40) t167) := ⟨by (with_reducible repeat (first | apply Kd.R_alloc | apply Kd.R_drewN | apply Kd.R_drew)); exact Kd.R_mono (Kd.R_far (p := ⟨go27, ((ji24) : Int).toNat, none⟩) (Kd.R_mono HO169.out (fun k_ hk => (⟨hk, fun e_ => hk.1 (by rw [e_]; rfl)⟩ : _ ∧ k_ ≠ go27))) (fun _ hk => hk.2) (.int .i64 t173)) (fun _ hk => ⟨hk.1.1, ⟨hk.1.2.1, hk.1.2.2⟩⟩)⟩
     have n4_ : Aside0 ((w43.setCell ⟨go27, ((ji24) : Int).toNat, none⟩ (.int .i64 t173)).heap[gb152]? = some (.cells #[.slice A0_0 l0_0.length c0_0, .slice A0_1 l0_1.length c0_1, .bool a0_2, .bool a0_3, .bool a0_4, .bool a0_5, .slice A0_6 l0_6.length c0_6, .slice A0_7 l0_7.length c0_7, .int .i64 a0_8] 28 (0, 0))) := ⟨by refine bk_ ?_; refine blk_far ?_ (by have h_ := Kd.R_ne HO156.out BK152.out (by decide); intro e_; exact h_ (by rw [e_]; rfl)) _; refine bk_ ?_; exact BK152.out⟩
     have n5_ : Aside0 ((w43.setCell ⟨go27, ((ji24) : Int).toNat, none⟩ (.int .i64 t173)).heap[gb153]? = some (.cells #[.slice none 0 0, .slice none 0 0, .bool false, .bool false, .bool false, .bool false, .slice none 0 0, .slice none 0 0, .int .i64 0] 28 (0, 0))) := ⟨by refine bk_ ?_; refine blk_far ?_ (by have h_ := Kd.R_ne HO156.out BK153.out (by decide); intro e_; exact h_ (by rw [e_]; rfl)) _; refine bk_ ?_; exact BK153.out⟩
     have n6_ : Aside0 ((w43.setCell ⟨go27, ((ji24) : Int).toNat, none⟩ (.int .i64 t173)).heap[gb171]? = some (.cells #[.slice (some ⟨go27, 0, none⟩) t154.length co34, .slice Ao38 t157.length co38, .bool t160, .bool t161, .bool t162, .bool t163, .slice Ao39 t164.length co39, .slice Ao40 t167.length co40, .int .i64 t170] 28 (0, 0))) := ⟨by refine bk_ ?_; refine blk_far ?_ (by have h_ := Kd.R_ne HO156.out BK171.out (by decide); intro e_; exact h_ (by rw [e_]; rfl)) _; refine bk_ ?_; exact BK171.out⟩
     have n7_ : Aside0 (Below w.heap.size w (w43.setCell ⟨go27, ((ji24) : Int).toNat, none⟩ (.int .i64 t173))) := ⟨by repeat (first | (with_reducible first | exact HB.out | apply below_alloc | apply pw_below_drewN | apply below_drew1 | refine below_set ?_ GB27.out | refine below_set ?_ GE152.out | refine below_set ?_ GE153.out | refine below_set ?_ GE171.out) | exact HB.out)⟩
     (try clear HO156)
     (try clear HO159)
     (try clear HO166)
     (try clear HO169)
     (try clear BK152)
     (try clear BK153)
     (try clear BK171)
     (try clear HB)
     try rw [show (w43.drewN nd).setCell ⟨go27, ((ji24) : Int).toNat, none⟩ (.int .i64 t173) = (w43.setCell ⟨go27, ((ji24) : Int).toNat, none⟩ (.int .i64 t173)).drewN nd from rfl]
     generalize (w43.setCell ⟨go27, ((ji24) : Int).toNat, none⟩ (.int .i64 t173)) = w45 at n0_ n1_ n2_ n3_ n4_ n5_ n6_ n7_ ⊢
     have HO156 := n0_
     have HO159 := n1_
     have HO166 := n2_
     have HO169 := n3_
     have BK152 := n4_
     have BK153 := n5_
     have BK171 := n6_
     have HB := n7_
     clear n0_ n1_ n2_ n3_ n4_ n5_ n6_ n7_
     obtain ⟨y46_0, y46_1, y46_2, y46_3, y46_4, y46_5, y46_6, y46_7, y46_8, z46_0, z46_1, z46_2, z46_3, z46_4, z46_5, z46_6, z46_7, z46_8⟩ := cz9_ BK171.out
     obtain ⟨y47_0, y47_1, y47_2, y47_3, y47_4, y47_5, y47_6, y47_7, y47_8, z47_0, z47_1, z47_2, z47_3, z47_4, z47_5, z47_6, z47_7, z47_8⟩ := cz9_ BK153.out
     try go_wp2
     refine bodyPost_ret (results_ct rfl _ _ gb153 28 #[.slice (some ⟨go27, 0, none⟩) t154.length co34, .slice Ao38 t157.length co38, .bool t160, .bool t161, .bool t162, .bool t163, .slice Ao39 t164.length co39, .slice Ao40 t167.length co40, .int .i64 t170] (0, 0) _ rfl ?hb_ Try.underlying28 rfl (by kernel_rfl)) rfl ?_
     (case hb_ => exact bk_ (bp9_ (bk_ BK153.out)))
     exact ⟨_, _, _, _, by first | rfl | (simp [errW_none, errW_some] <;> rfl) | (simp only [← hji24]; first | rfl | (simp [errW_none, errW_some] <;> rfl)) | (simp [*, errW_none, errW_some] <;> rfl), by (with_reducible repeat (first | apply Kd.R_alloc | apply Kd.R_drewN | apply Kd.R_drew)); exact Kd.R_mono (rf9_ (Kd.R_types HO156.out BK153.out (by decide)) (fun _ hk => hk.2)) (fun _ hk => ⟨hk.1.1, ⟨hk.1.2.1, hk.1.2.2⟩⟩), by (with_reducible repeat (first | apply Kd.R_alloc | apply Kd.R_drewN | apply Kd.R_drew)); exact Kd.R_mono (rf9_ (Kd.R_types HO159.out BK153.out (by decide)) (fun _ hk => hk.2)) (fun _ hk => ⟨hk.1.1, ⟨hk.1.2.1, hk.1.2.2⟩⟩), by (with_reducible repeat (first | apply Kd.R_alloc | apply Kd.R_drewN | apply Kd.R_drew)); exact Kd.R_mono (rf9_ (Kd.R_types HO166.out BK153.out (by decide)) (fun _ hk => hk.2)) (fun _ hk => ⟨hk.1.1, ⟨hk.1.2.1, hk.1.2.2⟩⟩), by (with_reducible repeat (first | apply Kd.R_alloc | apply Kd.R_drewN | apply Kd.R_drew)); exact Kd.R_mono (rf9_ (Kd.R_types HO169.out BK153.out (by decide)) (fun _ hk => hk.2)) (fun _ hk => ⟨hk.1.1, ⟨hk.1.2.1, hk.1.2.2⟩⟩), bw_ HB.out⟩
    ·rw [if_neg c26] at H
     exact absurd H (by simp)
   ·rw [if_neg c25] at H
    exact absurd H (by simp)
 ·replace c6 := Bool.eq_false_iff.mpr c6
  subst c6
  rw [if_neg (show ¬ (false = true) by decide)] at H
  simp only [Option.some.injEq, Prod.mk.injEq] at H
  obtain ⟨rfl, rfl, rfl, rfl, rfl, rfl, rfl, rfl, rfl, rfl⟩ := H
  go_enter Try.func35, Try.ntmps35
  go_wp2_with (first | ((with_reducible refine gate_dst (N := 3) rfl ?_); (try (refine gate_guard (by rfl) ?_; dsimp only)); refine bx_ 3 #[.slice A0_0 l0_0.length c0_0, .slice A0_1 l0_1.length c0_1, .bool a0_2, .bool a0_3, .bool a0_4, .bool a0_5, .slice A0_6 l0_6.length c0_6, .slice A0_7 l0_7.length c0_7, .int .i64 a0_8] 28 ?_; intro gb152 hg w48 hbox hb; have n0_ := A_ (below_step (bw_ HB.out) hb); have n1_ := A_ (hbox); have n2_ := A_ ((d5_ : w.heap.size ≤ gb152)); have n3_ := n2_; clear HB; have HB := n0_; have BK152 := n1_; have GW152 := n2_; have GE152 := n3_; have GI152 := GeI.mk GE152.out; clear n0_ n1_ n2_ n3_; clear hb hbox hg) | ((with_reducible refine gate_dst (N := 6) rfl ?_); (try (refine gate_guard (by rfl) ?_; dsimp only)); refine bx_ 6 #[.slice none 0 0, .slice none 0 0, .bool false, .bool false, .bool false, .bool false, .slice none 0 0, .slice none 0 0, .int .i64 0] 28 ?_; intro gb153 hg w49 hbox hb; have n0_ := A_ (blk_below (bk_ BK152.out) hb); have n1_ := A_ (below_step (bw_ HB.out) hb); have n2_ := A_ (hbox); have n3_ := A_ ((d5_ : w.heap.size ≤ gb153)); have n4_ := n3_; have n5_ := A_ ((d42_ : gb152 ≠ gb153)); have n6_ := A_ n5_.out.symm; clear BK152; clear HB; have BK152 := n0_; have HB := n1_; have BK153 := n2_; have GW153 := n3_; have GE153 := n4_; have GI153 := GeI.mk GE153.out; have NB152_153 := n5_; have NB153_152 := n6_; clear n0_ n1_ n2_ n3_ n4_ n5_ n6_; clear hb hbox hg; have hnb50 := NB152_153.out; have hnc50 := NB153_152.out; obtain ⟨y51_0, y51_1, y51_2, y51_3, y51_4, y51_5, y51_6, y51_7, y51_8, z51_0, z51_1, z51_2, z51_3, z51_4, z51_5, z51_6, z51_7, z51_8⟩ := cz9_ BK152.out) | ((with_reducible refine gate_callee (f := 68) rfl ?_); refine gL_ (some 10) Try.func68 #[.agg #[.slice A0_0 l0_0.length c0_0, .slice A0_1 l0_1.length c0_1, .bool a0_2, .bool a0_3, .bool a0_4, .bool a0_5, .slice A0_6 l0_6.length c0_6, .slice A0_7 l0_7.length c0_7, .int .i64 a0_8]] ?_; (with_reducible refine (impl_copyMach.calls _ _ l0_0 _ _ l0_1 a0_2 a0_3 a0_4 a0_5 _ _ l0_6 _ _ l0_7 a0_8 t154 t157 t160 t161 t162 t163 t164 t167 t170 _ ?side1 ?side2 ?side3 ?side4 ?side5 ?side6 ?side7 ?side8 A4.out).mono ?_); (case side1 => exact Kd.C_below HR0_0.out (bw_ HB.out)); (case side2 => exact HC0_0.out); (case side3 => exact Kd.C_below HR0_1.out (bw_ HB.out)); (case side4 => exact HC0_1.out); (case side5 => exact Kd.C_below HR0_6.out (bw_ HB.out)); (case side6 => exact HC0_6.out); (case side7 => exact Kd.C_below HR0_7.out (bw_ HB.out)); (case side8 => exact HC0_7.out); rintro e w52 ⟨v155, v158, v165, v168, rfl, ho0, ho1, ho2, ho3, hb⟩; refine ⟨_, rfl, ?_⟩; have HO156 := A_ (Kd.R_lower ho0 (below_size (bw_ HB.out))); have HO159 := A_ (Kd.R_lower ho1 (below_size (bw_ HB.out))); have HO166 := A_ (Kd.R_lower ho2 (below_size (bw_ HB.out))); have HO169 := A_ (Kd.R_lower ho3 (below_size (bw_ HB.out))); replace BK152 := A_ (blk_below (bk_ BK152.out) hb); replace BK153 := A_ (blk_below (bk_ BK153.out) hb); replace HB := A_ (below_step (bw_ HB.out) hb); clear hb; (try clear ho0); (try clear ho1); (try clear ho2); (try clear ho3)) | ((with_reducible refine gate_dst (N := 8) rfl ?_); (try (refine gate_guard (by rfl) ?_; dsimp only)); refine bx_ 8 #[.slice none 0 0, .slice none 0 0, .bool false, .bool false, .bool false, .bool false, .slice none 0 0, .slice none 0 0, .int .i64 0] 28 ?_; intro gb171 hg w53 hbox hb; have n0_ := A_ (Kd.R_below (kr_ HO156.out) hb); have n1_ := A_ (Kd.R_below (kr_ HO159.out) hb); have n2_ := A_ (Kd.R_below (kr_ HO166.out) hb); have n3_ := A_ (Kd.R_below (kr_ HO169.out) hb); have n4_ := A_ (blk_below (bk_ BK152.out) hb); have n5_ := A_ (blk_below (bk_ BK153.out) hb); have n6_ := A_ (below_step (bw_ HB.out) hb); have n7_ := A_ (hbox); have n8_ := A_ ((d5_ : w.heap.size ≤ gb171)); have n9_ := n8_; have n10_ := A_ ((d42_ : gb152 ≠ gb171)); have n11_ := A_ n10_.out.symm; have n12_ := A_ ((by rw [hg]; exact Nat.ne_of_lt (blk_lt (bk_ BK153.out)) : gb153 ≠ gb171)); have n13_ := A_ n12_.out.symm; clear HO156; clear HO159; clear HO166; clear HO169; clear BK152; clear BK153; clear HB; have HO156 := n0_; have HO159 := n1_; have HO166 := n2_; have HO169 := n3_; have BK152 := n4_; have BK153 := n5_; have HB := n6_; have BK171 := n7_; have GW171 := n8_; have GE171 := n9_; have GI171 := GeI.mk GE171.out; have NB152_171 := n10_; have NB171_152 := n11_; have NB153_171 := n12_; have NB171_153 := n13_; clear n0_ n1_ n2_ n3_ n4_ n5_ n6_ n7_ n8_ n9_ n10_ n11_ n12_ n13_; clear hb hbox hg; obtain ⟨Ao54, co54, eo54⟩ := Kd.R_slice HO156.out; subst eo54; have hnb55 := NB171_152.out; have hnc55 := NB152_171.out; have hnb56 := NB171_153.out; have hnc56 := NB153_171.out; obtain ⟨y57_0, y57_1, y57_2, y57_3, y57_4, y57_5, y57_6, y57_7, y57_8, z57_0, z57_1, z57_2, z57_3, z57_4, z57_5, z57_6, z57_7, z57_8⟩ := cz9_ BK171.out; obtain ⟨Ao58, co58, eo58⟩ := Kd.R_slice HO159.out; subst eo58; obtain ⟨Ao59, co59, eo59⟩ := Kd.R_slice HO166.out; subst eo59; obtain ⟨Ao60, co60, eo60⟩ := Kd.R_slice HO169.out; subst eo60) | ((with_reducible refine gate_callee (f := 58) rfl ?_); refine gL_ (some 12) Try.func58 #[.int .i64 a1] ?_; (with_reducible refine (impl_isAddr.calls a1 false _ A5.out).mono ?_); rintro e w' ⟨rfl, ⟨nd, rfl⟩⟩; refine ⟨_, rfl, ?_⟩; obtain ⟨y61_0, y61_1, y61_2, y61_3, y61_4, y61_5, y61_6, y61_7, y61_8, z61_0, z61_1, z61_2, z61_3, z61_4, z61_5, z61_6, z61_7, z61_8⟩ := cz9_ BK153.out))
  refine bodyPost_ret (results_ct rfl _ _ gb153 28 #[.slice Ao54 t154.length co54, .slice Ao58 t157.length co58, .bool t160, .bool t161, .bool t162, .bool t163, .slice Ao59 t164.length co59, .slice Ao60 t167.length co60, .int .i64 t170] (0, 0) _ rfl ?hb_ Try.underlying28 rfl (by kernel_rfl)) rfl ?_
  (case hb_ => refine bk_ ?_; refine blk_put (cs := #[.slice Ao54 t154.length co54, .slice Ao58 t157.length co58, .bool t160, .bool t161, .bool t162, .bool t163, .slice Ao59 t164.length co59, .slice Ao60 t167.length co60, .int .i64 0]) ?_ 8 _ rfl; refine bk_ ?_; refine blk_put (cs := #[.slice Ao54 t154.length co54, .slice Ao58 t157.length co58, .bool t160, .bool t161, .bool t162, .bool t163, .slice Ao59 t164.length co59, .slice none 0 0, .int .i64 0]) ?_ 7 _ rfl; refine bk_ ?_; refine blk_put (cs := #[.slice Ao54 t154.length co54, .slice Ao58 t157.length co58, .bool t160, .bool t161, .bool t162, .bool t163, .slice none 0 0, .slice none 0 0, .int .i64 0]) ?_ 6 _ rfl; refine bk_ ?_; refine blk_put (cs := #[.slice Ao54 t154.length co54, .slice Ao58 t157.length co58, .bool t160, .bool t161, .bool t162, .bool false, .slice none 0 0, .slice none 0 0, .int .i64 0]) ?_ 5 _ rfl; refine bk_ ?_; refine blk_put (cs := #[.slice Ao54 t154.length co54, .slice Ao58 t157.length co58, .bool t160, .bool t161, .bool false, .bool false, .slice none 0 0, .slice none 0 0, .int .i64 0]) ?_ 4 _ rfl; refine bk_ ?_; refine blk_put (cs := #[.slice Ao54 t154.length co54, .slice Ao58 t157.length co58, .bool t160, .bool false, .bool false, .bool false, .slice none 0 0, .slice none 0 0, .int .i64 0]) ?_ 3 _ rfl; refine bk_ ?_; refine blk_put (cs := #[.slice Ao54 t154.length co54, .slice Ao58 t157.length co58, .bool false, .bool false, .bool false, .bool false, .slice none 0 0, .slice none 0 0, .int .i64 0]) ?_ 2 _ rfl; refine bk_ ?_; refine blk_put (cs := #[.slice Ao54 t154.length co54, .slice none 0 0, .bool false, .bool false, .bool false, .bool false, .slice none 0 0, .slice none 0 0, .int .i64 0]) ?_ 1 _ rfl; refine bk_ ?_; refine blk_put (cs := #[.slice none 0 0, .slice none 0 0, .bool false, .bool false, .bool false, .bool false, .slice none 0 0, .slice none 0 0, .int .i64 0]) ?_ 0 _ rfl; refine bk_ ?_; refine blk_far ?_ NB153_171.out _; refine bk_ ?_; refine blk_far ?_ NB153_171.out _; refine bk_ ?_; refine blk_far ?_ NB153_171.out _; refine bk_ ?_; refine blk_far ?_ NB153_171.out _; refine bk_ ?_; refine blk_far ?_ NB153_171.out _; refine bk_ ?_; refine blk_far ?_ NB153_171.out _; refine bk_ ?_; refine blk_far ?_ NB153_171.out _; refine bk_ ?_; refine blk_far ?_ NB153_171.out _; refine bk_ ?_; refine blk_far ?_ NB153_171.out _; refine bk_ ?_; exact BK153.out)
  exact ⟨_, _, _, _, by first | rfl | (simp [errW_none, errW_some] <;> rfl) | (simp [*, errW_none, errW_some] <;> rfl), by (with_reducible repeat (first | apply Kd.R_alloc | apply Kd.R_drewN | apply Kd.R_drew)); exact Kd.R_mono (rf9_ (Kd.R_drewN (Kd.R_far (p := ⟨gb171, 8, none⟩) (Kd.R_far (p := ⟨gb171, 7, none⟩) (Kd.R_far (p := ⟨gb171, 6, none⟩) (Kd.R_far (p := ⟨gb171, 5, none⟩) (Kd.R_far (p := ⟨gb171, 4, none⟩) (Kd.R_far (p := ⟨gb171, 3, none⟩) (Kd.R_far (p := ⟨gb171, 2, none⟩) (Kd.R_far (p := ⟨gb171, 1, none⟩) (Kd.R_far (p := ⟨gb171, 0, none⟩) (Kd.R_types (Kd.R_types HO156.out BK171.out (by decide)) BK153.out (by decide)) (fun _ hk => hk.1.2) (.slice Ao54 t154.length co54)) (fun _ hk => hk.1.2) (.slice Ao58 t157.length co58)) (fun _ hk => hk.1.2) (.bool t160)) (fun _ hk => hk.1.2) (.bool t161)) (fun _ hk => hk.1.2) (.bool t162)) (fun _ hk => hk.1.2) (.bool t163)) (fun _ hk => hk.1.2) (.slice Ao59 t164.length co59)) (fun _ hk => hk.1.2) (.slice Ao60 t167.length co60)) (fun _ hk => hk.1.2) (.int .i64 t170)) _) (fun _ hk => hk.2)) (fun _ hk => ⟨hk.1.1.1, ⟨hk.1.1.2.1, hk.1.1.2.2⟩⟩), by (with_reducible repeat (first | apply Kd.R_alloc | apply Kd.R_drewN | apply Kd.R_drew)); exact Kd.R_mono (rf9_ (Kd.R_drewN (Kd.R_far (p := ⟨gb171, 8, none⟩) (Kd.R_far (p := ⟨gb171, 7, none⟩) (Kd.R_far (p := ⟨gb171, 6, none⟩) (Kd.R_far (p := ⟨gb171, 5, none⟩) (Kd.R_far (p := ⟨gb171, 4, none⟩) (Kd.R_far (p := ⟨gb171, 3, none⟩) (Kd.R_far (p := ⟨gb171, 2, none⟩) (Kd.R_far (p := ⟨gb171, 1, none⟩) (Kd.R_far (p := ⟨gb171, 0, none⟩) (Kd.R_types (Kd.R_types HO159.out BK171.out (by decide)) BK153.out (by decide)) (fun _ hk => hk.1.2) (.slice Ao54 t154.length co54)) (fun _ hk => hk.1.2) (.slice Ao58 t157.length co58)) (fun _ hk => hk.1.2) (.bool t160)) (fun _ hk => hk.1.2) (.bool t161)) (fun _ hk => hk.1.2) (.bool t162)) (fun _ hk => hk.1.2) (.bool t163)) (fun _ hk => hk.1.2) (.slice Ao59 t164.length co59)) (fun _ hk => hk.1.2) (.slice Ao60 t167.length co60)) (fun _ hk => hk.1.2) (.int .i64 t170)) _) (fun _ hk => hk.2)) (fun _ hk => ⟨hk.1.1.1, ⟨hk.1.1.2.1, hk.1.1.2.2⟩⟩), by (with_reducible repeat (first | apply Kd.R_alloc | apply Kd.R_drewN | apply Kd.R_drew)); exact Kd.R_mono (rf9_ (Kd.R_drewN (Kd.R_far (p := ⟨gb171, 8, none⟩) (Kd.R_far (p := ⟨gb171, 7, none⟩) (Kd.R_far (p := ⟨gb171, 6, none⟩) (Kd.R_far (p := ⟨gb171, 5, none⟩) (Kd.R_far (p := ⟨gb171, 4, none⟩) (Kd.R_far (p := ⟨gb171, 3, none⟩) (Kd.R_far (p := ⟨gb171, 2, none⟩) (Kd.R_far (p := ⟨gb171, 1, none⟩) (Kd.R_far (p := ⟨gb171, 0, none⟩) (Kd.R_types (Kd.R_types HO166.out BK171.out (by decide)) BK153.out (by decide)) (fun _ hk => hk.1.2) (.slice Ao54 t154.length co54)) (fun _ hk => hk.1.2) (.slice Ao58 t157.length co58)) (fun _ hk => hk.1.2) (.bool t160)) (fun _ hk => hk.1.2) (.bool t161)) (fun _ hk => hk.1.2) (.bool t162)) (fun _ hk => hk.1.2) (.bool t163)) (fun _ hk => hk.1.2) (.slice Ao59 t164.length co59)) (fun _ hk => hk.1.2) (.slice Ao60 t167.length co60)) (fun _ hk => hk.1.2) (.int .i64 t170)) _) (fun _ hk => hk.2)) (fun _ hk => ⟨hk.1.1.1, ⟨hk.1.1.2.1, hk.1.1.2.2⟩⟩), by (with_reducible repeat (first | apply Kd.R_alloc | apply Kd.R_drewN | apply Kd.R_drew)); exact Kd.R_mono (rf9_ (Kd.R_drewN (Kd.R_far (p := ⟨gb171, 8, none⟩) (Kd.R_far (p := ⟨gb171, 7, none⟩) (Kd.R_far (p := ⟨gb171, 6, none⟩) (Kd.R_far (p := ⟨gb171, 5, none⟩) (Kd.R_far (p := ⟨gb171, 4, none⟩) (Kd.R_far (p := ⟨gb171, 3, none⟩) (Kd.R_far (p := ⟨gb171, 2, none⟩) (Kd.R_far (p := ⟨gb171, 1, none⟩) (Kd.R_far (p := ⟨gb171, 0, none⟩) (Kd.R_types (Kd.R_types HO169.out BK171.out (by decide)) BK153.out (by decide)) (fun _ hk => hk.1.2) (.slice Ao54 t154.length co54)) (fun _ hk => hk.1.2) (.slice Ao58 t157.length co58)) (fun _ hk => hk.1.2) (.bool t160)) (fun _ hk => hk.1.2) (.bool t161)) (fun _ hk => hk.1.2) (.bool t162)) (fun _ hk => hk.1.2) (.bool t163)) (fun _ hk => hk.1.2) (.slice Ao59 t164.length co59)) (fun _ hk => hk.1.2) (.slice Ao60 t167.length co60)) (fun _ hk => hk.1.2) (.int .i64 t170)) _) (fun _ hk => hk.2)) (fun _ hk => ⟨hk.1.1.1, ⟨hk.1.1.2.1, hk.1.1.2.2⟩⟩), bw_ HB.out⟩

end Go.Proofs.Ytiagbfilffbljaa.PFnStored
