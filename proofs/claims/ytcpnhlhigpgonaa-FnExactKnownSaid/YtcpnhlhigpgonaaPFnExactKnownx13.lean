-- Laid by a program of this session (a changed copy of the kit's printer); Lean checks every line.
import Derived.Test.YtcpnhlhigpgonaaPFnExactKnownx0
import Derived.Test.YtcpnhlhigpgonaaPFnExactKnownx1
import Derived.Test.YtcpnhlhigpgonaaPFnExactKnownx2
import Derived.Test.YtcpnhlhigpgonaaPFnExactKnownx7
import Derived.Test.YtcpnhlhigpgonaaPFnExactKnownx12
namespace Go.Proofs.Ytcpnhlhigpgonaa.PFnExactKnown
open Go.RowKit Go.Proofs.YtcpnhlhigpgonaaW.PrintWords Go.Proofs.YtcpnhlhigpgonaaW.PrintLast Go.Proofs.YtcpnhlhigpgonaaW.PrintMore
attribute [local go_sem] max2_int min2_int max_two min_two max_three min_three max_four min_four   -- for this text's walks alone
set_option linter.unusedVariables false
set_option linter.unusedSimpArgs false

/-! ### laws_FnExactKnown: function 9 -/
def laws_FnExactKnown.j0 : Nat → Bool → Int → Int → ByteArray → List (S24) → Int → Int → ByteArray → List (S29) → Option (Bool)
 | 0, _, _, _, _, _, _, _, _, _ => none
 | k + 1, x34, x549000, x549001, x549002, x549003, x565000, x565001, x565002, x565003 => if x34 = true then (some false) else ((laws_toExpr.f k x549000 x549001 x549002 x549003).bind fun bt567 => ((laws_eqExpr.f k x565000 x565001 x565002 x565003 bt567.1 bt567.2.1 bt567.2.2.1 bt567.2.2.2).bind fun t573 => (if t573 = true then (some true) else (some false))))
def laws_FnExactKnown.f (k : Nat) (a0_0 : Int) (a0_1 : Int) (a0_2 : ByteArray) (l0_3 : List (S24)) : Option (Bool) := (laws_szExpr.f k a0_0 a0_1 a0_2 l0_3 1048576).bind fun t549 => (if t549 < 0 then (some true) else ((laws_toExpr.f k a0_0 a0_1 a0_2 l0_3).bind fun bt550 => ((spec_Known.f k bt550.1 bt550.2.1 bt550.2.2.1 bt550.2.2.2).bind fun bt556 => ((laws_toExpr.f k a0_0 a0_1 a0_2 l0_3).bind fun bt558 => ((impl_Known.f k bt558.1 bt558.2.1 bt558.2.2.1 bt558.2.2.2).bind fun bt565 => (if bt565.1 = bt556.1 then (laws_FnExactKnown.j0 k (bt565.2 != bt556.2) a0_0 a0_1 a0_2 l0_3 bt558.1 bt558.2.1 bt558.2.2.1 bt558.2.2.2) else (laws_FnExactKnown.j0 k true a0_0 a0_1 a0_2 l0_3 bt558.1 bt558.2.1 bt558.2.2.1 bt558.2.2.2)))))))
theorem laws_FnExactKnown.mono_l : ∀ k, (∀ y0 y1 y2 y3 y4 y5 y6 y7 y8, LeO (laws_FnExactKnown.j0 k y0 y1 y2 y3 y4 y5 y6 y7 y8) (laws_FnExactKnown.j0 (k + 1) y0 y1 y2 y3 y4 y5 y6 y7 y8))
 | 0 => fun _ _ _ _ _ _ _ _ _ r h => by simp [laws_FnExactKnown.j0] at h
 | k + 1 => by
  have ih0 := laws_FnExactKnown.mono_l k
  ·intro y0 y1 y2 y3 y4 y5 y6 y7 y8
   unfold laws_FnExactKnown.j0
   repeat' first
   | (with_reducible exact ih0 _ _ _ _ _ _ _ _ _)
   | (with_reducible exact impl_Known.mono _ _ _ _ _)
   | (with_reducible exact laws_eqExpr.mono _ _ _ _ _ _ _ _ _)
   | (with_reducible exact laws_szExpr.mono _ _ _ _ _ _)
   | (with_reducible exact laws_toExpr.mono _ _ _ _ _)
   | (with_reducible exact spec_Known.mono _ _ _ _ _)
   | (with_reducible exact LeO.refl _)
   | (with_reducible exact LeO.none _)
   | (with_reducible refine LeO.ite ?_ ?_)
   | (with_reducible refine LeO.bind ?_ (fun _ => ?_))
   | exact ih0 _ _ _ _ _ _ _ _ _
   | exact impl_Known.mono _ _ _ _ _
   | exact laws_eqExpr.mono _ _ _ _ _ _ _ _ _
   | exact laws_szExpr.mono _ _ _ _ _ _
   | exact laws_toExpr.mono _ _ _ _ _
   | exact spec_Known.mono _ _ _ _ _
   | exact LeO.none _
   | refine LeO.ite ?_ ?_
   | refine LeO.bind ?_ (fun _ => ?_)
theorem laws_FnExactKnown.mono : ∀ a0 a1 a2 a3 k, LeO (laws_FnExactKnown.f k a0 a1 a2 a3) (laws_FnExactKnown.f (k + 1) a0 a1 a2 a3) := by
 intro a0 a1 a2 a3 k
 have ih0 := laws_FnExactKnown.mono_l k
 unfold laws_FnExactKnown.f
 repeat' first
   | (with_reducible exact ih0 _ _ _ _ _ _ _ _ _)
   | (with_reducible exact impl_Known.mono _ _ _ _ _)
   | (with_reducible exact laws_eqExpr.mono _ _ _ _ _ _ _ _ _)
   | (with_reducible exact laws_szExpr.mono _ _ _ _ _ _)
   | (with_reducible exact laws_toExpr.mono _ _ _ _ _)
   | (with_reducible exact spec_Known.mono _ _ _ _ _)
   | (with_reducible exact LeO.refl _)
   | (with_reducible exact LeO.none _)
   | (with_reducible refine LeO.ite ?_ ?_)
   | (with_reducible refine LeO.bind ?_ (fun _ => ?_))
   | exact ih0 _ _ _ _ _ _ _ _ _
   | exact impl_Known.mono _ _ _ _ _
   | exact laws_eqExpr.mono _ _ _ _ _ _ _ _ _
   | exact laws_szExpr.mono _ _ _ _ _ _
   | exact laws_toExpr.mono _ _ _ _ _
   | exact spec_Known.mono _ _ _ _ _
   | exact LeO.none _
   | refine LeO.ite ?_ ?_
   | refine LeO.bind ?_ (fun _ => ?_)
set_option maxHeartbeats 8000000 in
set_option maxRecDepth 100000 in
theorem laws_FnExactKnown.calls (k : Nat) (a0_0 : Int) (a0_1 : Int) (a0_2 : ByteArray) (A0_3 : Option Addr) (c0_3 : Nat) (l0_3 : List (S24)) (r : Bool) (w : World) (hr0_3 : Kd.C k24 w A0_3 l0_3.length l0_3) (hc0_3 : l0_3.length ≤ c0_3) (h : laws_FnExactKnown.f k a0_0 a0_1 a0_2 l0_3 = some r) (hr_ : r = true) :
  Calls Try.prog 9 #[.agg #[.int .i64 a0_0, .int .i64 a0_1, .string a0_2, .slice A0_3 l0_3.length c0_3]] w fun e w' => e = .returned (.bool r) ∧ Below w.heap.size w w' := by
 have hu24 := Try.underlying24
 have hu29 := Try.underlying29
 have HR0_3 := A_ hr0_3
 have HC0_3 := A_ hc0_3
 clear hr0_3 hc0_3
 have HB := A_ (Below.refl w.heap.size w)
 have H : ((laws_szExpr.f k a0_0 a0_1 a0_2 l0_3 1048576).bind fun t549 => (if t549 < 0 then (some true) else ((laws_toExpr.f k a0_0 a0_1 a0_2 l0_3).bind fun bt550 => ((spec_Known.f k bt550.1 bt550.2.1 bt550.2.2.1 bt550.2.2.2).bind fun bt556 => ((laws_toExpr.f k a0_0 a0_1 a0_2 l0_3).bind fun bt558 => ((impl_Known.f k bt558.1 bt558.2.1 bt558.2.2.1 bt558.2.2.2).bind fun bt565 => (if bt565.1 = bt556.1 then (laws_FnExactKnown.j0 k (bt565.2 != bt556.2) a0_0 a0_1 a0_2 l0_3 bt558.1 bt558.2.1 bt558.2.2.1 bt558.2.2.2) else (laws_FnExactKnown.j0 k true a0_0 a0_1 a0_2 l0_3 bt558.1 bt558.2.1 bt558.2.2.1 bt558.2.2.2)))))))) = some r := h
 clear h
 replace H := Option.bind_eq_some_iff.mp H
 obtain ⟨t549, A20, H⟩ := H
 try dsimp only at H
 have A2 := A_ A20
 clear A20
 by_cases c3 : t549 < 0
 ·rw [if_pos c3] at H
  have c3b0 := decide_eq_true c3
  clear c3
  obtain rfl := Option.some.inj H
  go_enter Try.func9, Try.ntmps9
  go_wp2_with (first | ((with_reducible refine gate_dst (N := 1) rfl ?_); refine box_event ?hg (N := 1) ?hd (cs := #[.int .i64 a0_0, .int .i64 a0_1, .string a0_2, .slice A0_3 l0_3.length c0_3]) (t := 24) ?hr ?_; (case hd => rfl); (case hg => rfl); (case hr => first | (go_simp; done) | (go_simp; rfl)); intro gb548 hg w4 hbox hb; have n0_ := A_ (below_step (bw_ HB.out) hb); have n1_ := A_ (hbox); have n2_ := A_ ((by rw [hg]; exact (below_size (bw_ HB.out)) : w.heap.size ≤ gb548)); have n3_ := n2_; clear HB; have HB := n0_; have BK548 := n1_; have GW548 := n2_; have GE548 := n3_; have GI548 := GeI.mk GE548.out; clear n0_ n1_ n2_ n3_; clear hb hbox hg; have y5_0 : w4.cell? ⟨gb548, 0, none⟩ = some (.int .i64 a0_0) := (blk_cell BK548.out 0).trans rfl; have y5_1 : w4.cell? ⟨gb548, 1, none⟩ = some (.int .i64 a0_1) := (blk_cell BK548.out 1).trans rfl; have y5_2 : w4.cell? ⟨gb548, 2, none⟩ = some (.string a0_2) := (blk_cell BK548.out 2).trans rfl; have y5_3 : w4.cell? ⟨gb548, 3, none⟩ = some (.slice A0_3 l0_3.length c0_3) := (blk_cell BK548.out 3).trans rfl; have z5_0 := blk_frozen BK548.out 0; have z5_1 := blk_frozen BK548.out 1; have z5_2 := blk_frozen BK548.out 2; have z5_3 := blk_frozen BK548.out 3) | ((with_reducible refine gate_callee (f := 12) rfl ?_); refine gL_ (some 11) Try.func12 #[.agg #[.int .i64 a0_0, .int .i64 a0_1, .string a0_2, .slice A0_3 l0_3.length c0_3], .int .i64 1048576] ?_; (with_reducible refine (laws_szExpr.calls k a0_0 a0_1 a0_2 _ _ l0_3 1048576 t549 _ ?side1 ?side2 A2.out).mono ?_); (case side1 => repeat (first | exact (Kd.C_below HR0_3.out HB.out) | (with_reducible refine Kd.C_alloc ?_ _) | (with_reducible refine Kd.C_drewN ?_ _) | (with_reducible refine Kd.C_drew ?_))); (case side2 => exact HC0_3.out); rintro e w6 ⟨rfl, hb⟩; refine ⟨_, rfl, ?_⟩; have n0_ := A_ (blk_below (bk_ BK548.out) hb); have n1_ := A_ (below_step (bw_ HB.out) hb); clear BK548; clear HB; have BK548 := n0_; have HB := n1_; clear n0_ n1_; (try clear hb); (try clear hb2); (try clear hk); (try clear hi)))
  go_ret
  exact rt_ (bw_ HB.out)
 ·rw [if_neg c3] at H
  have c3b0 := decide_eq_false c3
  clear c3
  replace H := Option.bind_eq_some_iff.mp H
  obtain ⟨⟨t550, t551, t552, t553⟩, A70, H⟩ := H
  try dsimp only at H
  have A7 := A_ A70
  clear A70
  replace H := Option.bind_eq_some_iff.mp H
  obtain ⟨⟨t556, t557⟩, A80, H⟩ := H
  try dsimp only at H
  have A8 := A_ A80
  clear A80
  replace H := Option.bind_eq_some_iff.mp H
  obtain ⟨⟨t558, t559, t560, t561⟩, A90, H⟩ := H
  try dsimp only at H
  have A9 := A_ A90
  clear A90
  replace H := Option.bind_eq_some_iff.mp H
  obtain ⟨⟨t565, t566⟩, A100, H⟩ := H
  try dsimp only at H
  have A10 := A_ A100
  clear A100
  have HC11 := A_ H
  clear H
  go_enter Try.func9, Try.ntmps9
  go_upto_region 8 with (first | ((with_reducible refine gate_dst (N := 1) rfl ?_); refine box_event ?hg (N := 1) ?hd (cs := #[.int .i64 a0_0, .int .i64 a0_1, .string a0_2, .slice A0_3 l0_3.length c0_3]) (t := 24) ?hr ?_; (case hd => rfl); (case hg => rfl); (case hr => first | (go_simp; done) | (go_simp; rfl)); intro gb548 hg w12 hbox hb; have n0_ := A_ (below_step (bw_ HB.out) hb); have n1_ := A_ (hbox); have n2_ := A_ ((by rw [hg]; exact (below_size (bw_ HB.out)) : w.heap.size ≤ gb548)); have n3_ := n2_; clear HB; have HB := n0_; have BK548 := n1_; have GW548 := n2_; have GE548 := n3_; have GI548 := GeI.mk GE548.out; clear n0_ n1_ n2_ n3_; clear hb hbox hg; have y13_0 : w12.cell? ⟨gb548, 0, none⟩ = some (.int .i64 a0_0) := (blk_cell BK548.out 0).trans rfl; have y13_1 : w12.cell? ⟨gb548, 1, none⟩ = some (.int .i64 a0_1) := (blk_cell BK548.out 1).trans rfl; have y13_2 : w12.cell? ⟨gb548, 2, none⟩ = some (.string a0_2) := (blk_cell BK548.out 2).trans rfl; have y13_3 : w12.cell? ⟨gb548, 3, none⟩ = some (.slice A0_3 l0_3.length c0_3) := (blk_cell BK548.out 3).trans rfl; have z13_0 := blk_frozen BK548.out 0; have z13_1 := blk_frozen BK548.out 1; have z13_2 := blk_frozen BK548.out 2; have z13_3 := blk_frozen BK548.out 3) | ((with_reducible refine gate_callee (f := 12) rfl ?_); refine gL_ (some 11) Try.func12 #[.agg #[.int .i64 a0_0, .int .i64 a0_1, .string a0_2, .slice A0_3 l0_3.length c0_3], .int .i64 1048576] ?_; (with_reducible refine (laws_szExpr.calls k a0_0 a0_1 a0_2 _ _ l0_3 1048576 t549 _ ?side1 ?side2 A2.out).mono ?_); (case side1 => repeat (first | exact (Kd.C_below HR0_3.out HB.out) | (with_reducible refine Kd.C_alloc ?_ _) | (with_reducible refine Kd.C_drewN ?_ _) | (with_reducible refine Kd.C_drew ?_))); (case side2 => exact HC0_3.out); rintro e w14 ⟨rfl, hb⟩; refine ⟨_, rfl, ?_⟩; have n0_ := A_ (blk_below (bk_ BK548.out) hb); have n1_ := A_ (below_step (bw_ HB.out) hb); clear BK548; clear HB; have BK548 := n0_; have HB := n1_; clear n0_ n1_; (try clear hb); (try clear hb2); (try clear hk); (try clear hi); have y15_0 : w14.cell? ⟨gb548, 0, none⟩ = some (.int .i64 a0_0) := (blk_cell BK548.out 0).trans rfl; have y15_1 : w14.cell? ⟨gb548, 1, none⟩ = some (.int .i64 a0_1) := (blk_cell BK548.out 1).trans rfl; have y15_2 : w14.cell? ⟨gb548, 2, none⟩ = some (.string a0_2) := (blk_cell BK548.out 2).trans rfl; have y15_3 : w14.cell? ⟨gb548, 3, none⟩ = some (.slice A0_3 l0_3.length c0_3) := (blk_cell BK548.out 3).trans rfl; have z15_0 := blk_frozen BK548.out 0; have z15_1 := blk_frozen BK548.out 1; have z15_2 := blk_frozen BK548.out 2; have z15_3 := blk_frozen BK548.out 3) | ((with_reducible refine gate_callee (f := 14) rfl ?_); refine gL_ (some 16) Try.func14 #[.agg #[.int .i64 a0_0, .int .i64 a0_1, .string a0_2, .slice A0_3 l0_3.length c0_3]] ?_; (with_reducible refine (laws_toExpr.calls k a0_0 a0_1 a0_2 _ _ l0_3 t550 t551 t552 t553 _ ?side1 ?side2 A7.out).mono ?_); (case side1 => repeat (first | exact (Kd.C_below HR0_3.out HB.out) | (with_reducible refine Kd.C_alloc ?_ _) | (with_reducible refine Kd.C_drewN ?_ _) | (with_reducible refine Kd.C_drew ?_))); (case side2 => exact HC0_3.out); rintro e w16 ⟨v554, rfl, ho0, hb⟩; refine ⟨_, rfl, ?_⟩; have n0_ := A_ (Kd.R_lower ho0 (below_size (bw_ HB.out))); have n1_ := A_ (blk_below (bk_ BK548.out) hb); have n2_ := A_ (below_step (bw_ HB.out) hb); clear BK548; clear HB; have HO555 := n0_; have BK548 := n1_; have HB := n2_; clear n0_ n1_ n2_; (try clear hb); (try clear hb2); (try clear hk); (try clear hi); (try clear ho0); obtain ⟨Ao17, co17, eo17⟩ := Kd.R_slice HO555.out; subst eo17) | ((with_reducible refine gate_callee (f := 40) rfl ?_); refine gL_ (some 17) Try.func40 #[.agg #[.int .i64 t550, .int .i64 t551, .string t552, .slice Ao17 t553.length co17]] ?_; (with_reducible refine (spec_Known.calls k t550 t551 t552 _ _ t553 t556 t557 _ ?side1 ?side2 A8.out).mono ?_); (case side1 => repeat (first | exact (Kd.R_reads' HO555.out).2.2 | (with_reducible refine Kd.C_alloc ?_ _) | (with_reducible refine Kd.C_drewN ?_ _) | (with_reducible refine Kd.C_drew ?_))); (case side2 => exact (Kd.R_reads' HO555.out).2.1); rintro e w18 ⟨rfl, hb⟩; refine ⟨_, rfl, ?_⟩; have n0_ := A_ (Kd.R_below (by (with_reducible repeat (first | apply Kd.R_alloc | apply Kd.R_drewN | apply Kd.R_drew)); exact HO555.out) hb); have n1_ := A_ (blk_below (bk_ BK548.out) hb); have n2_ := A_ (below_step (bw_ HB.out) hb); clear HO555; clear BK548; clear HB; have HO555 := n0_; have BK548 := n1_; have HB := n2_; clear n0_ n1_ n2_; (try clear hb); (try clear hb2); (try clear hk); (try clear hi); have y19_0 : w18.cell? ⟨gb548, 0, none⟩ = some (.int .i64 a0_0) := (blk_cell BK548.out 0).trans rfl; have y19_1 : w18.cell? ⟨gb548, 1, none⟩ = some (.int .i64 a0_1) := (blk_cell BK548.out 1).trans rfl; have y19_2 : w18.cell? ⟨gb548, 2, none⟩ = some (.string a0_2) := (blk_cell BK548.out 2).trans rfl; have y19_3 : w18.cell? ⟨gb548, 3, none⟩ = some (.slice A0_3 l0_3.length c0_3) := (blk_cell BK548.out 3).trans rfl; have z19_0 := blk_frozen BK548.out 0; have z19_1 := blk_frozen BK548.out 1; have z19_2 := blk_frozen BK548.out 2; have z19_3 := blk_frozen BK548.out 3) | ((with_reducible refine gate_callee (f := 14) rfl ?_); refine gL_ (some 21) Try.func14 #[.agg #[.int .i64 a0_0, .int .i64 a0_1, .string a0_2, .slice A0_3 l0_3.length c0_3]] ?_; (with_reducible refine (laws_toExpr.calls k a0_0 a0_1 a0_2 _ _ l0_3 t558 t559 t560 t561 _ ?side1 ?side2 A9.out).mono ?_); (case side1 => repeat (first | exact (Kd.C_below HR0_3.out HB.out) | (with_reducible refine Kd.C_alloc ?_ _) | (with_reducible refine Kd.C_drewN ?_ _) | (with_reducible refine Kd.C_drew ?_))); (case side2 => exact HC0_3.out); rintro e w20 ⟨v562, rfl, ho0, hb⟩; refine ⟨_, rfl, ?_⟩; have n0_ := A_ (Kd.R_elder' (by (with_reducible repeat (first | apply Kd.R_alloc | apply Kd.R_drewN | apply Kd.R_drew)); exact HO555.out) (Kd.R_base ho0) hb); have n1_ := A_ (Kd.R_lower (Kd.R_new' ho0 (Kd.R_lt (by (with_reducible repeat (first | apply Kd.R_alloc | apply Kd.R_drewN | apply Kd.R_drew)); exact HO555.out))) (below_size (bw_ HB.out))); have n2_ := A_ (blk_below (bk_ BK548.out) hb); have n3_ := A_ (below_step (bw_ HB.out) hb); clear HO555; clear BK548; clear HB; have HO555 := n0_; have HO563 := n1_; have BK548 := n2_; have HB := n3_; clear n0_ n1_ n2_ n3_; (try clear hb); (try clear hb2); (try clear hk); (try clear hi); (try clear ho0)) | ((with_reducible refine gate_dst (N := 6) rfl ?_); refine box_event ?hg (N := 6) ?hd (cs := #[.int .i64 0, .int .i64 0, .string (⟨#[]⟩ : ByteArray), .slice none 0 0]) (t := 29) ?hr ?_; (case hd => rfl); (case hg => rfl); (case hr => first | (go_simp; done) | (go_simp; rfl)); intro gb564 hg w21 hbox hb; have n0_ := A_ (Kd.R_below (Kd.R_elderB (by (with_reducible repeat (first | apply Kd.R_alloc | apply Kd.R_drewN | apply Kd.R_drew)); exact HO555.out) gb564 (Nat.le_of_eq hg.symm)) hb); have n1_ := A_ (Kd.R_below (Kd.R_elderB (by (with_reducible repeat (first | apply Kd.R_alloc | apply Kd.R_drewN | apply Kd.R_drew)); exact HO563.out) gb564 (Nat.le_of_eq hg.symm)) hb); have n2_ := A_ (blk_below (bk_ BK548.out) hb); have n3_ := A_ (below_step (bw_ HB.out) hb); have n4_ := A_ (hbox); have n5_ := A_ ((by rw [hg]; exact (below_size (bw_ HB.out)) : w.heap.size ≤ gb564)); have n6_ := n5_; have n7_ := A_ ((by rw [hg]; exact Nat.ne_of_lt (blk_lt (bk_ BK548.out)) : gb548 ≠ gb564)); have n8_ := A_ n7_.out.symm; clear HO555; clear HO563; clear BK548; clear HB; have HO555 := n0_; have HO563 := n1_; have BK548 := n2_; have HB := n3_; have BK564 := n4_; have GW564 := n5_; have GE564 := n6_; have GI564 := GeI.mk GE564.out; have NB548_564 := n7_; have NB564_548 := n8_; clear n0_ n1_ n2_ n3_ n4_ n5_ n6_ n7_ n8_; clear hb hbox hg; have hnb22 := NB564_548.out; have hnc22 := NB548_564.out; have y23_0 : w21.cell? ⟨gb564, 0, none⟩ = some (.int .i64 0) := (blk_cell BK564.out 0).trans rfl; have y23_1 : w21.cell? ⟨gb564, 1, none⟩ = some (.int .i64 0) := (blk_cell BK564.out 1).trans rfl; have y23_2 : w21.cell? ⟨gb564, 2, none⟩ = some (.string (⟨#[]⟩ : ByteArray)) := (blk_cell BK564.out 2).trans rfl; have y23_3 : w21.cell? ⟨gb564, 3, none⟩ = some (.slice none 0 0) := (blk_cell BK564.out 3).trans rfl; have z23_0 := blk_frozen BK564.out 0; have z23_1 := blk_frozen BK564.out 1; have z23_2 := blk_frozen BK564.out 2; have z23_3 := blk_frozen BK564.out 3; obtain ⟨Ao24, co24, eo24⟩ := Kd.R_slice HO563.out; subst eo24) | ((with_reducible refine gate_callee (f := 41) rfl ?_); refine gL_ (some 24) Try.func41 #[.agg #[.int .i64 t558, .int .i64 t559, .string t560, .slice Ao24 t561.length co24]] ?_; (with_reducible refine (impl_Known.calls k t558 t559 t560 _ _ t561 t565 t566 _ ?side1 ?side2 A10.out).mono ?_); (case side1 => refine (Kd.R_reads' (e := 29) (base := w.heap.size) (ok := fun k_ => ((True ∧ some k_ ≠ (.slice Ao17 t553.length co17 : Value).ownBlock) ∧ k_ ≠ gb564)) (n := t561.length) (c := co24) ?_).2.2; exact (by (with_reducible repeat (first | apply Kd.R_alloc | apply Kd.R_drewN | apply Kd.R_drew)); exact (Kd.R_mono (Kd.R_far (p := ⟨gb564, 3, none⟩) (Kd.R_far (p := ⟨gb564, 2, none⟩) (Kd.R_far (p := ⟨gb564, 1, none⟩) (Kd.R_far (p := ⟨gb564, 0, none⟩) (Kd.R_mono HO563.out (fun k_ hk => (⟨hk, hk.2⟩ : _ ∧ k_ ≠ gb564))) (fun _ hk => hk.2) (.int .i64 t558)) (fun _ hk => hk.2) (.int .i64 t559)) (fun _ hk => hk.2) (.string t560)) (fun _ hk => hk.2) (.slice Ao24 t561.length co24)) (fun _ h_ => h_.1)))); (case side2 => exact (Kd.R_reads' HO563.out).2.1); rintro e w25 ⟨rfl, hb⟩; refine ⟨_, rfl, ?_⟩; have n0_ := A_ (Kd.R_below (by (with_reducible repeat (first | apply Kd.R_alloc | apply Kd.R_drewN | apply Kd.R_drew)); exact (Kd.R_mono (Kd.R_far (p := ⟨gb564, 3, none⟩) (Kd.R_far (p := ⟨gb564, 2, none⟩) (Kd.R_far (p := ⟨gb564, 1, none⟩) (Kd.R_far (p := ⟨gb564, 0, none⟩) (Kd.R_mono HO555.out (fun k_ hk => (⟨hk, hk.2⟩ : _ ∧ k_ ≠ gb564))) (fun _ hk => hk.2) (.int .i64 t558)) (fun _ hk => hk.2) (.int .i64 t559)) (fun _ hk => hk.2) (.string t560)) (fun _ hk => hk.2) (.slice Ao24 t561.length co24)) (fun _ h_ => h_.1))) hb); have n1_ := A_ (Kd.R_below (by (with_reducible repeat (first | apply Kd.R_alloc | apply Kd.R_drewN | apply Kd.R_drew)); exact (Kd.R_mono (Kd.R_far (p := ⟨gb564, 3, none⟩) (Kd.R_far (p := ⟨gb564, 2, none⟩) (Kd.R_far (p := ⟨gb564, 1, none⟩) (Kd.R_far (p := ⟨gb564, 0, none⟩) (Kd.R_mono HO563.out (fun k_ hk => (⟨hk, hk.2⟩ : _ ∧ k_ ≠ gb564))) (fun _ hk => hk.2) (.int .i64 t558)) (fun _ hk => hk.2) (.int .i64 t559)) (fun _ hk => hk.2) (.string t560)) (fun _ hk => hk.2) (.slice Ao24 t561.length co24)) (fun _ h_ => h_.1))) hb); have n2_ := A_ (blk_below (g := gb548) (o := .cells #[.int .i64 a0_0, .int .i64 a0_1, .string a0_2, .slice A0_3 l0_3.length c0_3] 24 (0, 0)) (by refine bk_ ?_; refine blk_far ?_ NB548_564.out _; refine bk_ ?_; refine blk_far ?_ NB548_564.out _; refine bk_ ?_; refine blk_far ?_ NB548_564.out _; refine bk_ ?_; refine blk_far ?_ NB548_564.out _; refine bk_ ?_; exact BK548.out) hb); have n3_ := A_ (blk_below (g := gb564) (o := .cells #[.int .i64 t558, .int .i64 t559, .string t560, .slice Ao24 t561.length co24] 29 (0, 0)) (by refine bk_ ?_; refine blk_put (cs := #[.int .i64 t558, .int .i64 t559, .string t560, .slice none 0 0]) ?_ 3 _ rfl; refine bk_ ?_; refine blk_put (cs := #[.int .i64 t558, .int .i64 t559, .string (⟨#[]⟩ : ByteArray), .slice none 0 0]) ?_ 2 _ rfl; refine bk_ ?_; refine blk_put (cs := #[.int .i64 t558, .int .i64 0, .string (⟨#[]⟩ : ByteArray), .slice none 0 0]) ?_ 1 _ rfl; refine bk_ ?_; refine blk_put (cs := #[.int .i64 0, .int .i64 0, .string (⟨#[]⟩ : ByteArray), .slice none 0 0]) ?_ 0 _ rfl; refine bk_ ?_; exact BK564.out) hb); have n4_ := A_ (below_step (bw_ HB.out) hb); clear HO555; clear HO563; clear BK548; clear BK564; clear HB; have HO555 := n0_; have HO563 := n1_; have BK548 := n2_; have BK564 := n3_; have HB := n4_; clear n0_ n1_ n2_ n3_ n4_; (try clear hb); (try clear hb2); (try clear hk); (try clear hi)))
  (try simp only [Act.put, List.setIfInBounds_toArray, List.set_cons_zero, List.set_cons_succ])
  go_cut [34] (fun v34 wc => ∃ (kq : Nat) (x34_10 : Bool), v34 = .bool x34_10 ∧ Aside0 (laws_FnExactKnown.j0 kq x34_10 a0_0 a0_1 a0_2 l0_3 t558 t559 t560 t561 = some r) ∧ Aside0 (kq ≤ k) ∧ Aside0 (Kd.R k29 29 wc w.heap.size (fun k_ => k_ ≠ gb564) (.slice Ao24 t561.length co24) t561) ∧ Aside0 (wc.heap[gb548]? = some (.cells #[.int .i64 a0_0, .int .i64 a0_1, .string a0_2, (.slice A0_3 l0_3.length c0_3)] 24 (0, 0))) ∧ Aside0 (wc.heap[gb564]? = some (.cells #[.int .i64 t558, .int .i64 t559, .string t560, (.slice Ao24 t561.length co24)] 29 (0, 0))) ∧ Aside0 (Below w.heap.size w wc))
  case first =>
   have H := HC11.out
   clear HC11
   by_cases c26 : t565 = t556
   ·rw [if_pos c26] at H
    have c26b0 := beq_iff_eq.mpr c26
    have c26b1 := bne_eq_false_iff_eq.mpr c26
    clear c26
    (first | rw [c26b0] | (simp only [i64_w, i32_w]; rw [c26b0]) | skip)
    have H' := A_ H
    clear H
    go_wp2
    go_meet
    case rel => exact ⟨_, ((t566 != t557)), (by first | rfl | (simp; done) | (simp [*]; done) | (simp [wrap64]; done)), H', ⟨by first | omega | exact Nat.le_refl _⟩, ⟨by (with_reducible repeat (first | apply Kd.R_alloc | apply Kd.R_drewN | apply Kd.R_drew)); exact Kd.R_mono HO563.out (fun _ hk => hk.2)⟩, ⟨by refine bk_ ?_; exact BK548.out⟩, ⟨by refine bk_ ?_; exact BK564.out⟩, ⟨bw_ HB.out⟩⟩
   ·rw [if_neg c26] at H
    have c26b0 := beq_eq_false_iff_ne.mpr c26
    have c26b1 := bne_iff_ne.mpr c26
    (first | rw [c26b0] | (simp only [i64_w, i32_w]; rw [c26b0]) | skip)
    have H' := A_ H
    clear H
    go_wp2
    go_meet
    case rel => exact ⟨_, (true), (by first | rfl | (simp; done) | (simp [*]; done) | (simp [wrap64]; done)), H', ⟨by first | omega | exact Nat.le_refl _⟩, ⟨by (with_reducible repeat (first | apply Kd.R_alloc | apply Kd.R_drewN | apply Kd.R_drew)); exact Kd.R_mono HO563.out (fun _ hk => hk.2)⟩, ⟨by refine bk_ ?_; exact BK548.out⟩, ⟨by refine bk_ ?_; exact BK564.out⟩, ⟨bw_ HB.out⟩⟩
  case rest =>
   clear HC11
   try clear c1
   try clear c2
   try clear p2
   try clear c3
   try clear c3b0
   try clear c4
   try clear c9
   try clear c12
   try clear c14
   try clear c22
   try clear c26
   try clear c26b0
   try clear c26b1
   try clear y13_0 y13_1 y13_2 y13_3 z13_0 z13_1 z13_2 z13_3
   try clear y15_0 y15_1 y15_2 y15_3 z15_0 z15_1 z15_2 z15_3
   try clear y19_0 y19_1 y19_2 y19_3 z19_0 z19_1 z19_2 z19_3
   try clear y23_0 y23_1 y23_2 y23_3 z23_0 z23_1 z23_2 z23_3
   try clear y5_0 y5_1 y5_2 y5_3 z5_0 z5_1 z5_2 z5_3
   obtain ⟨kq, x34_10, rfl, HA, HJ10, HO_565003, BK548, BK564, HB⟩ := hcut
   cases kq with
   | zero => exact absurd HA.out (by simp [laws_FnExactKnown.j0])
   | succ kj10 =>
    have H := HA.out
    clear HA
    simp only [laws_FnExactKnown.j0] at H
    by_cases c27 : x34_10 = true
    ·subst c27
     rw [if_pos rfl] at H
     subst hr_
     exact absurd H (by simp)
    ·replace c27 := Bool.eq_false_iff.mpr c27
     subst c27
     rw [if_neg (show ¬ (false = true) by decide)] at H
     replace H := Option.bind_eq_some_iff.mp H
     obtain ⟨⟨t567, t568, t569, t570⟩, A280, H⟩ := H
     try dsimp only at H
     have A28 := A_ A280
     clear A280
     replace H := Option.bind_eq_some_iff.mp H
     obtain ⟨t573, A290, H⟩ := H
     try dsimp only at H
     have A29 := A_ A290
     clear A290
     by_cases c30 : t573 = true
     ·subst c30
      rw [if_pos rfl] at H
      obtain rfl := Option.some.inj H
      try go_wp2
      have n0_ := A_ (Kd.R_drew HO_565003.out)
      have n1_ := A_ (blk_drew BK548.out)
      have n2_ := A_ (blk_drew BK564.out)
      have n3_ := A_ (below_drew1 HB.out)
      clear HO_565003
      clear BK548
      clear BK564
      clear HB
      have HO_565003 := n0_
      have BK548 := n1_
      have BK564 := n2_
      have HB := n3_
      clear n0_ n1_ n2_ n3_
      refine start_ (n := 5) (S := fun w' => w'.cell? ⟨gb564, 0, none⟩ = some (.int .i64 t558) ∧ w'.cell? ⟨gb564, 1, none⟩ = some (.int .i64 t559) ∧ w'.cell? ⟨gb564, 2, none⟩ = some (.string t560) ∧ w'.cell? ⟨gb564, 3, none⟩ = some (.slice Ao24 t561.length co24) ∧ w'.cell? ⟨gb548, 0, none⟩ = some (.int .i64 a0_0) ∧ w'.cell? ⟨gb548, 1, none⟩ = some (.int .i64 a0_1) ∧ w'.cell? ⟨gb548, 2, none⟩ = some (.string a0_2) ∧ w'.cell? ⟨gb548, 3, none⟩ = some (.slice A0_3 l0_3.length c0_3)) (ds := []) #[false, false, false, false, false] (by kernel_rfl) rfl rfl ⟨(blk_cell BK564.out 0).trans rfl, (blk_cell BK564.out 1).trans rfl, (blk_cell BK564.out 2).trans rfl, (blk_cell BK564.out 3).trans rfl, (blk_cell BK548.out 0).trans rfl, (blk_cell BK548.out 1).trans rfl, (blk_cell BK548.out 2).trans rfl, (blk_cell BK548.out 3).trans rfl⟩ (fun hHeld => ?_)
      generalize wc.drew = w31 at HO_565003 BK548 BK564 HB hHeld ⊢
      refine take_ (i := 0) (N := some 35) (v := ?_) (a' := ?_) #[true, false, false, false, false] rfl rfl (by kernel_rfl) (fun _ _ _ h => h) (Or.inl ⟨by rfl, ?_⟩) hHeld ?_ ?_
      rotate_left
      ·rintro w' ⟨s0, s1, s2, s3, s4, s5, s6, s7⟩
       go_simp
       with_reducible rfl
      rotate_left
      ·simp only [Act.put, List.setIfInBounds_toArray, List.set_cons_zero, List.set_cons_succ, i64_w, i32_w]
       rfl
      refine take_ (i := 1) (N := some 36) (v := ?_) (a' := ?_) #[true, true, false, false, false] rfl rfl (by kernel_rfl) (fun _ _ _ h => h) (Or.inl ⟨by rfl, ?_⟩) hHeld ?_ ?_
      rotate_left
      ·rintro w' ⟨s0, s1, s2, s3, s4, s5, s6, s7⟩
       go_simp
       with_reducible rfl
      rotate_left
      ·simp only [Act.put, List.setIfInBounds_toArray, List.set_cons_zero, List.set_cons_succ, i64_w, i32_w]
       rfl
      refine one_ (i := 2) (N := some 37) #[true, true, true, false, false] rfl rfl (by kernel_rfl) (by decide) (fun K hK => ?_)
      refine goes_ Try.func14 (by kernel_rfl) rfl #[.agg #[.int .i64 a0_0, .int .i64 a0_1, .string a0_2, .slice A0_3 l0_3.length c0_3]] (by rfl) rfl rfl (by (try simp only [List.map_toArray, List.map_cons, List.map_nil]); first | done | rfl | (simp only [List.length_drop, List.length_take]; rfl)) ?_
      with_reducible refine (laws_toExpr.calls kj10 a0_0 a0_1 a0_2 _ _ l0_3 t567 t568 t569 t570 _ ?side1 ?side2 A28.out).mono ?_
      (case side1 => repeat (first | exact (Kd.C_below HR0_3.out HB.out) | (with_reducible refine Kd.C_alloc ?_ _) | (with_reducible refine Kd.C_drewN ?_ _) | (with_reducible refine Kd.C_drew ?_)))
      (case side2 => exact HC0_3.out)
      rintro e w32 ⟨v571, rfl, ho0, hb⟩
      refine ⟨_, rfl, ?_⟩
      have n0_ := A_ (Kd.R_elder' (by (with_reducible repeat (first | apply Kd.R_alloc | apply Kd.R_drewN | apply Kd.R_drew)); exact HO_565003.out) (Kd.R_base ho0) hb)
      have n1_ := A_ (Kd.R_lower (Kd.R_newB (Kd.R_new' ho0 (Kd.R_lt (by (with_reducible repeat (first | apply Kd.R_alloc | apply Kd.R_drewN | apply Kd.R_drew)); exact HO_565003.out))) (bk_ BK564.out)) (below_size (bw_ HB.out)))
      have n2_ := A_ (blk_below (bk_ BK548.out) hb)
      have n3_ := A_ (blk_below (bk_ BK564.out) hb)
      have n4_ := A_ (below_step (bw_ HB.out) hb)
      clear HO_565003
      clear BK548
      clear BK564
      clear HB
      have HO_565003 := n0_
      have HO572 := n1_
      have BK548 := n2_
      have BK564 := n3_
      have HB := n4_
      clear n0_ n1_ n2_ n3_ n4_
      (try clear hb)
      (try clear hb2)
      (try clear hk)
      (try clear hi)
      (try clear ho0)
      obtain ⟨Ao33, co33, eo33⟩ := Kd.R_slice HO572.out
      (first | subst eo33 | (injection eo33 with f1_ f2_ f3_; have f4_ := f1_.symm; have f5_ := f3_.symm; clear f1_ f2_ f3_; subst f4_; subst f5_))
      refine hK.out _ _ ⟨(blk_cell BK564.out 0).trans rfl, (blk_cell BK564.out 1).trans rfl, (blk_cell BK564.out 2).trans rfl, (blk_cell BK564.out 3).trans rfl, (blk_cell BK548.out 0).trans rfl, (blk_cell BK548.out 1).trans rfl, (blk_cell BK548.out 2).trans rfl, (blk_cell BK548.out 3).trans rfl⟩ (fun hHeld => ?_)
      clear hK K
      refine norm_ (a' := ?_) ?_ ?_
      rotate_left
      ·show Act.put _ (some 37) _ = _
       simp only [Act.put, List.setIfInBounds_toArray, List.set_cons_zero, List.set_cons_succ, i64_w, i32_w]
       rfl
      refine one_ (i := 3) (N := some 38) #[true, true, true, true, false] rfl rfl (by kernel_rfl) (by decide) (fun K hK => ?_)
      refine goes_ Try.func16 (by kernel_rfl) rfl #[.agg #[.int .i64 t558, .int .i64 t559, .string t560, .slice Ao24 t561.length co24], .agg #[.int .i64 t567, .int .i64 t568, .string t569, .slice Ao33 t570.length co33]] (by rfl) rfl rfl (by (try simp only [List.map_toArray, List.map_cons, List.map_nil]); first | done | rfl | (simp only [List.length_drop, List.length_take]; rfl)) ?_
      with_reducible refine (laws_eqExpr.calls kj10 t558 t559 t560 _ _ t561 t567 t568 t569 _ _ t570 true _ ?side1 ?side2 ?side3 ?side4 A29.out).mono ?_
      (case side1 => repeat (first | exact (Kd.R_reads' HO_565003.out).2.2 | (with_reducible refine Kd.C_alloc ?_ _) | (with_reducible refine Kd.C_drewN ?_ _) | (with_reducible refine Kd.C_drew ?_)))
      (case side2 => exact (Kd.R_reads' HO_565003.out).2.1)
      (case side3 => repeat (first | exact (Kd.R_reads' HO572.out).2.2 | (with_reducible refine Kd.C_alloc ?_ _) | (with_reducible refine Kd.C_drewN ?_ _) | (with_reducible refine Kd.C_drew ?_)))
      (case side4 => exact (Kd.R_reads' HO572.out).2.1)
      rintro e w34 ⟨rfl, hb⟩
      refine ⟨_, rfl, ?_⟩
      have n0_ := A_ (Kd.R_below (by (with_reducible repeat (first | apply Kd.R_alloc | apply Kd.R_drewN | apply Kd.R_drew)); exact HO_565003.out) hb)
      have n1_ := A_ (Kd.R_below (by (with_reducible repeat (first | apply Kd.R_alloc | apply Kd.R_drewN | apply Kd.R_drew)); exact HO572.out) hb)
      have n2_ := A_ (blk_below (bk_ BK548.out) hb)
      have n3_ := A_ (blk_below (bk_ BK564.out) hb)
      have n4_ := A_ (below_step (bw_ HB.out) hb)
      clear HO_565003
      clear HO572
      clear BK548
      clear BK564
      clear HB
      have HO_565003 := n0_
      have HO572 := n1_
      have BK548 := n2_
      have BK564 := n3_
      have HB := n4_
      clear n0_ n1_ n2_ n3_ n4_
      (try clear hb)
      (try clear hb2)
      (try clear hk)
      (try clear hi)
      refine hK.out _ _ ⟨(blk_cell BK564.out 0).trans rfl, (blk_cell BK564.out 1).trans rfl, (blk_cell BK564.out 2).trans rfl, (blk_cell BK564.out 3).trans rfl, (blk_cell BK548.out 0).trans rfl, (blk_cell BK548.out 1).trans rfl, (blk_cell BK548.out 2).trans rfl, (blk_cell BK548.out 3).trans rfl⟩ (fun hHeld => ?_)
      clear hK K
      refine norm_ (a' := ?_) ?_ ?_
      rotate_left
      ·show Act.put _ (some 38) _ = _
       simp only [Act.put, List.setIfInBounds_toArray, List.set_cons_zero, List.set_cons_succ, i64_w, i32_w]
       rfl
      refine pure_ (i := 4) (N := some 39) (v := ?_) (a' := ?_) #[true, true, true, true, true] rfl rfl (by kernel_rfl) (fun _ _ _ h => h) (Or.inl ⟨by rfl, ?_⟩) ?_ ?_
      rotate_left
      ·intro w'
       go_simp
       with_reducible rfl
      rotate_left
      ·simp only [Act.put, List.setIfInBounds_toArray, List.set_cons_zero, List.set_cons_succ, i64_w, i32_w]
       rfl
      refine done_ (by kernel_rfl) ?_
      try go_wp2
      go_ret
      exact rt_ (bw_ HB.out)
     ·replace c30 := Bool.eq_false_iff.mpr c30
      subst c30
      rw [if_neg (show ¬ (false = true) by decide)] at H
      subst hr_
      exact absurd H (by simp)

end Go.Proofs.Ytcpnhlhigpgonaa.PFnExactKnown
