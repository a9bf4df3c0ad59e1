-- Laid by a program of this session (a changed copy of the kit's printer); Lean checks every line.
import Derived.Test.YtcpnhlhigpgonaaPFnExactFoldx0
import Derived.Test.YtcpnhlhigpgonaaPFnExactFoldx10
namespace Go.Proofs.Ytcpnhlhigpgonaa.PFnExactFold
open Go.RowKit Go.Proofs.YtcpnhlhigpgonaaW.PrintWords Go.Proofs.YtcpnhlhigpgonaaW.PrintLast Go.Proofs.YtcpnhlhigpgonaaW.PrintMore
attribute [local go_sem] max2_int min2_int max_two min_two max_three min_three max_four min_four   -- for this text's walks alone
set_option linter.unusedVariables false
set_option linter.unusedSimpArgs false

/-! ### impl_ExprOk: function 18 -/
def impl_ExprOk.f (k : Nat) (a0_0 : Int) (a0_1 : Int) (a0_2 : ByteArray) (l0_3 : List (S29)) : Option (Bool) := (impl_termOk.f k a0_0 a0_1 a0_2 l0_3 6 false).bind fun t371 => (some t371)
theorem impl_ExprOk.mono : ∀ a0 a1 a2 a3 k, LeO (impl_ExprOk.f k a0 a1 a2 a3) (impl_ExprOk.f (k + 1) a0 a1 a2 a3) := by
 intro a0 a1 a2 a3 k
 unfold impl_ExprOk.f
 repeat' first
   | (with_reducible exact impl_termOk.mono _ _ _ _ _ _ _)
   | (with_reducible exact LeO.refl _)
   | (with_reducible exact LeO.none _)
   | (with_reducible refine LeO.ite ?_ ?_)
   | (with_reducible refine LeO.bind ?_ (fun _ => ?_))
   | exact impl_termOk.mono _ _ _ _ _ _ _
   | exact LeO.none _
   | refine LeO.ite ?_ ?_
   | refine LeO.bind ?_ (fun _ => ?_)
set_option maxHeartbeats 8000000 in
set_option maxRecDepth 100000 in
theorem impl_ExprOk.calls (k : Nat) (a0_0 : Int) (a0_1 : Int) (a0_2 : ByteArray) (A0_3 : Option Addr) (c0_3 : Nat) (l0_3 : List (S29)) (r : Bool) (w : World) (hr0_3 : Kd.C k29 w A0_3 l0_3.length l0_3) (hc0_3 : l0_3.length ≤ c0_3) (h : impl_ExprOk.f k a0_0 a0_1 a0_2 l0_3 = some r) :
  Calls Try.prog 18 #[.agg #[.int .i64 a0_0, .int .i64 a0_1, .string a0_2, .slice A0_3 l0_3.length c0_3]] w fun e w' => e = .returned (.bool r) ∧ Below w.heap.size w w' := by
 have hu29 := Try.underlying29
 have HR0_3 := A_ hr0_3
 have HC0_3 := A_ hc0_3
 clear hr0_3 hc0_3
 have HB := A_ (Below.refl w.heap.size w)
 have H : ((impl_termOk.f k a0_0 a0_1 a0_2 l0_3 6 false).bind fun t371 => (some t371)) = some r := h
 clear h
 replace H := Option.bind_eq_some_iff.mp H
 obtain ⟨t371, A20, H⟩ := H
 try dsimp only at H
 have A2 := A_ A20
 clear A20
 obtain rfl := Option.some.inj H
 go_enter Try.func18, Try.ntmps18
 go_wp2_with (first | ((with_reducible refine gate_dst (N := 1) rfl ?_); refine bx_ 1 #[.int .i64 a0_0, .int .i64 a0_1, .string a0_2, .slice A0_3 l0_3.length c0_3] 29 ?_; intro gb370 hg w3 hbox hb; have n0_ := A_ (below_step (bw_ HB.out) hb); have n1_ := A_ (hbox); have n2_ := A_ ((d3_ : w.heap.size ≤ gb370)); have n3_ := n2_; clear HB; have HB := n0_; have BK370 := n1_; have GW370 := n2_; have GE370 := n3_; have GI370 := GeI.mk GE370.out; clear n0_ n1_ n2_ n3_; clear hb hbox hg; obtain ⟨y4_0, y4_1, y4_2, y4_3, z4_0, z4_1, z4_2, z4_3⟩ := cz4_ BK370.out) | ((with_reducible refine gate_callee (f := 47) rfl ?_); refine gL_ (some 4) Try.func47 #[.agg #[.int .i64 a0_0, .int .i64 a0_1, .string a0_2, .slice A0_3 l0_3.length c0_3], .int .i64 6, .bool false] ?_; (with_reducible refine (impl_termOk.calls k a0_0 a0_1 a0_2 _ _ l0_3 6 false t371 _ ?side1 ?side2 A2.out).mono ?_); (case side1 => exact Kd.C_below HR0_3.out (bw_ HB.out)); (case side2 => exact HC0_3.out); rintro e w5 ⟨rfl, hb⟩; refine ⟨_, rfl, ?_⟩; replace BK370 := A_ (blk_below (bk_ BK370.out) hb); replace HB := A_ (below_step (bw_ HB.out) hb); clear hb))
 go_ret
 exact rt_ (bw_ HB.out)

/-! ### impl_copyExpr: function 59 -/
mutual
def impl_copyExpr.l0 : Nat → List (S29) → Int → Int → Int → Int → ByteArray → List (S29) → Option (Int × Int × ByteArray × (List (S29)))
 | 0, _, _, _, _, _, _, _ => none
 | k + 1, x14, x15, x16, x375000, x375001, x375002, x375003 => if x16 < x15 then (if 0 ≤ x16 then (if x16 < (x14.length : Int) then ((impl_copyExpr.f k ((rd_T29 x14 x16).f0) ((rd_T29 x14 x16).f1) ((rd_T29 x14 x16).f2) ((rd_T29 x14 x16).f3)).bind fun bt377 => (if x375003.length < 2513169434916 then (impl_copyExpr.l0 k x14 x15 (wrap64 (x16 + 1)) x375000 x375001 x375002 (x375003 ++ [(⟨bt377.1, bt377.2.1, bt377.2.2.1, bt377.2.2.2⟩ : S29)])) else (none))) else (none)) else (none)) else (some (x375000, x375001, x375002, x375003))
def impl_copyExpr.f : Nat → Int → Int → ByteArray → List (S29) → Option (Int × Int × ByteArray × (List (S29)))
 | 0, _, _, _, _ => none
 | k + 1, a0_0, a0_1, a0_2, l0_3 => impl_copyExpr.l0 k l0_3 (l0_3.length : Int) 0 a0_0 a0_1 a0_2 ([] : List (S29))
end
theorem impl_copyExpr.mono_l : ∀ k, (∀ y0 y1 y2 y3, LeO (impl_copyExpr.f k y0 y1 y2 y3) (impl_copyExpr.f (k + 1) y0 y1 y2 y3)) ∧ (∀ y0 y1 y2 y3 y4 y5 y6, LeO (impl_copyExpr.l0 k y0 y1 y2 y3 y4 y5 y6) (impl_copyExpr.l0 (k + 1) y0 y1 y2 y3 y4 y5 y6))
 | 0 => ⟨fun _ _ _ _ r h => by simp [impl_copyExpr.f] at h, fun _ _ _ _ _ _ _ r h => by simp [impl_copyExpr.l0] at h⟩
 | k + 1 => by
  obtain ⟨ih0, ih1⟩ := impl_copyExpr.mono_l k
  refine ⟨?_, ?_⟩
  ·intro y0 y1 y2 y3
   unfold impl_copyExpr.f
   repeat' first
   | (with_reducible exact ih0 _ _ _ _)
   | (with_reducible exact ih1 _ _ _ _ _ _ _)
   | (with_reducible exact LeO.refl _)
   | (with_reducible exact LeO.none _)
   | (with_reducible refine LeO.ite ?_ ?_)
   | (with_reducible refine LeO.bind ?_ (fun _ => ?_))
   | exact ih0 _ _ _ _
   | exact ih1 _ _ _ _ _ _ _
   | exact LeO.none _
   | refine LeO.ite ?_ ?_
   | refine LeO.bind ?_ (fun _ => ?_)
  ·intro y0 y1 y2 y3 y4 y5 y6
   unfold impl_copyExpr.l0
   repeat' first
   | (with_reducible exact ih0 _ _ _ _)
   | (with_reducible exact ih1 _ _ _ _ _ _ _)
   | (with_reducible exact LeO.refl _)
   | (with_reducible exact LeO.none _)
   | (with_reducible refine LeO.ite ?_ ?_)
   | (with_reducible refine LeO.bind ?_ (fun _ => ?_))
   | exact ih0 _ _ _ _
   | exact ih1 _ _ _ _ _ _ _
   | exact LeO.none _
   | refine LeO.ite ?_ ?_
   | refine LeO.bind ?_ (fun _ => ?_)
theorem impl_copyExpr.mono : ∀ a0 a1 a2 a3 k, LeO (impl_copyExpr.f k a0 a1 a2 a3) (impl_copyExpr.f (k + 1) a0 a1 a2 a3) := by
 intro a0 a1 a2 a3 k
 obtain ⟨ih0, ih1⟩ := impl_copyExpr.mono_l k
 exact ih0 a0 a1 a2 a3
def impl_copyExpr.T5 : Bool × List (List Nat × List Nat) := (true, [([], []), ([0], [0]), ([], []), ([2], [2]), ([3], [3]), ([1, 4, 3], [1, 4]), ([0, 1, 2, 3, 4, 5], []), ([6, 5, 5, 0, 1, 2, 3, 4, 5], [5, 6])])
def impl_copyExpr.B5 : List Nat := [0, 1, 0, 4, 12, 31, 63, 127]
theorem impl_copyExpr.tab5 : rtab .any (opsOf Try.f59 5) = impl_copyExpr.T5 := by kernel_rfl
theorem impl_copyExpr.bits5 : waitsOk impl_copyExpr.T5.2 impl_copyExpr.B5 = true := by kernel_rfl
set_option maxHeartbeats 8000000 in
set_option maxRecDepth 100000 in
theorem impl_copyExpr.calls (k : Nat) : ∀ (a0_0 : Int) (a0_1 : Int) (a0_2 : ByteArray) (A0_3 : Option Addr) (c0_3 : Nat) (l0_3 : List (S29)) (r1 : Int) (r2 : Int) (r3 : ByteArray) (r4 : List (S29)) (w : World) (hr0_3 : Kd.C k29 w A0_3 l0_3.length l0_3) (hc0_3 : l0_3.length ≤ c0_3) (h : impl_copyExpr.f k a0_0 a0_1 a0_2 l0_3 = some (r1, r2, r3, r4)),
  Calls Try.prog 59 #[.agg #[.int .i64 a0_0, .int .i64 a0_1, .string a0_2, .slice A0_3 l0_3.length c0_3]] w fun e w' => ∃ v3_ : Value, e = .returned (.agg #[.int .i64 r1, .int .i64 r2, .string r3, v3_]) ∧ Kd.S q29 29 w' w.heap.size (fun _ => True) v3_ r4 ∧ Below w.heap.size w w' := by
 induction k using Nat.strongRecOn with
 | _ k ih =>
 intro a0_0 a0_1 a0_2 A0_3 c0_3 l0_3 r1 r2 r3 r4 w hr0_3 hc0_3 h
 cases k with
 | zero => exact absurd h (by simp [impl_copyExpr.f])
 | succ k =>
 simp only [impl_copyExpr.f] at h
 have hu29 := Try.underlying29
 have HR0_3 := A_ hr0_3
 have HC0_3 := A_ hc0_3
 clear hr0_3 hc0_3
 have HB := A_ (Below.refl w.heap.size w)
 have H : (impl_copyExpr.l0 k l0_3 (l0_3.length : Int) 0 a0_0 a0_1 a0_2 ([] : List (S29))) = some (r1, r2, r3, r4) := h
 clear h
 have H' := A_ H
 clear H
 go_enter Try.func59, Try.ntmps59
 go_wp2_with (first | ((with_reducible refine gate_dst (N := 1) rfl ?_); refine bx_ 1 #[.int .i64 a0_0, .int .i64 a0_1, .string a0_2, .slice A0_3 l0_3.length c0_3] 29 ?_; intro gb372 hg w2 hbox hb; have n0_ := A_ (below_step (bw_ HB.out) hb); have n1_ := A_ (hbox); have n2_ := A_ ((d3_ : w.heap.size ≤ gb372)); have n3_ := n2_; clear HB; have HB := n0_; have BK372 := n1_; have GW372 := n2_; have GE372 := n3_; have GI372 := GeI.mk GE372.out; clear n0_ n1_ n2_ n3_; clear hb hbox hg) | ((with_reducible refine gate_dst (N := 2) rfl ?_); refine bx_ 2 #[.int .i64 0, .int .i64 0, .string (⟨#[]⟩ : ByteArray), .slice none 0 0] 29 ?_; intro gb373 hg w3 hbox hb; have n0_ := A_ (blk_below (bk_ BK372.out) hb); have n1_ := A_ (below_step (bw_ HB.out) hb); have n2_ := A_ (hbox); have n3_ := A_ ((d3_ : w.heap.size ≤ gb373)); have n4_ := n3_; have n5_ := A_ ((by rw [hg]; exact Nat.ne_of_lt (blk_lt (bk_ BK372.out)) : gb372 ≠ gb373)); have n6_ := A_ n5_.out.symm; clear BK372; clear HB; have BK372 := n0_; have HB := n1_; have BK373 := n2_; have GW373 := n3_; have GE373 := n4_; have GI373 := GeI.mk GE373.out; have NB372_373 := n5_; have NB373_372 := n6_; clear n0_ n1_ n2_ n3_ n4_ n5_ n6_; clear hb hbox hg; have hnb4 := NB372_373.out; have hnc4 := NB373_372.out; obtain ⟨y5_0, y5_1, y5_2, y5_3, z5_0, z5_1, z5_2, z5_3⟩ := cz4_ BK372.out) | ((with_reducible refine gate_dst (N := 3) rfl ?_); refine bx_ 3 #[.int .i64 0, .int .i64 0, .string (⟨#[]⟩ : ByteArray), .slice none 0 0] 29 ?_; intro gb374 hg w6 hbox hb; have n0_ := A_ (blk_below (bk_ BK372.out) hb); have n1_ := A_ (blk_below (bk_ BK373.out) hb); have n2_ := A_ (below_step (bw_ HB.out) hb); have n3_ := A_ (hbox); have n4_ := A_ ((d3_ : w.heap.size ≤ gb374)); have n5_ := n4_; have n6_ := A_ ((by rw [hg]; exact Nat.ne_of_lt (blk_lt (bk_ BK372.out)) : gb372 ≠ gb374)); have n7_ := A_ n6_.out.symm; have n8_ := A_ ((by rw [hg]; exact Nat.ne_of_lt (blk_lt (bk_ BK373.out)) : gb373 ≠ gb374)); have n9_ := A_ n8_.out.symm; clear BK372; clear BK373; clear HB; have BK372 := n0_; have BK373 := n1_; have HB := n2_; have BK374 := n3_; have GW374 := n4_; have GE374 := n5_; have GI374 := GeI.mk GE374.out; have NB372_374 := n6_; have NB374_372 := n7_; have NB373_374 := n8_; have NB374_373 := n9_; clear n0_ n1_ n2_ n3_ n4_ n5_ n6_ n7_ n8_ n9_; clear hb hbox hg; have hnb7 := NB374_372.out; have hnc7 := NB372_374.out; have hnb8 := NB374_373.out; have hnc8 := NB373_374.out; obtain ⟨y9_0, y9_1, y9_2, y9_3, z9_0, z9_1, z9_2, z9_3⟩ := cz4_ BK374.out; obtain ⟨y10_0, y10_1, y10_2, y10_3, z10_0, z10_1, z10_2, z10_3⟩ := cz4_ BK372.out))
 go_loopg [16] k (fun kq v16 w' => ∃ (x16_1 : Int) (x375003_1 : List (S29)) (u375003 : Value), v16 = .int .i64 x16_1 ∧ Aside0 (impl_copyExpr.l0 kq l0_3 (l0_3.length : Int) x16_1 a0_0 a0_1 a0_2 x375003_1 = some (r1, r2, r3, r4)) ∧ Aside0 (kq ≤ k) ∧ Aside0 (Kd.S q29 29 w' w.heap.size (fun k_ => k_ ≠ gb372 ∧ k_ ≠ gb373 ∧ k_ ≠ gb374) u375003 x375003_1) ∧ Aside0 (w'.heap[gb372]? = some (.cells #[.int .i64 a0_0, .int .i64 a0_1, .string a0_2, (.slice A0_3 l0_3.length c0_3)] 29 (0, 0))) ∧ Aside0 (w'.heap[gb373]? = some (.cells #[.int .i64 0, .int .i64 0, .string (⟨#[]⟩ : ByteArray), (.slice none 0 0)] 29 (0, 0))) ∧ Aside0 (w'.heap[gb374]? = some (.cells #[.int .i64 a0_0, .int .i64 a0_1, .string a0_2, u375003] 29 (0, 0))) ∧ Aside0 (Below w.heap.size w w'))
 case atStart => exact ⟨(0), (([] : List (S29))), (.slice none 0 0), d4_, H', ⟨Nat.le_refl _⟩, ⟨by first | exact Kd.S_nil _ _ _ _ _ | exact Kd.N_nil _ _ _ _ _ | exact Kd.V_nil _ _ _ _ _ | exact Kd.Q_nil _ _ _ _ _ | exact Kd.R_nil _ _ _ _ _⟩, ⟨by refine bk_ ?_; refine blk_far ?_ NB372_374.out _; refine bk_ ?_; refine blk_far ?_ NB372_374.out _; refine bk_ ?_; refine blk_far ?_ NB372_374.out _; refine bk_ ?_; refine blk_far ?_ NB372_374.out _; refine bk_ ?_; exact BK372.out⟩, ⟨by refine bk_ ?_; refine blk_far ?_ NB373_374.out _; refine bk_ ?_; refine blk_far ?_ NB373_374.out _; refine bk_ ?_; refine blk_far ?_ NB373_374.out _; refine bk_ ?_; refine blk_far ?_ NB373_374.out _; refine bk_ ?_; exact BK373.out⟩, ⟨by exact bk_ (bp4_ (bk_ BK374.out))⟩, ⟨bw_ HB.out⟩⟩
 case round =>
  clear H'
  try clear p2
  try clear c4
  try clear c5
  try clear c7
  try clear c8
  try clear y10_0 y10_1 y10_2 y10_3 z10_0 z10_1 z10_2 z10_3
  try clear y5_0 y5_1 y5_2 y5_3 z5_0 z5_1 z5_2 z5_3
  try clear y9_0 y9_1 y9_2 y9_3 z9_0 z9_1 z9_2 z9_3
  obtain ⟨x16_1, x375003_1, u375003, rfl, HA, HK1, HO_375003, BK372, BK373, BK374, HB⟩ := hrel
  cases gk with
  | zero => exact absurd HA.out (by simp [impl_copyExpr.l0])
  | succ k1 =>
   have H := HA.out
   clear HA
   simp only [impl_copyExpr.l0] at H
   by_cases c11 : x16_1 < (l0_3.length : Int)
   ·rw [if_pos c11] at H
    have c11b0 := decide_eq_true c11
    clear c11
    by_cases c12 : 0 ≤ x16_1
    ·rw [if_pos c12] at H
     have c12b0 := decide_eq_true c12
     clear c12
     by_cases c13 : x16_1 < (l0_3.length : Int)
     ·rw [if_pos c13] at H
      have c13b0 := decide_eq_true c13
      clear c13
      replace H := Option.bind_eq_some_iff.mp H
      obtain ⟨⟨t377, t378, t379, t380⟩, A140, H⟩ := H
      try dsimp only at H
      have A14 := A_ A140
      clear A140
      by_cases c15 : x375003_1.length < 2513169434916
      ·rw [if_pos c15] at H
       have LMc15 := A_ c15
       clear c15
       obtain ⟨y383, hy383⟩ : ∃ y_ : List (S29), y_ = (x375003_1 ++ [(⟨t377, t378, t379, t380⟩ : S29)]) := ⟨_, rfl⟩
       replace H : (impl_copyExpr.l0 k1 l0_3 (l0_3.length : Int) (wrap64 (x16_1 + 1)) a0_0 a0_1 a0_2 y383) = some (r1, r2, r3, r4) := by first | (rw [hy383]; with_reducible exact H) | (have H2_ := (Option.bind_some _ _).symm.trans H; rw [hy383]; with_reducible exact H2_) | (have H2_ := (Option.bind_some _ _).symm.trans H; with_reducible exact H2_) | with_reducible exact H | (rw [hy383]; exact H) | exact H
       have Ny383 := A_ hy383
       clear hy383
       have H' := A_ H
       clear H
       have p375 : 0 ≤ (x16_1 : Int) := of_decide_eq_true d1_
       have q375 : x16_1 < (l0_3.length : Int) := of_decide_eq_true d1_
       obtain ⟨ad375, A375_3, c375_3, e375, hx375_0, hx375_1, hx375_2, hx375_3, hl375_3, hi375_3⟩ := at_T29 HR0_3.out x16_1 p375 q375
       cases e375
       replace hx375_0 := (HB.out.cell (World.block_lt_of_cell? w _ hx375_0)).trans hx375_0
       replace hx375_1 := (HB.out.cell (World.block_lt_of_cell? w _ hx375_1)).trans hx375_1
       replace hx375_2 := (HB.out.cell (World.block_lt_of_cell? w _ hx375_2)).trans hx375_2
       replace hx375_3 := (HB.out.cell (World.block_lt_of_cell? w _ hx375_3)).trans hx375_3
       have HR375_3 := A_ hi375_3
       have HC375_3 := A_ hl375_3
       clear hi375_3 hl375_3
       replace p375 := eq_true p375
       replace q375 := eq_true q375
       try go_wp2_with (first | ((with_reducible refine gate_dst (N := 5) rfl ?_); refine bx_ 5 #[.int .i64 0, .int .i64 0, .string (⟨#[]⟩ : ByteArray), .slice none 0 0] 29 ?_; intro gb376 hg w16 hbox hb; have n0_ := A_ (Kd.S_below (Kd.S_elderB d41_ gb376 (Nat.le_of_eq hg.symm)) hb); have n1_ := A_ (blk_below (bk_ BK372.out) hb); have n2_ := A_ (blk_below (bk_ BK373.out) hb); have n3_ := A_ (blk_below (bk_ BK374.out) hb); have n4_ := A_ (below_step (bw_ HB.out) hb); have n5_ := A_ (hbox); have n6_ := A_ ((d3_ : w.heap.size ≤ gb376)); have n7_ := n6_; have n8_ := A_ ((by rw [hg]; exact Nat.ne_of_lt (blk_lt (bk_ BK372.out)) : gb372 ≠ gb376)); have n9_ := A_ n8_.out.symm; have n10_ := A_ ((by rw [hg]; exact Nat.ne_of_lt (blk_lt (bk_ BK373.out)) : gb373 ≠ gb376)); have n11_ := A_ n10_.out.symm; have n12_ := A_ ((by rw [hg]; exact Nat.ne_of_lt (blk_lt (bk_ BK374.out)) : gb374 ≠ gb376)); have n13_ := A_ n12_.out.symm; clear HO_375003; clear BK372; clear BK373; clear BK374; clear HB; have HO_375003 := n0_; have BK372 := n1_; have BK373 := n2_; have BK374 := n3_; have HB := n4_; have BK376 := n5_; have GW376 := n6_; have GE376 := n7_; have GI376 := GeI.mk GE376.out; have NB372_376 := n8_; have NB376_372 := n9_; have NB373_376 := n10_; have NB376_373 := n11_; have NB374_376 := n12_; have NB376_374 := n13_; clear n0_ n1_ n2_ n3_ n4_ n5_ n6_ n7_ n8_ n9_ n10_ n11_ n12_ n13_; clear hb hbox hg; have hnb17 := NB376_372.out; have hnc17 := NB372_376.out; have hnb18 := NB376_373.out; have hnc18 := NB373_376.out; have hnb19 := NB376_374.out; have hnc19 := NB374_376.out; obtain ⟨y20_0, y20_1, y20_2, y20_3, z20_0, z20_1, z20_2, z20_3⟩ := cz4_ BK376.out))
       obtain ⟨w21, hz_⟩ : ∃ z_, z_ = ((((w16.setCell ⟨gb376, 0, none⟩ (.int .i64 ((rd_T29 l0_3 x16_1).f0))).setCell ⟨gb376, 1, none⟩ (.int .i64 ((rd_T29 l0_3 x16_1).f1))).setCell ⟨gb376, 2, none⟩ (.string ((rd_T29 l0_3 x16_1).f2))).setCell ⟨gb376, 3, none⟩ (.slice A375_3 ((rd_T29 l0_3 x16_1).f3).length c375_3)) := ⟨_, rfl⟩
       have n0_ : Aside0 (Kd.S q29 29 w21 w.heap.size (fun k_ => k_ ≠ gb372 ∧ k_ ≠ gb373 ∧ k_ ≠ gb374 ∧ k_ ≠ gb376) u375003 x375003_1) := ⟨by rw [hz_]; (with_reducible repeat (first | apply Kd.S_alloc | apply Kd.S_drewN | apply Kd.S_drew)); exact Kd.S_mono (Kd.S_far (p := ⟨gb376, 3, none⟩) (Kd.S_far (p := ⟨gb376, 2, none⟩) (Kd.S_far (p := ⟨gb376, 1, none⟩) (Kd.S_far (p := ⟨gb376, 0, none⟩) (Kd.S_mono HO_375003.out (fun k_ hk => (⟨hk, hk.2⟩ : _ ∧ k_ ≠ gb376))) (fun _ hk => hk.2) (.int .i64 ((rd_T29 l0_3 x16_1).f0))) (fun _ hk => hk.2) (.int .i64 ((rd_T29 l0_3 x16_1).f1))) (fun _ hk => hk.2) (.string ((rd_T29 l0_3 x16_1).f2))) (fun _ hk => hk.2) (.slice A375_3 ((rd_T29 l0_3 x16_1).f3).length c375_3)) (fun _ hk => ⟨hk.1.1.1, ⟨hk.1.1.2.1, ⟨hk.1.1.2.2, hk.1.2⟩⟩⟩)⟩
       have n1_ : Aside0 (w21.heap[gb372]? = some (.cells #[.int .i64 a0_0, .int .i64 a0_1, .string a0_2, .slice (some ad375) l0_3.length c0_3] 29 (0, 0))) := ⟨by rw [hz_]; refine bk_ ?_; refine blk_far ?_ NB372_376.out _; refine bk_ ?_; refine blk_far ?_ NB372_376.out _; refine bk_ ?_; refine blk_far ?_ NB372_376.out _; refine bk_ ?_; refine blk_far ?_ NB372_376.out _; refine bk_ ?_; exact BK372.out⟩
       have n2_ : Aside0 (w21.heap[gb373]? = some (.cells #[.int .i64 0, .int .i64 0, .string (⟨#[]⟩ : ByteArray), .slice none 0 0] 29 (0, 0))) := ⟨by rw [hz_]; refine bk_ ?_; refine blk_far ?_ NB373_376.out _; refine bk_ ?_; refine blk_far ?_ NB373_376.out _; refine bk_ ?_; refine blk_far ?_ NB373_376.out _; refine bk_ ?_; refine blk_far ?_ NB373_376.out _; refine bk_ ?_; exact BK373.out⟩
       have n3_ : Aside0 (w21.heap[gb374]? = some (.cells #[.int .i64 a0_0, .int .i64 a0_1, .string a0_2, u375003] 29 (0, 0))) := ⟨by rw [hz_]; refine bk_ ?_; refine blk_far ?_ NB374_376.out _; refine bk_ ?_; refine blk_far ?_ NB374_376.out _; refine bk_ ?_; refine blk_far ?_ NB374_376.out _; refine bk_ ?_; refine blk_far ?_ NB374_376.out _; refine bk_ ?_; exact BK374.out⟩
       have n4_ : Aside0 (w21.heap[gb376]? = some (.cells #[.int .i64 ((rd_T29 l0_3 x16_1).f0), .int .i64 ((rd_T29 l0_3 x16_1).f1), .string ((rd_T29 l0_3 x16_1).f2), .slice A375_3 ((rd_T29 l0_3 x16_1).f3).length c375_3] 29 (0, 0))) := ⟨by rw [hz_]; exact bk_ (bp4_ (bk_ BK376.out))⟩
       have n5_ : Aside0 (Below w.heap.size w w21) := ⟨by rw [hz_]; exact bw_ HB.out⟩
       (try clear HO_375003)
       (try clear BK372)
       (try clear BK373)
       (try clear BK374)
       (try clear BK376)
       (try clear HB)
       rw [← hz_]
       clear hz_
       have HO_375003 := n0_
       have BK372 := n1_
       have BK373 := n2_
       have BK374 := n3_
       have BK376 := n4_
       have HB := n5_
       clear n0_ n1_ n2_ n3_ n4_ n5_
       replace HO_375003 := A_ (Kd.S_drew HO_375003.out)
       replace BK372 := A_ (blk_drew BK372.out)
       replace BK373 := A_ (blk_drew BK373.out)
       replace BK374 := A_ (blk_drew BK374.out)
       replace BK376 := A_ (blk_drew BK376.out)
       replace HB := A_ (below_drew1 HB.out)
       refine start_ (n := 8) (S := fun w' => w'.cell? ⟨gb374, 0, none⟩ = some (.int .i64 a0_0) ∧ w'.cell? ⟨gb374, 1, none⟩ = some (.int .i64 a0_1) ∧ w'.cell? ⟨gb374, 2, none⟩ = some (.string a0_2) ∧ w'.cell? ⟨gb374, 3, none⟩ = some (u375003) ∧ w'.cell? ⟨gb376, 0, none⟩ = some (.int .i64 ((rd_T29 l0_3 x16_1).f0)) ∧ w'.cell? ⟨gb376, 1, none⟩ = some (.int .i64 ((rd_T29 l0_3 x16_1).f1)) ∧ w'.cell? ⟨gb376, 2, none⟩ = some (.string ((rd_T29 l0_3 x16_1).f2)) ∧ w'.cell? ⟨gb376, 3, none⟩ = some (.slice A375_3 ((rd_T29 l0_3 x16_1).f3).length c375_3)) (ds := [7]) #[false, false, false, false, false, false, false, false] (by kernel_rfl) rfl rfl ⟨(blk_cell BK374.out 0).trans rfl, (blk_cell BK374.out 1).trans rfl, (blk_cell BK374.out 2).trans rfl, (blk_cell BK374.out 3).trans rfl, (blk_cell BK376.out 0).trans rfl, (blk_cell BK376.out 1).trans rfl, (blk_cell BK376.out 2).trans rfl, (blk_cell BK376.out 3).trans rfl⟩ (fun hHeld => ?_); refine with_tabW impl_copyExpr.tab5 impl_copyExpr.bits5 (fun HT_ HW_ => ?_)
       generalize w21.drew = w22 at HO_375003 BK372 BK373 BK374 BK376 HB hHeld ⊢
       refine pu_ 0 (some 20) (bm_ 8 1) (any_of HT_.out (by kernel_rfl)) ?_
       refine take_ (i := 1) (N := some 21) (v := ?_) (a' := ?_) (bm_ 8 3) rfl rfl (take_ofW HT_.out HW_.out (by kernel_rfl)) (fun _ _ _ h => h) (Or.inl ⟨by rfl, ?_⟩) hHeld ?_ ?_
       rotate_left
       ·rintro w' ⟨s0, s1, s2, s3, s4, s5, s6, s7⟩
        go_simp
        with_reducible rfl
       rotate_left
       ·simp only [Act.put, List.setIfInBounds_toArray, List.set_cons_zero, List.set_cons_succ, i64_w, i32_w]
        rfl
       refine take_ (i := 2) (N := some 22) (v := ?_) (a' := ?_) (bm_ 8 7) rfl rfl (take_ofW HT_.out HW_.out (by kernel_rfl)) (fun _ _ _ h => h) (Or.inl ⟨by rfl, ?_⟩) hHeld ?_ ?_
       rotate_left
       ·rintro w' ⟨s0, s1, s2, s3, s4, s5, s6, s7⟩
        go_simp
        with_reducible rfl
       rotate_left
       ·simp only [Act.put, List.setIfInBounds_toArray, List.set_cons_zero, List.set_cons_succ, i64_w, i32_w]
        rfl
       refine one_ (i := 3) (N := some 23) (bm_ 8 15) rfl rfl (one_of HT_.out (by kernel_rfl)) (by decide) (fun K hK => ?_)
       refine goes_ Try.func59 (by kernel_rfl) rfl #[.agg #[.int .i64 ((rd_T29 l0_3 x16_1).f0), .int .i64 ((rd_T29 l0_3 x16_1).f1), .string ((rd_T29 l0_3 x16_1).f2), .slice A375_3 ((rd_T29 l0_3 x16_1).f3).length c375_3]] (by rfl) rfl rfl d6_ ?_
       with_reducible refine (ih k1 (by have := HK1.out; omega) ((rd_T29 l0_3 x16_1).f0) ((rd_T29 l0_3 x16_1).f1) ((rd_T29 l0_3 x16_1).f2) _ _ ((rd_T29 l0_3 x16_1).f3) t377 t378 t379 t380 _ ?side1 ?side2 A14.out).mono ?_
       (case side1 => exact Kd.C_below HR375_3.out (bw_ HB.out))
       (case side2 => exact HC375_3.out)
       rintro e w23 ⟨v381, rfl, ho0, hb⟩
       refine ⟨_, rfl, ?_⟩
       obtain ⟨NN_, hN_, ho0⟩ := Kd.age_ ho0
       have HO382 := A_ (Kd.S_lower (Kd.S_newB (Kd.S_newB (Kd.S_newB (Kd.S_newB (Kd.S_new' ho0 (Kd.S_lt d41_)) (bk_ BK372.out)) (bk_ BK373.out)) (bk_ BK374.out)) (bk_ BK376.out)) (below_size (bw_ HB.out)))
       replace HO_375003 := A_ (Kd.old_ hN_ d41_ hb)
       replace BK372 := A_ (blk_below (bk_ BK372.out) hb)
       replace BK373 := A_ (blk_below (bk_ BK373.out) hb)
       replace BK374 := A_ (blk_below (bk_ BK374.out) hb)
       replace BK376 := A_ (blk_below (bk_ BK376.out) hb)
       replace HB := A_ (below_step (bw_ HB.out) hb)
       (try clear hb)
       (try clear hb2)
       (try clear hk)
       (try clear hi)
       (try clear ho0)
       obtain ⟨Ao25, co25, eo25⟩ := Kd.S_slice HO382.out
       (first | subst eo25 | (injection eo25 with f1_ f2_ f3_; have f4_ := f1_.symm; have f5_ := f3_.symm; clear f1_ f2_ f3_; subst f4_; subst f5_))
       refine hK.out _ _ ⟨(blk_cell BK374.out 0).trans rfl, (blk_cell BK374.out 1).trans rfl, (blk_cell BK374.out 2).trans rfl, (blk_cell BK374.out 3).trans rfl, (blk_cell BK376.out 0).trans rfl, (blk_cell BK376.out 1).trans rfl, (blk_cell BK376.out 2).trans rfl, (blk_cell BK376.out 3).trans rfl⟩ (fun hHeld => ?_)
       clear hK K
       refine norm_ (a' := ?_) ?_ ?_
       rotate_left
       ·show Act.put _ (some 23) _ = _
        simp only [Act.put, List.setIfInBounds_toArray, List.set_cons_zero, List.set_cons_succ, i64_w, i32_w]
        rfl
       refine one_ (i := 4) (N := some 24) (bm_ 8 31) rfl rfl (one_of HT_.out (by kernel_rfl)) (by decide) (fun K hK => ?_)
       refine value_ (w1 := ?_) (v := ?_) (by rfl) rfl ?_ ?_
       rotate_left 2
       ·go_simp
        constructor
        ·rfl
        ·rfl
       refine hK.out _ _ ⟨(blk_cell (blk_alloc BK374.out _) 0).trans rfl, (blk_cell (blk_alloc BK374.out _) 1).trans rfl, (blk_cell (blk_alloc BK374.out _) 2).trans rfl, (blk_cell (blk_alloc BK374.out _) 3).trans rfl, (blk_cell (blk_alloc BK376.out _) 0).trans rfl, (blk_cell (blk_alloc BK376.out _) 1).trans rfl, (blk_cell (blk_alloc BK376.out _) 2).trans rfl, (blk_cell (blk_alloc BK376.out _) 3).trans rfl⟩ (fun hHeld => ?_)
       clear hK K
       refine norm_ (a' := ?_) ?_ ?_
       rotate_left
       ·show Act.put _ (some 24) _ = _
        simp only [Act.put, List.setIfInBounds_toArray, List.set_cons_zero, List.set_cons_succ, i64_w, i32_w]
        rfl
       refine one_ (i := 5) (N := some 25) (bm_ 8 63) rfl rfl (one_of HT_.out (by kernel_rfl)) (by decide) (fun K hK => ?_)
       refine Kd.S_append_step q29 (w0 := w) w.heap.size (by rfl) (.tmp 21) (.tmp 24) 27 29 (.agg #[(.int .i64 0), (.int .i64 0), (.string ⟨#[]⟩), (.slice none 0 0)]) 56 rfl Try.underlying27 info29 rfl (by decide) (by omega) u375003 x375003_1 (⟨t377, t378, t379, t380⟩ : S29) [.int .i64 t377, .int .i64 t378, .string t379, .slice Ao25 t380.length co25] (fun k_ => k_ ≠ gb372 ∧ k_ ≠ gb373 ∧ k_ ≠ gb374 ∧ k_ ≠ gb376) (fun k_ => NN_ ≤ k_ ∧ (((fun k_ => k_ ≠ gb372 ∧ k_ ≠ gb373 ∧ k_ ≠ gb374 ∧ k_ ≠ gb376)) k_ ∧ some k_ ≠ (u375003 : Value).ownBlock)) rfl rfl ?aP (fun k_ hk_ => hk_.2) ?aF ?aO ?aB ?aS ?aL ?_
       (case aP => exact q29_mkM _ _ _ (⟨t377, t378, t379, t380⟩ : S29) (Kd.S_mono HO382.out (fun k_ hk => ⟨hk.1.1.1.1.1.2, ⟨⟨hk.1.1.1.2, ⟨hk.1.1.2, ⟨hk.1.2, hk.2⟩⟩⟩, hk.1.1.1.1.2⟩⟩)))
       (case aB => exact (bw_ HB.out))
       (case aF => exact (fun k_ hk => ⟨Kd.freshB (bk_ BK372.out) k_ hk, Kd.freshB (bk_ BK373.out) k_ hk, Kd.freshB (bk_ BK374.out) k_ hk, Kd.freshB (bk_ BK376.out) k_ hk⟩))
       (case aO => exact (by (with_reducible repeat (first | apply Kd.S_alloc | apply Kd.S_drewN | apply Kd.S_drew)); exact Kd.S_mono HO_375003.out (fun k_ hk => ⟨⟨hk.1.1, ⟨hk.1.2.1, ⟨hk.1.2.2.1, hk.1.2.2.2⟩⟩⟩, fun e_ => absurd hk.2 (Nat.not_lt.2 e_.1)⟩)))
       (case aS => exact (below_size (bw_ HB.out)))
       (case aL => have := LMc15.out; omega)
       intro v384 w24 ho hb hg hat
       rw [← Ny383.out] at ho
       have n0_ := A_ (blk_grown (bk_ BK372.out) hg (Kd.S_away HO_375003.out (fun _ hk => hk.1.1)))
       have n1_ := A_ (blk_grown (bk_ BK373.out) hg (Kd.S_away HO_375003.out (fun _ hk => hk.1.2.1)))
       have n2_ := A_ (blk_grown (bk_ BK374.out) hg (Kd.S_away HO_375003.out (fun _ hk => hk.1.2.2.1)))
       have n3_ := A_ (blk_grown (bk_ BK376.out) hg (Kd.S_away HO_375003.out (fun _ hk => hk.1.2.2.2)))
       have n4_ := A_ (hb)
       have n5_ := A_ (ho)
       clear BK372
       clear BK373
       clear BK374
       clear BK376
       clear HB
       clear HO_375003
       clear HO382
       have BK372 := n0_
       have BK373 := n1_
       have BK374 := n2_
       have BK376 := n3_
       have HB := n4_
       have HO385 := n5_
       clear n0_ n1_ n2_ n3_ n4_ n5_
       clear ho hb hg hat
       obtain ⟨Ao26, co26, eo26⟩ := Kd.S_slice HO385.out
       (first | subst eo26 | (injection eo26 with f1_ f2_ f3_; have f4_ := f1_.symm; have f5_ := f3_.symm; clear f1_ f2_ f3_; subst f4_; subst f5_))
       refine hK.out _ _ ⟨(blk_cell BK374.out 0).trans rfl, (blk_cell BK374.out 1).trans rfl, (blk_cell BK374.out 2).trans rfl, (blk_cell BK374.out 3).trans rfl, (blk_cell BK376.out 0).trans rfl, (blk_cell BK376.out 1).trans rfl, (blk_cell BK376.out 2).trans rfl, (blk_cell BK376.out 3).trans rfl⟩ (fun hHeld => ?_)
       clear hK K
       refine norm_ (a' := ?_) ?_ ?_
       rotate_left
       ·show Act.put _ (some 25) _ = _
        simp only [Act.put, List.setIfInBounds_toArray, List.set_cons_zero, List.set_cons_succ, i64_w, i32_w]
        rfl
       refine pu_ 6 (some 26) (bm_ 8 127) (any_of HT_.out (by kernel_rfl)) ?_
       refine last_ (i := 7) (N := none) (bm_ 8 255) rfl rfl (one_of HT_.out (by kernel_rfl)) (by decide) (fun K hK => ?_)
       have hs27 : w24.cell? ⟨gb374, 3, none⟩ = some (u375003) := (blk_cell BK374.out 3).trans rfl
       have hfs27 := blk_frozen BK374.out 3
       have hns27_0 := NB372_374.out
       have hns27_1 := NB373_374.out
       have hns27_3 := NB376_374.out
       have hms27_0 := NB374_372.out
       have hms27_1 := NB374_373.out
       have hms27_3 := NB374_376.out
       refine skip_ (w1 := ?_) (by rfl) rfl ?_ ?_
       rotate_left
       ·go_simp
        rfl
       refine hK.out _ _ ?_
       clear hK K
       refine done_ (done_of HT_.out (by kernel_rfl)) ?_
       try go_wp2
       go_roundg k1
       case measure => have := HK1.out; omega
       case rel => exact ⟨(wrap64 (x16_1 + 1)), (y383), (.slice Ao26 y383.length co26), d4_, H', ⟨by have := HK1.out; omega⟩, ⟨by (with_reducible repeat (first | apply Kd.S_alloc | apply Kd.S_drewN | apply Kd.S_drew)); exact Kd.S_mono (Kd.S_far (p := ⟨gb374, 3, none⟩) (Kd.S_mono HO385.out (fun k_ hk => (⟨hk, hk.2.2.1⟩ : _ ∧ k_ ≠ gb374))) (fun _ hk => hk.2) (.slice Ao26 y383.length co26)) (fun _ hk => ⟨hk.1.1, ⟨hk.1.2.1, hk.1.2.2.1⟩⟩)⟩, ⟨by refine bk_ ?_; refine blk_far ?_ NB372_374.out _; refine bk_ ?_; exact BK372.out⟩, ⟨by refine bk_ ?_; refine blk_far ?_ NB373_374.out _; refine bk_ ?_; exact BK373.out⟩, ⟨by refine bk_ ?_; refine blk_put (cs := #[.int .i64 a0_0, .int .i64 a0_1, .string a0_2, u375003]) ?_ 3 _ rfl; refine bk_ ?_; exact BK374.out⟩, ⟨bw_ HB.out⟩⟩
      ·rw [if_neg c15] at H
       exact absurd H (by simp)
     ·rw [if_neg c13] at H
      exact absurd H (by simp)
    ·rw [if_neg c12] at H
     exact absurd H (by simp)
   ·rw [if_neg c11] at H
    have c11b0 := decide_eq_false c11
    clear c11
    simp only [Option.some.injEq, Prod.mk.injEq] at H
    obtain ⟨rfl, rfl, rfl, rfl⟩ := H
    have hnb28 := NB374_372.out
    have hnc28 := NB372_374.out
    have hnb29 := NB374_373.out
    have hnc29 := NB373_374.out
    obtain ⟨y30_0, y30_1, y30_2, y30_3, z30_0, z30_1, z30_2, z30_3⟩ := cz4_ BK374.out
    have hnb31 := NB373_372.out
    have hnc31 := NB372_373.out
    obtain ⟨y32_0, y32_1, y32_2, y32_3, z32_0, z32_1, z32_2, z32_3⟩ := cz4_ BK373.out
    obtain ⟨Ao33, co33, eo33⟩ := Kd.S_slice HO_375003.out
    subst eo33
    go_wp2
    refine bodyPost_ret (results_cell_row rfl _ _ gb373 29 #[.int .i64 a0_0, .int .i64 a0_1, .string a0_2, .slice Ao33 x375003_1.length co33] (0, 0) _ rfl ?hb_ Try.underlying29 rfl (by kernel_rfl)) rfl ?_
    (case hb_ => exact bk_ (bp4_ (bk_ BK373.out)))
    exact ⟨_, by first | rfl | (simp [errW_none, errW_some] <;> rfl) | (simp [*, errW_none, errW_some] <;> rfl), by (with_reducible repeat (first | apply Kd.S_alloc | apply Kd.S_drewN | apply Kd.S_drew)); exact Kd.S_mono (Kd.S_far (p := ⟨gb373, 3, none⟩) (Kd.S_far (p := ⟨gb373, 2, none⟩) (Kd.S_far (p := ⟨gb373, 1, none⟩) (Kd.S_far (p := ⟨gb373, 0, none⟩) (Kd.S_mono HO_375003.out (fun k_ hk => (⟨hk, hk.2.1⟩ : _ ∧ k_ ≠ gb373))) (fun _ hk => hk.2) (.int .i64 a0_0)) (fun _ hk => hk.2) (.int .i64 a0_1)) (fun _ hk => hk.2) (.string a0_2)) (fun _ hk => hk.2) (.slice Ao33 x375003_1.length co33)) (fun _ hk => trivial), bw_ HB.out⟩

/-! ### impl_Wrap: function 76 -/
def impl_Wrap.f (a0 : Int) : Option (Int) := some (Go.bits .and .i64 a0 65535)
set_option maxHeartbeats 8000000 in
set_option maxRecDepth 100000 in
theorem impl_Wrap.calls (a0 : Int) (r : Int) (w : World) (h : impl_Wrap.f a0 = some r) :
  Calls Try.prog 76 #[.int .i64 a0] w fun e w' => e = .returned (.int .i64 r) ∧ Drawn0 w w' := by
 have H : (some (Go.bits .and .i64 a0 65535)) = some r := h
 clear h
 obtain rfl := Option.some.inj H
 go_enter Try.func76, Try.ntmps76
 go_wp2
 go_ret
 exact ⟨by first | rfl | (simp; done) | (simp [*]; done), by repeat (first | exact Drawn0.refl _ | apply Drawn0.step)⟩

/-! ### impl_number: function 82 -/
def impl_number.f (a0 : Int) : Option (Int × Int × ByteArray × (List (S29))) := (impl_Wrap.f a0).bind fun t387 => (some (1, t387, (⟨#[]⟩ : ByteArray), ([] : List (S29))))
set_option maxHeartbeats 8000000 in
set_option maxRecDepth 100000 in
theorem impl_number.calls (a0 : Int) (r1 : Int) (r2 : Int) (r3 : ByteArray) (r4 : List (S29)) (w : World) (h : impl_number.f a0 = some (r1, r2, r3, r4)) :
  Calls Try.prog 82 #[.int .i64 a0] w fun e w' => ∃ v3_ : Value, e = .returned (.agg #[.int .i64 r1, .int .i64 r2, .string r3, v3_]) ∧ Kd.S q29 29 w' w.heap.size (fun _ => True) v3_ r4 ∧ Below w.heap.size w w' := by
 have hu29 := Try.underlying29
 have HB := A_ (Below.refl w.heap.size w)
 have H : ((impl_Wrap.f a0).bind fun t387 => (some (1, t387, (⟨#[]⟩ : ByteArray), ([] : List (S29))))) = some (r1, r2, r3, r4) := h
 clear h
 replace H := Option.bind_eq_some_iff.mp H
 obtain ⟨t387, A20, H⟩ := H
 try dsimp only at H
 have A2 := A_ A20
 clear A20
 simp only [Option.some.injEq, Prod.mk.injEq] at H
 obtain ⟨rfl, rfl, rfl, rfl⟩ := H
 go_enter Try.func82, Try.ntmps82
 go_wp2_with (first | ((with_reducible refine gate_dst (N := 2) rfl ?_); refine bx_ 2 #[.int .i64 0, .int .i64 0, .string (⟨#[]⟩ : ByteArray), .slice none 0 0] 29 ?_; intro gb386 hg w3 hbox hb; have n0_ := A_ (below_step (bw_ HB.out) hb); have n1_ := A_ (hbox); have n2_ := A_ ((d3_ : w.heap.size ≤ gb386)); have n3_ := n2_; clear HB; have HB := n0_; have BK386 := n1_; have GW386 := n2_; have GE386 := n3_; have GI386 := GeI.mk GE386.out; clear n0_ n1_ n2_ n3_; clear hb hbox hg) | ((with_reducible refine gate_callee (f := 76) rfl ?_); refine gL_ (some 4) Try.func76 #[.int .i64 a0] ?_; (with_reducible refine (impl_Wrap.calls a0 t387 _ A2.out).mono ?_); rintro e w' ⟨rfl, ⟨nd, rfl⟩⟩; refine ⟨_, rfl, ?_⟩; (try (rw [drewN_self w3]; generalize hq_ : World.drewN w3 _ = w3; have n0_ := A_ (bq_ hq_ BK386.out); have n1_ := A_ (wq_ hq_ HB.out); clear BK386 HB hq_; have BK386 := n0_; have HB := n1_; clear n0_ n1_)); obtain ⟨y4_0, y4_1, y4_2, y4_3, z4_0, z4_1, z4_2, z4_3⟩ := cz4_ BK386.out))
 refine bodyPost_ret (results_cell_row rfl _ _ gb386 29 #[.int .i64 1, .int .i64 t387, .string (⟨#[]⟩ : ByteArray), .slice none 0 0] (0, 0) _ rfl ?hb_ Try.underlying29 rfl (by kernel_rfl)) rfl ?_
 (case hb_ => exact bk_ (bp4_ (bk_ BK386.out)))
 exact ⟨_, by first | rfl | (simp [errW_none, errW_some] <;> rfl) | (simp [*, errW_none, errW_some] <;> rfl), by first | exact Kd.S_nil _ _ _ _ _ | exact Kd.N_nil _ _ _ _ _ | exact Kd.V_nil _ _ _ _ _ | exact Kd.Q_nil _ _ _ _ _ | exact Kd.R_nil _ _ _ _ _, bw_ HB.out⟩

/-! ### impl_compute: function 78 -/
def impl_compute.f (a0 : Int) (a1 : Int) (a2 : Int) : Option (Int × Bool) := if a0 = 5 then ((impl_Wrap.f (wrap64 (a1 + a2))).bind fun t388 => (some (t388, true))) else (if a0 = 6 then ((impl_Wrap.f (wrap64 (a1 - a2))).bind fun t389 => (some (t389, true))) else (if a0 = 7 then ((impl_Wrap.f (wrap64 (a1 * a2))).bind fun t390 => (some (t390, true))) else (if a0 = 9 then (some (Go.bits .and .i64 a1 a2, true)) else (if a0 = 10 then (some (Go.bits .or .i64 a1 a2, true)) else (if a2 = 0 then (some (0, false)) else (some (wrap64 (Int.tdiv a1 a2), true)))))))
set_option maxHeartbeats 8000000 in
set_option maxRecDepth 100000 in
theorem impl_compute.calls (a0 : Int) (a1 : Int) (a2 : Int) (r1 : Int) (r2 : Bool) (w : World) (h : impl_compute.f a0 a1 a2 = some (r1, r2)) :
  Calls Try.prog 78 #[.int .i64 a0, .int .i64 a1, .int .i64 a2] w fun e w' => e = .returned (.tuple #[.int .i64 r1, .bool r2]) ∧ Drawn0 w w' := by
 have H : (if a0 = 5 then ((impl_Wrap.f (wrap64 (a1 + a2))).bind fun t388 => (some (t388, true))) else (if a0 = 6 then ((impl_Wrap.f (wrap64 (a1 - a2))).bind fun t389 => (some (t389, true))) else (if a0 = 7 then ((impl_Wrap.f (wrap64 (a1 * a2))).bind fun t390 => (some (t390, true))) else (if a0 = 9 then (some (Go.bits .and .i64 a1 a2, true)) else (if a0 = 10 then (some (Go.bits .or .i64 a1 a2, true)) else (if a2 = 0 then (some (0, false)) else (some (wrap64 (Int.tdiv a1 a2), true)))))))) = some (r1, r2) := h
 clear h
 by_cases c4 : a0 = 5
 ·rw [if_pos c4] at H
  have c4b0 := beq_iff_eq.mpr c4
  have c4b1 := bne_eq_false_iff_eq.mpr c4
  clear c4
  replace H := Option.bind_eq_some_iff.mp H
  obtain ⟨t388, A50, H⟩ := H
  try dsimp only at H
  have A5 := A_ A50
  clear A50
  simp only [Option.some.injEq, Prod.mk.injEq] at H
  obtain ⟨rfl, rfl⟩ := H
  go_enter Try.func78, Try.ntmps78
  go_wp2_with (first | ((with_reducible refine gate_callee (f := 76) rfl ?_); refine gL_ (some 14) Try.func76 #[.int .i64 (wrap64 (a1 + a2))] ?_; (with_reducible refine (impl_Wrap.calls (wrap64 (a1 + a2)) t388 _ A5.out).mono ?_); rintro e w' ⟨rfl, ⟨nd, rfl⟩⟩; refine ⟨_, rfl, ?_⟩))
  go_ret2
  exact ⟨by first | rfl | (simp; done) | (simp [*]; done), by repeat (first | exact Drawn0.refl _ | apply Drawn0.step)⟩
 ·rw [if_neg c4] at H
  have c4b0 := beq_eq_false_iff_ne.mpr c4
  have c4b1 := bne_iff_ne.mpr c4
  by_cases c6 : a0 = 6
  ·rw [if_pos c6] at H
   have c6b0 := beq_iff_eq.mpr c6
   have c6b1 := bne_eq_false_iff_eq.mpr c6
   clear c6
   replace H := Option.bind_eq_some_iff.mp H
   obtain ⟨t389, A70, H⟩ := H
   try dsimp only at H
   have A7 := A_ A70
   clear A70
   simp only [Option.some.injEq, Prod.mk.injEq] at H
   obtain ⟨rfl, rfl⟩ := H
   go_enter Try.func78, Try.ntmps78
   go_wp2_with (first | ((with_reducible refine gate_callee (f := 76) rfl ?_); refine gL_ (some 20) Try.func76 #[.int .i64 (wrap64 (a1 - a2))] ?_; (with_reducible refine (impl_Wrap.calls (wrap64 (a1 - a2)) t389 _ A7.out).mono ?_); rintro e w' ⟨rfl, ⟨nd, rfl⟩⟩; refine ⟨_, rfl, ?_⟩))
   go_ret2
   exact ⟨by first | rfl | (simp; done) | (simp [*]; done), by repeat (first | exact Drawn0.refl _ | apply Drawn0.step)⟩
  ·rw [if_neg c6] at H
   have c6b0 := beq_eq_false_iff_ne.mpr c6
   have c6b1 := bne_iff_ne.mpr c6
   by_cases c8 : a0 = 7
   ·rw [if_pos c8] at H
    have c8b0 := beq_iff_eq.mpr c8
    have c8b1 := bne_eq_false_iff_eq.mpr c8
    clear c8
    replace H := Option.bind_eq_some_iff.mp H
    obtain ⟨t390, A90, H⟩ := H
    try dsimp only at H
    have A9 := A_ A90
    clear A90
    simp only [Option.some.injEq, Prod.mk.injEq] at H
    obtain ⟨rfl, rfl⟩ := H
    go_enter Try.func78, Try.ntmps78
    go_wp2_with (first | ((with_reducible refine gate_callee (f := 76) rfl ?_); refine gL_ (some 26) Try.func76 #[.int .i64 (wrap64 (a1 * a2))] ?_; (with_reducible refine (impl_Wrap.calls (wrap64 (a1 * a2)) t390 _ A9.out).mono ?_); rintro e w' ⟨rfl, ⟨nd, rfl⟩⟩; refine ⟨_, rfl, ?_⟩))
    go_ret2
    exact ⟨by first | rfl | (simp; done) | (simp [*]; done), by repeat (first | exact Drawn0.refl _ | apply Drawn0.step)⟩
   ·rw [if_neg c8] at H
    have c8b0 := beq_eq_false_iff_ne.mpr c8
    have c8b1 := bne_iff_ne.mpr c8
    by_cases c10 : a0 = 9
    ·rw [if_pos c10] at H
     have c10b0 := beq_iff_eq.mpr c10
     have c10b1 := bne_eq_false_iff_eq.mpr c10
     clear c10
     simp only [Option.some.injEq, Prod.mk.injEq] at H
     obtain ⟨rfl, rfl⟩ := H
     go_enter Try.func78, Try.ntmps78
     go_wp2
     go_ret2
     exact ⟨by first | rfl | (simp; done) | (simp [*]; done), by repeat (first | exact Drawn0.refl _ | apply Drawn0.step)⟩
    ·rw [if_neg c10] at H
     have c10b0 := beq_eq_false_iff_ne.mpr c10
     have c10b1 := bne_iff_ne.mpr c10
     by_cases c11 : a0 = 10
     ·rw [if_pos c11] at H
      have c11b0 := beq_iff_eq.mpr c11
      have c11b1 := bne_eq_false_iff_eq.mpr c11
      clear c11
      simp only [Option.some.injEq, Prod.mk.injEq] at H
      obtain ⟨rfl, rfl⟩ := H
      go_enter Try.func78, Try.ntmps78
      go_wp2
      go_ret2
      exact ⟨by first | rfl | (simp; done) | (simp [*]; done), by repeat (first | exact Drawn0.refl _ | apply Drawn0.step)⟩
     ·rw [if_neg c11] at H
      have c11b0 := beq_eq_false_iff_ne.mpr c11
      have c11b1 := bne_iff_ne.mpr c11
      by_cases c12 : a2 = 0
      ·rw [if_pos c12] at H
       have c12b0 := beq_iff_eq.mpr c12
       have c12b1 := bne_eq_false_iff_eq.mpr c12
       clear c12
       simp only [Option.some.injEq, Prod.mk.injEq] at H
       obtain ⟨rfl, rfl⟩ := H
       go_enter Try.func78, Try.ntmps78
       go_wp2
       go_ret2
       exact ⟨by first | rfl | (simp; done) | (simp [*]; done), by repeat (first | exact Drawn0.refl _ | apply Drawn0.step)⟩
      ·rw [if_neg c12] at H
       have c12b0 := beq_eq_false_iff_ne.mpr c12
       have c12b1 := bne_iff_ne.mpr c12
       simp only [Option.some.injEq, Prod.mk.injEq] at H
       obtain ⟨rfl, rfl⟩ := H
       go_enter Try.func78, Try.ntmps78
       go_wp2
       go_ret2
       exact ⟨by first | rfl | (simp; done) | (simp [*]; done), by repeat (first | exact Drawn0.refl _ | apply Drawn0.step)⟩

theorem num_nil {a x y : Int} {z : ByteArray} {l : List S29} (h : impl_number.f a = some (x, y, z, l)) : l = [] := by
 unfold impl_number.f at h
 obtain ⟨t, _, h⟩ := Option.bind_eq_some_iff.1 h
 simp only [Option.some.injEq, Prod.mk.injEq] at h
 exact h.2.2.2.symm
/-! ### impl_two: function 92 -/
def impl_two.f (a0 : Int) (a1_0 : Int) (a1_1 : Int) (a1_2 : ByteArray) (l1_3 : List (S29)) (a2_0 : Int) (a2_1 : Int) (a2_2 : ByteArray) (l2_3 : List (S29)) : Option (Int × Int × ByteArray × (List (S29))) := some (a0, 0, (⟨#[]⟩ : ByteArray), (([(⟨a1_0, a1_1, a1_2, l1_3⟩ : S29), (⟨a2_0, a2_1, a2_2, l2_3⟩ : S29)] : List (S29))))
set_option maxHeartbeats 8000000 in
set_option maxRecDepth 100000 in
theorem impl_two.calls (b0 : Nat) (a0 : Int) (a1_0 : Int) (a1_1 : Int) (a1_2 : ByteArray) (P1_3_ : Nat → Prop) (A1_3 : Option Addr) (c1_3 : Nat) (l1_3 : List (S29)) (a2_0 : Int) (a2_1 : Int) (a2_2 : ByteArray) (P2_3_ : Nat → Prop) (A2_3 : Option Addr) (c2_3 : Nat) (l2_3 : List (S29)) (r1 : Int) (r2 : Int) (r3 : ByteArray) (r4 : List (S29)) (w : World) (hs1_3 : Kd.S q29 29 w b0 (fun k_ => P1_3_ k_) (.slice A1_3 l1_3.length c1_3) l1_3) (hs2_3 : Kd.S q29 29 w b0 (fun k_ => P2_3_ k_) (.slice A2_3 l2_3.length c2_3) l2_3) (hb0 : b0 ≤ w.heap.size) (hd : ∀ k_, P1_3_ k_ → P2_3_ k_ → False) (h : impl_two.f a0 a1_0 a1_1 a1_2 l1_3 a2_0 a2_1 a2_2 l2_3 = some (r1, r2, r3, r4)) :
  Calls Try.prog 92 #[.int .i64 a0, .agg #[.int .i64 a1_0, .int .i64 a1_1, .string a1_2, .slice A1_3 l1_3.length c1_3], .agg #[.int .i64 a2_0, .int .i64 a2_1, .string a2_2, .slice A2_3 l2_3.length c2_3]] w fun e w' => ∃ v3_ : Value, e = .returned (.agg #[.int .i64 r1, .int .i64 r2, .string r3, v3_]) ∧ Kd.S q29 29 w' b0 (fun k_ => ((P1_3_ k_ ∨ P2_3_ k_) ∨ w.heap.size ≤ k_)) v3_ r4 ∧ Below w.heap.size w w' := by
 have hu29 := Try.underlying29
 have HO1_3 := A_ hs1_3
 have HO2_3 := A_ hs2_3
 have HB := A_ (Below.refl w.heap.size w)
 have H : (some (a0, 0, (⟨#[]⟩ : ByteArray), (([(⟨a1_0, a1_1, a1_2, l1_3⟩ : S29), (⟨a2_0, a2_1, a2_2, l2_3⟩ : S29)] : List (S29))))) = some (r1, r2, r3, r4) := h
 clear h
 obtain ⟨y394, hy394⟩ : ∃ y_ : List (S29), y_ = (([(⟨a1_0, a1_1, a1_2, l1_3⟩ : S29), (⟨a2_0, a2_1, a2_2, l2_3⟩ : S29)] : List (S29))) := ⟨_, rfl⟩
 replace H : (some (a0, 0, (⟨#[]⟩ : ByteArray), y394)) = some (r1, r2, r3, r4) := by first | (rw [hy394]; with_reducible exact H) | (have H2_ := (Option.bind_some _ _).symm.trans H; rw [hy394]; with_reducible exact H2_) | (have H2_ := (Option.bind_some _ _).symm.trans H; with_reducible exact H2_) | with_reducible exact H | (rw [hy394]; exact H) | exact H
 have Ny394 := A_ hy394
 clear hy394
 simp only [Option.some.injEq, Prod.mk.injEq] at H
 obtain ⟨rfl, rfl, rfl, rfl⟩ := H
 go_enter Try.func92, Try.ntmps92
 go_wp2_with (first | ((with_reducible refine gate_dst (N := 4) rfl ?_); refine bx_ 4 #[.int .i64 a1_0, .int .i64 a1_1, .string a1_2, .slice A1_3 l1_3.length c1_3] 29 ?_; intro gb391 hg w4 hbox hb; have n0_ := A_ (Kd.S_below (Kd.S_elderB (kz_ HO1_3.out) gb391 (Nat.le_of_eq hg.symm)) hb); have n1_ := A_ (Kd.S_below (Kd.S_elderB (kz_ HO2_3.out) gb391 (Nat.le_of_eq hg.symm)) hb); have n2_ := A_ (below_step (bw_ HB.out) hb); have n3_ := A_ (hbox); have n4_ := A_ ((d3_ : w.heap.size ≤ gb391)); have n5_ := n4_; clear HO1_3; clear HO2_3; clear HB; have HO1_3 := n0_; have HO2_3 := n1_; have HB := n2_; have BK391 := n3_; have GW391 := n4_; have GE391 := n5_; have GI391 := GeI.mk GE391.out; clear n0_ n1_ n2_ n3_ n4_ n5_; clear hb hbox hg) | ((with_reducible refine gate_dst (N := 5) rfl ?_); refine bx_ 5 #[.int .i64 a2_0, .int .i64 a2_1, .string a2_2, .slice A2_3 l2_3.length c2_3] 29 ?_; intro gb392 hg w5 hbox hb; have n0_ := A_ (Kd.S_below (Kd.S_elderB (kz_ HO1_3.out) gb392 (Nat.le_of_eq hg.symm)) hb); have n1_ := A_ (Kd.S_below (Kd.S_elderB (kz_ HO2_3.out) gb392 (Nat.le_of_eq hg.symm)) hb); have n2_ := A_ (blk_below (bk_ BK391.out) hb); have n3_ := A_ (below_step (bw_ HB.out) hb); have n4_ := A_ (hbox); have n5_ := A_ ((d3_ : w.heap.size ≤ gb392)); have n6_ := n5_; have n7_ := A_ ((by rw [hg]; exact Nat.ne_of_lt (blk_lt (bk_ BK391.out)) : gb391 ≠ gb392)); have n8_ := A_ n7_.out.symm; clear HO1_3; clear HO2_3; clear BK391; clear HB; have HO1_3 := n0_; have HO2_3 := n1_; have BK391 := n2_; have HB := n3_; have BK392 := n4_; have GW392 := n5_; have GE392 := n6_; have GI392 := GeI.mk GE392.out; have NB391_392 := n7_; have NB392_391 := n8_; clear n0_ n1_ n2_ n3_ n4_ n5_ n6_ n7_ n8_; clear hb hbox hg) | ((with_reducible refine gate_dst (N := 6) rfl ?_); refine bx_ 6 #[.int .i64 0, .int .i64 0, .string (⟨#[]⟩ : ByteArray), .slice none 0 0] 29 ?_; intro gb393 hg w6 hbox hb; have n0_ := A_ (Kd.S_below (Kd.S_elderB (kz_ HO1_3.out) gb393 (Nat.le_of_eq hg.symm)) hb); have n1_ := A_ (Kd.S_below (Kd.S_elderB (kz_ HO2_3.out) gb393 (Nat.le_of_eq hg.symm)) hb); have n2_ := A_ (blk_below (bk_ BK391.out) hb); have n3_ := A_ (blk_below (bk_ BK392.out) hb); have n4_ := A_ (below_step (bw_ HB.out) hb); have n5_ := A_ (hbox); have n6_ := A_ ((d3_ : w.heap.size ≤ gb393)); have n7_ := n6_; have n8_ := A_ ((by rw [hg]; exact Nat.ne_of_lt (blk_lt (bk_ BK391.out)) : gb391 ≠ gb393)); have n9_ := A_ n8_.out.symm; have n10_ := A_ ((by rw [hg]; exact Nat.ne_of_lt (blk_lt (bk_ BK392.out)) : gb392 ≠ gb393)); have n11_ := A_ n10_.out.symm; clear HO1_3; clear HO2_3; clear BK391; clear BK392; clear HB; have HO1_3 := n0_; have HO2_3 := n1_; have BK391 := n2_; have BK392 := n3_; have HB := n4_; have BK393 := n5_; have GW393 := n6_; have GE393 := n7_; have GI393 := GeI.mk GE393.out; have NB391_393 := n8_; have NB393_391 := n9_; have NB392_393 := n10_; have NB393_392 := n11_; clear n0_ n1_ n2_ n3_ n4_ n5_ n6_ n7_ n8_ n9_ n10_ n11_; clear hb hbox hg; have hnb7 := NB391_392.out; have hnc7 := NB392_391.out; have hnb8 := NB391_393.out; have hnc8 := NB393_391.out; obtain ⟨y9_0, y9_1, y9_2, y9_3, z9_0, z9_1, z9_2, z9_3⟩ := cz4_ BK391.out; have hnb10 := NB392_393.out; have hnc10 := NB393_392.out; obtain ⟨y11_0, y11_1, y11_2, y11_3, z11_0, z11_1, z11_2, z11_3⟩ := cz4_ BK392.out) | ((with_reducible refine gate_dst (N := 10) rfl ?_); refine Kd.Z_lits q29 b0 29 ?hg (N := 10) ?hd (xs := ([(⟨a1_0, a1_1, a1_2, l1_3⟩ : S29), (⟨a2_0, a2_1, a2_2, l2_3⟩ : S29)] : List (S29))) (inner := [.int .i64 a1_0, .int .i64 a1_1, .string a1_2, .slice A1_3 l1_3.length c1_3, .int .i64 a2_0, .int .i64 a2_1, .string a2_2, .slice A2_3 l2_3.length c2_3]) (ok := (fun k_ => ((P1_3_ k_ ∨ P2_3_ k_) ∨ w.heap.size ≤ k_) ∧ k_ ≠ gb391 ∧ k_ ≠ gb392 ∧ k_ ≠ gb393)) (fun j_ k_ => (j_ = 0 ∧ (fun k_ => ((P1_3_ k_ ∧ k_ ≠ gb391) ∧ k_ ≠ gb392) ∧ k_ ≠ gb393) k_) ∨ (j_ = 1 ∧ (fun k_ => ((P2_3_ k_ ∧ k_ ≠ gb391) ∧ k_ ≠ gb392) ∧ k_ ≠ gb393) k_)) ?hr rfl (two_M (kz_ HO1_3.out) (kz_ HO2_3.out)) (two_ap (fun k_ h1_ h2_ => hd k_ h1_.1.1.1 h2_.1.1.1)) (fun j_ k_ h_ => h_.elim (fun h_ => ⟨.inl (.inl h_.2.1.1.1), h_.2.1.1.2, h_.2.1.2, h_.2.2⟩) (fun h_ => ⟨.inl (.inr h_.2.1.1.1), h_.2.1.1.2, h_.2.1.2, h_.2.2⟩)) ((show ∀ k_, w6.heap.size ≤ k_ → (fun k_ => ((P1_3_ k_ ∨ P2_3_ k_) ∨ w.heap.size ≤ k_) ∧ k_ ≠ gb391 ∧ k_ ≠ gb392 ∧ k_ ≠ gb393) k_ from fun k_ hk => ⟨(.inr (Nat.le_trans (below_size (bw_ HB.out)) hk)), Kd.freshB (bk_ BK391.out) k_ hk, Kd.freshB (bk_ BK392.out) k_ hk, Kd.freshB (bk_ BK393.out) k_ hk⟩) _ (Nat.le_refl _)) (Nat.le_trans hb0 (below_size (bw_ HB.out))) (by simp) ?_; (case hd => rfl); (case hg => rfl); (case hr => first | (go_simp; done) | (go_simp; rfl)); intro v395 w12 ho13 hb; (first | rw [← Ny394.out] at ho13 | (simp only [Int.reduceToNat] at ho13; rw [← Ny394.out] at ho13)); replace HO1_3 := A_ (Kd.S_below (kz_ HO1_3.out) hb); replace HO2_3 := A_ (Kd.S_below (kz_ HO2_3.out) hb); have HO396 := A_ (ho13); replace BK391 := A_ (blk_below (bk_ BK391.out) hb); replace BK392 := A_ (blk_below (bk_ BK392.out) hb); replace BK393 := A_ (blk_below (bk_ BK393.out) hb); replace HB := A_ (below_step (bw_ HB.out) hb); clear hb ho13; obtain ⟨Ao14, co14, eo14⟩ := Kd.S_slice HO396.out; subst eo14; obtain ⟨y15_0, y15_1, y15_2, y15_3, z15_0, z15_1, z15_2, z15_3⟩ := cz4_ BK393.out))
 refine bodyPost_ret (results_cell_row rfl _ _ gb393 29 #[.int .i64 a0, .int .i64 0, .string (⟨#[]⟩ : ByteArray), .slice Ao14 y394.length co14] (0, 0) _ rfl ?hb_ Try.underlying29 rfl (by kernel_rfl)) rfl ?_
 (case hb_ => exact bk_ (bp4_ (bk_ BK393.out)))
 exact ⟨_, by first | rfl | (simp [errW_none, errW_some] <;> rfl) | (simp [*, errW_none, errW_some] <;> rfl), by (with_reducible repeat (first | apply Kd.S_alloc | apply Kd.S_drewN | apply Kd.S_drew)); exact Kd.S_mono (zf4_ (Kd.S_mono HO396.out (fun k_ hk => (⟨hk, hk.2.2.2⟩ : _ ∧ k_ ≠ gb393))) (fun _ hk => hk.2)) (fun _ hk => hk.1.1), bw_ HB.out⟩

end Go.Proofs.Ytcpnhlhigpgonaa.PFnExactFold
