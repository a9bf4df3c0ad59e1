-- Laid by a program of this session (a changed copy of the kit's printer); Lean checks every line.
import Derived.Test.YtcpnhlhigpgonaaPFnExactPutx0
import Derived.Test.YtcpnhlhigpgonaaPFnExactPutx9
namespace Go.Proofs.Ytcpnhlhigpgonaa.PFnExactPut
open Go.RowKit Go.Proofs.YtcpnhlhigpgonaaW.PrintWords Go.Proofs.YtcpnhlhigpgonaaW.PrintLast Go.Proofs.YtcpnhlhigpgonaaW.PrintMore
attribute [local go_sem] max2_int min2_int max_two min_two max_three min_three max_four min_four   -- for this text's walks alone
set_option linter.unusedVariables false
set_option linter.unusedSimpArgs false

/-! ### impl_ExprOk: function 18 -/
def impl_ExprOk.f (k : Nat) (a0_0 : Int) (a0_1 : Int) (a0_2 : ByteArray) (l0_3 : List (S29)) : Option (Bool) := (impl_termOk.f k a0_0 a0_1 a0_2 l0_3 6 false).bind fun t253 => (some t253)
theorem impl_ExprOk.mono : ∀ a0 a1 a2 a3 k, LeO (impl_ExprOk.f k a0 a1 a2 a3) (impl_ExprOk.f (k + 1) a0 a1 a2 a3) := by
 intro a0 a1 a2 a3 k
 unfold impl_ExprOk.f
 repeat' first
   | (with_reducible exact impl_termOk.mono _ _ _ _ _ _ _)
   | (with_reducible exact LeO.refl _)
   | (with_reducible exact LeO.none _)
   | (with_reducible refine LeO.ite ?_ ?_)
   | (with_reducible refine LeO.bind ?_ (fun _ => ?_))
   | exact impl_termOk.mono _ _ _ _ _ _ _
   | exact LeO.none _
   | refine LeO.ite ?_ ?_
   | refine LeO.bind ?_ (fun _ => ?_)
set_option maxHeartbeats 8000000 in
set_option maxRecDepth 100000 in
theorem impl_ExprOk.calls (k : Nat) (a0_0 : Int) (a0_1 : Int) (a0_2 : ByteArray) (A0_3 : Option Addr) (c0_3 : Nat) (l0_3 : List (S29)) (r : Bool) (w : World) (hr0_3 : Kd.C k29 w A0_3 l0_3.length l0_3) (hc0_3 : l0_3.length ≤ c0_3) (h : impl_ExprOk.f k a0_0 a0_1 a0_2 l0_3 = some r) :
  Calls Try.prog 18 #[.agg #[.int .i64 a0_0, .int .i64 a0_1, .string a0_2, .slice A0_3 l0_3.length c0_3]] w fun e w' => e = .returned (.bool r) ∧ Below w.heap.size w w' := by
 have hu29 := Try.underlying29
 have HR0_3 := A_ hr0_3
 have HC0_3 := A_ hc0_3
 clear hr0_3 hc0_3
 have HB := A_ (Below.refl w.heap.size w)
 have H : ((impl_termOk.f k a0_0 a0_1 a0_2 l0_3 6 false).bind fun t253 => (some t253)) = some r := h
 clear h
 replace H := Option.bind_eq_some_iff.mp H
 obtain ⟨t253, A20, H⟩ := H
 try dsimp only at H
 have A2 := A_ A20
 clear A20
 obtain rfl := Option.some.inj H
 go_enter Try.func18, Try.ntmps18
 go_wp2_with (first | ((with_reducible refine gate_dst (N := 1) rfl ?_); refine bx_ 1 #[.int .i64 a0_0, .int .i64 a0_1, .string a0_2, .slice A0_3 l0_3.length c0_3] 29 ?_; intro gb252 hg w3 hbox hb; have n0_ := A_ (below_step (bw_ HB.out) hb); have n1_ := A_ (hbox); have n2_ := A_ ((d3_ : w.heap.size ≤ gb252)); have n3_ := n2_; clear HB; have HB := n0_; have BK252 := n1_; have GW252 := n2_; have GE252 := n3_; have GI252 := GeI.mk GE252.out; clear n0_ n1_ n2_ n3_; clear hb hbox hg; obtain ⟨y4_0, y4_1, y4_2, y4_3, z4_0, z4_1, z4_2, z4_3⟩ := cz4_ BK252.out) | ((with_reducible refine gate_callee (f := 47) rfl ?_); refine gL_ (some 4) Try.func47 #[.agg #[.int .i64 a0_0, .int .i64 a0_1, .string a0_2, .slice A0_3 l0_3.length c0_3], .int .i64 6, .bool false] ?_; (with_reducible refine (impl_termOk.calls k a0_0 a0_1 a0_2 _ _ l0_3 6 false t253 _ ?side1 ?side2 A2.out).mono ?_); (case side1 => exact Kd.C_below HR0_3.out (bw_ HB.out)); (case side2 => exact HC0_3.out); rintro e w5 ⟨rfl, hb⟩; refine ⟨_, rfl, ?_⟩; replace BK252 := A_ (blk_below (bk_ BK252.out) hb); replace HB := A_ (below_step (bw_ HB.out) hb); clear hb))
 go_ret
 exact rt_ (bw_ HB.out)

/-! ### impl_copyExpr: function 59 -/
mutual
def impl_copyExpr.l0 : Nat → List (S29) → Int → Int → Int → Int → ByteArray → List (S29) → Option (Int × Int × ByteArray × (List (S29)))
 | 0, _, _, _, _, _, _, _ => none
 | k + 1, x14, x15, x16, x257000, x257001, x257002, x257003 => if x16 < x15 then (if 0 ≤ x16 then (if x16 < (x14.length : Int) then ((impl_copyExpr.f k ((rd_T29 x14 x16).f0) ((rd_T29 x14 x16).f1) ((rd_T29 x14 x16).f2) ((rd_T29 x14 x16).f3)).bind fun bt259 => (if x257003.length < 2513169434916 then (impl_copyExpr.l0 k x14 x15 (wrap64 (x16 + 1)) x257000 x257001 x257002 (x257003 ++ [(⟨bt259.1, bt259.2.1, bt259.2.2.1, bt259.2.2.2⟩ : S29)])) else (none))) else (none)) else (none)) else (some (x257000, x257001, x257002, x257003))
def impl_copyExpr.f : Nat → Int → Int → ByteArray → List (S29) → Option (Int × Int × ByteArray × (List (S29)))
 | 0, _, _, _, _ => none
 | k + 1, a0_0, a0_1, a0_2, l0_3 => impl_copyExpr.l0 k l0_3 (l0_3.length : Int) 0 a0_0 a0_1 a0_2 ([] : List (S29))
end
theorem impl_copyExpr.mono_l : ∀ k, (∀ y0 y1 y2 y3, LeO (impl_copyExpr.f k y0 y1 y2 y3) (impl_copyExpr.f (k + 1) y0 y1 y2 y3)) ∧ (∀ y0 y1 y2 y3 y4 y5 y6, LeO (impl_copyExpr.l0 k y0 y1 y2 y3 y4 y5 y6) (impl_copyExpr.l0 (k + 1) y0 y1 y2 y3 y4 y5 y6))
 | 0 => ⟨fun _ _ _ _ r h => by simp [impl_copyExpr.f] at h, fun _ _ _ _ _ _ _ r h => by simp [impl_copyExpr.l0] at h⟩
 | k + 1 => by
  obtain ⟨ih0, ih1⟩ := impl_copyExpr.mono_l k
  refine ⟨?_, ?_⟩
  ·intro y0 y1 y2 y3
   unfold impl_copyExpr.f
   repeat' first
   | (with_reducible exact ih0 _ _ _ _)
   | (with_reducible exact ih1 _ _ _ _ _ _ _)
   | (with_reducible exact LeO.refl _)
   | (with_reducible exact LeO.none _)
   | (with_reducible refine LeO.ite ?_ ?_)
   | (with_reducible refine LeO.bind ?_ (fun _ => ?_))
   | exact ih0 _ _ _ _
   | exact ih1 _ _ _ _ _ _ _
   | exact LeO.none _
   | refine LeO.ite ?_ ?_
   | refine LeO.bind ?_ (fun _ => ?_)
  ·intro y0 y1 y2 y3 y4 y5 y6
   unfold impl_copyExpr.l0
   repeat' first
   | (with_reducible exact ih0 _ _ _ _)
   | (with_reducible exact ih1 _ _ _ _ _ _ _)
   | (with_reducible exact LeO.refl _)
   | (with_reducible exact LeO.none _)
   | (with_reducible refine LeO.ite ?_ ?_)
   | (with_reducible refine LeO.bind ?_ (fun _ => ?_))
   | exact ih0 _ _ _ _
   | exact ih1 _ _ _ _ _ _ _
   | exact LeO.none _
   | refine LeO.ite ?_ ?_
   | refine LeO.bind ?_ (fun _ => ?_)
theorem impl_copyExpr.mono : ∀ a0 a1 a2 a3 k, LeO (impl_copyExpr.f k a0 a1 a2 a3) (impl_copyExpr.f (k + 1) a0 a1 a2 a3) := by
 intro a0 a1 a2 a3 k
 obtain ⟨ih0, ih1⟩ := impl_copyExpr.mono_l k
 exact ih0 a0 a1 a2 a3
def impl_copyExpr.T5 : Bool × List (List Nat × List Nat) := (true, [([], []), ([0], [0]), ([], []), ([2], [2]), ([3], [3]), ([1, 4, 3], [1, 4]), ([0, 1, 2, 3, 4, 5], []), ([6, 5, 5, 0, 1, 2, 3, 4, 5], [5, 6])])
def impl_copyExpr.B5 : List Nat := [0, 1, 0, 4, 12, 31, 63, 127]
theorem impl_copyExpr.tab5 : rtab .any (opsOf Try.f59 5) = impl_copyExpr.T5 := by kernel_rfl
theorem impl_copyExpr.bits5 : waitsOk impl_copyExpr.T5.2 impl_copyExpr.B5 = true := by kernel_rfl
set_option maxHeartbeats 8000000 in
set_option maxRecDepth 100000 in
theorem impl_copyExpr.calls (k : Nat) : ∀ (a0_0 : Int) (a0_1 : Int) (a0_2 : ByteArray) (A0_3 : Option Addr) (c0_3 : Nat) (l0_3 : List (S29)) (r1 : Int) (r2 : Int) (r3 : ByteArray) (r4 : List (S29)) (w : World) (hr0_3 : Kd.C k29 w A0_3 l0_3.length l0_3) (hc0_3 : l0_3.length ≤ c0_3) (h : impl_copyExpr.f k a0_0 a0_1 a0_2 l0_3 = some (r1, r2, r3, r4)),
  Calls Try.prog 59 #[.agg #[.int .i64 a0_0, .int .i64 a0_1, .string a0_2, .slice A0_3 l0_3.length c0_3]] w fun e w' => ∃ v3_ : Value, e = .returned (.agg #[.int .i64 r1, .int .i64 r2, .string r3, v3_]) ∧ Kd.S q29 29 w' w.heap.size (fun _ => True) v3_ r4 ∧ Below w.heap.size w w' := by
 induction k using Nat.strongRecOn with
 | _ k ih =>
 intro a0_0 a0_1 a0_2 A0_3 c0_3 l0_3 r1 r2 r3 r4 w hr0_3 hc0_3 h
 cases k with
 | zero => exact absurd h (by simp [impl_copyExpr.f])
 | succ k =>
 simp only [impl_copyExpr.f] at h
 have hu29 := Try.underlying29
 have HR0_3 := A_ hr0_3
 have HC0_3 := A_ hc0_3
 clear hr0_3 hc0_3
 have HB := A_ (Below.refl w.heap.size w)
 have H : (impl_copyExpr.l0 k l0_3 (l0_3.length : Int) 0 a0_0 a0_1 a0_2 ([] : List (S29))) = some (r1, r2, r3, r4) := h
 clear h
 have H' := A_ H
 clear H
 go_enter Try.func59, Try.ntmps59
 go_wp2_with (first | ((with_reducible refine gate_dst (N := 1) rfl ?_); refine bx_ 1 #[.int .i64 a0_0, .int .i64 a0_1, .string a0_2, .slice A0_3 l0_3.length c0_3] 29 ?_; intro gb254 hg w2 hbox hb; have n0_ := A_ (below_step (bw_ HB.out) hb); have n1_ := A_ (hbox); have n2_ := A_ ((d3_ : w.heap.size ≤ gb254)); have n3_ := n2_; clear HB; have HB := n0_; have BK254 := n1_; have GW254 := n2_; have GE254 := n3_; have GI254 := GeI.mk GE254.out; clear n0_ n1_ n2_ n3_; clear hb hbox hg) | ((with_reducible refine gate_dst (N := 2) rfl ?_); refine bx_ 2 #[.int .i64 0, .int .i64 0, .string (⟨#[]⟩ : ByteArray), .slice none 0 0] 29 ?_; intro gb255 hg w3 hbox hb; have n0_ := A_ (blk_below (bk_ BK254.out) hb); have n1_ := A_ (below_step (bw_ HB.out) hb); have n2_ := A_ (hbox); have n3_ := A_ ((d3_ : w.heap.size ≤ gb255)); have n4_ := n3_; have n5_ := A_ ((by rw [hg]; exact Nat.ne_of_lt (blk_lt (bk_ BK254.out)) : gb254 ≠ gb255)); have n6_ := A_ n5_.out.symm; clear BK254; clear HB; have BK254 := n0_; have HB := n1_; have BK255 := n2_; have GW255 := n3_; have GE255 := n4_; have GI255 := GeI.mk GE255.out; have NB254_255 := n5_; have NB255_254 := n6_; clear n0_ n1_ n2_ n3_ n4_ n5_ n6_; clear hb hbox hg; have hnb4 := NB254_255.out; have hnc4 := NB255_254.out; obtain ⟨y5_0, y5_1, y5_2, y5_3, z5_0, z5_1, z5_2, z5_3⟩ := cz4_ BK254.out) | ((with_reducible refine gate_dst (N := 3) rfl ?_); refine bx_ 3 #[.int .i64 0, .int .i64 0, .string (⟨#[]⟩ : ByteArray), .slice none 0 0] 29 ?_; intro gb256 hg w6 hbox hb; have n0_ := A_ (blk_below (bk_ BK254.out) hb); have n1_ := A_ (blk_below (bk_ BK255.out) hb); have n2_ := A_ (below_step (bw_ HB.out) hb); have n3_ := A_ (hbox); have n4_ := A_ ((d3_ : w.heap.size ≤ gb256)); have n5_ := n4_; have n6_ := A_ ((by rw [hg]; exact Nat.ne_of_lt (blk_lt (bk_ BK254.out)) : gb254 ≠ gb256)); have n7_ := A_ n6_.out.symm; have n8_ := A_ ((by rw [hg]; exact Nat.ne_of_lt (blk_lt (bk_ BK255.out)) : gb255 ≠ gb256)); have n9_ := A_ n8_.out.symm; clear BK254; clear BK255; clear HB; have BK254 := n0_; have BK255 := n1_; have HB := n2_; have BK256 := n3_; have GW256 := n4_; have GE256 := n5_; have GI256 := GeI.mk GE256.out; have NB254_256 := n6_; have NB256_254 := n7_; have NB255_256 := n8_; have NB256_255 := n9_; clear n0_ n1_ n2_ n3_ n4_ n5_ n6_ n7_ n8_ n9_; clear hb hbox hg; have hnb7 := NB256_254.out; have hnc7 := NB254_256.out; have hnb8 := NB256_255.out; have hnc8 := NB255_256.out; obtain ⟨y9_0, y9_1, y9_2, y9_3, z9_0, z9_1, z9_2, z9_3⟩ := cz4_ BK256.out; obtain ⟨y10_0, y10_1, y10_2, y10_3, z10_0, z10_1, z10_2, z10_3⟩ := cz4_ BK254.out))
 go_loopg [16] k (fun kq v16 w' => ∃ (x16_1 : Int) (x257003_1 : List (S29)) (u257003 : Value), v16 = .int .i64 x16_1 ∧ Aside0 (impl_copyExpr.l0 kq l0_3 (l0_3.length : Int) x16_1 a0_0 a0_1 a0_2 x257003_1 = some (r1, r2, r3, r4)) ∧ Aside0 (kq ≤ k) ∧ Aside0 (Kd.S q29 29 w' w.heap.size (fun k_ => k_ ≠ gb254 ∧ k_ ≠ gb255 ∧ k_ ≠ gb256) u257003 x257003_1) ∧ Aside0 (w'.heap[gb254]? = some (.cells #[.int .i64 a0_0, .int .i64 a0_1, .string a0_2, (.slice A0_3 l0_3.length c0_3)] 29 (0, 0))) ∧ Aside0 (w'.heap[gb255]? = some (.cells #[.int .i64 0, .int .i64 0, .string (⟨#[]⟩ : ByteArray), (.slice none 0 0)] 29 (0, 0))) ∧ Aside0 (w'.heap[gb256]? = some (.cells #[.int .i64 a0_0, .int .i64 a0_1, .string a0_2, u257003] 29 (0, 0))) ∧ Aside0 (Below w.heap.size w w'))
 case atStart => exact ⟨(0), (([] : List (S29))), (.slice none 0 0), d2_, H', ⟨Nat.le_refl _⟩, ⟨by first | exact Kd.S_nil _ _ _ _ _ | exact Kd.N_nil _ _ _ _ _ | exact Kd.V_nil _ _ _ _ _ | exact Kd.Q_nil _ _ _ _ _ | exact Kd.R_nil _ _ _ _ _⟩, ⟨by refine bk_ ?_; refine blk_far ?_ NB254_256.out _; refine bk_ ?_; refine blk_far ?_ NB254_256.out _; refine bk_ ?_; refine blk_far ?_ NB254_256.out _; refine bk_ ?_; refine blk_far ?_ NB254_256.out _; refine bk_ ?_; exact BK254.out⟩, ⟨by refine bk_ ?_; refine blk_far ?_ NB255_256.out _; refine bk_ ?_; refine blk_far ?_ NB255_256.out _; refine bk_ ?_; refine blk_far ?_ NB255_256.out _; refine bk_ ?_; refine blk_far ?_ NB255_256.out _; refine bk_ ?_; exact BK255.out⟩, ⟨by exact bk_ (bp4_ (bk_ BK256.out))⟩, ⟨bw_ HB.out⟩⟩
 case round =>
  clear H'
  try clear p2
  try clear c4
  try clear c5
  try clear c7
  try clear c8
  try clear y10_0 y10_1 y10_2 y10_3 z10_0 z10_1 z10_2 z10_3
  try clear y5_0 y5_1 y5_2 y5_3 z5_0 z5_1 z5_2 z5_3
  try clear y9_0 y9_1 y9_2 y9_3 z9_0 z9_1 z9_2 z9_3
  obtain ⟨x16_1, x257003_1, u257003, rfl, HA, HK1, HO_257003, BK254, BK255, BK256, HB⟩ := hrel
  cases gk with
  | zero => exact absurd HA.out (by simp [impl_copyExpr.l0])
  | succ k1 =>
   have H := HA.out
   clear HA
   simp only [impl_copyExpr.l0] at H
   by_cases c11 : x16_1 < (l0_3.length : Int)
   ·rw [if_pos c11] at H
    have c11b0 := decide_eq_true c11
    clear c11
    by_cases c12 : 0 ≤ x16_1
    ·rw [if_pos c12] at H
     have c12b0 := decide_eq_true c12
     clear c12
     by_cases c13 : x16_1 < (l0_3.length : Int)
     ·rw [if_pos c13] at H
      have c13b0 := decide_eq_true c13
      clear c13
      replace H := Option.bind_eq_some_iff.mp H
      obtain ⟨⟨t259, t260, t261, t262⟩, A140, H⟩ := H
      try dsimp only at H
      have A14 := A_ A140
      clear A140
      by_cases c15 : x257003_1.length < 2513169434916
      ·rw [if_pos c15] at H
       have LMc15 := A_ c15
       clear c15
       obtain ⟨y265, hy265⟩ : ∃ y_ : List (S29), y_ = (x257003_1 ++ [(⟨t259, t260, t261, t262⟩ : S29)]) := ⟨_, rfl⟩
       replace H : (impl_copyExpr.l0 k1 l0_3 (l0_3.length : Int) (wrap64 (x16_1 + 1)) a0_0 a0_1 a0_2 y265) = some (r1, r2, r3, r4) := by first | (rw [hy265]; with_reducible exact H) | (have H2_ := (Option.bind_some _ _).symm.trans H; rw [hy265]; with_reducible exact H2_) | (have H2_ := (Option.bind_some _ _).symm.trans H; with_reducible exact H2_) | with_reducible exact H | (rw [hy265]; exact H) | exact H
       have Ny265 := A_ hy265
       clear hy265
       have H' := A_ H
       clear H
       have p257 : 0 ≤ (x16_1 : Int) := of_decide_eq_true d1_
       have q257 : x16_1 < (l0_3.length : Int) := of_decide_eq_true d1_
       obtain ⟨ad257, A257_3, c257_3, e257, hx257_0, hx257_1, hx257_2, hx257_3, hl257_3, hi257_3⟩ := at_T29 HR0_3.out x16_1 p257 q257
       cases e257
       replace hx257_0 := (HB.out.cell (World.block_lt_of_cell? w _ hx257_0)).trans hx257_0
       replace hx257_1 := (HB.out.cell (World.block_lt_of_cell? w _ hx257_1)).trans hx257_1
       replace hx257_2 := (HB.out.cell (World.block_lt_of_cell? w _ hx257_2)).trans hx257_2
       replace hx257_3 := (HB.out.cell (World.block_lt_of_cell? w _ hx257_3)).trans hx257_3
       have HR257_3 := A_ hi257_3
       have HC257_3 := A_ hl257_3
       clear hi257_3 hl257_3
       replace p257 := eq_true p257
       replace q257 := eq_true q257
       try go_wp2_with (first | ((with_reducible refine gate_dst (N := 5) rfl ?_); refine bx_ 5 #[.int .i64 0, .int .i64 0, .string (⟨#[]⟩ : ByteArray), .slice none 0 0] 29 ?_; intro gb258 hg w16 hbox hb; have n0_ := A_ (Kd.S_below (Kd.S_elderB d17_ gb258 (Nat.le_of_eq hg.symm)) hb); have n1_ := A_ (blk_below (bk_ BK254.out) hb); have n2_ := A_ (blk_below (bk_ BK255.out) hb); have n3_ := A_ (blk_below (bk_ BK256.out) hb); have n4_ := A_ (below_step (bw_ HB.out) hb); have n5_ := A_ (hbox); have n6_ := A_ ((d3_ : w.heap.size ≤ gb258)); have n7_ := n6_; have n8_ := A_ ((by rw [hg]; exact Nat.ne_of_lt (blk_lt (bk_ BK254.out)) : gb254 ≠ gb258)); have n9_ := A_ n8_.out.symm; have n10_ := A_ ((by rw [hg]; exact Nat.ne_of_lt (blk_lt (bk_ BK255.out)) : gb255 ≠ gb258)); have n11_ := A_ n10_.out.symm; have n12_ := A_ ((by rw [hg]; exact Nat.ne_of_lt (blk_lt (bk_ BK256.out)) : gb256 ≠ gb258)); have n13_ := A_ n12_.out.symm; clear HO_257003; clear BK254; clear BK255; clear BK256; clear HB; have HO_257003 := n0_; have BK254 := n1_; have BK255 := n2_; have BK256 := n3_; have HB := n4_; have BK258 := n5_; have GW258 := n6_; have GE258 := n7_; have GI258 := GeI.mk GE258.out; have NB254_258 := n8_; have NB258_254 := n9_; have NB255_258 := n10_; have NB258_255 := n11_; have NB256_258 := n12_; have NB258_256 := n13_; clear n0_ n1_ n2_ n3_ n4_ n5_ n6_ n7_ n8_ n9_ n10_ n11_ n12_ n13_; clear hb hbox hg; have hnb17 := NB258_254.out; have hnc17 := NB254_258.out; have hnb18 := NB258_255.out; have hnc18 := NB255_258.out; have hnb19 := NB258_256.out; have hnc19 := NB256_258.out; obtain ⟨y20_0, y20_1, y20_2, y20_3, z20_0, z20_1, z20_2, z20_3⟩ := cz4_ BK258.out))
       obtain ⟨w21, hz_⟩ : ∃ z_, z_ = ((((w16.setCell ⟨gb258, 0, none⟩ (.int .i64 ((rd_T29 l0_3 x16_1).f0))).setCell ⟨gb258, 1, none⟩ (.int .i64 ((rd_T29 l0_3 x16_1).f1))).setCell ⟨gb258, 2, none⟩ (.string ((rd_T29 l0_3 x16_1).f2))).setCell ⟨gb258, 3, none⟩ (.slice A257_3 ((rd_T29 l0_3 x16_1).f3).length c257_3)) := ⟨_, rfl⟩
       have n0_ : Aside0 (Kd.S q29 29 w21 w.heap.size (fun k_ => k_ ≠ gb254 ∧ k_ ≠ gb255 ∧ k_ ≠ gb256 ∧ k_ ≠ gb258) u257003 x257003_1) := ⟨by rw [hz_]; (with_reducible repeat (first | apply Kd.S_alloc | apply Kd.S_drewN | apply Kd.S_drew)); exact Kd.S_mono (Kd.S_far (p := ⟨gb258, 3, none⟩) (Kd.S_far (p := ⟨gb258, 2, none⟩) (Kd.S_far (p := ⟨gb258, 1, none⟩) (Kd.S_far (p := ⟨gb258, 0, none⟩) (Kd.S_mono HO_257003.out (fun k_ hk => (⟨hk, hk.2⟩ : _ ∧ k_ ≠ gb258))) (fun _ hk => hk.2) (.int .i64 ((rd_T29 l0_3 x16_1).f0))) (fun _ hk => hk.2) (.int .i64 ((rd_T29 l0_3 x16_1).f1))) (fun _ hk => hk.2) (.string ((rd_T29 l0_3 x16_1).f2))) (fun _ hk => hk.2) (.slice A257_3 ((rd_T29 l0_3 x16_1).f3).length c257_3)) (fun _ hk => ⟨hk.1.1.1, ⟨hk.1.1.2.1, ⟨hk.1.1.2.2, hk.1.2⟩⟩⟩)⟩
       have n1_ : Aside0 (w21.heap[gb254]? = some (.cells #[.int .i64 a0_0, .int .i64 a0_1, .string a0_2, .slice (some ad257) l0_3.length c0_3] 29 (0, 0))) := ⟨by rw [hz_]; refine bk_ ?_; refine blk_far ?_ NB254_258.out _; refine bk_ ?_; refine blk_far ?_ NB254_258.out _; refine bk_ ?_; refine blk_far ?_ NB254_258.out _; refine bk_ ?_; refine blk_far ?_ NB254_258.out _; refine bk_ ?_; exact BK254.out⟩
       have n2_ : Aside0 (w21.heap[gb255]? = some (.cells #[.int .i64 0, .int .i64 0, .string (⟨#[]⟩ : ByteArray), .slice none 0 0] 29 (0, 0))) := ⟨by rw [hz_]; refine bk_ ?_; refine blk_far ?_ NB255_258.out _; refine bk_ ?_; refine blk_far ?_ NB255_258.out _; refine bk_ ?_; refine blk_far ?_ NB255_258.out _; refine bk_ ?_; refine blk_far ?_ NB255_258.out _; refine bk_ ?_; exact BK255.out⟩
       have n3_ : Aside0 (w21.heap[gb256]? = some (.cells #[.int .i64 a0_0, .int .i64 a0_1, .string a0_2, u257003] 29 (0, 0))) := ⟨by rw [hz_]; refine bk_ ?_; refine blk_far ?_ NB256_258.out _; refine bk_ ?_; refine blk_far ?_ NB256_258.out _; refine bk_ ?_; refine blk_far ?_ NB256_258.out _; refine bk_ ?_; refine blk_far ?_ NB256_258.out _; refine bk_ ?_; exact BK256.out⟩
       have n4_ : Aside0 (w21.heap[gb258]? = some (.cells #[.int .i64 ((rd_T29 l0_3 x16_1).f0), .int .i64 ((rd_T29 l0_3 x16_1).f1), .string ((rd_T29 l0_3 x16_1).f2), .slice A257_3 ((rd_T29 l0_3 x16_1).f3).length c257_3] 29 (0, 0))) := ⟨by rw [hz_]; exact bk_ (bp4_ (bk_ BK258.out))⟩
       have n5_ : Aside0 (Below w.heap.size w w21) := ⟨by rw [hz_]; exact bw_ HB.out⟩
       (try clear HO_257003)
       (try clear BK254)
       (try clear BK255)
       (try clear BK256)
       (try clear BK258)
       (try clear HB)
       rw [← hz_]
       clear hz_
       have HO_257003 := n0_
       have BK254 := n1_
       have BK255 := n2_
       have BK256 := n3_
       have BK258 := n4_
       have HB := n5_
       clear n0_ n1_ n2_ n3_ n4_ n5_
       replace HO_257003 := A_ (Kd.S_drew HO_257003.out)
       replace BK254 := A_ (blk_drew BK254.out)
       replace BK255 := A_ (blk_drew BK255.out)
       replace BK256 := A_ (blk_drew BK256.out)
       replace BK258 := A_ (blk_drew BK258.out)
       replace HB := A_ (below_drew1 HB.out)
       refine start_ (n := 8) (S := fun w' => w'.cell? ⟨gb256, 0, none⟩ = some (.int .i64 a0_0) ∧ w'.cell? ⟨gb256, 1, none⟩ = some (.int .i64 a0_1) ∧ w'.cell? ⟨gb256, 2, none⟩ = some (.string a0_2) ∧ w'.cell? ⟨gb256, 3, none⟩ = some (u257003) ∧ w'.cell? ⟨gb258, 0, none⟩ = some (.int .i64 ((rd_T29 l0_3 x16_1).f0)) ∧ w'.cell? ⟨gb258, 1, none⟩ = some (.int .i64 ((rd_T29 l0_3 x16_1).f1)) ∧ w'.cell? ⟨gb258, 2, none⟩ = some (.string ((rd_T29 l0_3 x16_1).f2)) ∧ w'.cell? ⟨gb258, 3, none⟩ = some (.slice A257_3 ((rd_T29 l0_3 x16_1).f3).length c257_3)) (ds := [7]) #[false, false, false, false, false, false, false, false] (by kernel_rfl) rfl rfl ⟨(blk_cell BK256.out 0).trans rfl, (blk_cell BK256.out 1).trans rfl, (blk_cell BK256.out 2).trans rfl, (blk_cell BK256.out 3).trans rfl, (blk_cell BK258.out 0).trans rfl, (blk_cell BK258.out 1).trans rfl, (blk_cell BK258.out 2).trans rfl, (blk_cell BK258.out 3).trans rfl⟩ (fun hHeld => ?_); refine with_tabW impl_copyExpr.tab5 impl_copyExpr.bits5 (fun HT_ HW_ => ?_)
       generalize w21.drew = w22 at HO_257003 BK254 BK255 BK256 BK258 HB hHeld ⊢
       refine pu_ 0 (some 20) (bm_ 8 1) (any_of HT_.out (by kernel_rfl)) ?_
       refine take_ (i := 1) (N := some 21) (v := ?_) (a' := ?_) (bm_ 8 3) rfl rfl (take_ofW HT_.out HW_.out (by kernel_rfl)) (fun _ _ _ h => h) (Or.inl ⟨by rfl, ?_⟩) hHeld ?_ ?_
       rotate_left
       ·rintro w' ⟨s0, s1, s2, s3, s4, s5, s6, s7⟩
        go_simp
        with_reducible rfl
       rotate_left
       ·simp only [Act.put, List.setIfInBounds_toArray, List.set_cons_zero, List.set_cons_succ, i64_w, i32_w]
        rfl
       refine take_ (i := 2) (N := some 22) (v := ?_) (a' := ?_) (bm_ 8 7) rfl rfl (take_ofW HT_.out HW_.out (by kernel_rfl)) (fun _ _ _ h => h) (Or.inl ⟨by rfl, ?_⟩) hHeld ?_ ?_
       rotate_left
       ·rintro w' ⟨s0, s1, s2, s3, s4, s5, s6, s7⟩
        go_simp
        with_reducible rfl
       rotate_left
       ·simp only [Act.put, List.setIfInBounds_toArray, List.set_cons_zero, List.set_cons_succ, i64_w, i32_w]
        rfl
       refine one_ (i := 3) (N := some 23) (bm_ 8 15) rfl rfl (one_of HT_.out (by kernel_rfl)) (by decide) (fun K hK => ?_)
       refine goes_ Try.func59 (by kernel_rfl) rfl #[.agg #[.int .i64 ((rd_T29 l0_3 x16_1).f0), .int .i64 ((rd_T29 l0_3 x16_1).f1), .string ((rd_T29 l0_3 x16_1).f2), .slice A257_3 ((rd_T29 l0_3 x16_1).f3).length c257_3]] (by rfl) rfl rfl d9_ ?_
       with_reducible refine (ih k1 (by have := HK1.out; omega) ((rd_T29 l0_3 x16_1).f0) ((rd_T29 l0_3 x16_1).f1) ((rd_T29 l0_3 x16_1).f2) _ _ ((rd_T29 l0_3 x16_1).f3) t259 t260 t261 t262 _ ?side1 ?side2 A14.out).mono ?_
       (case side1 => exact Kd.C_below HR257_3.out (bw_ HB.out))
       (case side2 => exact HC257_3.out)
       rintro e w23 ⟨v263, rfl, ho0, hb⟩
       refine ⟨_, rfl, ?_⟩
       obtain ⟨NN_, hN_, ho0⟩ := Kd.age_ ho0
       have HO264 := A_ (Kd.S_lower (Kd.S_newB (Kd.S_newB (Kd.S_newB (Kd.S_newB (Kd.S_new' ho0 (Kd.S_lt d17_)) (bk_ BK254.out)) (bk_ BK255.out)) (bk_ BK256.out)) (bk_ BK258.out)) (below_size (bw_ HB.out)))
       replace HO_257003 := A_ (Kd.old_ hN_ d17_ hb)
       replace BK254 := A_ (blk_below (bk_ BK254.out) hb)
       replace BK255 := A_ (blk_below (bk_ BK255.out) hb)
       replace BK256 := A_ (blk_below (bk_ BK256.out) hb)
       replace BK258 := A_ (blk_below (bk_ BK258.out) hb)
       replace HB := A_ (below_step (bw_ HB.out) hb)
       (try clear hb)
       (try clear hb2)
       (try clear hk)
       (try clear hi)
       (try clear ho0)
       obtain ⟨Ao25, co25, eo25⟩ := Kd.S_slice HO264.out
       (first | subst eo25 | (injection eo25 with f1_ f2_ f3_; have f4_ := f1_.symm; have f5_ := f3_.symm; clear f1_ f2_ f3_; subst f4_; subst f5_))
       refine hK.out _ _ ⟨(blk_cell BK256.out 0).trans rfl, (blk_cell BK256.out 1).trans rfl, (blk_cell BK256.out 2).trans rfl, (blk_cell BK256.out 3).trans rfl, (blk_cell BK258.out 0).trans rfl, (blk_cell BK258.out 1).trans rfl, (blk_cell BK258.out 2).trans rfl, (blk_cell BK258.out 3).trans rfl⟩ (fun hHeld => ?_)
       clear hK K
       refine norm_ (a' := ?_) ?_ ?_
       rotate_left
       ·show Act.put _ (some 23) _ = _
        simp only [Act.put, List.setIfInBounds_toArray, List.set_cons_zero, List.set_cons_succ, i64_w, i32_w]
        rfl
       refine one_ (i := 4) (N := some 24) (bm_ 8 31) rfl rfl (one_of HT_.out (by kernel_rfl)) (by decide) (fun K hK => ?_)
       refine value_ (w1 := ?_) (v := ?_) (by rfl) rfl ?_ ?_
       rotate_left 2
       ·go_simp
        constructor
        ·rfl
        ·rfl
       refine hK.out _ _ ⟨(blk_cell (blk_alloc BK256.out _) 0).trans rfl, (blk_cell (blk_alloc BK256.out _) 1).trans rfl, (blk_cell (blk_alloc BK256.out _) 2).trans rfl, (blk_cell (blk_alloc BK256.out _) 3).trans rfl, (blk_cell (blk_alloc BK258.out _) 0).trans rfl, (blk_cell (blk_alloc BK258.out _) 1).trans rfl, (blk_cell (blk_alloc BK258.out _) 2).trans rfl, (blk_cell (blk_alloc BK258.out _) 3).trans rfl⟩ (fun hHeld => ?_)
       clear hK K
       refine norm_ (a' := ?_) ?_ ?_
       rotate_left
       ·show Act.put _ (some 24) _ = _
        simp only [Act.put, List.setIfInBounds_toArray, List.set_cons_zero, List.set_cons_succ, i64_w, i32_w]
        rfl
       refine one_ (i := 5) (N := some 25) (bm_ 8 63) rfl rfl (one_of HT_.out (by kernel_rfl)) (by decide) (fun K hK => ?_)
       refine Kd.S_append_step q29 (w0 := w) w.heap.size (by rfl) (.tmp 21) (.tmp 24) 27 29 (.agg #[(.int .i64 0), (.int .i64 0), (.string ⟨#[]⟩), (.slice none 0 0)]) 56 rfl Try.underlying27 info29 rfl (by decide) (by omega) u257003 x257003_1 (⟨t259, t260, t261, t262⟩ : S29) [.int .i64 t259, .int .i64 t260, .string t261, .slice Ao25 t262.length co25] (fun k_ => k_ ≠ gb254 ∧ k_ ≠ gb255 ∧ k_ ≠ gb256 ∧ k_ ≠ gb258) (fun k_ => NN_ ≤ k_ ∧ (((fun k_ => k_ ≠ gb254 ∧ k_ ≠ gb255 ∧ k_ ≠ gb256 ∧ k_ ≠ gb258)) k_ ∧ some k_ ≠ (u257003 : Value).ownBlock)) rfl rfl ?aP (fun k_ hk_ => hk_.2) ?aF ?aO ?aB ?aS ?aL ?_
       (case aP => exact q29_mkM _ _ _ (⟨t259, t260, t261, t262⟩ : S29) (Kd.S_mono HO264.out (fun k_ hk => ⟨hk.1.1.1.1.1.2, ⟨⟨hk.1.1.1.2, ⟨hk.1.1.2, ⟨hk.1.2, hk.2⟩⟩⟩, hk.1.1.1.1.2⟩⟩)))
       (case aB => exact (bw_ HB.out))
       (case aF => exact (fun k_ hk => ⟨Kd.freshB (bk_ BK254.out) k_ hk, Kd.freshB (bk_ BK255.out) k_ hk, Kd.freshB (bk_ BK256.out) k_ hk, Kd.freshB (bk_ BK258.out) k_ hk⟩))
       (case aO => exact (by (with_reducible repeat (first | apply Kd.S_alloc | apply Kd.S_drewN | apply Kd.S_drew)); exact Kd.S_mono HO_257003.out (fun k_ hk => ⟨⟨hk.1.1, ⟨hk.1.2.1, ⟨hk.1.2.2.1, hk.1.2.2.2⟩⟩⟩, fun e_ => absurd hk.2 (Nat.not_lt.2 e_.1)⟩)))
       (case aS => exact (below_size (bw_ HB.out)))
       (case aL => have := LMc15.out; omega)
       intro v266 w24 ho hb hg hat
       rw [← Ny265.out] at ho
       have n0_ := A_ (blk_grown (bk_ BK254.out) hg (Kd.S_away HO_257003.out (fun _ hk => hk.1.1)))
       have n1_ := A_ (blk_grown (bk_ BK255.out) hg (Kd.S_away HO_257003.out (fun _ hk => hk.1.2.1)))
       have n2_ := A_ (blk_grown (bk_ BK256.out) hg (Kd.S_away HO_257003.out (fun _ hk => hk.1.2.2.1)))
       have n3_ := A_ (blk_grown (bk_ BK258.out) hg (Kd.S_away HO_257003.out (fun _ hk => hk.1.2.2.2)))
       have n4_ := A_ (hb)
       have n5_ := A_ (ho)
       clear BK254
       clear BK255
       clear BK256
       clear BK258
       clear HB
       clear HO_257003
       clear HO264
       have BK254 := n0_
       have BK255 := n1_
       have BK256 := n2_
       have BK258 := n3_
       have HB := n4_
       have HO267 := n5_
       clear n0_ n1_ n2_ n3_ n4_ n5_
       clear ho hb hg hat
       obtain ⟨Ao26, co26, eo26⟩ := Kd.S_slice HO267.out
       (first | subst eo26 | (injection eo26 with f1_ f2_ f3_; have f4_ := f1_.symm; have f5_ := f3_.symm; clear f1_ f2_ f3_; subst f4_; subst f5_))
       refine hK.out _ _ ⟨(blk_cell BK256.out 0).trans rfl, (blk_cell BK256.out 1).trans rfl, (blk_cell BK256.out 2).trans rfl, (blk_cell BK256.out 3).trans rfl, (blk_cell BK258.out 0).trans rfl, (blk_cell BK258.out 1).trans rfl, (blk_cell BK258.out 2).trans rfl, (blk_cell BK258.out 3).trans rfl⟩ (fun hHeld => ?_)
       clear hK K
       refine norm_ (a' := ?_) ?_ ?_
       rotate_left
       ·show Act.put _ (some 25) _ = _
        simp only [Act.put, List.setIfInBounds_toArray, List.set_cons_zero, List.set_cons_succ, i64_w, i32_w]
        rfl
       refine pu_ 6 (some 26) (bm_ 8 127) (any_of HT_.out (by kernel_rfl)) ?_
       refine last_ (i := 7) (N := none) (bm_ 8 255) rfl rfl (one_of HT_.out (by kernel_rfl)) (by decide) (fun K hK => ?_)
       have hs27 : w24.cell? ⟨gb256, 3, none⟩ = some (u257003) := (blk_cell BK256.out 3).trans rfl
       have hfs27 := blk_frozen BK256.out 3
       have hns27_0 := NB254_256.out
       have hns27_1 := NB255_256.out
       have hns27_3 := NB258_256.out
       have hms27_0 := NB256_254.out
       have hms27_1 := NB256_255.out
       have hms27_3 := NB256_258.out
       refine skip_ (w1 := ?_) (by rfl) rfl ?_ ?_
       rotate_left
       ·go_simp
        rfl
       refine hK.out _ _ ?_
       clear hK K
       refine done_ (done_of HT_.out (by kernel_rfl)) ?_
       try go_wp2
       go_roundg k1
       case measure => have := HK1.out; omega
       case rel => exact ⟨(wrap64 (x16_1 + 1)), (y265), (.slice Ao26 y265.length co26), d2_, H', ⟨by have := HK1.out; omega⟩, ⟨by (with_reducible repeat (first | apply Kd.S_alloc | apply Kd.S_drewN | apply Kd.S_drew)); exact Kd.S_mono (Kd.S_far (p := ⟨gb256, 3, none⟩) (Kd.S_mono HO267.out (fun k_ hk => (⟨hk, hk.2.2.1⟩ : _ ∧ k_ ≠ gb256))) (fun _ hk => hk.2) (.slice Ao26 y265.length co26)) (fun _ hk => ⟨hk.1.1, ⟨hk.1.2.1, hk.1.2.2.1⟩⟩)⟩, ⟨by refine bk_ ?_; refine blk_far ?_ NB254_256.out _; refine bk_ ?_; exact BK254.out⟩, ⟨by refine bk_ ?_; refine blk_far ?_ NB255_256.out _; refine bk_ ?_; exact BK255.out⟩, ⟨by refine bk_ ?_; refine blk_put (cs := #[.int .i64 a0_0, .int .i64 a0_1, .string a0_2, u257003]) ?_ 3 _ rfl; refine bk_ ?_; exact BK256.out⟩, ⟨bw_ HB.out⟩⟩
      ·rw [if_neg c15] at H
       exact absurd H (by simp)
     ·rw [if_neg c13] at H
      exact absurd H (by simp)
    ·rw [if_neg c12] at H
     exact absurd H (by simp)
   ·rw [if_neg c11] at H
    have c11b0 := decide_eq_false c11
    clear c11
    simp only [Option.some.injEq, Prod.mk.injEq] at H
    obtain ⟨rfl, rfl, rfl, rfl⟩ := H
    have hnb28 := NB256_254.out
    have hnc28 := NB254_256.out
    have hnb29 := NB256_255.out
    have hnc29 := NB255_256.out
    obtain ⟨y30_0, y30_1, y30_2, y30_3, z30_0, z30_1, z30_2, z30_3⟩ := cz4_ BK256.out
    have hnb31 := NB255_254.out
    have hnc31 := NB254_255.out
    obtain ⟨y32_0, y32_1, y32_2, y32_3, z32_0, z32_1, z32_2, z32_3⟩ := cz4_ BK255.out
    obtain ⟨Ao33, co33, eo33⟩ := Kd.S_slice HO_257003.out
    subst eo33
    go_wp2
    refine bodyPost_ret (results_cell_row rfl _ _ gb255 29 #[.int .i64 a0_0, .int .i64 a0_1, .string a0_2, .slice Ao33 x257003_1.length co33] (0, 0) _ rfl ?hb_ Try.underlying29 rfl (by kernel_rfl)) rfl ?_
    (case hb_ => exact bk_ (bp4_ (bk_ BK255.out)))
    exact ⟨_, by first | rfl | (simp [errW_none, errW_some] <;> rfl) | (simp [*, errW_none, errW_some] <;> rfl), by (with_reducible repeat (first | apply Kd.S_alloc | apply Kd.S_drewN | apply Kd.S_drew)); exact Kd.S_mono (Kd.S_far (p := ⟨gb255, 3, none⟩) (Kd.S_far (p := ⟨gb255, 2, none⟩) (Kd.S_far (p := ⟨gb255, 1, none⟩) (Kd.S_far (p := ⟨gb255, 0, none⟩) (Kd.S_mono HO_257003.out (fun k_ hk => (⟨hk, hk.2.1⟩ : _ ∧ k_ ≠ gb255))) (fun _ hk => hk.2) (.int .i64 a0_0)) (fun _ hk => hk.2) (.int .i64 a0_1)) (fun _ hk => hk.2) (.string a0_2)) (fun _ hk => hk.2) (.slice Ao33 x257003_1.length co33)) (fun _ hk => trivial), bw_ HB.out⟩

end Go.Proofs.Ytcpnhlhigpgonaa.PFnExactPut
