-- Laid by a program of this session (a changed copy of the kit's printer); Lean checks every line.
import Derived.Test.YtcpnhlhigpgonaaPFnExactPutx0
import Derived.Test.YtcpnhlhigpgonaaPFnExactPutx10
import Derived.Test.YtcpnhlhigpgonaaPFnExactPutx11
namespace Go.Proofs.Ytcpnhlhigpgonaa.PFnExactPut
open Go.RowKit Go.Proofs.YtcpnhlhigpgonaaW.PrintWords Go.Proofs.YtcpnhlhigpgonaaW.PrintLast Go.Proofs.YtcpnhlhigpgonaaW.PrintMore
attribute [local go_sem] max2_int min2_int max_two min_two max_three min_three max_four min_four   -- for this text's walks alone
set_option linter.unusedVariables false
set_option linter.unusedSimpArgs false

/-! ### impl_Put: function 34 -/
mutual
def impl_Put.l0 : Nat → List ByteArray → List (S29) → List (S29) → Int → Int → Int → Int → ByteArray → List (S29) → Int → Int → ByteArray → List (S29) → Option (Int × Int × ByteArray × (List (S29)))
 | 0, _, _, _, _, _, _, _, _, _, _, _, _, _ => none
 | k + 1, x2, x3, x12, x13, x14, x298000, x298001, x298002, x298003, x299000, x299001, x299002, x299003 => if x14 < x13 then (if 0 ≤ x14 then (if x14 < (x12.length : Int) then ((impl_ExprOk.f k ((rd_T29 x12 x14).f0) ((rd_T29 x12 x14).f1) ((rd_T29 x12 x14).f2) ((rd_T29 x12 x14).f3)).bind fun t302 => (if t302 = true then (impl_Put.l0 k x2 x3 x12 x13 (wrap64 (x14 + 1)) x298000 x298001 x298002 x298003 x299000 x299001 x299002 x299003) else (some (0, 0, (⟨#[]⟩ : ByteArray), ([] : List (S29)))))) else (none)) else (none)) else ((impl_ExprOk.f k x298000 x298001 x298002 x298003).bind fun t303 => (if t303 = true then ((impl_ExprOk.f k x299000 x299001 x299002 x299003).bind fun t304 => (if t304 = true then (impl_Put.j1 k x2 x3 ((x3.length : Int) != (x2.length : Int)) x298000 x298001 x298002 x298003 x299000 x299001 x299002 x299003) else (impl_Put.j1 k x2 x3 true x298000 x298001 x298002 x298003 x299000 x299001 x299002 x299003))) else (impl_Put.j1 k x2 x3 true x298000 x298001 x298002 x298003 x299000 x299001 x299002 x299003)))
def impl_Put.j1 : Nat → List ByteArray → List (S29) → Bool → Int → Int → ByteArray → List (S29) → Int → Int → ByteArray → List (S29) → Option (Int × Int × ByteArray × (List (S29)))
 | 0, _, _, _, _, _, _, _, _, _, _, _ => none
 | k + 1, x2, x3, x37, x298000, x298001, x298002, x298003, x299000, x299001, x299002, x299003 => if x37 = true then (some (0, 0, (⟨#[]⟩ : ByteArray), ([] : List (S29)))) else ((impl_filled.f k x298000 x298001 x298002 x298003 x299000 x299001 x299002 x299003 x2 x3).bind fun bt305 => ((impl_ExprOk.f k bt305.1 bt305.2.1 bt305.2.2.1 bt305.2.2.2).bind fun t312 => (if t312 = true then (some (bt305.1, bt305.2.1, bt305.2.2.1, bt305.2.2.2)) else (some (0, 0, (⟨#[]⟩ : ByteArray), ([] : List (S29)))))))
end
def impl_Put.f (k : Nat) (a0_0 : Int) (a0_1 : Int) (a0_2 : ByteArray) (l0_3 : List (S29)) (a1_0 : Int) (a1_1 : Int) (a1_2 : ByteArray) (l1_3 : List (S29)) (l2 : List ByteArray) (l3 : List (S29)) : Option (Int × Int × ByteArray × (List (S29))) := impl_Put.l0 k l2 l3 l3 (l3.length : Int) 0 a0_0 a0_1 a0_2 l0_3 a1_0 a1_1 a1_2 l1_3
theorem impl_Put.mono_l : ∀ k, (∀ y0 y1 y2 y3 y4 y5 y6 y7 y8 y9 y10 y11 y12, LeO (impl_Put.l0 k y0 y1 y2 y3 y4 y5 y6 y7 y8 y9 y10 y11 y12) (impl_Put.l0 (k + 1) y0 y1 y2 y3 y4 y5 y6 y7 y8 y9 y10 y11 y12)) ∧ (∀ y0 y1 y2 y3 y4 y5 y6 y7 y8 y9 y10, LeO (impl_Put.j1 k y0 y1 y2 y3 y4 y5 y6 y7 y8 y9 y10) (impl_Put.j1 (k + 1) y0 y1 y2 y3 y4 y5 y6 y7 y8 y9 y10))
 | 0 => ⟨fun _ _ _ _ _ _ _ _ _ _ _ _ _ r h => by simp [impl_Put.l0] at h, fun _ _ _ _ _ _ _ _ _ _ _ r h => by simp [impl_Put.j1] at h⟩
 | k + 1 => by
  obtain ⟨ih0, ih1⟩ := impl_Put.mono_l k
  refine ⟨?_, ?_⟩
  ·intro y0 y1 y2 y3 y4 y5 y6 y7 y8 y9 y10 y11 y12
   unfold impl_Put.l0
   repeat' first
   | (with_reducible exact ih0 _ _ _ _ _ _ _ _ _ _ _ _ _)
   | (with_reducible exact ih1 _ _ _ _ _ _ _ _ _ _ _)
   | (with_reducible exact impl_ExprOk.mono _ _ _ _ _)
   | (with_reducible exact impl_filled.mono _ _ _ _ _ _ _ _ _ _ _)
   | (with_reducible exact LeO.refl _)
   | (with_reducible exact LeO.none _)
   | (with_reducible refine LeO.ite ?_ ?_)
   | (with_reducible refine LeO.bind ?_ (fun _ => ?_))
   | exact ih0 _ _ _ _ _ _ _ _ _ _ _ _ _
   | exact ih1 _ _ _ _ _ _ _ _ _ _ _
   | exact impl_ExprOk.mono _ _ _ _ _
   | exact impl_filled.mono _ _ _ _ _ _ _ _ _ _ _
   | exact LeO.none _
   | refine LeO.ite ?_ ?_
   | refine LeO.bind ?_ (fun _ => ?_)
  ·intro y0 y1 y2 y3 y4 y5 y6 y7 y8 y9 y10
   unfold impl_Put.j1
   repeat' first
   | (with_reducible exact ih0 _ _ _ _ _ _ _ _ _ _ _ _ _)
   | (with_reducible exact ih1 _ _ _ _ _ _ _ _ _ _ _)
   | (with_reducible exact impl_ExprOk.mono _ _ _ _ _)
   | (with_reducible exact impl_filled.mono _ _ _ _ _ _ _ _ _ _ _)
   | (with_reducible exact LeO.refl _)
   | (with_reducible exact LeO.none _)
   | (with_reducible refine LeO.ite ?_ ?_)
   | (with_reducible refine LeO.bind ?_ (fun _ => ?_))
   | exact ih0 _ _ _ _ _ _ _ _ _ _ _ _ _
   | exact ih1 _ _ _ _ _ _ _ _ _ _ _
   | exact impl_ExprOk.mono _ _ _ _ _
   | exact impl_filled.mono _ _ _ _ _ _ _ _ _ _ _
   | exact LeO.none _
   | refine LeO.ite ?_ ?_
   | refine LeO.bind ?_ (fun _ => ?_)
theorem impl_Put.mono : ∀ a0 a1 a2 a3 a4 a5 a6 a7 a8 a9 k, LeO (impl_Put.f k a0 a1 a2 a3 a4 a5 a6 a7 a8 a9) (impl_Put.f (k + 1) a0 a1 a2 a3 a4 a5 a6 a7 a8 a9) := by
 intro a0 a1 a2 a3 a4 a5 a6 a7 a8 a9 k
 obtain ⟨ih0, ih1⟩ := impl_Put.mono_l k
 unfold impl_Put.f
 repeat' first
   | (with_reducible exact ih0 _ _ _ _ _ _ _ _ _ _ _ _ _)
   | (with_reducible exact ih1 _ _ _ _ _ _ _ _ _ _ _)
   | (with_reducible exact impl_ExprOk.mono _ _ _ _ _)
   | (with_reducible exact impl_filled.mono _ _ _ _ _ _ _ _ _ _ _)
   | (with_reducible exact LeO.refl _)
   | (with_reducible exact LeO.none _)
   | (with_reducible refine LeO.ite ?_ ?_)
   | (with_reducible refine LeO.bind ?_ (fun _ => ?_))
   | exact ih0 _ _ _ _ _ _ _ _ _ _ _ _ _
   | exact ih1 _ _ _ _ _ _ _ _ _ _ _
   | exact impl_ExprOk.mono _ _ _ _ _
   | exact impl_filled.mono _ _ _ _ _ _ _ _ _ _ _
   | exact LeO.none _
   | refine LeO.ite ?_ ?_
   | refine LeO.bind ?_ (fun _ => ?_)
set_option maxHeartbeats 8000000 in
set_option maxRecDepth 100000 in
theorem impl_Put.calls (k : Nat) (a0_0 : Int) (a0_1 : Int) (a0_2 : ByteArray) (A0_3 : Option Addr) (c0_3 : Nat) (l0_3 : List (S29)) (a1_0 : Int) (a1_1 : Int) (a1_2 : ByteArray) (A1_3 : Option Addr) (c1_3 : Nat) (l1_3 : List (S29)) (A2 : Option Addr) (c2 : Nat) (l2 : List ByteArray) (A3 : Option Addr) (c3 : Nat) (l3 : List (S29)) (r1 : Int) (r2 : Int) (r3 : ByteArray) (r4 : List (S29)) (w : World) (hr0_3 : Kd.C k29 w A0_3 l0_3.length l0_3) (hc0_3 : l0_3.length ≤ c0_3) (hr1_3 : Kd.C k29 w A1_3 l1_3.length l1_3) (hc1_3 : l1_3.length ≤ c1_3) (hr2 : Kd.C Kd.string w A2 l2.length l2) (hc2 : l2.length ≤ c2) (hr3 : Kd.C k29 w A3 l3.length l3) (hc3 : l3.length ≤ c3) (h : impl_Put.f k a0_0 a0_1 a0_2 l0_3 a1_0 a1_1 a1_2 l1_3 l2 l3 = some (r1, r2, r3, r4)) :
  Calls Try.prog 34 #[.agg #[.int .i64 a0_0, .int .i64 a0_1, .string a0_2, .slice A0_3 l0_3.length c0_3], .agg #[.int .i64 a1_0, .int .i64 a1_1, .string a1_2, .slice A1_3 l1_3.length c1_3], .slice A2 l2.length c2, .slice A3 l3.length c3] w fun e w' => ∃ v3_ : Value, e = .returned (.agg #[.int .i64 r1, .int .i64 r2, .string r3, v3_]) ∧ Kd.S q29 29 w' w.heap.size (fun _ => True) v3_ r4 ∧ Below w.heap.size w w' := by
 have hu29 := Try.underlying29
 have HR0_3 := A_ hr0_3
 have HC0_3 := A_ hc0_3
 clear hr0_3 hc0_3
 have HR1_3 := A_ hr1_3
 have HC1_3 := A_ hc1_3
 clear hr1_3 hc1_3
 have HR2 := A_ hr2
 have HC2 := A_ hc2
 clear hr2 hc2
 have HR3 := A_ hr3
 have HC3 := A_ hc3
 clear hr3 hc3
 have HB := A_ (Below.refl w.heap.size w)
 have H : (impl_Put.l0 k l2 l3 l3 (l3.length : Int) 0 a0_0 a0_1 a0_2 l0_3 a1_0 a1_1 a1_2 l1_3) = some (r1, r2, r3, r4) := h
 clear h
 have H' := A_ H
 clear H
 go_enter Try.func34, Try.ntmps34
 go_wp2_with (first | ((with_reducible refine gate_dst (N := 4) rfl ?_); (try (refine gate_guard (by rfl) ?_; dsimp only)); refine bx_ 4 #[.int .i64 a0_0, .int .i64 a0_1, .string a0_2, .slice A0_3 l0_3.length c0_3] 29 ?_; intro gb297 hg w5 hbox hb; have n0_ := A_ (below_step (bw_ HB.out) hb); have n1_ := A_ (hbox); have n2_ := A_ ((d3_ : w.heap.size ≤ gb297)); have n3_ := n2_; clear HB; have HB := n0_; have BK297 := n1_; have GW297 := n2_; have GE297 := n3_; have GI297 := GeI.mk GE297.out; clear n0_ n1_ n2_ n3_; clear hb hbox hg) | ((with_reducible refine gate_dst (N := 5) rfl ?_); (try (refine gate_guard (by rfl) ?_; dsimp only)); refine bx_ 5 #[.int .i64 a1_0, .int .i64 a1_1, .string a1_2, .slice A1_3 l1_3.length c1_3] 29 ?_; intro gb298 hg w6 hbox hb; have n0_ := A_ (blk_below (bk_ BK297.out) hb); have n1_ := A_ (below_step (bw_ HB.out) hb); have n2_ := A_ (hbox); have n3_ := A_ ((d3_ : w.heap.size ≤ gb298)); have n4_ := n3_; have n5_ := A_ ((d13_ : gb297 ≠ gb298)); have n6_ := A_ n5_.out.symm; clear BK297; clear HB; have BK297 := n0_; have HB := n1_; have BK298 := n2_; have GW298 := n3_; have GE298 := n4_; have GI298 := GeI.mk GE298.out; have NB297_298 := n5_; have NB298_297 := n6_; clear n0_ n1_ n2_ n3_ n4_ n5_ n6_; clear hb hbox hg) | ((with_reducible refine gate_dst (N := 8) rfl ?_); (try (refine gate_guard (by rfl) ?_; dsimp only)); refine bx_ 8 #[.int .i64 0, .int .i64 0, .string (⟨#[]⟩ : ByteArray), .slice none 0 0] 29 ?_; intro gb299 hg w7 hbox hb; have n0_ := A_ (blk_below (bk_ BK297.out) hb); have n1_ := A_ (blk_below (bk_ BK298.out) hb); have n2_ := A_ (below_step (bw_ HB.out) hb); have n3_ := A_ (hbox); have n4_ := A_ ((d3_ : w.heap.size ≤ gb299)); have n5_ := n4_; have n6_ := A_ ((d13_ : gb297 ≠ gb299)); have n7_ := A_ n6_.out.symm; have n8_ := A_ ((d18_ : gb298 ≠ gb299)); have n9_ := A_ n8_.out.symm; clear BK297; clear BK298; clear HB; have BK297 := n0_; have BK298 := n1_; have HB := n2_; have BK299 := n3_; have GW299 := n4_; have GE299 := n5_; have GI299 := GeI.mk GE299.out; have NB297_299 := n6_; have NB299_297 := n7_; have NB298_299 := n8_; have NB299_298 := n9_; clear n0_ n1_ n2_ n3_ n4_ n5_ n6_ n7_ n8_ n9_; clear hb hbox hg))
 go_loopg [14] k (fun kq v14 w' => ∃ (x14_1 : Int) (x300000_1 : Int) (x300001_1 : Int) (x300002_1 : ByteArray), v14 = .int .i64 x14_1 ∧ Aside0 (impl_Put.l0 kq l2 l3 l3 (l3.length : Int) x14_1 a0_0 a0_1 a0_2 l0_3 a1_0 a1_1 a1_2 l1_3 = some (r1, r2, r3, r4)) ∧ Aside0 (kq ≤ k) ∧ Aside0 (w'.heap[gb297]? = some (.cells #[.int .i64 a0_0, .int .i64 a0_1, .string a0_2, (.slice A0_3 l0_3.length c0_3)] 29 (0, 0))) ∧ Aside0 (w'.heap[gb298]? = some (.cells #[.int .i64 a1_0, .int .i64 a1_1, .string a1_2, (.slice A1_3 l1_3.length c1_3)] 29 (0, 0))) ∧ Aside0 (w'.heap[gb299]? = some (.cells #[.int .i64 x300000_1, .int .i64 x300001_1, .string x300002_1, (.slice none 0 0)] 29 (0, 0))) ∧ Aside0 (Below w.heap.size w w'))
 case atStart => exact ⟨(0), (0), (0), ((⟨#[]⟩ : ByteArray)), d2_, H', ⟨Nat.le_refl _⟩, ⟨by refine bk_ ?_; exact BK297.out⟩, ⟨by refine bk_ ?_; exact BK298.out⟩, ⟨by refine bk_ ?_; exact BK299.out⟩, ⟨bw_ HB.out⟩⟩
 case round =>
  clear H'
  try clear c1
  try clear c2
  try clear p2
  try clear c3
  obtain ⟨x14_1, x300000_1, x300001_1, x300002_1, rfl, HA, HK1, BK297, BK298, BK299, HB⟩ := hrel
  cases gk with
  | zero => exact absurd HA.out (by simp [impl_Put.l0])
  | succ k1 =>
   have H := HA.out
   clear HA
   simp only [impl_Put.l0] at H
   by_cases c8 : x14_1 < (l3.length : Int)
   ·rw [if_pos c8] at H
    have c8b0 := decide_eq_true c8
    clear c8
    by_cases c9 : 0 ≤ x14_1
    ·rw [if_pos c9] at H
     have c9b0 := decide_eq_true c9
     clear c9
     by_cases c10 : x14_1 < (l3.length : Int)
     ·rw [if_pos c10] at H
      have c10b0 := decide_eq_true c10
      clear c10
      replace H := Option.bind_eq_some_iff.mp H
      obtain ⟨t302, A110, H⟩ := H
      try dsimp only at H
      have A11 := A_ A110
      clear A110
      by_cases c12 : t302 = true
      ·subst c12
       rw [if_pos rfl] at H
       have H' := A_ H
       clear H
       have p300 : 0 ≤ (x14_1 : Int) := of_decide_eq_true d1_
       have q300 : x14_1 < (l3.length : Int) := of_decide_eq_true d1_
       obtain ⟨ad300, A300_3, c300_3, e300, hx300_0, hx300_1, hx300_2, hx300_3, hl300_3, hi300_3⟩ := at_T29 HR3.out x14_1 p300 q300
       cases e300
       replace hx300_0 := (HB.out.cell (World.block_lt_of_cell? w _ hx300_0)).trans hx300_0
       replace hx300_1 := (HB.out.cell (World.block_lt_of_cell? w _ hx300_1)).trans hx300_1
       replace hx300_2 := (HB.out.cell (World.block_lt_of_cell? w _ hx300_2)).trans hx300_2
       replace hx300_3 := (HB.out.cell (World.block_lt_of_cell? w _ hx300_3)).trans hx300_3
       have HR300_3 := A_ hi300_3
       have HC300_3 := A_ hl300_3
       clear hi300_3 hl300_3
       replace p300 := eq_true p300
       replace q300 := eq_true q300
       go_wp2_with (first | ((with_reducible refine gate_dst (N := 10) rfl ?_); (try (refine gate_guard (by rfl) ?_; dsimp only)); refine bx_ 10 #[.int .i64 0, .int .i64 0, .string (⟨#[]⟩ : ByteArray), .slice none 0 0] 29 ?_; intro gb301 hg w13 hbox hb; have n0_ := A_ (blk_below (bk_ BK297.out) hb); have n1_ := A_ (blk_below (bk_ BK298.out) hb); have n2_ := A_ (blk_below (bk_ BK299.out) hb); have n3_ := A_ (below_step (bw_ HB.out) hb); have n4_ := A_ (hbox); have n5_ := A_ ((d3_ : w.heap.size ≤ gb301)); have n6_ := n5_; have n7_ := A_ ((d13_ : gb297 ≠ gb301)); have n8_ := A_ n7_.out.symm; have n9_ := A_ ((d18_ : gb298 ≠ gb301)); have n10_ := A_ n9_.out.symm; have n11_ := A_ ((d21_ : gb299 ≠ gb301)); have n12_ := A_ n11_.out.symm; clear BK297; clear BK298; clear BK299; clear HB; have BK297 := n0_; have BK298 := n1_; have BK299 := n2_; have HB := n3_; have BK301 := n4_; have GW301 := n5_; have GE301 := n6_; have GI301 := GeI.mk GE301.out; have NB297_301 := n7_; have NB301_297 := n8_; have NB298_301 := n9_; have NB301_298 := n10_; have NB299_301 := n11_; have NB301_299 := n12_; clear n0_ n1_ n2_ n3_ n4_ n5_ n6_ n7_ n8_ n9_ n10_ n11_ n12_; clear hb hbox hg; have hnb14 := NB301_297.out; have hnc14 := NB297_301.out; have hnb15 := NB301_298.out; have hnc15 := NB298_301.out; have hnb16 := NB301_299.out; have hnc16 := NB299_301.out; obtain ⟨y17_0, y17_1, y17_2, y17_3, z17_0, z17_1, z17_2, z17_3⟩ := cz4_ BK301.out) | ((with_reducible refine gate_callee (f := 18) rfl ?_); refine gL_ (some 19) Try.func18 #[.agg #[.int .i64 ((rd_T29 l3 x14_1).f0), .int .i64 ((rd_T29 l3 x14_1).f1), .string ((rd_T29 l3 x14_1).f2), .slice A300_3 ((rd_T29 l3 x14_1).f3).length c300_3]] ?_; (with_reducible refine (impl_ExprOk.calls k1 ((rd_T29 l3 x14_1).f0) ((rd_T29 l3 x14_1).f1) ((rd_T29 l3 x14_1).f2) _ _ ((rd_T29 l3 x14_1).f3) true _ ?side1 ?side2 A11.out).mono ?_); (case side1 => exact Kd.C_below HR300_3.out (bw_ HB.out)); (case side2 => exact HC300_3.out); rintro e w18 ⟨rfl, hb⟩; refine ⟨_, rfl, ?_⟩; replace BK297 := A_ (blk_below (g := gb297) (o := .cells #[.int .i64 a0_0, .int .i64 a0_1, .string a0_2, .slice A0_3 l0_3.length c0_3] 29 (0, 0)) (by refine bk_ ?_; refine blk_far ?_ NB297_301.out _; refine bk_ ?_; refine blk_far ?_ NB297_301.out _; refine bk_ ?_; refine blk_far ?_ NB297_301.out _; refine bk_ ?_; refine blk_far ?_ NB297_301.out _; refine bk_ ?_; exact BK297.out) hb); replace BK298 := A_ (blk_below (g := gb298) (o := .cells #[.int .i64 a1_0, .int .i64 a1_1, .string a1_2, .slice A1_3 l1_3.length c1_3] 29 (0, 0)) (by refine bk_ ?_; refine blk_far ?_ NB298_301.out _; refine bk_ ?_; refine blk_far ?_ NB298_301.out _; refine bk_ ?_; refine blk_far ?_ NB298_301.out _; refine bk_ ?_; refine blk_far ?_ NB298_301.out _; refine bk_ ?_; exact BK298.out) hb); replace BK299 := A_ (blk_below (g := gb299) (o := .cells #[.int .i64 x300000_1, .int .i64 x300001_1, .string x300002_1, .slice none 0 0] 29 (0, 0)) (by refine bk_ ?_; refine blk_far ?_ NB299_301.out _; refine bk_ ?_; refine blk_far ?_ NB299_301.out _; refine bk_ ?_; refine blk_far ?_ NB299_301.out _; refine bk_ ?_; refine blk_far ?_ NB299_301.out _; refine bk_ ?_; exact BK299.out) hb); replace BK301 := A_ (blk_below (g := gb301) (o := .cells #[.int .i64 ((rd_T29 l3 x14_1).f0), .int .i64 ((rd_T29 l3 x14_1).f1), .string ((rd_T29 l3 x14_1).f2), .slice A300_3 ((rd_T29 l3 x14_1).f3).length c300_3] 29 (0, 0)) (by exact bk_ (bp4_ (bk_ BK301.out))) hb); replace HB := A_ (below_step (bw_ HB.out) hb); clear hb))
       go_roundg k1
       case measure => have := HK1.out; omega
       case rel => exact ⟨(wrap64 (x14_1 + 1)), (x300000_1), (x300001_1), (x300002_1), d2_, H', ⟨by have := HK1.out; omega⟩, ⟨by refine bk_ ?_; exact BK297.out⟩, ⟨by refine bk_ ?_; exact BK298.out⟩, ⟨by refine bk_ ?_; exact BK299.out⟩, ⟨bw_ HB.out⟩⟩
      ·replace c12 := Bool.eq_false_iff.mpr c12
       subst c12
       rw [if_neg (show ¬ (false = true) by decide)] at H
       simp only [Option.some.injEq, Prod.mk.injEq] at H
       obtain ⟨rfl, rfl, rfl, rfl⟩ := H
       have p300 : 0 ≤ (x14_1 : Int) := of_decide_eq_true d1_
       have q300 : x14_1 < (l3.length : Int) := of_decide_eq_true d1_
       obtain ⟨ad300, A300_3, c300_3, e300, hx300_0, hx300_1, hx300_2, hx300_3, hl300_3, hi300_3⟩ := at_T29 HR3.out x14_1 p300 q300
       cases e300
       replace hx300_0 := (HB.out.cell (World.block_lt_of_cell? w _ hx300_0)).trans hx300_0
       replace hx300_1 := (HB.out.cell (World.block_lt_of_cell? w _ hx300_1)).trans hx300_1
       replace hx300_2 := (HB.out.cell (World.block_lt_of_cell? w _ hx300_2)).trans hx300_2
       replace hx300_3 := (HB.out.cell (World.block_lt_of_cell? w _ hx300_3)).trans hx300_3
       have HR300_3 := A_ hi300_3
       have HC300_3 := A_ hl300_3
       clear hi300_3 hl300_3
       replace p300 := eq_true p300
       replace q300 := eq_true q300
       go_wp2_with (first | ((with_reducible refine gate_dst (N := 10) rfl ?_); (try (refine gate_guard (by rfl) ?_; dsimp only)); refine bx_ 10 #[.int .i64 0, .int .i64 0, .string (⟨#[]⟩ : ByteArray), .slice none 0 0] 29 ?_; intro gb301 hg w19 hbox hb; have n0_ := A_ (blk_below (bk_ BK297.out) hb); have n1_ := A_ (blk_below (bk_ BK298.out) hb); have n2_ := A_ (blk_below (bk_ BK299.out) hb); have n3_ := A_ (below_step (bw_ HB.out) hb); have n4_ := A_ (hbox); have n5_ := A_ ((d3_ : w.heap.size ≤ gb301)); have n6_ := n5_; have n7_ := A_ ((d13_ : gb297 ≠ gb301)); have n8_ := A_ n7_.out.symm; have n9_ := A_ ((d18_ : gb298 ≠ gb301)); have n10_ := A_ n9_.out.symm; have n11_ := A_ ((d21_ : gb299 ≠ gb301)); have n12_ := A_ n11_.out.symm; clear BK297; clear BK298; clear BK299; clear HB; have BK297 := n0_; have BK298 := n1_; have BK299 := n2_; have HB := n3_; have BK301 := n4_; have GW301 := n5_; have GE301 := n6_; have GI301 := GeI.mk GE301.out; have NB297_301 := n7_; have NB301_297 := n8_; have NB298_301 := n9_; have NB301_298 := n10_; have NB299_301 := n11_; have NB301_299 := n12_; clear n0_ n1_ n2_ n3_ n4_ n5_ n6_ n7_ n8_ n9_ n10_ n11_ n12_; clear hb hbox hg; have hnb20 := NB301_297.out; have hnc20 := NB297_301.out; have hnb21 := NB301_298.out; have hnc21 := NB298_301.out; have hnb22 := NB301_299.out; have hnc22 := NB299_301.out; obtain ⟨y23_0, y23_1, y23_2, y23_3, z23_0, z23_1, z23_2, z23_3⟩ := cz4_ BK301.out) | ((with_reducible refine gate_callee (f := 18) rfl ?_); refine gL_ (some 19) Try.func18 #[.agg #[.int .i64 ((rd_T29 l3 x14_1).f0), .int .i64 ((rd_T29 l3 x14_1).f1), .string ((rd_T29 l3 x14_1).f2), .slice A300_3 ((rd_T29 l3 x14_1).f3).length c300_3]] ?_; (with_reducible refine (impl_ExprOk.calls k1 ((rd_T29 l3 x14_1).f0) ((rd_T29 l3 x14_1).f1) ((rd_T29 l3 x14_1).f2) _ _ ((rd_T29 l3 x14_1).f3) false _ ?side1 ?side2 A11.out).mono ?_); (case side1 => exact Kd.C_below HR300_3.out (bw_ HB.out)); (case side2 => exact HC300_3.out); rintro e w24 ⟨rfl, hb⟩; refine ⟨_, rfl, ?_⟩; replace BK297 := A_ (blk_below (g := gb297) (o := .cells #[.int .i64 a0_0, .int .i64 a0_1, .string a0_2, .slice A0_3 l0_3.length c0_3] 29 (0, 0)) (by refine bk_ ?_; refine blk_far ?_ NB297_301.out _; refine bk_ ?_; refine blk_far ?_ NB297_301.out _; refine bk_ ?_; refine blk_far ?_ NB297_301.out _; refine bk_ ?_; refine blk_far ?_ NB297_301.out _; refine bk_ ?_; exact BK297.out) hb); replace BK298 := A_ (blk_below (g := gb298) (o := .cells #[.int .i64 a1_0, .int .i64 a1_1, .string a1_2, .slice A1_3 l1_3.length c1_3] 29 (0, 0)) (by refine bk_ ?_; refine blk_far ?_ NB298_301.out _; refine bk_ ?_; refine blk_far ?_ NB298_301.out _; refine bk_ ?_; refine blk_far ?_ NB298_301.out _; refine bk_ ?_; refine blk_far ?_ NB298_301.out _; refine bk_ ?_; exact BK298.out) hb); replace BK299 := A_ (blk_below (g := gb299) (o := .cells #[.int .i64 x300000_1, .int .i64 x300001_1, .string x300002_1, .slice none 0 0] 29 (0, 0)) (by refine bk_ ?_; refine blk_far ?_ NB299_301.out _; refine bk_ ?_; refine blk_far ?_ NB299_301.out _; refine bk_ ?_; refine blk_far ?_ NB299_301.out _; refine bk_ ?_; refine blk_far ?_ NB299_301.out _; refine bk_ ?_; exact BK299.out) hb); replace BK301 := A_ (blk_below (g := gb301) (o := .cells #[.int .i64 ((rd_T29 l3 x14_1).f0), .int .i64 ((rd_T29 l3 x14_1).f1), .string ((rd_T29 l3 x14_1).f2), .slice A300_3 ((rd_T29 l3 x14_1).f3).length c300_3] 29 (0, 0)) (by exact bk_ (bp4_ (bk_ BK301.out))) hb); replace HB := A_ (below_step (bw_ HB.out) hb); clear hb; have hnb25 := NB299_297.out; have hnc25 := NB297_299.out; have hnb26 := NB299_298.out; have hnc26 := NB298_299.out; obtain ⟨y27_0, y27_1, y27_2, y27_3, z27_0, z27_1, z27_2, z27_3⟩ := cz4_ BK299.out))
       refine bodyPost_ret (results_cell_row rfl _ _ gb299 29 #[.int .i64 0, .int .i64 0, .string (⟨#[]⟩ : ByteArray), .slice none 0 0] (0, 0) _ rfl ?hb_ Try.underlying29 rfl (by kernel_rfl)) rfl ?_
       (case hb_ => exact bk_ (bp4_ (bk_ BK299.out)))
       exact ⟨_, by first | rfl | (simp [errW_none, errW_some] <;> rfl) | (simp [*, errW_none, errW_some] <;> rfl), by first | exact Kd.S_nil _ _ _ _ _ | exact Kd.N_nil _ _ _ _ _ | exact Kd.V_nil _ _ _ _ _ | exact Kd.Q_nil _ _ _ _ _ | exact Kd.R_nil _ _ _ _ _, bw_ HB.out⟩
     ·rw [if_neg c10] at H
      exact absurd H (by simp)
    ·rw [if_neg c9] at H
     exact absurd H (by simp)
   ·rw [if_neg c8] at H
    have c8b0 := decide_eq_false c8
    clear c8
    have HC28 := A_ H
    clear H
    go_upto_region 7 with (fail)
    go_cut [37] (fun v37 wc => ∃ (kq : Nat) (x37_27 : Bool), v37 = .bool x37_27 ∧ Aside0 (impl_Put.j1 kq l2 l3 x37_27 a0_0 a0_1 a0_2 l0_3 a1_0 a1_1 a1_2 l1_3 = some (r1, r2, r3, r4)) ∧ Aside0 (kq ≤ k1) ∧ Aside0 (wc.heap[gb297]? = some (.cells #[.int .i64 a0_0, .int .i64 a0_1, .string a0_2, (.slice A0_3 l0_3.length c0_3)] 29 (0, 0))) ∧ Aside0 (wc.heap[gb298]? = some (.cells #[.int .i64 a1_0, .int .i64 a1_1, .string a1_2, (.slice A1_3 l1_3.length c1_3)] 29 (0, 0))) ∧ Aside0 (wc.heap[gb299]? = some (.cells #[.int .i64 x300000_1, .int .i64 x300001_1, .string x300002_1, (.slice none 0 0)] 29 (0, 0))) ∧ Aside0 (Below w.heap.size w wc))
    case first =>
     have H := HC28.out
     clear HC28
     replace H := Option.bind_eq_some_iff.mp H
     obtain ⟨t303, A290, H⟩ := H
     try dsimp only at H
     have A29 := A_ A290
     clear A290
     by_cases c30 : t303 = true
     ·subst c30
      rw [if_pos rfl] at H
      replace H := Option.bind_eq_some_iff.mp H
      obtain ⟨t304, A310, H⟩ := H
      try dsimp only at H
      have A31 := A_ A310
      clear A310
      by_cases c32 : t304 = true
      ·subst c32
       rw [if_pos rfl] at H
       have H' := A_ H
       clear H
       have hnb33 := NB297_298.out
       have hnc33 := NB298_297.out
       have hnb34 := NB297_299.out
       have hnc34 := NB299_297.out
       obtain ⟨y35_0, y35_1, y35_2, y35_3, z35_0, z35_1, z35_2, z35_3⟩ := cz4_ BK297.out
       go_wp2_with (first | ((with_reducible refine gate_callee (f := 18) rfl ?_); refine gL_ (some 24) Try.func18 #[.agg #[.int .i64 a0_0, .int .i64 a0_1, .string a0_2, .slice A0_3 l0_3.length c0_3]] ?_; (with_reducible refine (impl_ExprOk.calls k1 a0_0 a0_1 a0_2 _ _ l0_3 true _ ?side1 ?side2 A29.out).mono ?_); (case side1 => exact Kd.C_below HR0_3.out (bw_ HB.out)); (case side2 => exact HC0_3.out); rintro e w36 ⟨rfl, hb⟩; refine ⟨_, rfl, ?_⟩; replace BK297 := A_ (blk_below (bk_ BK297.out) hb); replace BK298 := A_ (blk_below (bk_ BK298.out) hb); replace BK299 := A_ (blk_below (bk_ BK299.out) hb); replace HB := A_ (below_step (bw_ HB.out) hb); clear hb; have hnb37 := NB298_299.out; have hnc37 := NB299_298.out; obtain ⟨y38_0, y38_1, y38_2, y38_3, z38_0, z38_1, z38_2, z38_3⟩ := cz4_ BK298.out) | (go_at_call 18; (with_reducible refine (impl_ExprOk.calls k1 a1_0 a1_1 a1_2 _ _ l1_3 true _ ?side1 ?side2 A31.out).mono ?_); (case side1 => exact Kd.C_below HR1_3.out (bw_ HB.out)); (case side2 => exact HC1_3.out); rintro e w39 ⟨rfl, hb⟩; replace BK297 := A_ (blk_below (bk_ BK297.out) hb); replace BK298 := A_ (blk_below (bk_ BK298.out) hb); replace BK299 := A_ (blk_below (bk_ BK299.out) hb); replace HB := A_ (below_step (bw_ HB.out) hb); clear hb))
       go_meet
       case rel => exact ⟨_, (((l3.length : Int) != (l2.length : Int))), d2_, H', ⟨by have := HK1.out; first | omega | exact Nat.le_refl _⟩, ⟨by refine bk_ ?_; exact BK297.out⟩, ⟨by refine bk_ ?_; exact BK298.out⟩, ⟨by refine bk_ ?_; exact BK299.out⟩, ⟨bw_ HB.out⟩⟩
      ·replace c32 := Bool.eq_false_iff.mpr c32
       subst c32
       rw [if_neg (show ¬ (false = true) by decide)] at H
       have H' := A_ H
       clear H
       have hnb40 := NB297_298.out
       have hnc40 := NB298_297.out
       have hnb41 := NB297_299.out
       have hnc41 := NB299_297.out
       obtain ⟨y42_0, y42_1, y42_2, y42_3, z42_0, z42_1, z42_2, z42_3⟩ := cz4_ BK297.out
       go_wp2_with (first | ((with_reducible refine gate_callee (f := 18) rfl ?_); refine gL_ (some 24) Try.func18 #[.agg #[.int .i64 a0_0, .int .i64 a0_1, .string a0_2, .slice A0_3 l0_3.length c0_3]] ?_; (with_reducible refine (impl_ExprOk.calls k1 a0_0 a0_1 a0_2 _ _ l0_3 true _ ?side1 ?side2 A29.out).mono ?_); (case side1 => exact Kd.C_below HR0_3.out (bw_ HB.out)); (case side2 => exact HC0_3.out); rintro e w43 ⟨rfl, hb⟩; refine ⟨_, rfl, ?_⟩; replace BK297 := A_ (blk_below (bk_ BK297.out) hb); replace BK298 := A_ (blk_below (bk_ BK298.out) hb); replace BK299 := A_ (blk_below (bk_ BK299.out) hb); replace HB := A_ (below_step (bw_ HB.out) hb); clear hb; have hnb44 := NB298_299.out; have hnc44 := NB299_298.out; obtain ⟨y45_0, y45_1, y45_2, y45_3, z45_0, z45_1, z45_2, z45_3⟩ := cz4_ BK298.out) | (go_at_call 18; (with_reducible refine (impl_ExprOk.calls k1 a1_0 a1_1 a1_2 _ _ l1_3 false _ ?side1 ?side2 A31.out).mono ?_); (case side1 => exact Kd.C_below HR1_3.out (bw_ HB.out)); (case side2 => exact HC1_3.out); rintro e w46 ⟨rfl, hb⟩; replace BK297 := A_ (blk_below (bk_ BK297.out) hb); replace BK298 := A_ (blk_below (bk_ BK298.out) hb); replace BK299 := A_ (blk_below (bk_ BK299.out) hb); replace HB := A_ (below_step (bw_ HB.out) hb); clear hb))
       go_meet
       case rel => exact ⟨_, (true), d2_, H', ⟨by have := HK1.out; first | omega | exact Nat.le_refl _⟩, ⟨by refine bk_ ?_; exact BK297.out⟩, ⟨by refine bk_ ?_; exact BK298.out⟩, ⟨by refine bk_ ?_; exact BK299.out⟩, ⟨bw_ HB.out⟩⟩
     ·replace c30 := Bool.eq_false_iff.mpr c30
      subst c30
      rw [if_neg (show ¬ (false = true) by decide)] at H
      have H' := A_ H
      clear H
      have hnb47 := NB297_298.out
      have hnc47 := NB298_297.out
      have hnb48 := NB297_299.out
      have hnc48 := NB299_297.out
      obtain ⟨y49_0, y49_1, y49_2, y49_3, z49_0, z49_1, z49_2, z49_3⟩ := cz4_ BK297.out
      go_wp2_with (first | ((with_reducible refine gate_callee (f := 18) rfl ?_); refine gL_ (some 24) Try.func18 #[.agg #[.int .i64 a0_0, .int .i64 a0_1, .string a0_2, .slice A0_3 l0_3.length c0_3]] ?_; (with_reducible refine (impl_ExprOk.calls k1 a0_0 a0_1 a0_2 _ _ l0_3 false _ ?side1 ?side2 A29.out).mono ?_); (case side1 => exact Kd.C_below HR0_3.out (bw_ HB.out)); (case side2 => exact HC0_3.out); rintro e w50 ⟨rfl, hb⟩; refine ⟨_, rfl, ?_⟩; replace BK297 := A_ (blk_below (bk_ BK297.out) hb); replace BK298 := A_ (blk_below (bk_ BK298.out) hb); replace BK299 := A_ (blk_below (bk_ BK299.out) hb); replace HB := A_ (below_step (bw_ HB.out) hb); clear hb))
      go_meet
      case rel => exact ⟨_, (true), d2_, H', ⟨by have := HK1.out; first | omega | exact Nat.le_refl _⟩, ⟨by refine bk_ ?_; exact BK297.out⟩, ⟨by refine bk_ ?_; exact BK298.out⟩, ⟨by refine bk_ ?_; exact BK299.out⟩, ⟨bw_ HB.out⟩⟩
    case rest =>
     clear HC28
     try clear c1
     try clear c2
     try clear p2
     try clear c3
     try clear p3
     try clear q3
     try clear hx3
     try clear c4
     try clear p6
     try clear c8
     try clear c8b0
     try clear c9
     try clear c9b0
     try clear c10
     try clear c10b0
     try clear c12
     try clear c14
     try clear c15
     try clear c16
     try clear c18
     try clear c20
     try clear c21
     try clear c22
     try clear c25
     try clear c26
     try clear c30
     try clear p30
     try clear q30
     try clear hx30
     try clear c32
     try clear c33
     try clear c34
     try clear c37
     try clear c40
     try clear c41
     try clear c44
     try clear c47
     try clear c48
     try clear y17_0 y17_1 y17_2 y17_3 z17_0 z17_1 z17_2 z17_3
     try clear y23_0 y23_1 y23_2 y23_3 z23_0 z23_1 z23_2 z23_3
     try clear y27_0 y27_1 y27_2 y27_3 z27_0 z27_1 z27_2 z27_3
     try clear y35_0 y35_1 y35_2 y35_3 z35_0 z35_1 z35_2 z35_3
     try clear y38_0 y38_1 y38_2 y38_3 z38_0 z38_1 z38_2 z38_3
     try clear y42_0 y42_1 y42_2 y42_3 z42_0 z42_1 z42_2 z42_3
     try clear y45_0 y45_1 y45_2 y45_3 z45_0 z45_1 z45_2 z45_3
     try clear y49_0 y49_1 y49_2 y49_3 z49_0 z49_1 z49_2 z49_3
     try clear hx300_0 hx300_1 hx300_2 hx300_3
     try clear p2
     try clear p300
     try clear q300
     obtain ⟨kq, x37_27, rfl, HA, HJ27, BK297, BK298, BK299, HB⟩ := hcut
     cases kq with
     | zero => exact absurd HA.out (by simp [impl_Put.j1])
     | succ kj27 =>
      have H := HA.out
      clear HA
      simp only [impl_Put.j1] at H
      by_cases c51 : x37_27 = true
      ·subst c51
       rw [if_pos rfl] at H
       simp only [Option.some.injEq, Prod.mk.injEq] at H
       obtain ⟨rfl, rfl, rfl, rfl⟩ := H
       have hnb52 := NB299_297.out
       have hnc52 := NB297_299.out
       have hnb53 := NB299_298.out
       have hnc53 := NB298_299.out
       obtain ⟨y54_0, y54_1, y54_2, y54_3, z54_0, z54_1, z54_2, z54_3⟩ := cz4_ BK299.out
       go_wp2
       refine bodyPost_ret (results_cell_row rfl _ _ gb299 29 #[.int .i64 0, .int .i64 0, .string (⟨#[]⟩ : ByteArray), .slice none 0 0] (0, 0) _ rfl ?hb_ Try.underlying29 rfl (by kernel_rfl)) rfl ?_
       (case hb_ => exact bk_ (bp4_ (bk_ BK299.out)))
       exact ⟨_, by first | rfl | (simp [errW_none, errW_some] <;> rfl) | (simp [*, errW_none, errW_some] <;> rfl), by first | exact Kd.S_nil _ _ _ _ _ | exact Kd.N_nil _ _ _ _ _ | exact Kd.V_nil _ _ _ _ _ | exact Kd.Q_nil _ _ _ _ _ | exact Kd.R_nil _ _ _ _ _, bw_ HB.out⟩
      ·replace c51 := Bool.eq_false_iff.mpr c51
       subst c51
       rw [if_neg (show ¬ (false = true) by decide)] at H
       replace H := Option.bind_eq_some_iff.mp H
       obtain ⟨⟨t305, t306, t307, t308⟩, A550, H⟩ := H
       try dsimp only at H
       have A55 := A_ A550
       clear A550
       replace H := Option.bind_eq_some_iff.mp H
       obtain ⟨t312, A560, H⟩ := H
       try dsimp only at H
       have A56 := A_ A560
       clear A560
       by_cases c57 : t312 = true
       ·subst c57
        rw [if_pos rfl] at H
        simp only [Option.some.injEq, Prod.mk.injEq] at H
        obtain ⟨rfl, rfl, rfl, rfl⟩ := H
        have hnb58 := NB297_298.out
        have hnc58 := NB298_297.out
        have hnb59 := NB297_299.out
        have hnc59 := NB299_297.out
        obtain ⟨y60_0, y60_1, y60_2, y60_3, z60_0, z60_1, z60_2, z60_3⟩ := cz4_ BK297.out
        have hnb61 := NB298_299.out
        have hnc61 := NB299_298.out
        obtain ⟨y62_0, y62_1, y62_2, y62_3, z62_0, z62_1, z62_2, z62_3⟩ := cz4_ BK298.out
        go_wp2_with (first | ((with_reducible refine gate_callee (f := 54) rfl ?_); refine gL_ (some 43) Try.func54 #[.agg #[.int .i64 a0_0, .int .i64 a0_1, .string a0_2, .slice A0_3 l0_3.length c0_3], .agg #[.int .i64 a1_0, .int .i64 a1_1, .string a1_2, .slice A1_3 l1_3.length c1_3], .slice A2 l2.length c2, .slice A3 l3.length c3] ?_; (with_reducible refine (impl_filled.calls kj27 a0_0 a0_1 a0_2 _ _ l0_3 a1_0 a1_1 a1_2 _ _ l1_3 _ _ l2 _ _ l3 t305 t306 t307 t308 _ ?side1 ?side2 ?side3 ?side4 ?side5 ?side6 ?side7 ?side8 A55.out).mono ?_); (case side1 => exact Kd.C_below HR0_3.out (bw_ HB.out)); (case side2 => exact HC0_3.out); (case side3 => exact Kd.C_below HR1_3.out (bw_ HB.out)); (case side4 => exact HC1_3.out); (case side5 => exact Kd.C_below HR2.out (bw_ HB.out)); (case side6 => exact HC2.out); (case side7 => exact Kd.C_below HR3.out (bw_ HB.out)); (case side8 => exact HC3.out); rintro e w63 ⟨v309, rfl, ho0, hb⟩; refine ⟨_, rfl, ?_⟩; have HO310 := A_ (Kd.S_lower (Kd.S_newB (Kd.S_newB (Kd.S_newB ho0 (bk_ BK297.out)) (bk_ BK298.out)) (bk_ BK299.out)) (below_size (bw_ HB.out))); replace BK297 := A_ (blk_below (bk_ BK297.out) hb); replace BK298 := A_ (blk_below (bk_ BK298.out) hb); replace BK299 := A_ (blk_below (bk_ BK299.out) hb); replace HB := A_ (below_step (bw_ HB.out) hb); clear hb; (try clear ho0)) | ((with_reducible refine gate_dst (N := 11) rfl ?_); (try (refine gate_guard (by rfl) ?_; dsimp only)); refine bx_ 11 #[.int .i64 0, .int .i64 0, .string (⟨#[]⟩ : ByteArray), .slice none 0 0] 29 ?_; intro gb311 hg w64 hbox hb; have n0_ := A_ (Kd.S_below (Kd.S_elderB (by (with_reducible repeat (first | apply Kd.S_alloc | apply Kd.S_drewN | apply Kd.S_drew)); exact HO310.out) gb311 (Nat.le_of_eq hg.symm)) hb); have n1_ := A_ (blk_below (bk_ BK297.out) hb); have n2_ := A_ (blk_below (bk_ BK298.out) hb); have n3_ := A_ (blk_below (bk_ BK299.out) hb); have n4_ := A_ (below_step (bw_ HB.out) hb); have n5_ := A_ (hbox); have n6_ := A_ ((d3_ : w.heap.size ≤ gb311)); have n7_ := n6_; have n8_ := A_ ((d13_ : gb297 ≠ gb311)); have n9_ := A_ n8_.out.symm; have n10_ := A_ ((d18_ : gb298 ≠ gb311)); have n11_ := A_ n10_.out.symm; have n12_ := A_ ((d21_ : gb299 ≠ gb311)); have n13_ := A_ n12_.out.symm; clear HO310; clear BK297; clear BK298; clear BK299; clear HB; have HO310 := n0_; have BK297 := n1_; have BK298 := n2_; have BK299 := n3_; have HB := n4_; have BK311 := n5_; have GW311 := n6_; have GE311 := n7_; have GI311 := GeI.mk GE311.out; have NB297_311 := n8_; have NB311_297 := n9_; have NB298_311 := n10_; have NB311_298 := n11_; have NB299_311 := n12_; have NB311_299 := n13_; clear n0_ n1_ n2_ n3_ n4_ n5_ n6_ n7_ n8_ n9_ n10_ n11_ n12_ n13_; clear hb hbox hg; have hnb65 := NB311_297.out; have hnc65 := NB297_311.out; have hnb66 := NB311_298.out; have hnc66 := NB298_311.out; have hnb67 := NB311_299.out; have hnc67 := NB299_311.out; obtain ⟨y68_0, y68_1, y68_2, y68_3, z68_0, z68_1, z68_2, z68_3⟩ := cz4_ BK311.out; obtain ⟨Ao69, co69, eo69⟩ := Kd.S_slice HO310.out; subst eo69) | ((with_reducible refine gate_callee (f := 18) rfl ?_); refine gL_ (some 45) Try.func18 #[.agg #[.int .i64 t305, .int .i64 t306, .string t307, .slice Ao69 t308.length co69]] ?_; (with_reducible refine (impl_ExprOk.calls kj27 t305 t306 t307 _ _ t308 true _ ?side1 ?side2 A56.out).mono ?_); (case side1 => refine (q29_C (Kd.S_reads' (e := 29) (base := w.heap.size) (ok := fun k_ => ((((True ∧ k_ ≠ gb297) ∧ k_ ≠ gb298) ∧ k_ ≠ gb299) ∧ k_ ≠ gb311)) (n := t308.length) (c := co69) ?_).2.2); exact (by (with_reducible repeat (first | apply Kd.S_alloc | apply Kd.S_drewN | apply Kd.S_drew)); exact (Kd.S_mono (Kd.S_far (p := ⟨gb311, 3, none⟩) (Kd.S_far (p := ⟨gb311, 2, none⟩) (Kd.S_far (p := ⟨gb311, 1, none⟩) (Kd.S_far (p := ⟨gb311, 0, none⟩) (Kd.S_mono HO310.out (fun k_ hk => (⟨hk, hk.2⟩ : _ ∧ k_ ≠ gb311))) (fun _ hk => hk.2) (.int .i64 t305)) (fun _ hk => hk.2) (.int .i64 t306)) (fun _ hk => hk.2) (.string t307)) (fun _ hk => hk.2) (.slice Ao69 t308.length co69)) (fun _ h_ => h_.1)))); (case side2 => exact (Kd.S_reads' HO310.out).2.1); rintro e w70 ⟨rfl, hb⟩; refine ⟨_, rfl, ?_⟩; replace HO310 := A_ (Kd.S_below (by (with_reducible repeat (first | apply Kd.S_alloc | apply Kd.S_drewN | apply Kd.S_drew)); exact (Kd.S_mono (Kd.S_far (p := ⟨gb311, 3, none⟩) (Kd.S_far (p := ⟨gb311, 2, none⟩) (Kd.S_far (p := ⟨gb311, 1, none⟩) (Kd.S_far (p := ⟨gb311, 0, none⟩) (Kd.S_mono HO310.out (fun k_ hk => (⟨hk, hk.2⟩ : _ ∧ k_ ≠ gb311))) (fun _ hk => hk.2) (.int .i64 t305)) (fun _ hk => hk.2) (.int .i64 t306)) (fun _ hk => hk.2) (.string t307)) (fun _ hk => hk.2) (.slice Ao69 t308.length co69)) (fun _ h_ => h_.1))) hb); replace BK297 := A_ (blk_below (g := gb297) (o := .cells #[.int .i64 a0_0, .int .i64 a0_1, .string a0_2, .slice A0_3 l0_3.length c0_3] 29 (0, 0)) (by refine bk_ ?_; refine blk_far ?_ NB297_311.out _; refine bk_ ?_; refine blk_far ?_ NB297_311.out _; refine bk_ ?_; refine blk_far ?_ NB297_311.out _; refine bk_ ?_; refine blk_far ?_ NB297_311.out _; refine bk_ ?_; exact BK297.out) hb); replace BK298 := A_ (blk_below (g := gb298) (o := .cells #[.int .i64 a1_0, .int .i64 a1_1, .string a1_2, .slice A1_3 l1_3.length c1_3] 29 (0, 0)) (by refine bk_ ?_; refine blk_far ?_ NB298_311.out _; refine bk_ ?_; refine blk_far ?_ NB298_311.out _; refine bk_ ?_; refine blk_far ?_ NB298_311.out _; refine bk_ ?_; refine blk_far ?_ NB298_311.out _; refine bk_ ?_; exact BK298.out) hb); replace BK299 := A_ (blk_below (g := gb299) (o := .cells #[.int .i64 x300000_1, .int .i64 x300001_1, .string x300002_1, .slice none 0 0] 29 (0, 0)) (by refine bk_ ?_; refine blk_far ?_ NB299_311.out _; refine bk_ ?_; refine blk_far ?_ NB299_311.out _; refine bk_ ?_; refine blk_far ?_ NB299_311.out _; refine bk_ ?_; refine blk_far ?_ NB299_311.out _; refine bk_ ?_; exact BK299.out) hb); replace BK311 := A_ (blk_below (g := gb311) (o := .cells #[.int .i64 t305, .int .i64 t306, .string t307, .slice Ao69 t308.length co69] 29 (0, 0)) (by exact bk_ (bp4_ (bk_ BK311.out))) hb); replace HB := A_ (below_step (bw_ HB.out) hb); clear hb; obtain ⟨y71_0, y71_1, y71_2, y71_3, z71_0, z71_1, z71_2, z71_3⟩ := cz4_ BK311.out; obtain ⟨y72_0, y72_1, y72_2, y72_3, z72_0, z72_1, z72_2, z72_3⟩ := cz4_ BK299.out))
        refine bodyPost_ret (results_cell_row rfl _ _ gb299 29 #[.int .i64 t305, .int .i64 t306, .string t307, .slice Ao69 t308.length co69] (0, 0) _ rfl ?hb_ Try.underlying29 rfl (by kernel_rfl)) rfl ?_
        (case hb_ => exact bk_ (bp4_ (bk_ BK299.out)))
        exact ⟨_, by first | rfl | (simp [errW_none, errW_some] <;> rfl) | (simp [*, errW_none, errW_some] <;> rfl), by (with_reducible repeat (first | apply Kd.S_alloc | apply Kd.S_drewN | apply Kd.S_drew)); exact Kd.S_mono (Kd.S_far (p := ⟨gb299, 3, none⟩) (Kd.S_far (p := ⟨gb299, 2, none⟩) (Kd.S_far (p := ⟨gb299, 1, none⟩) (Kd.S_far (p := ⟨gb299, 0, none⟩) (Kd.S_mono HO310.out (fun k_ hk => (⟨hk, hk.1.2⟩ : _ ∧ k_ ≠ gb299))) (fun _ hk => hk.2) (.int .i64 t305)) (fun _ hk => hk.2) (.int .i64 t306)) (fun _ hk => hk.2) (.string t307)) (fun _ hk => hk.2) (.slice Ao69 t308.length co69)) (fun _ hk => trivial), bw_ HB.out⟩
       ·replace c57 := Bool.eq_false_iff.mpr c57
        subst c57
        rw [if_neg (show ¬ (false = true) by decide)] at H
        simp only [Option.some.injEq, Prod.mk.injEq] at H
        obtain ⟨rfl, rfl, rfl, rfl⟩ := H
        have hnb73 := NB297_298.out
        have hnc73 := NB298_297.out
        have hnb74 := NB297_299.out
        have hnc74 := NB299_297.out
        obtain ⟨y75_0, y75_1, y75_2, y75_3, z75_0, z75_1, z75_2, z75_3⟩ := cz4_ BK297.out
        have hnb76 := NB298_299.out
        have hnc76 := NB299_298.out
        obtain ⟨y77_0, y77_1, y77_2, y77_3, z77_0, z77_1, z77_2, z77_3⟩ := cz4_ BK298.out
        go_wp2_with (first | ((with_reducible refine gate_callee (f := 54) rfl ?_); refine gL_ (some 43) Try.func54 #[.agg #[.int .i64 a0_0, .int .i64 a0_1, .string a0_2, .slice A0_3 l0_3.length c0_3], .agg #[.int .i64 a1_0, .int .i64 a1_1, .string a1_2, .slice A1_3 l1_3.length c1_3], .slice A2 l2.length c2, .slice A3 l3.length c3] ?_; (with_reducible refine (impl_filled.calls kj27 a0_0 a0_1 a0_2 _ _ l0_3 a1_0 a1_1 a1_2 _ _ l1_3 _ _ l2 _ _ l3 t305 t306 t307 t308 _ ?side1 ?side2 ?side3 ?side4 ?side5 ?side6 ?side7 ?side8 A55.out).mono ?_); (case side1 => exact Kd.C_below HR0_3.out (bw_ HB.out)); (case side2 => exact HC0_3.out); (case side3 => exact Kd.C_below HR1_3.out (bw_ HB.out)); (case side4 => exact HC1_3.out); (case side5 => exact Kd.C_below HR2.out (bw_ HB.out)); (case side6 => exact HC2.out); (case side7 => exact Kd.C_below HR3.out (bw_ HB.out)); (case side8 => exact HC3.out); rintro e w78 ⟨v309, rfl, ho0, hb⟩; refine ⟨_, rfl, ?_⟩; have HO310 := A_ (Kd.S_lower (Kd.S_newB (Kd.S_newB (Kd.S_newB ho0 (bk_ BK297.out)) (bk_ BK298.out)) (bk_ BK299.out)) (below_size (bw_ HB.out))); replace BK297 := A_ (blk_below (bk_ BK297.out) hb); replace BK298 := A_ (blk_below (bk_ BK298.out) hb); replace BK299 := A_ (blk_below (bk_ BK299.out) hb); replace HB := A_ (below_step (bw_ HB.out) hb); clear hb; (try clear ho0)) | ((with_reducible refine gate_dst (N := 11) rfl ?_); (try (refine gate_guard (by rfl) ?_; dsimp only)); refine bx_ 11 #[.int .i64 0, .int .i64 0, .string (⟨#[]⟩ : ByteArray), .slice none 0 0] 29 ?_; intro gb311 hg w79 hbox hb; have n0_ := A_ (Kd.S_below (Kd.S_elderB (by (with_reducible repeat (first | apply Kd.S_alloc | apply Kd.S_drewN | apply Kd.S_drew)); exact HO310.out) gb311 (Nat.le_of_eq hg.symm)) hb); have n1_ := A_ (blk_below (bk_ BK297.out) hb); have n2_ := A_ (blk_below (bk_ BK298.out) hb); have n3_ := A_ (blk_below (bk_ BK299.out) hb); have n4_ := A_ (below_step (bw_ HB.out) hb); have n5_ := A_ (hbox); have n6_ := A_ ((d3_ : w.heap.size ≤ gb311)); have n7_ := n6_; have n8_ := A_ ((d13_ : gb297 ≠ gb311)); have n9_ := A_ n8_.out.symm; have n10_ := A_ ((d18_ : gb298 ≠ gb311)); have n11_ := A_ n10_.out.symm; have n12_ := A_ ((d21_ : gb299 ≠ gb311)); have n13_ := A_ n12_.out.symm; clear HO310; clear BK297; clear BK298; clear BK299; clear HB; have HO310 := n0_; have BK297 := n1_; have BK298 := n2_; have BK299 := n3_; have HB := n4_; have BK311 := n5_; have GW311 := n6_; have GE311 := n7_; have GI311 := GeI.mk GE311.out; have NB297_311 := n8_; have NB311_297 := n9_; have NB298_311 := n10_; have NB311_298 := n11_; have NB299_311 := n12_; have NB311_299 := n13_; clear n0_ n1_ n2_ n3_ n4_ n5_ n6_ n7_ n8_ n9_ n10_ n11_ n12_ n13_; clear hb hbox hg; have hnb80 := NB311_297.out; have hnc80 := NB297_311.out; have hnb81 := NB311_298.out; have hnc81 := NB298_311.out; have hnb82 := NB311_299.out; have hnc82 := NB299_311.out; obtain ⟨y83_0, y83_1, y83_2, y83_3, z83_0, z83_1, z83_2, z83_3⟩ := cz4_ BK311.out; obtain ⟨Ao84, co84, eo84⟩ := Kd.S_slice HO310.out; subst eo84) | ((with_reducible refine gate_callee (f := 18) rfl ?_); refine gL_ (some 45) Try.func18 #[.agg #[.int .i64 t305, .int .i64 t306, .string t307, .slice Ao84 t308.length co84]] ?_; (with_reducible refine (impl_ExprOk.calls kj27 t305 t306 t307 _ _ t308 false _ ?side1 ?side2 A56.out).mono ?_); (case side1 => refine (q29_C (Kd.S_reads' (e := 29) (base := w.heap.size) (ok := fun k_ => ((((True ∧ k_ ≠ gb297) ∧ k_ ≠ gb298) ∧ k_ ≠ gb299) ∧ k_ ≠ gb311)) (n := t308.length) (c := co84) ?_).2.2); exact (by (with_reducible repeat (first | apply Kd.S_alloc | apply Kd.S_drewN | apply Kd.S_drew)); exact (Kd.S_mono (Kd.S_far (p := ⟨gb311, 3, none⟩) (Kd.S_far (p := ⟨gb311, 2, none⟩) (Kd.S_far (p := ⟨gb311, 1, none⟩) (Kd.S_far (p := ⟨gb311, 0, none⟩) (Kd.S_mono HO310.out (fun k_ hk => (⟨hk, hk.2⟩ : _ ∧ k_ ≠ gb311))) (fun _ hk => hk.2) (.int .i64 t305)) (fun _ hk => hk.2) (.int .i64 t306)) (fun _ hk => hk.2) (.string t307)) (fun _ hk => hk.2) (.slice Ao84 t308.length co84)) (fun _ h_ => h_.1)))); (case side2 => exact (Kd.S_reads' HO310.out).2.1); rintro e w85 ⟨rfl, hb⟩; refine ⟨_, rfl, ?_⟩; replace HO310 := A_ (Kd.S_below (by (with_reducible repeat (first | apply Kd.S_alloc | apply Kd.S_drewN | apply Kd.S_drew)); exact (Kd.S_mono (Kd.S_far (p := ⟨gb311, 3, none⟩) (Kd.S_far (p := ⟨gb311, 2, none⟩) (Kd.S_far (p := ⟨gb311, 1, none⟩) (Kd.S_far (p := ⟨gb311, 0, none⟩) (Kd.S_mono HO310.out (fun k_ hk => (⟨hk, hk.2⟩ : _ ∧ k_ ≠ gb311))) (fun _ hk => hk.2) (.int .i64 t305)) (fun _ hk => hk.2) (.int .i64 t306)) (fun _ hk => hk.2) (.string t307)) (fun _ hk => hk.2) (.slice Ao84 t308.length co84)) (fun _ h_ => h_.1))) hb); replace BK297 := A_ (blk_below (g := gb297) (o := .cells #[.int .i64 a0_0, .int .i64 a0_1, .string a0_2, .slice A0_3 l0_3.length c0_3] 29 (0, 0)) (by refine bk_ ?_; refine blk_far ?_ NB297_311.out _; refine bk_ ?_; refine blk_far ?_ NB297_311.out _; refine bk_ ?_; refine blk_far ?_ NB297_311.out _; refine bk_ ?_; refine blk_far ?_ NB297_311.out _; refine bk_ ?_; exact BK297.out) hb); replace BK298 := A_ (blk_below (g := gb298) (o := .cells #[.int .i64 a1_0, .int .i64 a1_1, .string a1_2, .slice A1_3 l1_3.length c1_3] 29 (0, 0)) (by refine bk_ ?_; refine blk_far ?_ NB298_311.out _; refine bk_ ?_; refine blk_far ?_ NB298_311.out _; refine bk_ ?_; refine blk_far ?_ NB298_311.out _; refine bk_ ?_; refine blk_far ?_ NB298_311.out _; refine bk_ ?_; exact BK298.out) hb); replace BK299 := A_ (blk_below (g := gb299) (o := .cells #[.int .i64 x300000_1, .int .i64 x300001_1, .string x300002_1, .slice none 0 0] 29 (0, 0)) (by refine bk_ ?_; refine blk_far ?_ NB299_311.out _; refine bk_ ?_; refine blk_far ?_ NB299_311.out _; refine bk_ ?_; refine blk_far ?_ NB299_311.out _; refine bk_ ?_; refine blk_far ?_ NB299_311.out _; refine bk_ ?_; exact BK299.out) hb); replace BK311 := A_ (blk_below (g := gb311) (o := .cells #[.int .i64 t305, .int .i64 t306, .string t307, .slice Ao84 t308.length co84] 29 (0, 0)) (by exact bk_ (bp4_ (bk_ BK311.out))) hb); replace HB := A_ (below_step (bw_ HB.out) hb); clear hb; obtain ⟨y86_0, y86_1, y86_2, y86_3, z86_0, z86_1, z86_2, z86_3⟩ := cz4_ BK299.out))
        refine bodyPost_ret (results_cell_row rfl _ _ gb299 29 #[.int .i64 0, .int .i64 0, .string (⟨#[]⟩ : ByteArray), .slice none 0 0] (0, 0) _ rfl ?hb_ Try.underlying29 rfl (by kernel_rfl)) rfl ?_
        (case hb_ => exact bk_ (bp4_ (bk_ BK299.out)))
        exact ⟨_, by first | rfl | (simp [errW_none, errW_some] <;> rfl) | (simp [*, errW_none, errW_some] <;> rfl), by first | exact Kd.S_nil _ _ _ _ _ | exact Kd.N_nil _ _ _ _ _ | exact Kd.V_nil _ _ _ _ _ | exact Kd.Q_nil _ _ _ _ _ | exact Kd.R_nil _ _ _ _ _, bw_ HB.out⟩

/-! ### laws_markText: function 55 -/
def laws_markText.l0 : Nat → Int → ByteArray → Option (ByteArray)
 | 0, _, _ => none
 | k + 1, x0, x3 => if x0 > 0 then ((some (([(wrap64 (48 + (Int.tmod x0 10))) % 256] : List Int) : List Int)).bind fun y313 => (if (strOfNums y313).size + x3.size ≤ 9223372036854775807 then (laws_markText.l0 k (wrap64 (Int.tdiv x0 10)) ((strOfNums y313) ++ x3)) else (none))) else (if 1 + x3.size ≤ 9223372036854775807 then (some ((⟨#[109]⟩ : ByteArray) ++ x3)) else (none))
def laws_markText.f (k : Nat) (a0 : Int) : Option (ByteArray) := if a0 ≤ 0 then (some (⟨#[109, 48]⟩ : ByteArray)) else (laws_markText.l0 k a0 (⟨#[]⟩ : ByteArray))
theorem laws_markText.mono_l : ∀ k, (∀ y0 y1, LeO (laws_markText.l0 k y0 y1) (laws_markText.l0 (k + 1) y0 y1))
 | 0 => fun _ _ r h => by simp [laws_markText.l0] at h
 | k + 1 => by
  have ih0 := laws_markText.mono_l k
  ·intro y0 y1
   unfold laws_markText.l0
   repeat' first
   | (with_reducible exact ih0 _ _)
   | (with_reducible exact LeO.refl _)
   | (with_reducible exact LeO.none _)
   | (with_reducible refine LeO.ite ?_ ?_)
   | (with_reducible refine LeO.bind ?_ (fun _ => ?_))
   | exact ih0 _ _
   | exact LeO.none _
   | refine LeO.ite ?_ ?_
   | refine LeO.bind ?_ (fun _ => ?_)
theorem laws_markText.mono : ∀ a0 k, LeO (laws_markText.f k a0) (laws_markText.f (k + 1) a0) := by
 intro a0 k
 have ih0 := laws_markText.mono_l k
 unfold laws_markText.f
 repeat' first
   | (with_reducible exact ih0 _ _)
   | (with_reducible exact LeO.refl _)
   | (with_reducible exact LeO.none _)
   | (with_reducible refine LeO.ite ?_ ?_)
   | (with_reducible refine LeO.bind ?_ (fun _ => ?_))
   | exact ih0 _ _
   | exact LeO.none _
   | refine LeO.ite ?_ ?_
   | refine LeO.bind ?_ (fun _ => ?_)
set_option maxHeartbeats 8000000 in
set_option maxRecDepth 100000 in
theorem laws_markText.calls (k : Nat) (a0 : Int) (r : ByteArray) (w : World) (h : laws_markText.f k a0 = some r) :
  Calls Try.prog 55 #[.int .i64 a0] w fun e w' => e = .returned (.string r) ∧ Below w.heap.size w w' := by
 have HB := A_ (Below.refl w.heap.size w)
 have H : (if a0 ≤ 0 then (some (⟨#[109, 48]⟩ : ByteArray)) else (laws_markText.l0 k a0 (⟨#[]⟩ : ByteArray))) = some r := h
 clear h
 by_cases c2 : a0 ≤ 0
 ·rw [if_pos c2] at H
  have c2b0 := decide_eq_true c2
  clear c2
  obtain rfl := Option.some.inj H
  go_enter Try.func55, Try.ntmps55
  go_wp2
  go_ret
  exact rt_ (bw_ HB.out)
 ·rw [if_neg c2] at H
  have c2b0 := decide_eq_false c2
  clear c2
  have H' := A_ H
  clear H
  go_enter Try.func55, Try.ntmps55
  go_wp2
  go_loopg [0, 3] k (fun kq v0 v3 w' => ∃ (x0_1 : Int) (x3_1 : ByteArray), v0 = .int .i64 x0_1 ∧ v3 = .string x3_1 ∧ Aside0 (laws_markText.l0 kq x0_1 x3_1 = some r) ∧ Aside0 (kq ≤ k) ∧ Aside0 (Below w.heap.size w w'))
  case atStart => exact ⟨(a0), ((⟨#[]⟩ : ByteArray)), d2_, d2_, H', ⟨Nat.le_refl _⟩, ⟨bw_ HB.out⟩⟩
  case round =>
   clear H'
   try clear c2
   try clear c2b0
   try clear p2
   obtain ⟨x0_1, x3_1, rfl, rfl, HA, HK1, HB⟩ := hrel
   cases gk with
   | zero => exact absurd HA.out (by simp [laws_markText.l0])
   | succ k1 =>
    have H := HA.out
    clear HA
    simp only [laws_markText.l0] at H
    by_cases c3 : x0_1 > 0
    ·rw [if_pos c3] at H
     have c3b0 := decide_eq_true c3
     clear c3
     obtain ⟨y313, hy313⟩ : ∃ y_ : List Int, y_ = (([(wrap64 (48 + (Int.tmod x0_1 10))) % 256] : List Int)) := ⟨_, rfl⟩
     replace H : (if (strOfNums y313).size + x3_1.size ≤ 9223372036854775807 then (laws_markText.l0 k1 (wrap64 (Int.tdiv x0_1 10)) ((strOfNums y313) ++ x3_1)) else (none)) = some r := by first | (rw [hy313]; with_reducible exact H) | (have H2_ := (Option.bind_some _ _).symm.trans H; rw [hy313]; with_reducible exact H2_) | (have H2_ := (Option.bind_some _ _).symm.trans H; with_reducible exact H2_) | with_reducible exact H | (rw [hy313]; exact H) | exact H
     have Ny313 := A_ hy313
     clear hy313
     by_cases c4 : (strOfNums y313).size + x3_1.size ≤ 9223372036854775807
     ·rw [if_pos c4] at H
      have c4b0 := eq_true c4
      have c4b1 := decide_eq_true c4
      try have c4b2 : (9223372036854775807 < (strOfNums y313).size + x3_1.size) = False := eq_false (Nat.not_lt.2 c4)
      have H' := A_ H
      clear H
      go_wp2_with (first | ((with_reducible refine gate_dst (N := 12) rfl ?_); refine Kd.R_lit (Kd.int .u8) _ 5 ?hg (N := 12) ?hd (xs := ([(wrap64 (48 + (Int.tmod x0_1 10))) % 256] : List Int)) (inner := [.int .u8 ((wrap64 (48 + (Int.tmod x0_1 10))) % 256)]) (ok := fun _ => True) (okp := fun _ => True) ?hr ?hp (fun _ hk => hk) trivial (Below.refl _ _) (Nat.le_refl _) (by simp) ?_; (case hd => rfl); (case hg => rfl); (case hr => first | (go_simp; done) | (go_simp; rfl)); (case hp => exact (Reps.one (show Kd.M (Kd.int .u8) _ _ _ ((wrap64 (48 + (Int.tmod x0_1 10))) % 256) [.int .u8 ((wrap64 (48 + (Int.tmod x0_1 10))) % 256)] from rfl) (Reps.none _ _))); intro v314 w5 ho6 hb hg_ hnew_; clear hg_ hnew_; (first | rw [← Ny313.out] at ho6 | (simp only [Int.reduceToNat] at ho6; rw [← Ny313.out] at ho6)); have HO315 := A_ (Kd.R_lower ho6 (below_size (bw_ HB.out))); replace HB := A_ (below_step (bw_ HB.out) hb); clear hb ho6; have hcv7 := own_string (P := Try.prog) Try.underlying34 Try.underlying5 Try.underlying9 (Kd.own_of_R HO315.out)))
      go_roundg k1
      case measure => have := HK1.out; omega
      case rel => exact ⟨(wrap64 (Int.tdiv x0_1 10)), ((strOfNums y313) ++ x3_1), d2_, d2_, H', ⟨by have := HK1.out; omega⟩, ⟨bw_ HB.out⟩⟩
     ·rw [if_neg c4] at H
      exact absurd H (by simp)
    ·rw [if_neg c3] at H
     have c3b0 := decide_eq_false c3
     clear c3
     by_cases c8 : 1 + x3_1.size ≤ 9223372036854775807
     ·rw [if_pos c8] at H
      have c8b0 := eq_true c8
      have c8b1 := decide_eq_true c8
      try have c8b2 : (9223372036854775807 < 1 + x3_1.size) = False := eq_false (Nat.not_lt.2 c8)
      obtain rfl := Option.some.inj H
      go_wp2
      go_ret
      exact rt_ (bw_ HB.out)
     ·rw [if_neg c8] at H
      exact absurd H (by simp)

-- NOT PRINTED: function 38 (laws_markExprS)

-- NOT PRINTED: function 36 (laws_markExpr)

/-! ### laws_markStringS: function 37 -/
def laws_markStringS.l0 : Nat → List ByteArray → Int → Int → Option (Int × List ByteArray)
 | 0, _, _, _ => none
 | k + 1, x0, x1, x5 => if x5 < (x0.length : Int) then ((laws_markText.f k x1).bind fun t317 => (if 0 ≤ x5 then (laws_markStringS.l0 k (x0.set (x5 : Int).toNat t317) (wrap64 (x1 + 1)) (wrap64 (x5 + 1))) else (none))) else (some (x1, x0))
def laws_markStringS.f (k : Nat) (l0 : List ByteArray) (a1 : Int) : Option (Int × List ByteArray) := laws_markStringS.l0 k l0 a1 0
theorem laws_markStringS.mono_l : ∀ k, (∀ y0 y1 y2, LeO (laws_markStringS.l0 k y0 y1 y2) (laws_markStringS.l0 (k + 1) y0 y1 y2))
 | 0 => fun _ _ _ r h => by simp [laws_markStringS.l0] at h
 | k + 1 => by
  have ih0 := laws_markStringS.mono_l k
  ·intro y0 y1 y2
   unfold laws_markStringS.l0
   repeat' first
   | (with_reducible exact ih0 _ _ _)
   | (with_reducible exact laws_markText.mono _ _)
   | (with_reducible exact LeO.refl _)
   | (with_reducible exact LeO.none _)
   | (with_reducible refine LeO.ite ?_ ?_)
   | (with_reducible refine LeO.bind ?_ (fun _ => ?_))
   | exact ih0 _ _ _
   | exact laws_markText.mono _ _
   | exact LeO.none _
   | refine LeO.ite ?_ ?_
   | refine LeO.bind ?_ (fun _ => ?_)
theorem laws_markStringS.mono : ∀ a0 a1 k, LeO (laws_markStringS.f k a0 a1) (laws_markStringS.f (k + 1) a0 a1) := by
 intro a0 a1 k
 have ih0 := laws_markStringS.mono_l k
 unfold laws_markStringS.f
 repeat' first
   | (with_reducible exact ih0 _ _ _)
   | (with_reducible exact laws_markText.mono _ _)
   | (with_reducible exact LeO.refl _)
   | (with_reducible exact LeO.none _)
   | (with_reducible refine LeO.ite ?_ ?_)
   | (with_reducible refine LeO.bind ?_ (fun _ => ?_))
   | exact ih0 _ _ _
   | exact laws_markText.mono _ _
   | exact LeO.none _
   | refine LeO.ite ?_ ?_
   | refine LeO.bind ?_ (fun _ => ?_)
set_option maxHeartbeats 8000000 in
set_option maxRecDepth 100000 in
theorem laws_markStringS.calls (k : Nat) (P0_ : Nat → Prop) (u9000_ : Value) (l0 : List ByteArray) (a1 : Int) (r1 : Int) (r2 : List ByteArray) (w0 w : World) (hB : Below w0.heap.size w0 w) (ho0 : Kd.R Kd.string 9 w w0.heap.size P0_ u9000_ l0) (h : laws_markStringS.f k l0 a1 = some (r1, r2)) :
  Calls Try.prog 37 #[u9000_, .int .i64 a1] w fun e w' => e = .returned (.int .i64 r1) ∧ Kd.R Kd.string 9 w' w0.heap.size (fun k_ => (P0_ k_ ∨ w.heap.size ≤ k_)) u9000_ r2 ∧ Below w0.heap.size w0 w' ∧ Kept w w' (fun k_ => P0_ k_) := by
 have HO0 := A_ (show Kd.R Kd.string 9 w w0.heap.size (fun k_ => (P0_ k_ ∨ w.heap.size ≤ k_)) u9000_ l0 from Kd.R_mono ho0 (fun k_ hk => (.inl hk)))
 have HK := A_ (Kept.refl w (fun k_ => P0_ k_))
 have HW0 := A_ hB.size
 have HB := A_ hB
 clear hB
 have H : (laws_markStringS.l0 k l0 a1 0) = some (r1, r2) := h
 clear h
 have H' := A_ H
 clear H
 go_enter Try.func37, Try.ntmps37
 go_wp2
 go_loopg [1, 5] k (fun kq v1 v5 w' => ∃ (x0_1 : List ByteArray) (x1_1 : Int) (x5_1 : Int), v1 = .int .i64 x1_1 ∧ v5 = .int .i64 x5_1 ∧ Aside0 (laws_markStringS.l0 kq x0_1 x1_1 x5_1 = some (r1, r2)) ∧ Aside0 (kq ≤ k) ∧ Aside0 (Kd.R Kd.string 9 w' w0.heap.size (fun k_ => (P0_ k_ ∨ w.heap.size ≤ k_)) u9000_ x0_1) ∧ Aside0 (Kept w w' (fun k_ => P0_ k_)) ∧ Aside0 (Below w0.heap.size w0 w'))
 case atStart => exact ⟨(l0), (a1), (0), d2_, d2_, H', ⟨Nat.le_refl _⟩, ⟨kr_ HO0.out⟩, ⟨by repeat (first | (with_reducible first | exact HK.out | apply Kept.alloc | apply Kept.drewN | apply Kept.drew) | exact HK.out)⟩, ⟨bw_ HB.out⟩⟩
 case round =>
  clear H'
  try clear p2
  obtain ⟨x0_1, x1_1, x5_1, rfl, rfl, HA, HK1, HO_0, HK, HB⟩ := hrel
  cases gk with
  | zero => exact absurd HA.out (by simp [laws_markStringS.l0])
  | succ k1 =>
   have H := HA.out
   clear HA
   simp only [laws_markStringS.l0] at H
   by_cases c3 : x5_1 < (x0_1.length : Int)
   ·rw [if_pos c3] at H
    have c3b0 := decide_eq_true c3
    clear c3
    replace H := Option.bind_eq_some_iff.mp H
    obtain ⟨t317, A40, H⟩ := H
    try dsimp only at H
    have A4 := A_ A40
    clear A40
    by_cases c5 : 0 ≤ x5_1
    ·rw [if_pos c5] at H
     have c5b0 := decide_eq_true c5
     clear c5
     obtain ⟨y318, hy318⟩ : ∃ y_ : List ByteArray, y_ = (x0_1.set (x5_1 : Int).toNat t317) := ⟨_, rfl⟩
     replace H : (laws_markStringS.l0 k1 y318 (wrap64 (x1_1 + 1)) (wrap64 (x5_1 + 1))) = some (r1, r2) := by first | (rw [hy318]; with_reducible exact H) | (have H2_ := (Option.bind_some _ _).symm.trans H; rw [hy318]; with_reducible exact H2_) | (have H2_ := (Option.bind_some _ _).symm.trans H; with_reducible exact H2_) | with_reducible exact H | (rw [hy318]; exact H) | exact H
     have Ny318 := A_ hy318
     clear hy318
     have H' := A_ H
     clear H
     obtain ⟨Ao7, co7, eo7⟩ := Kd.R_slice HO_0.out
     subst eo7
     go_wp2_with (first | ((with_reducible refine gate_callee (f := 55) rfl ?_); refine gL_ (some 15) Try.func55 #[.int .i64 x1_1] ?_; (with_reducible refine (laws_markText.calls k1 x1_1 t317 _ A4.out).mono ?_); rintro e w8 ⟨rfl, hb⟩; refine ⟨_, rfl, ?_⟩; replace HO_0 := A_ (Kd.R_below (kr_ HO_0.out) hb); replace HK := A_ (Kept.below (S := (fun k_ => P0_ k_)) (by repeat (first | (with_reducible first | exact HK.out | apply Kept.alloc | apply Kept.drewN | apply Kept.drew) | exact HK.out)) hb); replace HB := A_ (below_step (bw_ HB.out) hb); clear hb; have p6 : 0 ≤ (x5_1 : Int) := of_decide_eq_true d1_; have q6 : (x5_1 : Int) < ((x0_1.length : Int) : Int) := of_decide_eq_true d1_; obtain ⟨go6, co6, eo6, gb6, gl6, cl6, HG6⟩ := Kd.R_form HO_0.out (by omega); (first | cases eo6 | (injection eo6 with ea_ en_ ec_; (first | subst ea_ | (injection ea_ with ea_; subst ea_)); subst ec_; clear en_)); have GB6 := A_ gb6; have GG6 := A_ HG6; clear gb6 gl6 HG6; have HMgo6 := A_ (show (P0_ go6 ∨ w.heap.size ≤ go6) from (HO_0.out.1 _ rfl)); obtain ⟨hx6_0, hf6_0⟩ := Kd.R_celln (⟨#[]⟩ : ByteArray) HO_0.out (x5_1 : Int) p6 q6; replace p6 := eq_true p6; replace q6 := eq_true q6; obtain ⟨hy9_, hz9_⟩ := Kd.R_celln (⟨#[]⟩ : ByteArray) HO_0.out (x5_1 : Int) (of_decide_eq_true d1_) (of_decide_eq_true d1_); have HP9 := Kd.R_putg HO_0.out (x5_1 : Int) t317) | ((with_reducible refine gate_store (t := 9) (p := 16) rfl ?_); refine store_event (t := 9) (p := 16) (v := ?vo_w10) (w1 := (w8.setCell ⟨go6, (x5_1 : Int).toNat, none⟩ (.string t317))) ?hg ?ho ?hn ?hr ?_; (case ho => rfl); (case hg => rfl); (case hn => rfl); (case hr => first | (go_simp; done) | (go_simp; rfl)); intro w10 hw; have hg : w8.grownBy w10 (some go6) := (by rw [hw]; exact HP9.2); have hp_ : Kd.R Kd.string 9 w10 w0.heap.size (fun k_ => (P0_ k_ ∨ w.heap.size ≤ k_)) (.slice (some ⟨go6, 0, none⟩) x0_1.length co7) y318 := (by rw [hw, Ny318.out]; exact HP9.1); clear HP9; replace HB := A_ ((by rw [hw]; exact below_set (HB.out) GB6.out : Below w0.heap.size w0 w10)); replace HK := A_ (Kept.of_grown (S := (fun k_ => P0_ k_)) hg (by repeat (first | (with_reducible first | exact HK.out | apply Kept.alloc | apply Kept.drewN | apply Kept.drew) | exact HK.out)) (fun k_ e_ => (HO_0.out.1 k_ e_))); replace HO_0 := A_ (hp_); clear hg hw hp_))
     go_roundg k1
     case measure => have := HK1.out; omega
     case rel => exact ⟨(y318), (wrap64 (x1_1 + 1)), (wrap64 (x5_1 + 1)), d2_, d2_, H', ⟨by have := HK1.out; omega⟩, ⟨kr_ HO_0.out⟩, ⟨by repeat (first | (with_reducible first | exact HK.out | apply Kept.alloc | apply Kept.drewN | apply Kept.drew) | exact HK.out)⟩, ⟨bw_ HB.out⟩⟩
    ·rw [if_neg c5] at H
     exact absurd H (by simp)
   ·rw [if_neg c3] at H
    have c3b0 := decide_eq_false c3
    clear c3
    simp only [Option.some.injEq, Prod.mk.injEq] at H
    obtain ⟨rfl, rfl⟩ := H
    obtain ⟨Ao11, co11, eo11⟩ := Kd.R_slice HO_0.out
    subst eo11
    go_wp2
    go_ret
    exact rt_ ⟨kr_ HO_0.out, bw_ HB.out, by repeat (first | (with_reducible first | exact HK.out | apply Kept.alloc | apply Kept.drewN | apply Kept.drew) | exact HK.out)⟩

end Go.Proofs.Ytcpnhlhigpgonaa.PFnExactPut
