-- Laid by a program of this session (a changed copy of the kit's printer); Lean checks every line.
import Derived.Test.YtcpnhlhigpgonaaPFnPutInx0
import Derived.Test.YtcpnhlhigpgonaaPFnPutInx4
import Derived.Test.YtcpnhlhigpgonaaPFnPutInx6
import Derived.Test.YtcpnhlhigpgonaaPFnPutInx10
namespace Go.Proofs.Ytcpnhlhigpgonaa.PFnPutIn
open Go.RowKit Go.Proofs.YtcpnhlhigpgonaaW.PrintWords Go.Proofs.YtcpnhlhigpgonaaW.PrintLast Go.Proofs.YtcpnhlhigpgonaaW.PrintMore
attribute [local go_sem] max2_int min2_int max_two min_two max_three min_three max_four min_four   -- for this text's walks alone
set_option linter.unusedVariables false
set_option linter.unusedSimpArgs false

/-! ### impl_Put: function 34 -/
mutual
def impl_Put.l0 : Nat → List ByteArray → List (S29) → List (S29) → Int → Int → Int → Int → ByteArray → List (S29) → Int → Int → ByteArray → List (S29) → Option (Int × Int × ByteArray × (List (S29)))
 | 0, _, _, _, _, _, _, _, _, _, _, _, _, _ => none
 | k + 1, x2, x3, x12, x13, x14, x314000, x314001, x314002, x314003, x315000, x315001, x315002, x315003 => if x14 < x13 then (if 0 ≤ x14 then (if x14 < (x12.length : Int) then ((impl_ExprOk.f k ((rd_T29 x12 x14).f0) ((rd_T29 x12 x14).f1) ((rd_T29 x12 x14).f2) ((rd_T29 x12 x14).f3)).bind fun t318 => (if t318 = true then (impl_Put.l0 k x2 x3 x12 x13 (wrap64 (x14 + 1)) x314000 x314001 x314002 x314003 x315000 x315001 x315002 x315003) else (some (0, 0, (⟨#[]⟩ : ByteArray), ([] : List (S29)))))) else (none)) else (none)) else ((impl_ExprOk.f k x314000 x314001 x314002 x314003).bind fun t319 => (if t319 = true then ((impl_ExprOk.f k x315000 x315001 x315002 x315003).bind fun t320 => (if t320 = true then (impl_Put.j1 k x2 x3 ((x3.length : Int) != (x2.length : Int)) x314000 x314001 x314002 x314003 x315000 x315001 x315002 x315003) else (impl_Put.j1 k x2 x3 true x314000 x314001 x314002 x314003 x315000 x315001 x315002 x315003))) else (impl_Put.j1 k x2 x3 true x314000 x314001 x314002 x314003 x315000 x315001 x315002 x315003)))
def impl_Put.j1 : Nat → List ByteArray → List (S29) → Bool → Int → Int → ByteArray → List (S29) → Int → Int → ByteArray → List (S29) → Option (Int × Int × ByteArray × (List (S29)))
 | 0, _, _, _, _, _, _, _, _, _, _, _ => none
 | k + 1, x2, x3, x37, x314000, x314001, x314002, x314003, x315000, x315001, x315002, x315003 => if x37 = true then (some (0, 0, (⟨#[]⟩ : ByteArray), ([] : List (S29)))) else ((impl_filled.f k x314000 x314001 x314002 x314003 x315000 x315001 x315002 x315003 x2 x3).bind fun bt321 => ((impl_ExprOk.f k bt321.1 bt321.2.1 bt321.2.2.1 bt321.2.2.2).bind fun t328 => (if t328 = true then (some (bt321.1, bt321.2.1, bt321.2.2.1, bt321.2.2.2)) else (some (0, 0, (⟨#[]⟩ : ByteArray), ([] : List (S29)))))))
end
def impl_Put.f (k : Nat) (a0_0 : Int) (a0_1 : Int) (a0_2 : ByteArray) (l0_3 : List (S29)) (a1_0 : Int) (a1_1 : Int) (a1_2 : ByteArray) (l1_3 : List (S29)) (l2 : List ByteArray) (l3 : List (S29)) : Option (Int × Int × ByteArray × (List (S29))) := impl_Put.l0 k l2 l3 l3 (l3.length : Int) 0 a0_0 a0_1 a0_2 l0_3 a1_0 a1_1 a1_2 l1_3
theorem impl_Put.mono_l : ∀ k, (∀ y0 y1 y2 y3 y4 y5 y6 y7 y8 y9 y10 y11 y12, LeO (impl_Put.l0 k y0 y1 y2 y3 y4 y5 y6 y7 y8 y9 y10 y11 y12) (impl_Put.l0 (k + 1) y0 y1 y2 y3 y4 y5 y6 y7 y8 y9 y10 y11 y12)) ∧ (∀ y0 y1 y2 y3 y4 y5 y6 y7 y8 y9 y10, LeO (impl_Put.j1 k y0 y1 y2 y3 y4 y5 y6 y7 y8 y9 y10) (impl_Put.j1 (k + 1) y0 y1 y2 y3 y4 y5 y6 y7 y8 y9 y10))
 | 0 => ⟨fun _ _ _ _ _ _ _ _ _ _ _ _ _ r h => by simp [impl_Put.l0] at h, fun _ _ _ _ _ _ _ _ _ _ _ r h => by simp [impl_Put.j1] at h⟩
 | k + 1 => by
  obtain ⟨ih0, ih1⟩ := impl_Put.mono_l k
  refine ⟨?_, ?_⟩
  ·intro y0 y1 y2 y3 y4 y5 y6 y7 y8 y9 y10 y11 y12
   unfold impl_Put.l0
   repeat' first
   | (with_reducible exact ih0 _ _ _ _ _ _ _ _ _ _ _ _ _)
   | (with_reducible exact ih1 _ _ _ _ _ _ _ _ _ _ _)
   | (with_reducible exact impl_ExprOk.mono _ _ _ _ _)
   | (with_reducible exact impl_filled.mono _ _ _ _ _ _ _ _ _ _ _)
   | (with_reducible exact LeO.refl _)
   | (with_reducible exact LeO.none _)
   | (with_reducible refine LeO.ite ?_ ?_)
   | (with_reducible refine LeO.bind ?_ (fun _ => ?_))
   | exact ih0 _ _ _ _ _ _ _ _ _ _ _ _ _
   | exact ih1 _ _ _ _ _ _ _ _ _ _ _
   | exact impl_ExprOk.mono _ _ _ _ _
   | exact impl_filled.mono _ _ _ _ _ _ _ _ _ _ _
   | exact LeO.none _
   | refine LeO.ite ?_ ?_
   | refine LeO.bind ?_ (fun _ => ?_)
  ·intro y0 y1 y2 y3 y4 y5 y6 y7 y8 y9 y10
   unfold impl_Put.j1
   repeat' first
   | (with_reducible exact ih0 _ _ _ _ _ _ _ _ _ _ _ _ _)
   | (with_reducible exact ih1 _ _ _ _ _ _ _ _ _ _ _)
   | (with_reducible exact impl_ExprOk.mono _ _ _ _ _)
   | (with_reducible exact impl_filled.mono _ _ _ _ _ _ _ _ _ _ _)
   | (with_reducible exact LeO.refl _)
   | (with_reducible exact LeO.none _)
   | (with_reducible refine LeO.ite ?_ ?_)
   | (with_reducible refine LeO.bind ?_ (fun _ => ?_))
   | exact ih0 _ _ _ _ _ _ _ _ _ _ _ _ _
   | exact ih1 _ _ _ _ _ _ _ _ _ _ _
   | exact impl_ExprOk.mono _ _ _ _ _
   | exact impl_filled.mono _ _ _ _ _ _ _ _ _ _ _
   | exact LeO.none _
   | refine LeO.ite ?_ ?_
   | refine LeO.bind ?_ (fun _ => ?_)
theorem impl_Put.mono : ∀ a0 a1 a2 a3 a4 a5 a6 a7 a8 a9 k, LeO (impl_Put.f k a0 a1 a2 a3 a4 a5 a6 a7 a8 a9) (impl_Put.f (k + 1) a0 a1 a2 a3 a4 a5 a6 a7 a8 a9) := by
 intro a0 a1 a2 a3 a4 a5 a6 a7 a8 a9 k
 obtain ⟨ih0, ih1⟩ := impl_Put.mono_l k
 unfold impl_Put.f
 repeat' first
   | (with_reducible exact ih0 _ _ _ _ _ _ _ _ _ _ _ _ _)
   | (with_reducible exact ih1 _ _ _ _ _ _ _ _ _ _ _)
   | (with_reducible exact impl_ExprOk.mono _ _ _ _ _)
   | (with_reducible exact impl_filled.mono _ _ _ _ _ _ _ _ _ _ _)
   | (with_reducible exact LeO.refl _)
   | (with_reducible exact LeO.none _)
   | (with_reducible refine LeO.ite ?_ ?_)
   | (with_reducible refine LeO.bind ?_ (fun _ => ?_))
   | exact ih0 _ _ _ _ _ _ _ _ _ _ _ _ _
   | exact ih1 _ _ _ _ _ _ _ _ _ _ _
   | exact impl_ExprOk.mono _ _ _ _ _
   | exact impl_filled.mono _ _ _ _ _ _ _ _ _ _ _
   | exact LeO.none _
   | refine LeO.ite ?_ ?_
   | refine LeO.bind ?_ (fun _ => ?_)
set_option maxHeartbeats 8000000 in
set_option maxRecDepth 100000 in
theorem impl_Put.calls (k : Nat) (a0_0 : Int) (a0_1 : Int) (a0_2 : ByteArray) (A0_3 : Option Addr) (c0_3 : Nat) (l0_3 : List (S29)) (a1_0 : Int) (a1_1 : Int) (a1_2 : ByteArray) (A1_3 : Option Addr) (c1_3 : Nat) (l1_3 : List (S29)) (A2 : Option Addr) (c2 : Nat) (l2 : List ByteArray) (A3 : Option Addr) (c3 : Nat) (l3 : List (S29)) (r1 : Int) (r2 : Int) (r3 : ByteArray) (r4 : List (S29)) (w : World) (hr0_3 : Kd.C k29 w A0_3 l0_3.length l0_3) (hc0_3 : l0_3.length ≤ c0_3) (hr1_3 : Kd.C k29 w A1_3 l1_3.length l1_3) (hc1_3 : l1_3.length ≤ c1_3) (hr2 : Kd.C Kd.string w A2 l2.length l2) (hc2 : l2.length ≤ c2) (hr3 : Kd.C k29 w A3 l3.length l3) (hc3 : l3.length ≤ c3) (h : impl_Put.f k a0_0 a0_1 a0_2 l0_3 a1_0 a1_1 a1_2 l1_3 l2 l3 = some (r1, r2, r3, r4)) :
  Calls Try.prog 34 #[.agg #[.int .i64 a0_0, .int .i64 a0_1, .string a0_2, .slice A0_3 l0_3.length c0_3], .agg #[.int .i64 a1_0, .int .i64 a1_1, .string a1_2, .slice A1_3 l1_3.length c1_3], .slice A2 l2.length c2, .slice A3 l3.length c3] w fun e w' => ∃ v3_ : Value, e = .returned (.agg #[.int .i64 r1, .int .i64 r2, .string r3, v3_]) ∧ Kd.R k29 29 w' w.heap.size (fun _ => True) v3_ r4 ∧ Below w.heap.size w w' := by
 have hu29 := Try.underlying29
 have HR0_3 := A_ hr0_3
 have HC0_3 := A_ hc0_3
 clear hr0_3 hc0_3
 have HR1_3 := A_ hr1_3
 have HC1_3 := A_ hc1_3
 clear hr1_3 hc1_3
 have HR2 := A_ hr2
 have HC2 := A_ hc2
 clear hr2 hc2
 have HR3 := A_ hr3
 have HC3 := A_ hc3
 clear hr3 hc3
 have HB := A_ (Below.refl w.heap.size w)
 have H : (impl_Put.l0 k l2 l3 l3 (l3.length : Int) 0 a0_0 a0_1 a0_2 l0_3 a1_0 a1_1 a1_2 l1_3) = some (r1, r2, r3, r4) := h
 clear h
 have H' := A_ H
 clear H
 go_enter Try.func34, Try.ntmps34
 go_wp2_with (first | ((with_reducible refine gate_dst (N := 4) rfl ?_); (try (refine gate_guard (by rfl) ?_; dsimp only)); refine bx_ 4 #[.int .i64 a0_0, .int .i64 a0_1, .string a0_2, .slice A0_3 l0_3.length c0_3] 29 ?_; intro gb313 hg w5 hbox hb; have n0_ := A_ (below_step (bw_ HB.out) hb); have n1_ := A_ (hbox); have n2_ := A_ ((d9_ : w.heap.size ≤ gb313)); have n3_ := n2_; clear HB; have HB := n0_; have BK313 := n1_; have GW313 := n2_; have GE313 := n3_; have GI313 := GeI.mk GE313.out; clear n0_ n1_ n2_ n3_; clear hb hbox hg) | ((with_reducible refine gate_dst (N := 5) rfl ?_); (try (refine gate_guard (by rfl) ?_; dsimp only)); refine bx_ 5 #[.int .i64 a1_0, .int .i64 a1_1, .string a1_2, .slice A1_3 l1_3.length c1_3] 29 ?_; intro gb314 hg w6 hbox hb; have n0_ := A_ (blk_below (bk_ BK313.out) hb); have n1_ := A_ (below_step (bw_ HB.out) hb); have n2_ := A_ (hbox); have n3_ := A_ ((d9_ : w.heap.size ≤ gb314)); have n4_ := n3_; have n5_ := A_ ((d39_ : gb313 ≠ gb314)); have n6_ := A_ n5_.out.symm; clear BK313; clear HB; have BK313 := n0_; have HB := n1_; have BK314 := n2_; have GW314 := n3_; have GE314 := n4_; have GI314 := GeI.mk GE314.out; have NB313_314 := n5_; have NB314_313 := n6_; clear n0_ n1_ n2_ n3_ n4_ n5_ n6_; clear hb hbox hg) | ((with_reducible refine gate_dst (N := 8) rfl ?_); (try (refine gate_guard (by rfl) ?_; dsimp only)); refine bx_ 8 #[.int .i64 0, .int .i64 0, .string (⟨#[]⟩ : ByteArray), .slice none 0 0] 29 ?_; intro gb315 hg w7 hbox hb; have n0_ := A_ (blk_below (bk_ BK313.out) hb); have n1_ := A_ (blk_below (bk_ BK314.out) hb); have n2_ := A_ (below_step (bw_ HB.out) hb); have n3_ := A_ (hbox); have n4_ := A_ ((d9_ : w.heap.size ≤ gb315)); have n5_ := n4_; have n6_ := A_ ((d39_ : gb313 ≠ gb315)); have n7_ := A_ n6_.out.symm; have n8_ := A_ ((d43_ : gb314 ≠ gb315)); have n9_ := A_ n8_.out.symm; clear BK313; clear BK314; clear HB; have BK313 := n0_; have BK314 := n1_; have HB := n2_; have BK315 := n3_; have GW315 := n4_; have GE315 := n5_; have GI315 := GeI.mk GE315.out; have NB313_315 := n6_; have NB315_313 := n7_; have NB314_315 := n8_; have NB315_314 := n9_; clear n0_ n1_ n2_ n3_ n4_ n5_ n6_ n7_ n8_ n9_; clear hb hbox hg))
 go_loopg [14] k (fun kq v14 w' => ∃ (x14_1 : Int) (x316000_1 : Int) (x316001_1 : Int) (x316002_1 : ByteArray), v14 = .int .i64 x14_1 ∧ Aside0 (impl_Put.l0 kq l2 l3 l3 (l3.length : Int) x14_1 a0_0 a0_1 a0_2 l0_3 a1_0 a1_1 a1_2 l1_3 = some (r1, r2, r3, r4)) ∧ Aside0 (kq ≤ k) ∧ Aside0 (w'.heap[gb313]? = some (.cells #[.int .i64 a0_0, .int .i64 a0_1, .string a0_2, (.slice A0_3 l0_3.length c0_3)] 29 (0, 0))) ∧ Aside0 (w'.heap[gb314]? = some (.cells #[.int .i64 a1_0, .int .i64 a1_1, .string a1_2, (.slice A1_3 l1_3.length c1_3)] 29 (0, 0))) ∧ Aside0 (w'.heap[gb315]? = some (.cells #[.int .i64 x316000_1, .int .i64 x316001_1, .string x316002_1, (.slice none 0 0)] 29 (0, 0))) ∧ Aside0 (Below w.heap.size w w'))
 case atStart => exact ⟨(0), (0), (0), ((⟨#[]⟩ : ByteArray)), d7_, H', ⟨Nat.le_refl _⟩, ⟨by refine bk_ ?_; exact BK313.out⟩, ⟨by refine bk_ ?_; exact BK314.out⟩, ⟨by refine bk_ ?_; exact BK315.out⟩, ⟨bw_ HB.out⟩⟩
 case round =>
  clear H'
  try clear c1
  try clear c2
  try clear p2
  try clear c3
  obtain ⟨x14_1, x316000_1, x316001_1, x316002_1, rfl, HA, HK1, BK313, BK314, BK315, HB⟩ := hrel
  cases gk with
  | zero => exact absurd HA.out (by simp [impl_Put.l0])
  | succ k1 =>
   have H := HA.out
   clear HA
   simp only [impl_Put.l0] at H
   by_cases c8 : x14_1 < (l3.length : Int)
   ·rw [if_pos c8] at H
    have c8b0 := decide_eq_true c8
    clear c8
    by_cases c9 : 0 ≤ x14_1
    ·rw [if_pos c9] at H
     have c9b0 := decide_eq_true c9
     clear c9
     by_cases c10 : x14_1 < (l3.length : Int)
     ·rw [if_pos c10] at H
      have c10b0 := decide_eq_true c10
      clear c10
      replace H := Option.bind_eq_some_iff.mp H
      obtain ⟨t318, A110, H⟩ := H
      try dsimp only at H
      have A11 := A_ A110
      clear A110
      by_cases c12 : t318 = true
      ·subst c12
       rw [if_pos rfl] at H
       have H' := A_ H
       clear H
       have p316 : 0 ≤ (x14_1 : Int) := of_decide_eq_true d5_
       have q316 : x14_1 < (l3.length : Int) := of_decide_eq_true d5_
       obtain ⟨ad316, A316_3, c316_3, e316, hx316_0, hx316_1, hx316_2, hx316_3, hl316_3, hi316_3⟩ := at_T29 HR3.out x14_1 p316 q316
       cases e316
       replace hx316_0 := (HB.out.cell (World.block_lt_of_cell? w _ hx316_0)).trans hx316_0
       replace hx316_1 := (HB.out.cell (World.block_lt_of_cell? w _ hx316_1)).trans hx316_1
       replace hx316_2 := (HB.out.cell (World.block_lt_of_cell? w _ hx316_2)).trans hx316_2
       replace hx316_3 := (HB.out.cell (World.block_lt_of_cell? w _ hx316_3)).trans hx316_3
       have HR316_3 := A_ hi316_3
       have HC316_3 := A_ hl316_3
       clear hi316_3 hl316_3
       replace p316 := eq_true p316
       replace q316 := eq_true q316
       go_wp2_with (first | ((with_reducible refine gate_dst (N := 10) rfl ?_); (try (refine gate_guard (by rfl) ?_; dsimp only)); refine bx_ 10 #[.int .i64 0, .int .i64 0, .string (⟨#[]⟩ : ByteArray), .slice none 0 0] 29 ?_; intro gb317 hg w13 hbox hb; have n0_ := A_ (blk_below (bk_ BK313.out) hb); have n1_ := A_ (blk_below (bk_ BK314.out) hb); have n2_ := A_ (blk_below (bk_ BK315.out) hb); have n3_ := A_ (below_step (bw_ HB.out) hb); have n4_ := A_ (hbox); have n5_ := A_ ((d9_ : w.heap.size ≤ gb317)); have n6_ := n5_; have n7_ := A_ ((d39_ : gb313 ≠ gb317)); have n8_ := A_ n7_.out.symm; have n9_ := A_ ((d43_ : gb314 ≠ gb317)); have n10_ := A_ n9_.out.symm; have n11_ := A_ ((d47_ : gb315 ≠ gb317)); have n12_ := A_ n11_.out.symm; clear BK313; clear BK314; clear BK315; clear HB; have BK313 := n0_; have BK314 := n1_; have BK315 := n2_; have HB := n3_; have BK317 := n4_; have GW317 := n5_; have GE317 := n6_; have GI317 := GeI.mk GE317.out; have NB313_317 := n7_; have NB317_313 := n8_; have NB314_317 := n9_; have NB317_314 := n10_; have NB315_317 := n11_; have NB317_315 := n12_; clear n0_ n1_ n2_ n3_ n4_ n5_ n6_ n7_ n8_ n9_ n10_ n11_ n12_; clear hb hbox hg; have hnb14 := NB317_313.out; have hnc14 := NB313_317.out; have hnb15 := NB317_314.out; have hnc15 := NB314_317.out; have hnb16 := NB317_315.out; have hnc16 := NB315_317.out; obtain ⟨y17_0, y17_1, y17_2, y17_3, z17_0, z17_1, z17_2, z17_3⟩ := cz4_ BK317.out) | ((with_reducible refine gate_callee (f := 18) rfl ?_); refine gL_ (some 19) Try.func18 #[.agg #[.int .i64 ((rd_T29 l3 x14_1).f0), .int .i64 ((rd_T29 l3 x14_1).f1), .string ((rd_T29 l3 x14_1).f2), .slice A316_3 ((rd_T29 l3 x14_1).f3).length c316_3]] ?_; (with_reducible refine (impl_ExprOk.calls k1 ((rd_T29 l3 x14_1).f0) ((rd_T29 l3 x14_1).f1) ((rd_T29 l3 x14_1).f2) _ _ ((rd_T29 l3 x14_1).f3) true _ ?side1 ?side2 A11.out).mono ?_); (case side1 => exact Kd.C_below HR316_3.out (bw_ HB.out)); (case side2 => exact HC316_3.out); rintro e w18 ⟨rfl, hb⟩; refine ⟨_, rfl, ?_⟩; replace BK313 := A_ (blk_below (g := gb313) (o := .cells #[.int .i64 a0_0, .int .i64 a0_1, .string a0_2, .slice A0_3 l0_3.length c0_3] 29 (0, 0)) (by refine bk_ ?_; refine blk_far ?_ NB313_317.out _; refine bk_ ?_; refine blk_far ?_ NB313_317.out _; refine bk_ ?_; refine blk_far ?_ NB313_317.out _; refine bk_ ?_; refine blk_far ?_ NB313_317.out _; refine bk_ ?_; exact BK313.out) hb); replace BK314 := A_ (blk_below (g := gb314) (o := .cells #[.int .i64 a1_0, .int .i64 a1_1, .string a1_2, .slice A1_3 l1_3.length c1_3] 29 (0, 0)) (by refine bk_ ?_; refine blk_far ?_ NB314_317.out _; refine bk_ ?_; refine blk_far ?_ NB314_317.out _; refine bk_ ?_; refine blk_far ?_ NB314_317.out _; refine bk_ ?_; refine blk_far ?_ NB314_317.out _; refine bk_ ?_; exact BK314.out) hb); replace BK315 := A_ (blk_below (g := gb315) (o := .cells #[.int .i64 x316000_1, .int .i64 x316001_1, .string x316002_1, .slice none 0 0] 29 (0, 0)) (by refine bk_ ?_; refine blk_far ?_ NB315_317.out _; refine bk_ ?_; refine blk_far ?_ NB315_317.out _; refine bk_ ?_; refine blk_far ?_ NB315_317.out _; refine bk_ ?_; refine blk_far ?_ NB315_317.out _; refine bk_ ?_; exact BK315.out) hb); replace BK317 := A_ (blk_below (g := gb317) (o := .cells #[.int .i64 ((rd_T29 l3 x14_1).f0), .int .i64 ((rd_T29 l3 x14_1).f1), .string ((rd_T29 l3 x14_1).f2), .slice A316_3 ((rd_T29 l3 x14_1).f3).length c316_3] 29 (0, 0)) (by exact bk_ (bp4_ (bk_ BK317.out))) hb); replace HB := A_ (below_step (bw_ HB.out) hb); clear hb))
       go_roundg k1
       case measure => have := HK1.out; omega
       case rel => exact ⟨(wrap64 (x14_1 + 1)), (x316000_1), (x316001_1), (x316002_1), d7_, H', ⟨by have := HK1.out; omega⟩, ⟨by refine bk_ ?_; exact BK313.out⟩, ⟨by refine bk_ ?_; exact BK314.out⟩, ⟨by refine bk_ ?_; exact BK315.out⟩, ⟨bw_ HB.out⟩⟩
      ·replace c12 := Bool.eq_false_iff.mpr c12
       subst c12
       rw [if_neg (show ¬ (false = true) by decide)] at H
       simp only [Option.some.injEq, Prod.mk.injEq] at H
       obtain ⟨rfl, rfl, rfl, rfl⟩ := H
       have p316 : 0 ≤ (x14_1 : Int) := of_decide_eq_true d5_
       have q316 : x14_1 < (l3.length : Int) := of_decide_eq_true d5_
       obtain ⟨ad316, A316_3, c316_3, e316, hx316_0, hx316_1, hx316_2, hx316_3, hl316_3, hi316_3⟩ := at_T29 HR3.out x14_1 p316 q316
       cases e316
       replace hx316_0 := (HB.out.cell (World.block_lt_of_cell? w _ hx316_0)).trans hx316_0
       replace hx316_1 := (HB.out.cell (World.block_lt_of_cell? w _ hx316_1)).trans hx316_1
       replace hx316_2 := (HB.out.cell (World.block_lt_of_cell? w _ hx316_2)).trans hx316_2
       replace hx316_3 := (HB.out.cell (World.block_lt_of_cell? w _ hx316_3)).trans hx316_3
       have HR316_3 := A_ hi316_3
       have HC316_3 := A_ hl316_3
       clear hi316_3 hl316_3
       replace p316 := eq_true p316
       replace q316 := eq_true q316
       go_wp2_with (first | ((with_reducible refine gate_dst (N := 10) rfl ?_); (try (refine gate_guard (by rfl) ?_; dsimp only)); refine bx_ 10 #[.int .i64 0, .int .i64 0, .string (⟨#[]⟩ : ByteArray), .slice none 0 0] 29 ?_; intro gb317 hg w19 hbox hb; have n0_ := A_ (blk_below (bk_ BK313.out) hb); have n1_ := A_ (blk_below (bk_ BK314.out) hb); have n2_ := A_ (blk_below (bk_ BK315.out) hb); have n3_ := A_ (below_step (bw_ HB.out) hb); have n4_ := A_ (hbox); have n5_ := A_ ((d9_ : w.heap.size ≤ gb317)); have n6_ := n5_; have n7_ := A_ ((d39_ : gb313 ≠ gb317)); have n8_ := A_ n7_.out.symm; have n9_ := A_ ((d43_ : gb314 ≠ gb317)); have n10_ := A_ n9_.out.symm; have n11_ := A_ ((d47_ : gb315 ≠ gb317)); have n12_ := A_ n11_.out.symm; clear BK313; clear BK314; clear BK315; clear HB; have BK313 := n0_; have BK314 := n1_; have BK315 := n2_; have HB := n3_; have BK317 := n4_; have GW317 := n5_; have GE317 := n6_; have GI317 := GeI.mk GE317.out; have NB313_317 := n7_; have NB317_313 := n8_; have NB314_317 := n9_; have NB317_314 := n10_; have NB315_317 := n11_; have NB317_315 := n12_; clear n0_ n1_ n2_ n3_ n4_ n5_ n6_ n7_ n8_ n9_ n10_ n11_ n12_; clear hb hbox hg; have hnb20 := NB317_313.out; have hnc20 := NB313_317.out; have hnb21 := NB317_314.out; have hnc21 := NB314_317.out; have hnb22 := NB317_315.out; have hnc22 := NB315_317.out; obtain ⟨y23_0, y23_1, y23_2, y23_3, z23_0, z23_1, z23_2, z23_3⟩ := cz4_ BK317.out) | ((with_reducible refine gate_callee (f := 18) rfl ?_); refine gL_ (some 19) Try.func18 #[.agg #[.int .i64 ((rd_T29 l3 x14_1).f0), .int .i64 ((rd_T29 l3 x14_1).f1), .string ((rd_T29 l3 x14_1).f2), .slice A316_3 ((rd_T29 l3 x14_1).f3).length c316_3]] ?_; (with_reducible refine (impl_ExprOk.calls k1 ((rd_T29 l3 x14_1).f0) ((rd_T29 l3 x14_1).f1) ((rd_T29 l3 x14_1).f2) _ _ ((rd_T29 l3 x14_1).f3) false _ ?side1 ?side2 A11.out).mono ?_); (case side1 => exact Kd.C_below HR316_3.out (bw_ HB.out)); (case side2 => exact HC316_3.out); rintro e w24 ⟨rfl, hb⟩; refine ⟨_, rfl, ?_⟩; replace BK313 := A_ (blk_below (g := gb313) (o := .cells #[.int .i64 a0_0, .int .i64 a0_1, .string a0_2, .slice A0_3 l0_3.length c0_3] 29 (0, 0)) (by refine bk_ ?_; refine blk_far ?_ NB313_317.out _; refine bk_ ?_; refine blk_far ?_ NB313_317.out _; refine bk_ ?_; refine blk_far ?_ NB313_317.out _; refine bk_ ?_; refine blk_far ?_ NB313_317.out _; refine bk_ ?_; exact BK313.out) hb); replace BK314 := A_ (blk_below (g := gb314) (o := .cells #[.int .i64 a1_0, .int .i64 a1_1, .string a1_2, .slice A1_3 l1_3.length c1_3] 29 (0, 0)) (by refine bk_ ?_; refine blk_far ?_ NB314_317.out _; refine bk_ ?_; refine blk_far ?_ NB314_317.out _; refine bk_ ?_; refine blk_far ?_ NB314_317.out _; refine bk_ ?_; refine blk_far ?_ NB314_317.out _; refine bk_ ?_; exact BK314.out) hb); replace BK315 := A_ (blk_below (g := gb315) (o := .cells #[.int .i64 x316000_1, .int .i64 x316001_1, .string x316002_1, .slice none 0 0] 29 (0, 0)) (by refine bk_ ?_; refine blk_far ?_ NB315_317.out _; refine bk_ ?_; refine blk_far ?_ NB315_317.out _; refine bk_ ?_; refine blk_far ?_ NB315_317.out _; refine bk_ ?_; refine blk_far ?_ NB315_317.out _; refine bk_ ?_; exact BK315.out) hb); replace BK317 := A_ (blk_below (g := gb317) (o := .cells #[.int .i64 ((rd_T29 l3 x14_1).f0), .int .i64 ((rd_T29 l3 x14_1).f1), .string ((rd_T29 l3 x14_1).f2), .slice A316_3 ((rd_T29 l3 x14_1).f3).length c316_3] 29 (0, 0)) (by exact bk_ (bp4_ (bk_ BK317.out))) hb); replace HB := A_ (below_step (bw_ HB.out) hb); clear hb; have hnb25 := NB315_313.out; have hnc25 := NB313_315.out; have hnb26 := NB315_314.out; have hnc26 := NB314_315.out; obtain ⟨y27_0, y27_1, y27_2, y27_3, z27_0, z27_1, z27_2, z27_3⟩ := cz4_ BK315.out))
       refine bodyPost_ret (results_cell_row rfl _ _ gb315 29 #[.int .i64 0, .int .i64 0, .string (⟨#[]⟩ : ByteArray), .slice none 0 0] (0, 0) _ rfl ?hb_ Try.underlying29 rfl (by kernel_rfl)) rfl ?_
       (case hb_ => exact bk_ (bp4_ (bk_ BK315.out)))
       exact ⟨_, by first | rfl | (simp [errW_none, errW_some] <;> rfl) | (simp [*, errW_none, errW_some] <;> rfl), by first | exact Kd.R_nil _ _ _ _ _ | exact Kd.N_nil _ _ _ _ _ | exact Kd.V_nil _ _ _ _ _ | exact Kd.Q_nil _ _ _ _ _ | exact Kd.S_nil _ _ _ _ _, bw_ HB.out⟩
     ·rw [if_neg c10] at H
      exact absurd H (by simp)
    ·rw [if_neg c9] at H
     exact absurd H (by simp)
   ·rw [if_neg c8] at H
    have c8b0 := decide_eq_false c8
    clear c8
    have HC28 := A_ H
    clear H
    go_upto_region 7 with (fail)
    go_cut [37] (fun v37 wc => ∃ (kq : Nat) (x37_27 : Bool), v37 = .bool x37_27 ∧ Aside0 (impl_Put.j1 kq l2 l3 x37_27 a0_0 a0_1 a0_2 l0_3 a1_0 a1_1 a1_2 l1_3 = some (r1, r2, r3, r4)) ∧ Aside0 (kq ≤ k1) ∧ Aside0 (wc.heap[gb313]? = some (.cells #[.int .i64 a0_0, .int .i64 a0_1, .string a0_2, (.slice A0_3 l0_3.length c0_3)] 29 (0, 0))) ∧ Aside0 (wc.heap[gb314]? = some (.cells #[.int .i64 a1_0, .int .i64 a1_1, .string a1_2, (.slice A1_3 l1_3.length c1_3)] 29 (0, 0))) ∧ Aside0 (wc.heap[gb315]? = some (.cells #[.int .i64 x316000_1, .int .i64 x316001_1, .string x316002_1, (.slice none 0 0)] 29 (0, 0))) ∧ Aside0 (Below w.heap.size w wc))
    case first =>
     have H := HC28.out
     clear HC28
     replace H := Option.bind_eq_some_iff.mp H
     obtain ⟨t319, A290, H⟩ := H
     try dsimp only at H
     have A29 := A_ A290
     clear A290
     by_cases c30 : t319 = true
     ·subst c30
      rw [if_pos rfl] at H
      replace H := Option.bind_eq_some_iff.mp H
      obtain ⟨t320, A310, H⟩ := H
      try dsimp only at H
      have A31 := A_ A310
      clear A310
      by_cases c32 : t320 = true
      ·subst c32
       rw [if_pos rfl] at H
       have H' := A_ H
       clear H
       have hnb33 := NB313_314.out
       have hnc33 := NB314_313.out
       have hnb34 := NB313_315.out
       have hnc34 := NB315_313.out
       obtain ⟨y35_0, y35_1, y35_2, y35_3, z35_0, z35_1, z35_2, z35_3⟩ := cz4_ BK313.out
       go_wp2_with (first | ((with_reducible refine gate_callee (f := 18) rfl ?_); refine gL_ (some 24) Try.func18 #[.agg #[.int .i64 a0_0, .int .i64 a0_1, .string a0_2, .slice A0_3 l0_3.length c0_3]] ?_; (with_reducible refine (impl_ExprOk.calls k1 a0_0 a0_1 a0_2 _ _ l0_3 true _ ?side1 ?side2 A29.out).mono ?_); (case side1 => exact Kd.C_below HR0_3.out (bw_ HB.out)); (case side2 => exact HC0_3.out); rintro e w36 ⟨rfl, hb⟩; refine ⟨_, rfl, ?_⟩; replace BK313 := A_ (blk_below (bk_ BK313.out) hb); replace BK314 := A_ (blk_below (bk_ BK314.out) hb); replace BK315 := A_ (blk_below (bk_ BK315.out) hb); replace HB := A_ (below_step (bw_ HB.out) hb); clear hb; have hnb37 := NB314_315.out; have hnc37 := NB315_314.out; obtain ⟨y38_0, y38_1, y38_2, y38_3, z38_0, z38_1, z38_2, z38_3⟩ := cz4_ BK314.out) | (go_at_call 18; (with_reducible refine (impl_ExprOk.calls k1 a1_0 a1_1 a1_2 _ _ l1_3 true _ ?side1 ?side2 A31.out).mono ?_); (case side1 => exact Kd.C_below HR1_3.out (bw_ HB.out)); (case side2 => exact HC1_3.out); rintro e w39 ⟨rfl, hb⟩; replace BK313 := A_ (blk_below (bk_ BK313.out) hb); replace BK314 := A_ (blk_below (bk_ BK314.out) hb); replace BK315 := A_ (blk_below (bk_ BK315.out) hb); replace HB := A_ (below_step (bw_ HB.out) hb); clear hb))
       go_meet
       case rel => exact ⟨_, (((l3.length : Int) != (l2.length : Int))), d7_, H', ⟨by have := HK1.out; first | omega | exact Nat.le_refl _⟩, ⟨by refine bk_ ?_; exact BK313.out⟩, ⟨by refine bk_ ?_; exact BK314.out⟩, ⟨by refine bk_ ?_; exact BK315.out⟩, ⟨bw_ HB.out⟩⟩
      ·replace c32 := Bool.eq_false_iff.mpr c32
       subst c32
       rw [if_neg (show ¬ (false = true) by decide)] at H
       have H' := A_ H
       clear H
       have hnb40 := NB313_314.out
       have hnc40 := NB314_313.out
       have hnb41 := NB313_315.out
       have hnc41 := NB315_313.out
       obtain ⟨y42_0, y42_1, y42_2, y42_3, z42_0, z42_1, z42_2, z42_3⟩ := cz4_ BK313.out
       go_wp2_with (first | ((with_reducible refine gate_callee (f := 18) rfl ?_); refine gL_ (some 24) Try.func18 #[.agg #[.int .i64 a0_0, .int .i64 a0_1, .string a0_2, .slice A0_3 l0_3.length c0_3]] ?_; (with_reducible refine (impl_ExprOk.calls k1 a0_0 a0_1 a0_2 _ _ l0_3 true _ ?side1 ?side2 A29.out).mono ?_); (case side1 => exact Kd.C_below HR0_3.out (bw_ HB.out)); (case side2 => exact HC0_3.out); rintro e w43 ⟨rfl, hb⟩; refine ⟨_, rfl, ?_⟩; replace BK313 := A_ (blk_below (bk_ BK313.out) hb); replace BK314 := A_ (blk_below (bk_ BK314.out) hb); replace BK315 := A_ (blk_below (bk_ BK315.out) hb); replace HB := A_ (below_step (bw_ HB.out) hb); clear hb; have hnb44 := NB314_315.out; have hnc44 := NB315_314.out; obtain ⟨y45_0, y45_1, y45_2, y45_3, z45_0, z45_1, z45_2, z45_3⟩ := cz4_ BK314.out) | (go_at_call 18; (with_reducible refine (impl_ExprOk.calls k1 a1_0 a1_1 a1_2 _ _ l1_3 false _ ?side1 ?side2 A31.out).mono ?_); (case side1 => exact Kd.C_below HR1_3.out (bw_ HB.out)); (case side2 => exact HC1_3.out); rintro e w46 ⟨rfl, hb⟩; replace BK313 := A_ (blk_below (bk_ BK313.out) hb); replace BK314 := A_ (blk_below (bk_ BK314.out) hb); replace BK315 := A_ (blk_below (bk_ BK315.out) hb); replace HB := A_ (below_step (bw_ HB.out) hb); clear hb))
       go_meet
       case rel => exact ⟨_, (true), d7_, H', ⟨by have := HK1.out; first | omega | exact Nat.le_refl _⟩, ⟨by refine bk_ ?_; exact BK313.out⟩, ⟨by refine bk_ ?_; exact BK314.out⟩, ⟨by refine bk_ ?_; exact BK315.out⟩, ⟨bw_ HB.out⟩⟩
     ·replace c30 := Bool.eq_false_iff.mpr c30
      subst c30
      rw [if_neg (show ¬ (false = true) by decide)] at H
      have H' := A_ H
      clear H
      have hnb47 := NB313_314.out
      have hnc47 := NB314_313.out
      have hnb48 := NB313_315.out
      have hnc48 := NB315_313.out
      obtain ⟨y49_0, y49_1, y49_2, y49_3, z49_0, z49_1, z49_2, z49_3⟩ := cz4_ BK313.out
      go_wp2_with (first | ((with_reducible refine gate_callee (f := 18) rfl ?_); refine gL_ (some 24) Try.func18 #[.agg #[.int .i64 a0_0, .int .i64 a0_1, .string a0_2, .slice A0_3 l0_3.length c0_3]] ?_; (with_reducible refine (impl_ExprOk.calls k1 a0_0 a0_1 a0_2 _ _ l0_3 false _ ?side1 ?side2 A29.out).mono ?_); (case side1 => exact Kd.C_below HR0_3.out (bw_ HB.out)); (case side2 => exact HC0_3.out); rintro e w50 ⟨rfl, hb⟩; refine ⟨_, rfl, ?_⟩; replace BK313 := A_ (blk_below (bk_ BK313.out) hb); replace BK314 := A_ (blk_below (bk_ BK314.out) hb); replace BK315 := A_ (blk_below (bk_ BK315.out) hb); replace HB := A_ (below_step (bw_ HB.out) hb); clear hb))
      go_meet
      case rel => exact ⟨_, (true), d7_, H', ⟨by have := HK1.out; first | omega | exact Nat.le_refl _⟩, ⟨by refine bk_ ?_; exact BK313.out⟩, ⟨by refine bk_ ?_; exact BK314.out⟩, ⟨by refine bk_ ?_; exact BK315.out⟩, ⟨bw_ HB.out⟩⟩
    case rest =>
     clear HC28
     try clear c1
     try clear c2
     try clear p2
     try clear c3
     try clear p3
     try clear q3
     try clear hx3
     try clear c4
     try clear p6
     try clear c8
     try clear c8b0
     try clear c9
     try clear c9b0
     try clear c10
     try clear c10b0
     try clear c12
     try clear c14
     try clear c15
     try clear c16
     try clear c18
     try clear c20
     try clear c21
     try clear c22
     try clear c25
     try clear c26
     try clear c30
     try clear c31
     try clear p31
     try clear q31
     try clear hx31
     try clear c32
     try clear c33
     try clear c34
     try clear c37
     try clear c40
     try clear c41
     try clear c44
     try clear c47
     try clear c48
     try clear y17_0 y17_1 y17_2 y17_3 z17_0 z17_1 z17_2 z17_3
     try clear y23_0 y23_1 y23_2 y23_3 z23_0 z23_1 z23_2 z23_3
     try clear y27_0 y27_1 y27_2 y27_3 z27_0 z27_1 z27_2 z27_3
     try clear y35_0 y35_1 y35_2 y35_3 z35_0 z35_1 z35_2 z35_3
     try clear y38_0 y38_1 y38_2 y38_3 z38_0 z38_1 z38_2 z38_3
     try clear y42_0 y42_1 y42_2 y42_3 z42_0 z42_1 z42_2 z42_3
     try clear y45_0 y45_1 y45_2 y45_3 z45_0 z45_1 z45_2 z45_3
     try clear y49_0 y49_1 y49_2 y49_3 z49_0 z49_1 z49_2 z49_3
     try clear hx316_0 hx316_1 hx316_2 hx316_3
     try clear p2
     try clear p316
     try clear q316
     obtain ⟨kq, x37_27, rfl, HA, HJ27, BK313, BK314, BK315, HB⟩ := hcut
     cases kq with
     | zero => exact absurd HA.out (by simp [impl_Put.j1])
     | succ kj27 =>
      have H := HA.out
      clear HA
      simp only [impl_Put.j1] at H
      by_cases c51 : x37_27 = true
      ·subst c51
       rw [if_pos rfl] at H
       simp only [Option.some.injEq, Prod.mk.injEq] at H
       obtain ⟨rfl, rfl, rfl, rfl⟩ := H
       have hnb52 := NB315_313.out
       have hnc52 := NB313_315.out
       have hnb53 := NB315_314.out
       have hnc53 := NB314_315.out
       obtain ⟨y54_0, y54_1, y54_2, y54_3, z54_0, z54_1, z54_2, z54_3⟩ := cz4_ BK315.out
       go_wp2
       refine bodyPost_ret (results_cell_row rfl _ _ gb315 29 #[.int .i64 0, .int .i64 0, .string (⟨#[]⟩ : ByteArray), .slice none 0 0] (0, 0) _ rfl ?hb_ Try.underlying29 rfl (by kernel_rfl)) rfl ?_
       (case hb_ => exact bk_ (bp4_ (bk_ BK315.out)))
       exact ⟨_, by first | rfl | (simp [errW_none, errW_some] <;> rfl) | (simp [*, errW_none, errW_some] <;> rfl), by first | exact Kd.R_nil _ _ _ _ _ | exact Kd.N_nil _ _ _ _ _ | exact Kd.V_nil _ _ _ _ _ | exact Kd.Q_nil _ _ _ _ _ | exact Kd.S_nil _ _ _ _ _, bw_ HB.out⟩
      ·replace c51 := Bool.eq_false_iff.mpr c51
       subst c51
       rw [if_neg (show ¬ (false = true) by decide)] at H
       replace H := Option.bind_eq_some_iff.mp H
       obtain ⟨⟨t321, t322, t323, t324⟩, A550, H⟩ := H
       try dsimp only at H
       have A55 := A_ A550
       clear A550
       replace H := Option.bind_eq_some_iff.mp H
       obtain ⟨t328, A560, H⟩ := H
       try dsimp only at H
       have A56 := A_ A560
       clear A560
       by_cases c57 : t328 = true
       ·subst c57
        rw [if_pos rfl] at H
        simp only [Option.some.injEq, Prod.mk.injEq] at H
        obtain ⟨rfl, rfl, rfl, rfl⟩ := H
        have hnb58 := NB313_314.out
        have hnc58 := NB314_313.out
        have hnb59 := NB313_315.out
        have hnc59 := NB315_313.out
        obtain ⟨y60_0, y60_1, y60_2, y60_3, z60_0, z60_1, z60_2, z60_3⟩ := cz4_ BK313.out
        have hnb61 := NB314_315.out
        have hnc61 := NB315_314.out
        obtain ⟨y62_0, y62_1, y62_2, y62_3, z62_0, z62_1, z62_2, z62_3⟩ := cz4_ BK314.out
        go_wp2_with (first | ((with_reducible refine gate_callee (f := 54) rfl ?_); refine gL_ (some 43) Try.func54 #[.agg #[.int .i64 a0_0, .int .i64 a0_1, .string a0_2, .slice A0_3 l0_3.length c0_3], .agg #[.int .i64 a1_0, .int .i64 a1_1, .string a1_2, .slice A1_3 l1_3.length c1_3], .slice A2 l2.length c2, .slice A3 l3.length c3] ?_; (with_reducible refine (impl_filled.calls kj27 a0_0 a0_1 a0_2 _ _ l0_3 a1_0 a1_1 a1_2 _ _ l1_3 _ _ l2 _ _ l3 t321 t322 t323 t324 _ ?side1 ?side2 ?side3 ?side4 ?side5 ?side6 ?side7 ?side8 A55.out).mono ?_); (case side1 => exact Kd.C_below HR0_3.out (bw_ HB.out)); (case side2 => exact HC0_3.out); (case side3 => exact Kd.C_below HR1_3.out (bw_ HB.out)); (case side4 => exact HC1_3.out); (case side5 => exact Kd.C_below HR2.out (bw_ HB.out)); (case side6 => exact HC2.out); (case side7 => exact Kd.C_below HR3.out (bw_ HB.out)); (case side8 => exact HC3.out); rintro e w63 ⟨v325, rfl, ho0, hb⟩; refine ⟨_, rfl, ?_⟩; have HO326 := A_ (Kd.R_lower (Kd.R_newB (Kd.R_newB (Kd.R_newB ho0 (bk_ BK313.out)) (bk_ BK314.out)) (bk_ BK315.out)) (below_size (bw_ HB.out))); replace BK313 := A_ (blk_below (bk_ BK313.out) hb); replace BK314 := A_ (blk_below (bk_ BK314.out) hb); replace BK315 := A_ (blk_below (bk_ BK315.out) hb); replace HB := A_ (below_step (bw_ HB.out) hb); clear hb; (try clear ho0)) | ((with_reducible refine gate_dst (N := 11) rfl ?_); (try (refine gate_guard (by rfl) ?_; dsimp only)); refine bx_ 11 #[.int .i64 0, .int .i64 0, .string (⟨#[]⟩ : ByteArray), .slice none 0 0] 29 ?_; intro gb327 hg w64 hbox hb; have n0_ := A_ (Kd.R_below (Kd.R_elderB (kr_ HO326.out) gb327 (Nat.le_of_eq hg.symm)) hb); have n1_ := A_ (blk_below (bk_ BK313.out) hb); have n2_ := A_ (blk_below (bk_ BK314.out) hb); have n3_ := A_ (blk_below (bk_ BK315.out) hb); have n4_ := A_ (below_step (bw_ HB.out) hb); have n5_ := A_ (hbox); have n6_ := A_ ((d9_ : w.heap.size ≤ gb327)); have n7_ := n6_; have n8_ := A_ ((d39_ : gb313 ≠ gb327)); have n9_ := A_ n8_.out.symm; have n10_ := A_ ((d43_ : gb314 ≠ gb327)); have n11_ := A_ n10_.out.symm; have n12_ := A_ ((d47_ : gb315 ≠ gb327)); have n13_ := A_ n12_.out.symm; clear HO326; clear BK313; clear BK314; clear BK315; clear HB; have HO326 := n0_; have BK313 := n1_; have BK314 := n2_; have BK315 := n3_; have HB := n4_; have BK327 := n5_; have GW327 := n6_; have GE327 := n7_; have GI327 := GeI.mk GE327.out; have NB313_327 := n8_; have NB327_313 := n9_; have NB314_327 := n10_; have NB327_314 := n11_; have NB315_327 := n12_; have NB327_315 := n13_; clear n0_ n1_ n2_ n3_ n4_ n5_ n6_ n7_ n8_ n9_ n10_ n11_ n12_ n13_; clear hb hbox hg; have hnb65 := NB327_313.out; have hnc65 := NB313_327.out; have hnb66 := NB327_314.out; have hnc66 := NB314_327.out; have hnb67 := NB327_315.out; have hnc67 := NB315_327.out; obtain ⟨y68_0, y68_1, y68_2, y68_3, z68_0, z68_1, z68_2, z68_3⟩ := cz4_ BK327.out; obtain ⟨Ao69, co69, eo69⟩ := Kd.R_slice HO326.out; subst eo69) | ((with_reducible refine gate_callee (f := 18) rfl ?_); refine gL_ (some 45) Try.func18 #[.agg #[.int .i64 t321, .int .i64 t322, .string t323, .slice Ao69 t324.length co69]] ?_; (with_reducible refine (impl_ExprOk.calls kj27 t321 t322 t323 _ _ t324 true _ ?side1 ?side2 A56.out).mono ?_); (case side1 => refine (Kd.R_reads' (e := 29) (base := w.heap.size) (ok := fun k_ => ((((True ∧ k_ ≠ gb313) ∧ k_ ≠ gb314) ∧ k_ ≠ gb315) ∧ k_ ≠ gb327)) (n := t324.length) (c := co69) ?_).2.2; exact (kr_ (Kd.R_mono (rf4_ (Kd.R_mono HO326.out (fun k_ hk => (⟨hk, hk.2⟩ : _ ∧ k_ ≠ gb327))) (fun _ hk => hk.2)) (fun _ h_ => h_.1)))); (case side2 => exact (Kd.R_reads' HO326.out).2.1); rintro e w70 ⟨rfl, hb⟩; refine ⟨_, rfl, ?_⟩; replace HO326 := A_ (Kd.R_below (kr_ (Kd.R_mono (rf4_ (Kd.R_mono HO326.out (fun k_ hk => (⟨hk, hk.2⟩ : _ ∧ k_ ≠ gb327))) (fun _ hk => hk.2)) (fun _ h_ => h_.1))) hb); replace BK313 := A_ (blk_below (g := gb313) (o := .cells #[.int .i64 a0_0, .int .i64 a0_1, .string a0_2, .slice A0_3 l0_3.length c0_3] 29 (0, 0)) (by refine bk_ ?_; refine blk_far ?_ NB313_327.out _; refine bk_ ?_; refine blk_far ?_ NB313_327.out _; refine bk_ ?_; refine blk_far ?_ NB313_327.out _; refine bk_ ?_; refine blk_far ?_ NB313_327.out _; refine bk_ ?_; exact BK313.out) hb); replace BK314 := A_ (blk_below (g := gb314) (o := .cells #[.int .i64 a1_0, .int .i64 a1_1, .string a1_2, .slice A1_3 l1_3.length c1_3] 29 (0, 0)) (by refine bk_ ?_; refine blk_far ?_ NB314_327.out _; refine bk_ ?_; refine blk_far ?_ NB314_327.out _; refine bk_ ?_; refine blk_far ?_ NB314_327.out _; refine bk_ ?_; refine blk_far ?_ NB314_327.out _; refine bk_ ?_; exact BK314.out) hb); replace BK315 := A_ (blk_below (g := gb315) (o := .cells #[.int .i64 x316000_1, .int .i64 x316001_1, .string x316002_1, .slice none 0 0] 29 (0, 0)) (by refine bk_ ?_; refine blk_far ?_ NB315_327.out _; refine bk_ ?_; refine blk_far ?_ NB315_327.out _; refine bk_ ?_; refine blk_far ?_ NB315_327.out _; refine bk_ ?_; refine blk_far ?_ NB315_327.out _; refine bk_ ?_; exact BK315.out) hb); replace BK327 := A_ (blk_below (g := gb327) (o := .cells #[.int .i64 t321, .int .i64 t322, .string t323, .slice Ao69 t324.length co69] 29 (0, 0)) (by exact bk_ (bp4_ (bk_ BK327.out))) hb); replace HB := A_ (below_step (bw_ HB.out) hb); clear hb; obtain ⟨y71_0, y71_1, y71_2, y71_3, z71_0, z71_1, z71_2, z71_3⟩ := cz4_ BK327.out; obtain ⟨y72_0, y72_1, y72_2, y72_3, z72_0, z72_1, z72_2, z72_3⟩ := cz4_ BK315.out))
        refine bodyPost_ret (results_cell_row rfl _ _ gb315 29 #[.int .i64 t321, .int .i64 t322, .string t323, .slice Ao69 t324.length co69] (0, 0) _ rfl ?hb_ Try.underlying29 rfl (by kernel_rfl)) rfl ?_
        (case hb_ => exact bk_ (bp4_ (bk_ BK315.out)))
        exact ⟨_, by first | rfl | (simp [errW_none, errW_some] <;> rfl) | (simp [*, errW_none, errW_some] <;> rfl), kr_ (Kd.R_mono (rf4_ (Kd.R_mono HO326.out (fun k_ hk => (⟨hk, hk.1.2⟩ : _ ∧ k_ ≠ gb315))) (fun _ hk => hk.2)) (fun _ hk => trivial)), bw_ HB.out⟩
       ·replace c57 := Bool.eq_false_iff.mpr c57
        subst c57
        rw [if_neg (show ¬ (false = true) by decide)] at H
        simp only [Option.some.injEq, Prod.mk.injEq] at H
        obtain ⟨rfl, rfl, rfl, rfl⟩ := H
        have hnb73 := NB313_314.out
        have hnc73 := NB314_313.out
        have hnb74 := NB313_315.out
        have hnc74 := NB315_313.out
        obtain ⟨y75_0, y75_1, y75_2, y75_3, z75_0, z75_1, z75_2, z75_3⟩ := cz4_ BK313.out
        have hnb76 := NB314_315.out
        have hnc76 := NB315_314.out
        obtain ⟨y77_0, y77_1, y77_2, y77_3, z77_0, z77_1, z77_2, z77_3⟩ := cz4_ BK314.out
        go_wp2_with (first | ((with_reducible refine gate_callee (f := 54) rfl ?_); refine gL_ (some 43) Try.func54 #[.agg #[.int .i64 a0_0, .int .i64 a0_1, .string a0_2, .slice A0_3 l0_3.length c0_3], .agg #[.int .i64 a1_0, .int .i64 a1_1, .string a1_2, .slice A1_3 l1_3.length c1_3], .slice A2 l2.length c2, .slice A3 l3.length c3] ?_; (with_reducible refine (impl_filled.calls kj27 a0_0 a0_1 a0_2 _ _ l0_3 a1_0 a1_1 a1_2 _ _ l1_3 _ _ l2 _ _ l3 t321 t322 t323 t324 _ ?side1 ?side2 ?side3 ?side4 ?side5 ?side6 ?side7 ?side8 A55.out).mono ?_); (case side1 => exact Kd.C_below HR0_3.out (bw_ HB.out)); (case side2 => exact HC0_3.out); (case side3 => exact Kd.C_below HR1_3.out (bw_ HB.out)); (case side4 => exact HC1_3.out); (case side5 => exact Kd.C_below HR2.out (bw_ HB.out)); (case side6 => exact HC2.out); (case side7 => exact Kd.C_below HR3.out (bw_ HB.out)); (case side8 => exact HC3.out); rintro e w78 ⟨v325, rfl, ho0, hb⟩; refine ⟨_, rfl, ?_⟩; have HO326 := A_ (Kd.R_lower (Kd.R_newB (Kd.R_newB (Kd.R_newB ho0 (bk_ BK313.out)) (bk_ BK314.out)) (bk_ BK315.out)) (below_size (bw_ HB.out))); replace BK313 := A_ (blk_below (bk_ BK313.out) hb); replace BK314 := A_ (blk_below (bk_ BK314.out) hb); replace BK315 := A_ (blk_below (bk_ BK315.out) hb); replace HB := A_ (below_step (bw_ HB.out) hb); clear hb; (try clear ho0)) | ((with_reducible refine gate_dst (N := 11) rfl ?_); (try (refine gate_guard (by rfl) ?_; dsimp only)); refine bx_ 11 #[.int .i64 0, .int .i64 0, .string (⟨#[]⟩ : ByteArray), .slice none 0 0] 29 ?_; intro gb327 hg w79 hbox hb; have n0_ := A_ (Kd.R_below (Kd.R_elderB (kr_ HO326.out) gb327 (Nat.le_of_eq hg.symm)) hb); have n1_ := A_ (blk_below (bk_ BK313.out) hb); have n2_ := A_ (blk_below (bk_ BK314.out) hb); have n3_ := A_ (blk_below (bk_ BK315.out) hb); have n4_ := A_ (below_step (bw_ HB.out) hb); have n5_ := A_ (hbox); have n6_ := A_ ((d9_ : w.heap.size ≤ gb327)); have n7_ := n6_; have n8_ := A_ ((d39_ : gb313 ≠ gb327)); have n9_ := A_ n8_.out.symm; have n10_ := A_ ((d43_ : gb314 ≠ gb327)); have n11_ := A_ n10_.out.symm; have n12_ := A_ ((d47_ : gb315 ≠ gb327)); have n13_ := A_ n12_.out.symm; clear HO326; clear BK313; clear BK314; clear BK315; clear HB; have HO326 := n0_; have BK313 := n1_; have BK314 := n2_; have BK315 := n3_; have HB := n4_; have BK327 := n5_; have GW327 := n6_; have GE327 := n7_; have GI327 := GeI.mk GE327.out; have NB313_327 := n8_; have NB327_313 := n9_; have NB314_327 := n10_; have NB327_314 := n11_; have NB315_327 := n12_; have NB327_315 := n13_; clear n0_ n1_ n2_ n3_ n4_ n5_ n6_ n7_ n8_ n9_ n10_ n11_ n12_ n13_; clear hb hbox hg; have hnb80 := NB327_313.out; have hnc80 := NB313_327.out; have hnb81 := NB327_314.out; have hnc81 := NB314_327.out; have hnb82 := NB327_315.out; have hnc82 := NB315_327.out; obtain ⟨y83_0, y83_1, y83_2, y83_3, z83_0, z83_1, z83_2, z83_3⟩ := cz4_ BK327.out; obtain ⟨Ao84, co84, eo84⟩ := Kd.R_slice HO326.out; subst eo84) | ((with_reducible refine gate_callee (f := 18) rfl ?_); refine gL_ (some 45) Try.func18 #[.agg #[.int .i64 t321, .int .i64 t322, .string t323, .slice Ao84 t324.length co84]] ?_; (with_reducible refine (impl_ExprOk.calls kj27 t321 t322 t323 _ _ t324 false _ ?side1 ?side2 A56.out).mono ?_); (case side1 => refine (Kd.R_reads' (e := 29) (base := w.heap.size) (ok := fun k_ => ((((True ∧ k_ ≠ gb313) ∧ k_ ≠ gb314) ∧ k_ ≠ gb315) ∧ k_ ≠ gb327)) (n := t324.length) (c := co84) ?_).2.2; exact (kr_ (Kd.R_mono (rf4_ (Kd.R_mono HO326.out (fun k_ hk => (⟨hk, hk.2⟩ : _ ∧ k_ ≠ gb327))) (fun _ hk => hk.2)) (fun _ h_ => h_.1)))); (case side2 => exact (Kd.R_reads' HO326.out).2.1); rintro e w85 ⟨rfl, hb⟩; refine ⟨_, rfl, ?_⟩; replace HO326 := A_ (Kd.R_below (kr_ (Kd.R_mono (rf4_ (Kd.R_mono HO326.out (fun k_ hk => (⟨hk, hk.2⟩ : _ ∧ k_ ≠ gb327))) (fun _ hk => hk.2)) (fun _ h_ => h_.1))) hb); replace BK313 := A_ (blk_below (g := gb313) (o := .cells #[.int .i64 a0_0, .int .i64 a0_1, .string a0_2, .slice A0_3 l0_3.length c0_3] 29 (0, 0)) (by refine bk_ ?_; refine blk_far ?_ NB313_327.out _; refine bk_ ?_; refine blk_far ?_ NB313_327.out _; refine bk_ ?_; refine blk_far ?_ NB313_327.out _; refine bk_ ?_; refine blk_far ?_ NB313_327.out _; refine bk_ ?_; exact BK313.out) hb); replace BK314 := A_ (blk_below (g := gb314) (o := .cells #[.int .i64 a1_0, .int .i64 a1_1, .string a1_2, .slice A1_3 l1_3.length c1_3] 29 (0, 0)) (by refine bk_ ?_; refine blk_far ?_ NB314_327.out _; refine bk_ ?_; refine blk_far ?_ NB314_327.out _; refine bk_ ?_; refine blk_far ?_ NB314_327.out _; refine bk_ ?_; refine blk_far ?_ NB314_327.out _; refine bk_ ?_; exact BK314.out) hb); replace BK315 := A_ (blk_below (g := gb315) (o := .cells #[.int .i64 x316000_1, .int .i64 x316001_1, .string x316002_1, .slice none 0 0] 29 (0, 0)) (by refine bk_ ?_; refine blk_far ?_ NB315_327.out _; refine bk_ ?_; refine blk_far ?_ NB315_327.out _; refine bk_ ?_; refine blk_far ?_ NB315_327.out _; refine bk_ ?_; refine blk_far ?_ NB315_327.out _; refine bk_ ?_; exact BK315.out) hb); replace BK327 := A_ (blk_below (g := gb327) (o := .cells #[.int .i64 t321, .int .i64 t322, .string t323, .slice Ao84 t324.length co84] 29 (0, 0)) (by exact bk_ (bp4_ (bk_ BK327.out))) hb); replace HB := A_ (below_step (bw_ HB.out) hb); clear hb; obtain ⟨y86_0, y86_1, y86_2, y86_3, z86_0, z86_1, z86_2, z86_3⟩ := cz4_ BK315.out))
        refine bodyPost_ret (results_cell_row rfl _ _ gb315 29 #[.int .i64 0, .int .i64 0, .string (⟨#[]⟩ : ByteArray), .slice none 0 0] (0, 0) _ rfl ?hb_ Try.underlying29 rfl (by kernel_rfl)) rfl ?_
        (case hb_ => exact bk_ (bp4_ (bk_ BK315.out)))
        exact ⟨_, by first | rfl | (simp [errW_none, errW_some] <;> rfl) | (simp [*, errW_none, errW_some] <;> rfl), by first | exact Kd.R_nil _ _ _ _ _ | exact Kd.N_nil _ _ _ _ _ | exact Kd.V_nil _ _ _ _ _ | exact Kd.Q_nil _ _ _ _ _ | exact Kd.S_nil _ _ _ _ _, bw_ HB.out⟩

/-- A state of type 77 at block g of W; what its slices lead to came in by w0. -/
def IsS77 (w0 W : World) (g : Nat) (f0 : List Int) (f1 : Int) (f2 : Int) : Prop := ∃ A0 c0, W.heap[g]? = some (.cells #[.slice A0 f0.length c0, .int .i64 f1, .int .i64 f2] 77 (0, 0)) ∧ w0.heap.size ≤ g ∧ Kd.C (Kd.int .u8) w0 A0 f0.length f0
theorem IsS77.grown {w0 W : World} {g : Nat} {f0 : List Int} {f1 : Int} {f2 : Int} {W1 : World} {row : Option Nat} (h : IsS77 w0 W g f0 f1 f2) (hw : W.grownBy W1 row) (hne : some g ≠ row) : IsS77 w0 W1 g f0 f1 f2 := by
 obtain ⟨A0, c0, hb, hg, hr0⟩ := h
 exact ⟨A0, c0, blk_grown hb hw hne, hg, hr0⟩
theorem IsS77.own_neN {w0 W : World} {g : Nat} {f0 : List Int} {f1 : Int} {f2 : Int} {α : Type} {d : Kd α} {e : Nat} {base : Nat} {ok : Nat → Prop} {v : Value} {xs : List α} (h : IsS77 w0 W g f0 f1 f2) (ho : Kd.N d e W base ok v xs) (ht : e ≠ 77) : some g ≠ v.ownBlock := by
 obtain ⟨A0, c0, hb, hg, hr0⟩ := h
 exact Kd.N_ne ho hb ht
theorem IsS77.fresh {w0 W : World} {g : Nat} {f0 : List Int} {f1 : Int} {f2 : Int} (h : IsS77 w0 W g f0 f1 f2) : ∀ k, W.heap.size ≤ k → k ≠ g := by
 obtain ⟨A0, c0, hb, hg, hr0⟩ := h
 exact Kd.freshB hb
theorem IsS77.kept {w0 W : World} {g : Nat} {f0 : List Int} {f1 : Int} {f2 : Int} {W1 : World} {S : Nat → Prop} (h : IsS77 w0 W g f0 f1 f2) (hk : Kept W W1 S) (hne : ¬ S g) : IsS77 w0 W1 g f0 f1 f2 := by
 obtain ⟨A0, c0, hb, hg, hr0⟩ := h
 exact ⟨A0, c0, blk_kept hb hk hne, hg, hr0⟩
theorem IsS77.below {w0 W : World} {g : Nat} {f0 : List Int} {f1 : Int} {f2 : Int} {W1 : World} (h : IsS77 w0 W g f0 f1 f2) (hw : Below W.heap.size W W1) : IsS77 w0 W1 g f0 f1 f2 := h.grown (grown_of_below hw none) (by simp)
theorem IsS77.alloc {w0 W : World} {g : Nat} {f0 : List Int} {f1 : Int} {f2 : Int} (h : IsS77 w0 W g f0 f1 f2) (o : Obj) : IsS77 w0 (W.alloc o) g f0 f1 f2 := h.below (below_alloc (Below.refl _ _) o)
theorem IsS77.drewN {w0 W : World} {g : Nat} {f0 : List Int} {f1 : Int} {f2 : Int} (h : IsS77 w0 W g f0 f1 f2) (m : Nat) : IsS77 w0 (W.drewN m) g f0 f1 f2 := h
theorem IsS77.drew {w0 W : World} {g : Nat} {f0 : List Int} {f1 : Int} {f2 : Int} (h : IsS77 w0 W g f0 f1 f2) : IsS77 w0 W.drew g f0 f1 f2 := h
theorem IsS77.at_ {w0 W : World} {g : Nat} {f0 : List Int} {f1 : Int} {f2 : Int} {w' : World} {m : Nat} (hq : W.drewN m = w') (h : IsS77 w0 W g f0 f1 f2) : IsS77 w0 w' g f0 f1 f2 := by subst hq; exact IsS77.drewN h m
theorem IsS77.apart {w0 W : World} {g : Nat} {f0 : List Int} {f1 : Int} {f2 : Int} {α : Type} {d : Kd α} {e : Nat} {base : Nat} {ok : Nat → Prop} {v : Value} {xs : List α} (h : IsS77 w0 W g f0 f1 f2) (ho : d.R e W base ok v xs) (ht : ∀ q, q ∈ e :: d.E → q ≠ 77) : d.R e W base (fun k => ok k ∧ k ≠ g) v xs := by
 obtain ⟨A0, c0, hb, hg, hr0⟩ := h
 exact Kd.R_types ho hb ht
theorem IsS77.own_ne {w0 W : World} {g : Nat} {f0 : List Int} {f1 : Int} {f2 : Int} {α : Type} {d : Kd α} {e : Nat} {base : Nat} {ok : Nat → Prop} {v : Value} {xs : List α} (h : IsS77 w0 W g f0 f1 f2) (ho : d.R e W base ok v xs) (ht : e ≠ 77) : some g ≠ v.ownBlock := by
 obtain ⟨A0, c0, hb, hg, hr0⟩ := h
 exact Kd.R_ne ho hb ht
theorem IsS77.apartQ {w0 W : World} {g : Nat} {f0 : List Int} {f1 : Int} {f2 : Int} {α : Type} {d : Kd α} {e : Nat} {base : Nat} {ok : Nat → Prop} {v : Value} {xs : List α} (h : IsS77 w0 W g f0 f1 f2) (ho : d.Q e W base ok v xs) (ht : ∀ q, q ∈ e :: d.E → q ≠ 77) : d.Q e W base (fun k => ok k ∧ k ≠ g) v xs := by
 obtain ⟨A0, c0, hb, hg, hr0⟩ := h
 exact Kd.Q_types ho hb ht
theorem IsS77.own_neQ {w0 W : World} {g : Nat} {f0 : List Int} {f1 : Int} {f2 : Int} {α : Type} {d : Kd α} {e : Nat} {base : Nat} {ok : Nat → Prop} {v : Value} {xs : List α} (h : IsS77 w0 W g f0 f1 f2) (ho : d.Q e W base ok v xs) (ht : e ≠ 77) : some g ≠ v.ownBlock := by
 obtain ⟨A0, c0, hb, hg, hr0⟩ := h
 exact Kd.Q_ne ho hb ht
theorem IsS77.apartS {w0 W : World} {g : Nat} {f0 : List Int} {f1 : Int} {f2 : Int} {α : Type} {d : Kd α} {e : Nat} {base : Nat} {ok : Nat → Prop} {v : Value} {xs : List α} (h : IsS77 w0 W g f0 f1 f2) (ho : d.S e W base ok v xs) (ht : ∀ q, q ∈ e :: d.E → q ≠ 77) : d.S e W base (fun k => ok k ∧ k ≠ g) v xs := by
 obtain ⟨A0, c0, hb, hg, hr0⟩ := h
 exact Kd.S_types ho hb ht
theorem IsS77.own_neS {w0 W : World} {g : Nat} {f0 : List Int} {f1 : Int} {f2 : Int} {α : Type} {d : Kd α} {e : Nat} {base : Nat} {ok : Nat → Prop} {v : Value} {xs : List α} (h : IsS77 w0 W g f0 f1 f2) (ho : d.S e W base ok v xs) (ht : e ≠ 77) : some g ≠ v.ownBlock := by
 obtain ⟨A0, c0, hb, hg, hr0⟩ := h
 exact Kd.S_ne ho hb ht
theorem IsS77.lt {w0 W : World} {g : Nat} {f0 : List Int} {f1 : Int} {f2 : Int} (h : IsS77 w0 W g f0 f1 f2) : g < W.heap.size := by
 obtain ⟨A0, c0, hb, hg, hr0⟩ := h
 exact blk_lt hb
theorem IsS77.ge {w0 W : World} {g : Nat} {f0 : List Int} {f1 : Int} {f2 : Int} (h : IsS77 w0 W g f0 f1 f2) : w0.heap.size ≤ g := by
 obtain ⟨A0, c0, hb, hg, hr0⟩ := h
 exact hg
theorem IsS77.ne_blk {w0 W : World} {g : Nat} {f0 : List Int} {f1 : Int} {f2 : Int} {a : Nat} {cs : Array Value} {t : TypeId} {fr : Nat × Nat} (h : IsS77 w0 W g f0 f1 f2) (hb2 : W.heap[a]? = some (.cells cs t fr)) (ht : t ≠ 77) : g ≠ a := by
 obtain ⟨A0, c0, hb, hg, hr0⟩ := h
 rintro rfl
 rw [hb] at hb2
 injection hb2 with hb2
 injection hb2 with _ ht2
 exact ht ht2.symm
theorem IsS77.far {w0 W : World} {g : Nat} {f0 : List Int} {f1 : Int} {f2 : Int} {p : Addr} (h : IsS77 w0 W g f0 f1 f2) (hne : g ≠ p.block) (u : Value) : IsS77 w0 (W.setCell p u) g f0 f1 f2 := by
 obtain ⟨A0, c0, hb, hg, hr0⟩ := h
 exact ⟨A0, c0, blk_far hb hne u, hg, hr0⟩
theorem cellS77_0 {W : World} {g : Nat} {A0 : Option Addr} {c0 : Nat} {f0 : List Int} {f1 : Int} {f2 : Int} (h : W.heap[g]? = some (.cells #[.slice A0 f0.length c0, .int .i64 f1, .int .i64 f2] 77 (0, 0))) : W.cell? ⟨g, 0, none⟩ = some (.slice A0 f0.length c0) := (blk_cell h 0).trans rfl
theorem cellS77_1 {W : World} {g : Nat} {A0 : Option Addr} {c0 : Nat} {f0 : List Int} {f1 : Int} {f2 : Int} (h : W.heap[g]? = some (.cells #[.slice A0 f0.length c0, .int .i64 f1, .int .i64 f2] 77 (0, 0))) : W.cell? ⟨g, 1, none⟩ = some (.int .i64 f1) := (blk_cell h 1).trans rfl
theorem IsS77.set_1 {w0 W : World} {g : Nat} {f0 : List Int} {f1 : Int} {f2 : Int} (h : IsS77 w0 W g f0 f1 f2) (x : Int) : IsS77 w0 (W.setCell ⟨g, 1, none⟩ (.int .i64 x)) g f0 x f2 := by
 obtain ⟨A0, c0, hb, hg, hr0⟩ := h
 exact ⟨A0, c0, by simpa using blk_set hb 1 (.int .i64 x), hg, hr0⟩
theorem cellS77_2 {W : World} {g : Nat} {A0 : Option Addr} {c0 : Nat} {f0 : List Int} {f1 : Int} {f2 : Int} (h : W.heap[g]? = some (.cells #[.slice A0 f0.length c0, .int .i64 f1, .int .i64 f2] 77 (0, 0))) : W.cell? ⟨g, 2, none⟩ = some (.int .i64 f2) := (blk_cell h 2).trans rfl
theorem IsS77.set_2 {w0 W : World} {g : Nat} {f0 : List Int} {f1 : Int} {f2 : Int} (h : IsS77 w0 W g f0 f1 f2) (x : Int) : IsS77 w0 (W.setCell ⟨g, 2, none⟩ (.int .i64 x)) g f0 f1 x := by
 obtain ⟨A0, c0, hb, hg, hr0⟩ := h
 exact ⟨A0, c0, by simpa using blk_set hb 2 (.int .i64 x), hg, hr0⟩
theorem IsS77.new (w0 W : World) (A0 : Option Addr) (c0 : Nat) (f0 : List Int) (f1 : Int) (f2 : Int) (hB : Below w0.heap.size w0 W) (hr0 : Kd.C (Kd.int .u8) w0 A0 f0.length f0) : IsS77 w0 (W.alloc (.cells #[.slice A0 f0.length c0, .int .i64 f1, .int .i64 f2] 77)) W.heap.size f0 f1 f2 := ⟨A0, c0, by simpa using heap_alloc_new W _, hB.size, hr0⟩
theorem hI0_ {w0 W : World} {g : Nat} {f0 : List Int} {f1 f2 : Int} (h : IsS77 w0 W g f0 f1 f2 := by repeat (first | (with_reducible first | exact HI0.out | apply IsS77.alloc | apply IsS77.drewN | apply IsS77.drew | apply IsS77.set_1 | apply IsS77.set_2 | refine IsS77.far ?_ (Aside0.out (by with_reducible assumption)) _) | exact HI0.out)) : IsS77 w0 W g f0 f1 f2 := h
theorem kI_ {w0 W W0 W1 : World} {g : Nat} {f0 : List Int} {f1 f2 : Int} {α : Type} {d : Kd α} {e : Nat} {base : Nat} {ok : Nat → Prop} {v : Value} {xs : List α} (h : IsS77 w0 W g f0 f1 f2) (hk : KeepBut W W1 g none) [KrI W0 W] (ho : Aside0 (d.R e W0 base ok v xs)) (ht : ∀ q, q ∈ e :: d.E → q ≠ 77 := by decide) : Aside0 (d.R e W1 base ok v xs) :=
 A_ (Kd.R_mono (Kd.R_keep (IsS77.apart h (kr_ ho.out) ht) hk (fun _ h => h.2)) (fun _ h => h.1))

/-! ### spec_l1New: function 48 -/
def spec_l1New.l0 : Nat → List Int → Int → Int → Option (List Int × Int × Int)
 | 0, _, _, _ => none
 | k + 1, x0, x3, x4 => if x4 < (x0.length : Int) then (if x4 < 4000 then (if 0 ≤ x4 then (spec_l1New.l0 k x0 (Go.bits .and .i64 (wrap64 ((wrap64 ((wrap64 (x3 * 137)) + (wrap64 (rd x0 x4)))) + 11)) 1073741823) (wrap64 (x4 + 1))) else (none)) else (some (x0, 0, x3))) else (some (x0, 0, x3))
def spec_l1New.f (k : Nat) (l0 : List Int) : Option (List Int × Int × Int) := spec_l1New.l0 k l0 (wrap64 (766766 + (l0.length : Int))) 0
theorem spec_l1New.mono_l : ∀ k, (∀ y0 y1 y2, LeO (spec_l1New.l0 k y0 y1 y2) (spec_l1New.l0 (k + 1) y0 y1 y2))
 | 0 => fun _ _ _ r h => by simp [spec_l1New.l0] at h
 | k + 1 => by
  have ih0 := spec_l1New.mono_l k
  ·intro y0 y1 y2
   unfold spec_l1New.l0
   repeat' first
   | (with_reducible exact ih0 _ _ _)
   | (with_reducible exact LeO.refl _)
   | (with_reducible exact LeO.none _)
   | (with_reducible refine LeO.ite ?_ ?_)
   | (with_reducible refine LeO.bind ?_ (fun _ => ?_))
   | exact ih0 _ _ _
   | exact LeO.none _
   | refine LeO.ite ?_ ?_
   | refine LeO.bind ?_ (fun _ => ?_)
theorem spec_l1New.mono : ∀ a0 k, LeO (spec_l1New.f k a0) (spec_l1New.f (k + 1) a0) := by
 intro a0 k
 have ih0 := spec_l1New.mono_l k
 unfold spec_l1New.f
 repeat' first
   | (with_reducible exact ih0 _ _ _)
   | (with_reducible exact LeO.refl _)
   | (with_reducible exact LeO.none _)
   | (with_reducible refine LeO.ite ?_ ?_)
   | (with_reducible refine LeO.bind ?_ (fun _ => ?_))
   | exact ih0 _ _ _
   | exact LeO.none _
   | refine LeO.ite ?_ ?_
   | refine LeO.bind ?_ (fun _ => ?_)
set_option maxHeartbeats 8000000 in
set_option maxRecDepth 100000 in
theorem spec_l1New.calls (k : Nat) (A0 : Option Addr) (c0 : Nat) (l0 : List Int) (r1 : List Int) (r2 : Int) (r3 : Int) (w0 w : World) (hB : Below w0.heap.size w0 w) (hr0 : Kd.C (Kd.int .u8) w0 A0 l0.length l0) (hc0 : l0.length ≤ c0) (h : spec_l1New.f k l0 = some (r1, r2, r3)) :
  Calls Try.prog 48 #[.slice A0 l0.length c0] w fun e w' => ∃ g_ : Nat, e = .returned (.pointer (some ⟨g_, 0, none⟩)) ∧ IsS77 w0 w' g_ r1 r2 r3 ∧ Below w0.heap.size w0 w' ∧ Below w.heap.size w w' := by
 have hu77 := Try.underlying77
 have HR0 := A_ hr0
 have HC0 := A_ hc0
 clear hr0 hc0
 have HBW := A_ (Below.refl w.heap.size w)
 have HW0 := A_ hB.size
 have HB := A_ hB
 clear hB
 have H : (spec_l1New.l0 k l0 (wrap64 (766766 + (l0.length : Int))) 0) = some (r1, r2, r3) := h
 clear h
 have H' := A_ H
 clear H
 go_enter Try.func48, Try.ntmps48
 go_wp2
 go_loopg [3, 4] k (fun kq v3 v4 w' => ∃ (x3_1 : Int) (x4_1 : Int), v3 = .int .i64 x3_1 ∧ v4 = .int .i64 x4_1 ∧ Aside0 (spec_l1New.l0 kq l0 x3_1 x4_1 = some (r1, r2, r3)) ∧ Aside0 (kq ≤ k) ∧ Aside0 (Below w0.heap.size w0 w') ∧ Aside0 (Below w.heap.size w w'))
 case atStart => exact ⟨(wrap64 (766766 + (l0.length : Int))), (0), d7_, d7_, H', ⟨Nat.le_refl _⟩, ⟨bw_ HB.out⟩, ⟨by repeat (first | (with_reducible first | exact HBW.out | apply below_alloc | apply pw_below_drewN | apply below_drew1) | exact HBW.out)⟩⟩
 case round =>
  clear H'
  clear HBW
  obtain ⟨x3_1, x4_1, rfl, rfl, HA, HK1, HB, HBW⟩ := hrel
  cases gk with
  | zero => exact absurd HA.out (by simp [spec_l1New.l0])
  | succ k1 =>
   have H := HA.out
   clear HA
   simp only [spec_l1New.l0] at H
   by_cases c2 : x4_1 < (l0.length : Int)
   ·rw [if_pos c2] at H
    have c2b0 := decide_eq_true c2
    clear c2
    by_cases c3 : x4_1 < 4000
    ·rw [if_pos c3] at H
     have c3b0 := decide_eq_true c3
     clear c3
     by_cases c4 : 0 ≤ x4_1
     ·rw [if_pos c4] at H
      have c4b0 := decide_eq_true c4
      clear c4
      have H' := A_ H
      clear H
      have p329 : 0 ≤ (x4_1 : Int) := of_decide_eq_true d5_
      have q329 : x4_1 < (l0.length : Int) := of_decide_eq_true d5_
      obtain ⟨ad329, e329, hx329_0⟩ := Kd.at_int HR0.out x4_1 p329 q329
      cases e329
      replace hx329_0 := pw_cell_below HB.out hx329_0
      replace p329 := eq_true p329
      replace q329 := eq_true q329
      go_wp2
      go_roundg k1
      case measure => have := HK1.out; omega
      case rel => exact ⟨(Go.bits .and .i64 (wrap64 ((wrap64 ((wrap64 (x3_1 * 137)) + (wrap64 (rd l0 x4_1)))) + 11)) 1073741823), (wrap64 (x4_1 + 1)), d7_, d7_, H', ⟨by have := HK1.out; omega⟩, ⟨bw_ HB.out⟩, ⟨by repeat (first | (with_reducible first | exact HBW.out | apply below_alloc | apply pw_below_drewN | apply below_drew1) | exact HBW.out)⟩⟩
     ·rw [if_neg c4] at H
      exact absurd H (by simp)
    ·rw [if_neg c3] at H
     have c3b0 := decide_eq_false c3
     clear c3
     simp only [Option.some.injEq, Prod.mk.injEq] at H
     obtain ⟨rfl, rfl, rfl⟩ := H
     go_wp2_with (first | ((with_reducible refine gate_dst (N := 31) rfl ?_); refine bx_ 31 #[.slice A0 l0.length c0, .int .i64 0, .int .i64 x3_1] 77 ?_; intro gb330 hg w5 hbox hb; replace HB := A_ (below_step (bw_ HB.out) hb); have BK330 := A_ (hbox); have GW330 := A_ ((d34_ : w.heap.size ≤ gb330)); have GE330 := A_ ((Nat.le_trans HW0.out (d34_ : w.heap.size ≤ gb330) : w0.heap.size ≤ gb330)); replace HBW := A_ (below_step HBW.out hb); have GI330 := GeI.mk GE330.out; clear hb hbox hg))
     go_ret
     exact ⟨_, rfl, (show IsS77 w0 _ gb330 l0 0 x3_1 from ⟨_, _, by refine bk_ ?_; exact BK330.out, GE330.out, HR0.out⟩), bw_ HB.out, by repeat (first | (with_reducible first | exact HBW.out | apply below_alloc | apply pw_below_drewN | apply below_drew1 | refine below_set ?_ GW330.out) | exact HBW.out)⟩
   ·rw [if_neg c2] at H
    have c2b0 := decide_eq_false c2
    clear c2
    simp only [Option.some.injEq, Prod.mk.injEq] at H
    obtain ⟨rfl, rfl, rfl⟩ := H
    go_wp2_with (first | ((with_reducible refine gate_dst (N := 31) rfl ?_); refine bx_ 31 #[.slice A0 l0.length c0, .int .i64 0, .int .i64 x3_1] 77 ?_; intro gb331 hg w6 hbox hb; replace HB := A_ (below_step (bw_ HB.out) hb); have BK331 := A_ (hbox); have GW331 := A_ ((d34_ : w.heap.size ≤ gb331)); have GE331 := A_ ((Nat.le_trans HW0.out (d34_ : w.heap.size ≤ gb331) : w0.heap.size ≤ gb331)); replace HBW := A_ (below_step HBW.out hb); have GI331 := GeI.mk GE331.out; clear hb hbox hg))
    go_ret
    exact ⟨_, rfl, (show IsS77 w0 _ gb331 l0 0 x3_1 from ⟨_, _, by refine bk_ ?_; exact BK331.out, GE331.out, HR0.out⟩), bw_ HB.out, by repeat (first | (with_reducible first | exact HBW.out | apply below_alloc | apply pw_below_drewN | apply below_drew1 | refine below_set ?_ GW331.out) | exact HBW.out)⟩

/-! ### spec_l1Byte: function 85 -/
def spec_l1Byte.f (s0_0 : List Int) (s0_1 : Int) (s0_2 : Int) : Option (Int × Int × Int) := if s0_1 < (s0_0.length : Int) then (if 0 ≤ s0_1 then (some (Go.bits .and .i64 (wrap64 ((Go.bits .and .i64 (Go.bits .xor .i64 ((wrap64 ((wrap64 (s0_2 * 6364136223846793005)) + 1442695040888963407)) / 8589934592) ((wrap64 ((wrap64 (s0_2 * 6364136223846793005)) + 1442695040888963407)) / 140737488355328)) 255) + (wrap64 (rd s0_0 s0_1)))) 255, wrap64 (s0_1 + 1), wrap64 ((wrap64 (s0_2 * 6364136223846793005)) + 1442695040888963407))) else (none)) else (some (Go.bits .and .i64 (Go.bits .xor .i64 ((wrap64 ((wrap64 (s0_2 * 6364136223846793005)) + 1442695040888963407)) / 8589934592) ((wrap64 ((wrap64 (s0_2 * 6364136223846793005)) + 1442695040888963407)) / 140737488355328)) 255, s0_1, wrap64 ((wrap64 (s0_2 * 6364136223846793005)) + 1442695040888963407)))
set_option maxHeartbeats 8000000 in
set_option maxRecDepth 100000 in
theorem spec_l1Byte.calls (g : Nat) (s0_0 : List Int) (s0_1 : Int) (s0_2 : Int) (r1 : Int) (r2 : Int) (r3 : Int) (w0 w : World) (hI : IsS77 w0 w g s0_0 s0_1 s0_2) (hB : Below w0.heap.size w0 w) (h : spec_l1Byte.f s0_0 s0_1 s0_2 = some (r1, r2, r3)) :
  Calls Try.prog 85 #[.pointer (some ⟨g, 0, none⟩)] w fun e w' => e = .returned (.int .i64 r1) ∧ IsS77 w0 w' g s0_0 r2 r3 ∧ Below w0.heap.size w0 w' ∧ KeepBut w w' g none := by
 have HI0 := A_ hI
 have HK := A_ (KeepBut.refl w g none)
 have HL := A_ hB.size
 clear hI
 have HW0 := A_ hB.size
 have HB := A_ hB
 clear hB
 have H : (if s0_1 < (s0_0.length : Int) then (if 0 ≤ s0_1 then (some (Go.bits .and .i64 (wrap64 ((Go.bits .and .i64 (Go.bits .xor .i64 ((wrap64 ((wrap64 (s0_2 * 6364136223846793005)) + 1442695040888963407)) / 8589934592) ((wrap64 ((wrap64 (s0_2 * 6364136223846793005)) + 1442695040888963407)) / 140737488355328)) 255) + (wrap64 (rd s0_0 s0_1)))) 255, wrap64 (s0_1 + 1), wrap64 ((wrap64 (s0_2 * 6364136223846793005)) + 1442695040888963407))) else (none)) else (some (Go.bits .and .i64 (Go.bits .xor .i64 ((wrap64 ((wrap64 (s0_2 * 6364136223846793005)) + 1442695040888963407)) / 8589934592) ((wrap64 ((wrap64 (s0_2 * 6364136223846793005)) + 1442695040888963407)) / 140737488355328)) 255, s0_1, wrap64 ((wrap64 (s0_2 * 6364136223846793005)) + 1442695040888963407)))) = some (r1, r2, r3) := h
 clear h
 by_cases c2 : s0_1 < (s0_0.length : Int)
 ·rw [if_pos c2] at H
  have c2b0 := decide_eq_true c2
  clear c2
  by_cases c3 : 0 ≤ s0_1
  ·rw [if_pos c3] at H
   have c3b0 := decide_eq_true c3
   clear c3
   simp only [Option.some.injEq, Prod.mk.injEq] at H
   obtain ⟨rfl, rfl, rfl⟩ := H
   obtain ⟨ASz4_0, cSz4_0, HGz4, hgz4, HSz4_0⟩ := HI0.out
   have y4_0 := cellS77_0 HGz4
   have y4_1 := cellS77_1 HGz4
   have y4_2 := cellS77_2 HGz4
   have z4_1 := blk_frozen HGz4 1
   have z4_2 := blk_frozen HGz4 2
   clear HGz4 hgz4
   have p332 : 0 ≤ (s0_1 : Int) := of_decide_eq_true d5_
   have q332 : s0_1 < (s0_0.length : Int) := of_decide_eq_true d5_
   obtain ⟨ad332, e332, hx332_0⟩ := Kd.at_int HSz4_0 s0_1 p332 q332
   cases e332
   have hn332_0 : ad332.block ≠ g := Nat.ne_of_lt (Nat.lt_of_lt_of_le (by have := World.block_lt_of_cell? _ _ hx332_0; first | rwa [add_block] at this | exact this) (IsS77.ge HI0.out))
   replace hx332_0 := pw_cell_below HB.out hx332_0
   replace hx332_0 := (cell_far (p := ⟨g, 2, none⟩) (by first | (rw [add_block]; exact hn332_0) | (show (Addr.add _ _).block ≠ _; rw [add_block]; exact hn332_0) | exact hn332_0) (.int .i64 (wrap64 ((wrap64 (s0_2 * 6364136223846793005)) + 1442695040888963407)))).trans hx332_0
   (try have hy332_0 := fun (n_ : Nat) => (show (((w.drewN n_).setCell ⟨g, 2, none⟩ (.int .i64 (wrap64 ((wrap64 (s0_2 * 6364136223846793005)) + 1442695040888963407))))).cell? _ = some _ from hx332_0))
   clear hn332_0
   replace p332 := eq_true p332
   replace q332 := eq_true q332
   go_enter Try.func85, Try.ntmps85
   go_wp2
   repeat (go_quiet (fail); try go_wp2)
   go_ret
   exact rt_ ⟨hI0_, (have := GeI.mk (IsS77.ge HI0.out); bw_ HB.out), by repeat (first | (with_reducible first | exact HK.out | apply KeepBut.set_ | apply keep_drewN | apply keep_drew | apply keep_alloc) | exact HK.out)⟩
  ·rw [if_neg c3] at H
   exact absurd H (by simp)
 ·rw [if_neg c2] at H
  have c2b0 := decide_eq_false c2
  clear c2
  simp only [Option.some.injEq, Prod.mk.injEq] at H
  obtain ⟨rfl, rfl, rfl⟩ := H
  obtain ⟨ASz5_0, cSz5_0, HGz5, hgz5, HSz5_0⟩ := HI0.out
  have y5_0 := cellS77_0 HGz5
  have y5_1 := cellS77_1 HGz5
  have y5_2 := cellS77_2 HGz5
  have z5_1 := blk_frozen HGz5 1
  have z5_2 := blk_frozen HGz5 2
  clear HGz5 hgz5
  go_enter Try.func85, Try.ntmps85
  go_wp2
  repeat (go_quiet (fail); try go_wp2)
  go_ret
  exact rt_ ⟨hI0_, (have := GeI.mk (IsS77.ge HI0.out); bw_ HB.out), by repeat (first | (with_reducible first | exact HK.out | apply KeepBut.set_ | apply keep_drewN | apply keep_drew | apply keep_alloc) | exact HK.out)⟩

/-! ### spec_l1Below: function 62 -/
def spec_l1Below.f (s0_0 : List Int) (s0_1 : Int) (s0_2 : Int) (a1 : Int) : Option (Int × Int × Int) := if a1 ≤ 0 then (some (0, s0_1, s0_2)) else (if a1 ≤ 256 then ((spec_l1Byte.f s0_0 s0_1 s0_2).bind fun bt333 => (if a1 = 0 then (none) else (some (Int.tmod bt333.1 a1, bt333.2.1, bt333.2.2)))) else ((spec_l1Byte.f s0_0 s0_1 s0_2).bind fun bt336 => ((spec_l1Byte.f s0_0 bt336.2.1 bt336.2.2).bind fun bt339 => ((spec_l1Byte.f s0_0 bt339.2.1 bt339.2.2).bind fun bt342 => (if a1 = 0 then (none) else (some (Int.tmod (wrap64 ((wrap64 ((wrap64 (bt336.1 * 65536)) + (wrap64 (bt339.1 * 256)))) + bt342.1)) a1, bt342.2.1, bt342.2.2)))))))
set_option maxHeartbeats 8000000 in
set_option maxRecDepth 100000 in
theorem spec_l1Below.calls (g : Nat) (s0_0 : List Int) (s0_1 : Int) (s0_2 : Int) (a1 : Int) (r1 : Int) (r2 : Int) (r3 : Int) (w0 w : World) (hI : IsS77 w0 w g s0_0 s0_1 s0_2) (hB : Below w0.heap.size w0 w) (h : spec_l1Below.f s0_0 s0_1 s0_2 a1 = some (r1, r2, r3)) :
  Calls Try.prog 62 #[.pointer (some ⟨g, 0, none⟩), .int .i64 a1] w fun e w' => e = .returned (.int .i64 r1) ∧ IsS77 w0 w' g s0_0 r2 r3 ∧ Below w0.heap.size w0 w' ∧ KeepBut w w' g none := by
 have HI0 := A_ hI
 have HK := A_ (KeepBut.refl w g none)
 have HL := A_ hB.size
 clear hI
 have HW0 := A_ hB.size
 have HB := A_ hB
 clear hB
 have H : (if a1 ≤ 0 then (some (0, s0_1, s0_2)) else (if a1 ≤ 256 then ((spec_l1Byte.f s0_0 s0_1 s0_2).bind fun bt333 => (if a1 = 0 then (none) else (some (Int.tmod bt333.1 a1, bt333.2.1, bt333.2.2)))) else ((spec_l1Byte.f s0_0 s0_1 s0_2).bind fun bt336 => ((spec_l1Byte.f s0_0 bt336.2.1 bt336.2.2).bind fun bt339 => ((spec_l1Byte.f s0_0 bt339.2.1 bt339.2.2).bind fun bt342 => (if a1 = 0 then (none) else (some (Int.tmod (wrap64 ((wrap64 ((wrap64 (bt336.1 * 65536)) + (wrap64 (bt339.1 * 256)))) + bt342.1)) a1, bt342.2.1, bt342.2.2)))))))) = some (r1, r2, r3) := h
 clear h
 by_cases c3 : a1 ≤ 0
 ·rw [if_pos c3] at H
  have c3b0 := decide_eq_true c3
  clear c3
  simp only [Option.some.injEq, Prod.mk.injEq] at H
  obtain ⟨rfl, rfl, rfl⟩ := H
  go_enter Try.func62, Try.ntmps62
  go_wp2
  go_ret
  exact rt_ ⟨hI0_, (have := GeI.mk (IsS77.ge HI0.out); bw_ HB.out), by repeat (first | (with_reducible first | exact HK.out | apply KeepBut.set_ | apply keep_drewN | apply keep_drew | apply keep_alloc) | exact HK.out)⟩
 ·rw [if_neg c3] at H
  have c3b0 := decide_eq_false c3
  clear c3
  by_cases c4 : a1 ≤ 256
  ·rw [if_pos c4] at H
   have c4b0 := decide_eq_true c4
   clear c4
   replace H := Option.bind_eq_some_iff.mp H
   obtain ⟨⟨t333, t334, t335⟩, A50, H⟩ := H
   try dsimp only at H
   have A5 := A_ A50
   clear A50
   by_cases c6 : a1 = 0
   ·rw [if_pos c6] at H
    exact absurd H (by simp)
   ·rw [if_neg c6] at H
    have c6b0 := beq_eq_false_iff_ne.mpr c6
    have c6b1 := bne_iff_ne.mpr c6
    simp only [Option.some.injEq, Prod.mk.injEq] at H
    obtain ⟨rfl, rfl, rfl⟩ := H
    go_enter Try.func62, Try.ntmps62
    go_wp2_with (first | ((with_reducible refine gate_callee (f := 85) rfl ?_); refine gL_ (some 13) Try.func85 #[.pointer (some ⟨g, 0, none⟩)] ?_; (with_reducible refine (spec_l1Byte.calls g s0_0 s0_1 s0_2 t333 t334 t335 w0 _ ?side1 ?side2 A5.out).mono ?_); (case side1 => exact hI0_); (case side2 => exact (have := GeI.mk (IsS77.ge HI0.out); bw_ HB.out)); rintro e w7 ⟨rfl, hi, hb, hk⟩; refine ⟨_, rfl, ?_⟩; replace HK := A_ (KeepBut.trans d2_ hk (.inl rfl)); replace HB := A_ (hb); replace HI0 := A_ (hi); clear hb hk hi))
    go_ret
    exact rt_ ⟨hI0_, (have := GeI.mk (IsS77.ge HI0.out); bw_ HB.out), by repeat (first | (with_reducible first | exact HK.out | apply KeepBut.set_ | apply keep_drewN | apply keep_drew | apply keep_alloc) | exact HK.out)⟩
  ·rw [if_neg c4] at H
   have c4b0 := decide_eq_false c4
   clear c4
   replace H := Option.bind_eq_some_iff.mp H
   obtain ⟨⟨t336, t337, t338⟩, A80, H⟩ := H
   try dsimp only at H
   have A8 := A_ A80
   clear A80
   replace H := Option.bind_eq_some_iff.mp H
   obtain ⟨⟨t339, t340, t341⟩, A90, H⟩ := H
   try dsimp only at H
   have A9 := A_ A90
   clear A90
   replace H := Option.bind_eq_some_iff.mp H
   obtain ⟨⟨t342, t343, t344⟩, A100, H⟩ := H
   try dsimp only at H
   have A10 := A_ A100
   clear A100
   by_cases c11 : a1 = 0
   ·rw [if_pos c11] at H
    exact absurd H (by simp)
   ·rw [if_neg c11] at H
    have c11b0 := beq_eq_false_iff_ne.mpr c11
    have c11b1 := bne_iff_ne.mpr c11
    simp only [Option.some.injEq, Prod.mk.injEq] at H
    obtain ⟨rfl, rfl, rfl⟩ := H
    go_enter Try.func62, Try.ntmps62
    go_wp2_with (first | ((with_reducible refine gate_callee (f := 85) rfl ?_); refine gL_ (some 17) Try.func85 #[.pointer (some ⟨g, 0, none⟩)] ?_; (with_reducible refine (spec_l1Byte.calls g s0_0 s0_1 s0_2 t336 t337 t338 w0 _ ?side1 ?side2 A8.out).mono ?_); (case side1 => exact hI0_); (case side2 => exact (have := GeI.mk (IsS77.ge HI0.out); bw_ HB.out)); rintro e w12 ⟨rfl, hi, hb, hk⟩; refine ⟨_, rfl, ?_⟩; replace HK := A_ (KeepBut.trans d2_ hk (.inl rfl)); replace HB := A_ (hb); replace HI0 := A_ (hi); clear hb hk hi) | ((with_reducible refine gate_callee (f := 85) rfl ?_); refine gL_ (some 19) Try.func85 #[.pointer (some ⟨g, 0, none⟩)] ?_; (with_reducible refine (spec_l1Byte.calls g s0_0 t337 t338 t339 t340 t341 w0 _ ?side1 ?side2 A9.out).mono ?_); (case side1 => exact hI0_); (case side2 => exact (have := GeI.mk (IsS77.ge HI0.out); bw_ HB.out)); rintro e w13 ⟨rfl, hi, hb, hk⟩; refine ⟨_, rfl, ?_⟩; replace HK := A_ (KeepBut.trans d2_ hk (.inl rfl)); replace HB := A_ (hb); replace HI0 := A_ (hi); clear hb hk hi) | ((with_reducible refine gate_callee (f := 85) rfl ?_); refine gL_ (some 21) Try.func85 #[.pointer (some ⟨g, 0, none⟩)] ?_; (with_reducible refine (spec_l1Byte.calls g s0_0 t340 t341 t342 t343 t344 w0 _ ?side1 ?side2 A10.out).mono ?_); (case side1 => exact hI0_); (case side2 => exact (have := GeI.mk (IsS77.ge HI0.out); bw_ HB.out)); rintro e w14 ⟨rfl, hi, hb, hk⟩; refine ⟨_, rfl, ?_⟩; replace HK := A_ (KeepBut.trans d2_ hk (.inl rfl)); replace HB := A_ (hb); replace HI0 := A_ (hi); clear hb hk hi))
    go_ret
    exact rt_ ⟨hI0_, (have := GeI.mk (IsS77.ge HI0.out); bw_ HB.out), by repeat (first | (with_reducible first | exact HK.out | apply KeepBut.set_ | apply keep_drewN | apply keep_drew | apply keep_alloc) | exact HK.out)⟩

/-! ### spec_l1Once: function 50 -/
def spec_l1Once.f (s0_0 : List Int) (s0_1 : Int) (s0_2 : Int) (a1 : Int) : Option (Bool × Int × Int) := (spec_l1Below.f s0_0 s0_1 s0_2 a1).bind fun bt345 => (some ((bt345.1 == 0), bt345.2.1, bt345.2.2))
set_option maxHeartbeats 8000000 in
set_option maxRecDepth 100000 in
theorem spec_l1Once.calls (g : Nat) (s0_0 : List Int) (s0_1 : Int) (s0_2 : Int) (a1 : Int) (r1 : Bool) (r2 : Int) (r3 : Int) (w0 w : World) (hI : IsS77 w0 w g s0_0 s0_1 s0_2) (hB : Below w0.heap.size w0 w) (h : spec_l1Once.f s0_0 s0_1 s0_2 a1 = some (r1, r2, r3)) :
  Calls Try.prog 50 #[.pointer (some ⟨g, 0, none⟩), .int .i64 a1] w fun e w' => e = .returned (.bool r1) ∧ IsS77 w0 w' g s0_0 r2 r3 ∧ Below w0.heap.size w0 w' ∧ KeepBut w w' g none := by
 have HI0 := A_ hI
 have HK := A_ (KeepBut.refl w g none)
 have HL := A_ hB.size
 clear hI
 have HW0 := A_ hB.size
 have HB := A_ hB
 clear hB
 have H : ((spec_l1Below.f s0_0 s0_1 s0_2 a1).bind fun bt345 => (some ((bt345.1 == 0), bt345.2.1, bt345.2.2))) = some (r1, r2, r3) := h
 clear h
 replace H := Option.bind_eq_some_iff.mp H
 obtain ⟨⟨t345, t346, t347⟩, A30, H⟩ := H
 try dsimp only at H
 have A3 := A_ A30
 clear A30
 simp only [Option.some.injEq, Prod.mk.injEq] at H
 obtain ⟨rfl, rfl, rfl⟩ := H
 go_enter Try.func50, Try.ntmps50
 go_wp2_with (first | ((with_reducible refine gate_callee (f := 62) rfl ?_); refine gL_ (some 7) Try.func62 #[.pointer (some ⟨g, 0, none⟩), .int .i64 a1] ?_; (with_reducible refine (spec_l1Below.calls g s0_0 s0_1 s0_2 a1 t345 t346 t347 w0 _ ?side1 ?side2 A3.out).mono ?_); (case side1 => exact hI0_); (case side2 => exact (have := GeI.mk (IsS77.ge HI0.out); bw_ HB.out)); rintro e w4 ⟨rfl, hi, hb, hk⟩; refine ⟨_, rfl, ?_⟩; replace HK := A_ (KeepBut.trans d2_ hk (.inl rfl)); replace HB := A_ (hb); replace HI0 := A_ (hi); clear hb hk hi))
 go_ret
 exact rt_ ⟨hI0_, (have := GeI.mk (IsS77.ge HI0.out); bw_ HB.out), by repeat (first | (with_reducible first | exact HK.out | apply KeepBut.set_ | apply keep_drewN | apply keep_drew | apply keep_alloc) | exact HK.out)⟩

/-! ### spec_l1Int: function 66 -/
def spec_l1Int.f (s0_0 : List Int) (s0_1 : Int) (s0_2 : Int) (l1 : List Int) : Option (Int × Int × Int) := (spec_l1Below.f s0_0 s0_1 s0_2 (l1.length : Int)).bind fun bt348 => (if 0 ≤ bt348.1 then (if bt348.1 < (l1.length : Int) then (some (rd l1 bt348.1, bt348.2.1, bt348.2.2)) else (none)) else (none))
set_option maxHeartbeats 8000000 in
set_option maxRecDepth 100000 in
theorem spec_l1Int.calls (g : Nat) (s0_0 : List Int) (s0_1 : Int) (s0_2 : Int) (A1 : Option Addr) (c1 : Nat) (l1 : List Int) (r1 : Int) (r2 : Int) (r3 : Int) (w0 w : World) (hI : IsS77 w0 w g s0_0 s0_1 s0_2) (hB : Below w0.heap.size w0 w) (hr1 : Kd.C (Kd.int .i64) w A1 l1.length l1) (hc1 : l1.length ≤ c1) (hf1 : ∀ ad, A1 = some ad → 0 < l1.length → ad.block ≠ g) (h : spec_l1Int.f s0_0 s0_1 s0_2 l1 = some (r1, r2, r3)) :
  Calls Try.prog 66 #[.pointer (some ⟨g, 0, none⟩), .slice A1 l1.length c1] w fun e w' => e = .returned (.int .i64 r1) ∧ IsS77 w0 w' g s0_0 r2 r3 ∧ Below w0.heap.size w0 w' ∧ KeepBut w w' g none := by
 have HR1 := A_ hr1
 have HC1 := A_ hc1
 clear hr1 hc1
 have HI0 := A_ hI
 have HK := A_ (KeepBut.refl w g none)
 have HL := A_ hB.size
 clear hI
 have HW0 := A_ hB.size
 have HB := A_ hB
 clear hB
 have H : ((spec_l1Below.f s0_0 s0_1 s0_2 (l1.length : Int)).bind fun bt348 => (if 0 ≤ bt348.1 then (if bt348.1 < (l1.length : Int) then (some (rd l1 bt348.1, bt348.2.1, bt348.2.2)) else (none)) else (none))) = some (r1, r2, r3) := h
 clear h
 replace H := Option.bind_eq_some_iff.mp H
 obtain ⟨⟨t348, t349, t350⟩, A30, H⟩ := H
 try dsimp only at H
 have A3 := A_ A30
 clear A30
 by_cases c4 : 0 ≤ t348
 ·rw [if_pos c4] at H
  have c4b0 := decide_eq_true c4
  clear c4
  by_cases c5 : t348 < (l1.length : Int)
  ·rw [if_pos c5] at H
   have c5b0 := decide_eq_true c5
   clear c5
   simp only [Option.some.injEq, Prod.mk.injEq] at H
   obtain ⟨rfl, rfl, rfl⟩ := H
   go_enter Try.func66, Try.ntmps66
   go_wp2_with (first | ((with_reducible refine gate_callee (f := 62) rfl ?_); refine gL_ (some 9) Try.func62 #[.pointer (some ⟨g, 0, none⟩), .int .i64 (l1.length : Int)] ?_; (with_reducible refine (spec_l1Below.calls g s0_0 s0_1 s0_2 (l1.length : Int) t348 t349 t350 w0 _ ?side1 ?side2 A3.out).mono ?_); (case side1 => exact hI0_); (case side2 => exact (have := GeI.mk (IsS77.ge HI0.out); bw_ HB.out)); rintro e w6 ⟨rfl, hi, hb, hk⟩; refine ⟨_, rfl, ?_⟩; replace HK := A_ (KeepBut.trans d2_ hk (.inl rfl)); replace HB := A_ (hb); replace HI0 := A_ (hi); clear hb hk hi; have p351 : 0 ≤ (t348 : Int) := of_decide_eq_true d5_; have q351 : t348 < (l1.length : Int) := of_decide_eq_true d5_; obtain ⟨ad351, e351, hx351_0⟩ := Kd.at_int HR1.out t348 p351 q351; cases e351; replace hx351_0 := keep_cell HK.out hx351_0 (by first | (rw [add_block]; exact hf1 _ rfl (by omega)) | exact hf1 _ rfl (by omega) | exact hf1 ad351 rfl (by omega)); replace p351 := eq_true p351; replace q351 := eq_true q351))
   go_ret
   exact rt_ ⟨hI0_, (have := GeI.mk (IsS77.ge HI0.out); bw_ HB.out), by repeat (first | (with_reducible first | exact HK.out | apply KeepBut.set_ | apply keep_drewN | apply keep_drew | apply keep_alloc) | exact HK.out)⟩
  ·rw [if_neg c5] at H
   exact absurd H (by simp)
 ·rw [if_neg c4] at H
  exact absurd H (by simp)

/-! ### spec_l1Word: function 64 -/
def spec_l1Word.f (s0_0 : List Int) (s0_1 : Int) (s0_2 : Int) : Option (Int × Int × Int) := (spec_l1Below.f s0_0 s0_1 s0_2 65536).bind fun bt352 => ((spec_l1Int.f s0_0 bt352.2.1 bt352.2.2 (([0, 1, 2, 3, 5, 8, 255, 32767, 32768, 65535, bt352.1] : List Int))).bind fun bt358 => (some (bt358.1, bt358.2.1, bt358.2.2)))
set_option maxHeartbeats 8000000 in
set_option maxRecDepth 100000 in
theorem spec_l1Word.calls (g : Nat) (s0_0 : List Int) (s0_1 : Int) (s0_2 : Int) (r1 : Int) (r2 : Int) (r3 : Int) (w0 w : World) (hI : IsS77 w0 w g s0_0 s0_1 s0_2) (hB : Below w0.heap.size w0 w) (h : spec_l1Word.f s0_0 s0_1 s0_2 = some (r1, r2, r3)) :
  Calls Try.prog 64 #[.pointer (some ⟨g, 0, none⟩)] w fun e w' => e = .returned (.int .i64 r1) ∧ IsS77 w0 w' g s0_0 r2 r3 ∧ Below w0.heap.size w0 w' ∧ KeepBut w w' g none := by
 have HI0 := A_ hI
 have HK := A_ (KeepBut.refl w g none)
 have HL := A_ hB.size
 clear hI
 have HW0 := A_ hB.size
 have HB := A_ hB
 clear hB
 have H : ((spec_l1Below.f s0_0 s0_1 s0_2 65536).bind fun bt352 => ((spec_l1Int.f s0_0 bt352.2.1 bt352.2.2 (([0, 1, 2, 3, 5, 8, 255, 32767, 32768, 65535, bt352.1] : List Int))).bind fun bt358 => (some (bt358.1, bt358.2.1, bt358.2.2)))) = some (r1, r2, r3) := h
 clear h
 replace H := Option.bind_eq_some_iff.mp H
 obtain ⟨⟨t352, t353, t354⟩, A20, H⟩ := H
 try dsimp only at H
 have A2 := A_ A20
 clear A20
 obtain ⟨y355, hy355⟩ : ∃ y_ : List Int, y_ = (([0, 1, 2, 3, 5, 8, 255, 32767, 32768, 65535, t352] : List Int)) := ⟨_, rfl⟩
 replace H : ((spec_l1Int.f s0_0 t353 t354 y355).bind fun bt358 => (some (bt358.1, bt358.2.1, bt358.2.2))) = some (r1, r2, r3) := by first | (rw [hy355]; with_reducible exact H) | (have H2_ := (Option.bind_some _ _).symm.trans H; rw [hy355]; with_reducible exact H2_) | (have H2_ := (Option.bind_some _ _).symm.trans H; with_reducible exact H2_) | with_reducible exact H | (rw [hy355]; exact H) | exact H
 have Ny355 := A_ hy355
 clear hy355
 replace H := Option.bind_eq_some_iff.mp H
 obtain ⟨⟨t358, t359, t360⟩, A30, H⟩ := H
 try dsimp only at H
 have A3 := A_ A30
 clear A30
 simp only [Option.some.injEq, Prod.mk.injEq] at H
 obtain ⟨rfl, rfl, rfl⟩ := H
 go_enter Try.func64, Try.ntmps64
 go_wp2_with (first | ((with_reducible refine gate_callee (f := 62) rfl ?_); refine gL_ (some 5) Try.func62 #[.pointer (some ⟨g, 0, none⟩), .int .i64 65536] ?_; (with_reducible refine (spec_l1Below.calls g s0_0 s0_1 s0_2 65536 t352 t353 t354 w0 _ ?side1 ?side2 A2.out).mono ?_); (case side1 => exact hI0_); (case side2 => exact (have := GeI.mk (IsS77.ge HI0.out); bw_ HB.out)); rintro e w4 ⟨rfl, hi, hb, hk⟩; refine ⟨_, rfl, ?_⟩; replace HK := A_ (KeepBut.trans d2_ hk (.inl rfl)); replace HB := A_ (hb); replace HI0 := A_ (hi); clear hb hk hi) | ((with_reducible refine gate_dst (N := 6) rfl ?_); refine Kd.R_lit (Kd.int .i64) _ 3 ?hg (N := 6) ?hd (xs := ([0, 1, 2, 3, 5, 8, 255, 32767, 32768, 65535, t352] : List Int)) (inner := [.int .i64 0, .int .i64 1, .int .i64 2, .int .i64 3, .int .i64 5, .int .i64 8, .int .i64 255, .int .i64 32767, .int .i64 32768, .int .i64 65535, .int .i64 t352]) (ok := fun _ => True) (okp := fun _ => True) ?hr ?hp (fun _ hk => hk) trivial (Below.refl _ _) (Nat.le_refl _) (by simp) ?_; (case hd => rfl); (case hg => rfl); (case hr => first | (go_simp; done) | (go_simp; rfl)); (case hp => exact (Reps.one (show Kd.M (Kd.int .i64) _ _ _ 0 [.int .i64 0] from rfl) (Reps.one (show Kd.M (Kd.int .i64) _ _ _ 1 [.int .i64 1] from rfl) (Reps.one (show Kd.M (Kd.int .i64) _ _ _ 2 [.int .i64 2] from rfl) (Reps.one (show Kd.M (Kd.int .i64) _ _ _ 3 [.int .i64 3] from rfl) (Reps.one (show Kd.M (Kd.int .i64) _ _ _ 5 [.int .i64 5] from rfl) (Reps.one (show Kd.M (Kd.int .i64) _ _ _ 8 [.int .i64 8] from rfl) (Reps.one (show Kd.M (Kd.int .i64) _ _ _ 255 [.int .i64 255] from rfl) (Reps.one (show Kd.M (Kd.int .i64) _ _ _ 32767 [.int .i64 32767] from rfl) (Reps.one (show Kd.M (Kd.int .i64) _ _ _ 32768 [.int .i64 32768] from rfl) (Reps.one (show Kd.M (Kd.int .i64) _ _ _ 65535 [.int .i64 65535] from rfl) (Reps.one (show Kd.M (Kd.int .i64) _ _ _ t352 [.int .i64 t352] from rfl) (Reps.none _ _))))))))))))); intro v356 w5 ho6 hb hg_ hnew_; clear hg_ hnew_; (first | rw [← Ny355.out] at ho6 | (simp only [Int.reduceToNat] at ho6; rw [← Ny355.out] at ho6)); have HO357 := A_ (Kd.R_lower ho6 (keep_size (w := w) (g := g) (row := none) d2_)); replace HK := A_ (KeepBut.trans d2_ (KeepBut.of_below hb g none) (.inl rfl)); replace HB := A_ (below_step (have := GeI.mk (IsS77.ge HI0.out); bw_ HB.out) hb); replace HI0 := A_ (IsS77.below d19_ hb); clear hb ho6; obtain ⟨Ao7, co7, eo7⟩ := Kd.R_slice HO357.out; subst eo7) | ((with_reducible refine gate_callee (f := 66) rfl ?_); refine gL_ (some 7) Try.func66 #[.pointer (some ⟨g, 0, none⟩), .slice Ao7 y355.length co7] ?_; (with_reducible refine (spec_l1Int.calls g s0_0 t353 t354 _ _ y355 t358 t359 t360 w0 _ ?side1 ?side2 ?side3 ?side4 ?side5 A3.out).mono ?_); (case side1 => exact hI0_); (case side2 => exact (have := GeI.mk (IsS77.ge HI0.out); bw_ HB.out)); (case side3 => repeat (first | exact (Kd.R_reads' HO357.out).2.2 | (with_reducible refine Kd.C_alloc ?_ _) | (with_reducible refine Kd.C_drewN ?_ _) | (with_reducible refine Kd.C_drew ?_))); (case side4 => exact (Kd.R_reads' HO357.out).2.1); (case side5 => exact far_slice (IsS77.own_ne HI0.out HO357.out (by decide))); rintro e w8 ⟨rfl, hi, hb, hk⟩; refine ⟨_, rfl, ?_⟩; replace HO357 := kI_ (hI0_ : IsS77 w0 _ g s0_0 t353 t354) hk HO357; replace HK := A_ (KeepBut.trans d2_ hk (.inl rfl)); replace HB := A_ (hb); replace HI0 := A_ (hi); clear hb hk hi))
 go_ret
 exact rt_ ⟨hI0_, (have := GeI.mk (IsS77.ge HI0.out); bw_ HB.out), by repeat (first | (with_reducible first | exact HK.out | apply KeepBut.set_ | apply keep_drewN | apply keep_drew | apply keep_alloc) | exact HK.out)⟩

/-! ### spec_l1Str: function 72 -/
def spec_l1Str.f (s0_0 : List Int) (s0_1 : Int) (s0_2 : Int) (l1 : List ByteArray) : Option (ByteArray × Int × Int) := (spec_l1Below.f s0_0 s0_1 s0_2 (l1.length : Int)).bind fun bt361 => (if 0 ≤ bt361.1 then (if bt361.1 < (l1.length : Int) then (some (rdOf ByteArray.empty l1 bt361.1, bt361.2.1, bt361.2.2)) else (none)) else (none))
set_option maxHeartbeats 8000000 in
set_option maxRecDepth 100000 in
theorem spec_l1Str.calls (g : Nat) (s0_0 : List Int) (s0_1 : Int) (s0_2 : Int) (A1 : Option Addr) (c1 : Nat) (l1 : List ByteArray) (r1 : ByteArray) (r2 : Int) (r3 : Int) (w0 w : World) (hI : IsS77 w0 w g s0_0 s0_1 s0_2) (hB : Below w0.heap.size w0 w) (hr1 : Kd.C Kd.string w A1 l1.length l1) (hc1 : l1.length ≤ c1) (hf1 : ∀ ad, A1 = some ad → 0 < l1.length → ad.block ≠ g) (h : spec_l1Str.f s0_0 s0_1 s0_2 l1 = some (r1, r2, r3)) :
  Calls Try.prog 72 #[.pointer (some ⟨g, 0, none⟩), .slice A1 l1.length c1] w fun e w' => e = .returned (.string r1) ∧ IsS77 w0 w' g s0_0 r2 r3 ∧ Below w0.heap.size w0 w' ∧ KeepBut w w' g none := by
 have HR1 := A_ hr1
 have HC1 := A_ hc1
 clear hr1 hc1
 have HI0 := A_ hI
 have HK := A_ (KeepBut.refl w g none)
 have HL := A_ hB.size
 clear hI
 have HW0 := A_ hB.size
 have HB := A_ hB
 clear hB
 have H : ((spec_l1Below.f s0_0 s0_1 s0_2 (l1.length : Int)).bind fun bt361 => (if 0 ≤ bt361.1 then (if bt361.1 < (l1.length : Int) then (some (rdOf ByteArray.empty l1 bt361.1, bt361.2.1, bt361.2.2)) else (none)) else (none))) = some (r1, r2, r3) := h
 clear h
 replace H := Option.bind_eq_some_iff.mp H
 obtain ⟨⟨t361, t362, t363⟩, A30, H⟩ := H
 try dsimp only at H
 have A3 := A_ A30
 clear A30
 by_cases c4 : 0 ≤ t361
 ·rw [if_pos c4] at H
  have c4b0 := decide_eq_true c4
  clear c4
  by_cases c5 : t361 < (l1.length : Int)
  ·rw [if_pos c5] at H
   have c5b0 := decide_eq_true c5
   clear c5
   simp only [Option.some.injEq, Prod.mk.injEq] at H
   obtain ⟨rfl, rfl, rfl⟩ := H
   go_enter Try.func72, Try.ntmps72
   go_wp2_with (first | ((with_reducible refine gate_callee (f := 62) rfl ?_); refine gL_ (some 9) Try.func62 #[.pointer (some ⟨g, 0, none⟩), .int .i64 (l1.length : Int)] ?_; (with_reducible refine (spec_l1Below.calls g s0_0 s0_1 s0_2 (l1.length : Int) t361 t362 t363 w0 _ ?side1 ?side2 A3.out).mono ?_); (case side1 => exact hI0_); (case side2 => exact (have := GeI.mk (IsS77.ge HI0.out); bw_ HB.out)); rintro e w6 ⟨rfl, hi, hb, hk⟩; refine ⟨_, rfl, ?_⟩; replace HK := A_ (KeepBut.trans d2_ hk (.inl rfl)); replace HB := A_ (hb); replace HI0 := A_ (hi); clear hb hk hi; have p364 : 0 ≤ (t361 : Int) := of_decide_eq_true d5_; have q364 : t361 < (l1.length : Int) := of_decide_eq_true d5_; obtain ⟨ad364, e364, hx364_0⟩ := Kd.at_string HR1.out t361 p364 q364; cases e364; replace hx364_0 := keep_cell HK.out hx364_0 (by first | (rw [add_block]; exact hf1 _ rfl (by omega)) | exact hf1 _ rfl (by omega) | exact hf1 ad364 rfl (by omega)); replace p364 := eq_true p364; replace q364 := eq_true q364))
   go_ret
   exact rt_ ⟨hI0_, (have := GeI.mk (IsS77.ge HI0.out); bw_ HB.out), by repeat (first | (with_reducible first | exact HK.out | apply KeepBut.set_ | apply keep_drewN | apply keep_drew | apply keep_alloc) | exact HK.out)⟩
  ·rw [if_neg c5] at H
   exact absurd H (by simp)
 ·rw [if_neg c4] at H
  exact absurd H (by simp)

/-! ### spec_l10Num: function 79 -/
def spec_l10Num.f (a0 : Int) : Option (Int × Int × ByteArray × (List (S29))) := (spec_Wrap.f a0).bind fun t366 => (some (1, t366, (⟨#[]⟩ : ByteArray), ([] : List (S29))))
set_option maxHeartbeats 8000000 in
set_option maxRecDepth 100000 in
theorem spec_l10Num.calls (a0 : Int) (r1 : Int) (r2 : Int) (r3 : ByteArray) (r4 : List (S29)) (w : World) (h : spec_l10Num.f a0 = some (r1, r2, r3, r4)) :
  Calls Try.prog 79 #[.int .i64 a0] w fun e w' => ∃ v3_ : Value, e = .returned (.agg #[.int .i64 r1, .int .i64 r2, .string r3, v3_]) ∧ Kd.R k29 29 w' w.heap.size (fun _ => True) v3_ r4 ∧ Below w.heap.size w w' := by
 have hu29 := Try.underlying29
 have HB := A_ (Below.refl w.heap.size w)
 have H : ((spec_Wrap.f a0).bind fun t366 => (some (1, t366, (⟨#[]⟩ : ByteArray), ([] : List (S29))))) = some (r1, r2, r3, r4) := h
 clear h
 replace H := Option.bind_eq_some_iff.mp H
 obtain ⟨t366, A20, H⟩ := H
 try dsimp only at H
 have A2 := A_ A20
 clear A20
 simp only [Option.some.injEq, Prod.mk.injEq] at H
 obtain ⟨rfl, rfl, rfl, rfl⟩ := H
 go_enter Try.func79, Try.ntmps79
 go_wp2_with (first | ((with_reducible refine gate_dst (N := 2) rfl ?_); refine bx_ 2 #[.int .i64 0, .int .i64 0, .string (⟨#[]⟩ : ByteArray), .slice none 0 0] 29 ?_; intro gb365 hg w3 hbox hb; have n0_ := A_ (below_step (bw_ HB.out) hb); have n1_ := A_ (hbox); have n2_ := A_ ((d9_ : w.heap.size ≤ gb365)); have n3_ := n2_; clear HB; have HB := n0_; have BK365 := n1_; have GW365 := n2_; have GE365 := n3_; have GI365 := GeI.mk GE365.out; clear n0_ n1_ n2_ n3_; clear hb hbox hg) | ((with_reducible refine gate_callee (f := 73) rfl ?_); refine gL_ (some 4) Try.func73 #[.int .i64 a0] ?_; (with_reducible refine (spec_Wrap.calls a0 t366 _ A2.out).mono ?_); rintro e w' ⟨rfl, ⟨nd, rfl⟩⟩; refine ⟨_, rfl, ?_⟩; (try (rw [drewN_self w3]; generalize hq_ : World.drewN w3 _ = w3; have n0_ := A_ (bq_ hq_ BK365.out); have n1_ := A_ (wq_ hq_ HB.out); clear BK365 HB hq_; have BK365 := n0_; have HB := n1_; clear n0_ n1_)); obtain ⟨y4_0, y4_1, y4_2, y4_3, z4_0, z4_1, z4_2, z4_3⟩ := cz4_ BK365.out))
 refine bodyPost_ret (results_cell_row rfl _ _ gb365 29 #[.int .i64 1, .int .i64 t366, .string (⟨#[]⟩ : ByteArray), .slice none 0 0] (0, 0) _ rfl ?hb_ Try.underlying29 rfl (by kernel_rfl)) rfl ?_
 (case hb_ => exact bk_ (bp4_ (bk_ BK365.out)))
 exact ⟨_, by first | rfl | (simp [errW_none, errW_some] <;> rfl) | (simp [*, errW_none, errW_some] <;> rfl), by first | exact Kd.R_nil _ _ _ _ _ | exact Kd.N_nil _ _ _ _ _ | exact Kd.V_nil _ _ _ _ _ | exact Kd.Q_nil _ _ _ _ _ | exact Kd.S_nil _ _ _ _ _, bw_ HB.out⟩

end Go.Proofs.Ytcpnhlhigpgonaa.PFnPutIn
