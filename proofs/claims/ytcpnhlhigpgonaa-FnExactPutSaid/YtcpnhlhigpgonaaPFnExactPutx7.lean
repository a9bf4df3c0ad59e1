-- Laid by a program of this session (a changed copy of the kit's printer); Lean checks every line.
import Derived.Test.YtcpnhlhigpgonaaPFnExactPutx0
import Derived.Test.YtcpnhlhigpgonaaPFnExactPutx5
import Derived.Test.YtcpnhlhigpgonaaPFnExactPutx6
namespace Go.Proofs.Ytcpnhlhigpgonaa.PFnExactPut
open Go.RowKit Go.Proofs.YtcpnhlhigpgonaaW.PrintWords Go.Proofs.YtcpnhlhigpgonaaW.PrintLast Go.Proofs.YtcpnhlhigpgonaaW.PrintMore
attribute [local go_sem] max2_int min2_int max_two min_two max_three min_three max_four min_four   -- for this text's walks alone
set_option linter.unusedVariables false
set_option linter.unusedSimpArgs false

/-! ### spec_Put: function 32 -/
mutual
def spec_Put.j0 : Nat → List ByteArray → List (S29) → Bool → Int → Int → ByteArray → List (S29) → Int → Int → ByteArray → List (S29) → Option (Int × Int × ByteArray × (List (S29)))
 | 0, _, _, _, _, _, _, _, _, _, _, _ => none
 | k + 1, x2, x3, x25, x204000, x204001, x204002, x204003, x205000, x205001, x205002, x205003 => if x25 = true then (some (0, 0, (⟨#[]⟩ : ByteArray), ([] : List (S29)))) else (spec_Put.l0 k x2 x3 0 x204000 x204001 x204002 x204003 x205000 x205001 x205002 x205003)
def spec_Put.l0 : Nat → List ByteArray → List (S29) → Int → Int → Int → ByteArray → List (S29) → Int → Int → ByteArray → List (S29) → Option (Int × Int × ByteArray × (List (S29)))
 | 0, _, _, _, _, _, _, _, _, _, _, _ => none
 | k + 1, x2, x3, x9, x204000, x204001, x204002, x204003, x205000, x205001, x205002, x205003 => if x9 < (x3.length : Int) then (if 0 ≤ x9 then ((spec_ExprOk.f k ((rd_T29 x3 x9).f0) ((rd_T29 x3 x9).f1) ((rd_T29 x3 x9).f2) ((rd_T29 x3 x9).f3)).bind fun t209 => (if t209 = true then (spec_Put.l0 k x2 x3 (wrap64 (x9 + 1)) x204000 x204001 x204002 x204003 x205000 x205001 x205002 x205003) else (some (0, 0, (⟨#[]⟩ : ByteArray), ([] : List (S29)))))) else (none)) else ((spec_l11Put.f k x204000 x204001 x204002 x204003 x205000 x205001 x205002 x205003 x2 x3).bind fun bt210 => ((spec_ExprOk.f k bt210.1 bt210.2.1 bt210.2.2.1 bt210.2.2.2).bind fun t217 => (if t217 = true then (some (bt210.1, bt210.2.1, bt210.2.2.1, bt210.2.2.2)) else (some (0, 0, (⟨#[]⟩ : ByteArray), ([] : List (S29)))))))
end
def spec_Put.f (k : Nat) (a0_0 : Int) (a0_1 : Int) (a0_2 : ByteArray) (l0_3 : List (S29)) (a1_0 : Int) (a1_1 : Int) (a1_2 : ByteArray) (l1_3 : List (S29)) (l2 : List ByteArray) (l3 : List (S29)) : Option (Int × Int × ByteArray × (List (S29))) := (spec_ExprOk.f k a0_0 a0_1 a0_2 l0_3).bind fun t206 => (if t206 = true then ((spec_ExprOk.f k a1_0 a1_1 a1_2 l1_3).bind fun t207 => (if t207 = true then (spec_Put.j0 k l2 l3 ((l2.length : Int) != (l3.length : Int)) a0_0 a0_1 a0_2 l0_3 a1_0 a1_1 a1_2 l1_3) else (spec_Put.j0 k l2 l3 true a0_0 a0_1 a0_2 l0_3 a1_0 a1_1 a1_2 l1_3))) else (spec_Put.j0 k l2 l3 true a0_0 a0_1 a0_2 l0_3 a1_0 a1_1 a1_2 l1_3))
theorem spec_Put.mono_l : ∀ k, (∀ y0 y1 y2 y3 y4 y5 y6 y7 y8 y9 y10, LeO (spec_Put.j0 k y0 y1 y2 y3 y4 y5 y6 y7 y8 y9 y10) (spec_Put.j0 (k + 1) y0 y1 y2 y3 y4 y5 y6 y7 y8 y9 y10)) ∧ (∀ y0 y1 y2 y3 y4 y5 y6 y7 y8 y9 y10, LeO (spec_Put.l0 k y0 y1 y2 y3 y4 y5 y6 y7 y8 y9 y10) (spec_Put.l0 (k + 1) y0 y1 y2 y3 y4 y5 y6 y7 y8 y9 y10))
 | 0 => ⟨fun _ _ _ _ _ _ _ _ _ _ _ r h => by simp [spec_Put.j0] at h, fun _ _ _ _ _ _ _ _ _ _ _ r h => by simp [spec_Put.l0] at h⟩
 | k + 1 => by
  obtain ⟨ih0, ih1⟩ := spec_Put.mono_l k
  refine ⟨?_, ?_⟩
  ·intro y0 y1 y2 y3 y4 y5 y6 y7 y8 y9 y10
   unfold spec_Put.j0
   repeat' first
   | (with_reducible exact ih0 _ _ _ _ _ _ _ _ _ _ _)
   | (with_reducible exact ih1 _ _ _ _ _ _ _ _ _ _ _)
   | (with_reducible exact spec_ExprOk.mono _ _ _ _ _)
   | (with_reducible exact spec_l11Put.mono _ _ _ _ _ _ _ _ _ _ _)
   | (with_reducible exact LeO.refl _)
   | (with_reducible exact LeO.none _)
   | (with_reducible refine LeO.ite ?_ ?_)
   | (with_reducible refine LeO.bind ?_ (fun _ => ?_))
   | exact ih0 _ _ _ _ _ _ _ _ _ _ _
   | exact ih1 _ _ _ _ _ _ _ _ _ _ _
   | exact spec_ExprOk.mono _ _ _ _ _
   | exact spec_l11Put.mono _ _ _ _ _ _ _ _ _ _ _
   | exact LeO.none _
   | refine LeO.ite ?_ ?_
   | refine LeO.bind ?_ (fun _ => ?_)
  ·intro y0 y1 y2 y3 y4 y5 y6 y7 y8 y9 y10
   unfold spec_Put.l0
   repeat' first
   | (with_reducible exact ih0 _ _ _ _ _ _ _ _ _ _ _)
   | (with_reducible exact ih1 _ _ _ _ _ _ _ _ _ _ _)
   | (with_reducible exact spec_ExprOk.mono _ _ _ _ _)
   | (with_reducible exact spec_l11Put.mono _ _ _ _ _ _ _ _ _ _ _)
   | (with_reducible exact LeO.refl _)
   | (with_reducible exact LeO.none _)
   | (with_reducible refine LeO.ite ?_ ?_)
   | (with_reducible refine LeO.bind ?_ (fun _ => ?_))
   | exact ih0 _ _ _ _ _ _ _ _ _ _ _
   | exact ih1 _ _ _ _ _ _ _ _ _ _ _
   | exact spec_ExprOk.mono _ _ _ _ _
   | exact spec_l11Put.mono _ _ _ _ _ _ _ _ _ _ _
   | exact LeO.none _
   | refine LeO.ite ?_ ?_
   | refine LeO.bind ?_ (fun _ => ?_)
theorem spec_Put.mono : ∀ a0 a1 a2 a3 a4 a5 a6 a7 a8 a9 k, LeO (spec_Put.f k a0 a1 a2 a3 a4 a5 a6 a7 a8 a9) (spec_Put.f (k + 1) a0 a1 a2 a3 a4 a5 a6 a7 a8 a9) := by
 intro a0 a1 a2 a3 a4 a5 a6 a7 a8 a9 k
 obtain ⟨ih0, ih1⟩ := spec_Put.mono_l k
 unfold spec_Put.f
 repeat' first
   | (with_reducible exact ih0 _ _ _ _ _ _ _ _ _ _ _)
   | (with_reducible exact ih1 _ _ _ _ _ _ _ _ _ _ _)
   | (with_reducible exact spec_ExprOk.mono _ _ _ _ _)
   | (with_reducible exact spec_l11Put.mono _ _ _ _ _ _ _ _ _ _ _)
   | (with_reducible exact LeO.refl _)
   | (with_reducible exact LeO.none _)
   | (with_reducible refine LeO.ite ?_ ?_)
   | (with_reducible refine LeO.bind ?_ (fun _ => ?_))
   | exact ih0 _ _ _ _ _ _ _ _ _ _ _
   | exact ih1 _ _ _ _ _ _ _ _ _ _ _
   | exact spec_ExprOk.mono _ _ _ _ _
   | exact spec_l11Put.mono _ _ _ _ _ _ _ _ _ _ _
   | exact LeO.none _
   | refine LeO.ite ?_ ?_
   | refine LeO.bind ?_ (fun _ => ?_)
set_option maxHeartbeats 8000000 in
set_option maxRecDepth 100000 in
theorem spec_Put.calls (k : Nat) (a0_0 : Int) (a0_1 : Int) (a0_2 : ByteArray) (A0_3 : Option Addr) (c0_3 : Nat) (l0_3 : List (S29)) (a1_0 : Int) (a1_1 : Int) (a1_2 : ByteArray) (A1_3 : Option Addr) (c1_3 : Nat) (l1_3 : List (S29)) (A2 : Option Addr) (c2 : Nat) (l2 : List ByteArray) (A3 : Option Addr) (c3 : Nat) (l3 : List (S29)) (r1 : Int) (r2 : Int) (r3 : ByteArray) (r4 : List (S29)) (w : World) (hr0_3 : Kd.C k29 w A0_3 l0_3.length l0_3) (hc0_3 : l0_3.length ≤ c0_3) (hr1_3 : Kd.C k29 w A1_3 l1_3.length l1_3) (hc1_3 : l1_3.length ≤ c1_3) (hr2 : Kd.C Kd.string w A2 l2.length l2) (hc2 : l2.length ≤ c2) (hr3 : Kd.C k29 w A3 l3.length l3) (hc3 : l3.length ≤ c3) (h : spec_Put.f k a0_0 a0_1 a0_2 l0_3 a1_0 a1_1 a1_2 l1_3 l2 l3 = some (r1, r2, r3, r4)) :
  Calls Try.prog 32 #[.agg #[.int .i64 a0_0, .int .i64 a0_1, .string a0_2, .slice A0_3 l0_3.length c0_3], .agg #[.int .i64 a1_0, .int .i64 a1_1, .string a1_2, .slice A1_3 l1_3.length c1_3], .slice A2 l2.length c2, .slice A3 l3.length c3] w fun e w' => ∃ v3_ : Value, e = .returned (.agg #[.int .i64 r1, .int .i64 r2, .string r3, v3_]) ∧ Kd.R k29 29 w' w.heap.size (fun _ => True) v3_ r4 ∧ Below w.heap.size w w' := by
 have hu29 := Try.underlying29
 have HR0_3 := A_ hr0_3
 have HC0_3 := A_ hc0_3
 clear hr0_3 hc0_3
 have HR1_3 := A_ hr1_3
 have HC1_3 := A_ hc1_3
 clear hr1_3 hc1_3
 have HR2 := A_ hr2
 have HC2 := A_ hc2
 clear hr2 hc2
 have HR3 := A_ hr3
 have HC3 := A_ hc3
 clear hr3 hc3
 have HB := A_ (Below.refl w.heap.size w)
 have H : ((spec_ExprOk.f k a0_0 a0_1 a0_2 l0_3).bind fun t206 => (if t206 = true then ((spec_ExprOk.f k a1_0 a1_1 a1_2 l1_3).bind fun t207 => (if t207 = true then (spec_Put.j0 k l2 l3 ((l2.length : Int) != (l3.length : Int)) a0_0 a0_1 a0_2 l0_3 a1_0 a1_1 a1_2 l1_3) else (spec_Put.j0 k l2 l3 true a0_0 a0_1 a0_2 l0_3 a1_0 a1_1 a1_2 l1_3))) else (spec_Put.j0 k l2 l3 true a0_0 a0_1 a0_2 l0_3 a1_0 a1_1 a1_2 l1_3))) = some (r1, r2, r3, r4) := h
 clear h
 have HC5 := A_ H
 clear H
 go_enter Try.func32, Try.ntmps32
 go_upto_region 1 with (first | ((with_reducible refine gate_dst (N := 4) rfl ?_); (try (refine gate_guard (by rfl) ?_; dsimp only)); refine bx_ 4 #[.int .i64 a0_0, .int .i64 a0_1, .string a0_2, .slice A0_3 l0_3.length c0_3] 29 ?_; intro gb203 hg w6 hbox hb; have n0_ := A_ (below_step (bw_ HB.out) hb); have n1_ := A_ (hbox); have n2_ := A_ ((d3_ : w.heap.size ≤ gb203)); have n3_ := n2_; clear HB; have HB := n0_; have BK203 := n1_; have GW203 := n2_; have GE203 := n3_; have GI203 := GeI.mk GE203.out; clear n0_ n1_ n2_ n3_; clear hb hbox hg) | ((with_reducible refine gate_dst (N := 5) rfl ?_); (try (refine gate_guard (by rfl) ?_; dsimp only)); refine bx_ 5 #[.int .i64 a1_0, .int .i64 a1_1, .string a1_2, .slice A1_3 l1_3.length c1_3] 29 ?_; intro gb204 hg w7 hbox hb; have n0_ := A_ (blk_below (bk_ BK203.out) hb); have n1_ := A_ (below_step (bw_ HB.out) hb); have n2_ := A_ (hbox); have n3_ := A_ ((d3_ : w.heap.size ≤ gb204)); have n4_ := n3_; have n5_ := A_ ((d23_ : gb203 ≠ gb204)); have n6_ := A_ n5_.out.symm; clear BK203; clear HB; have BK203 := n0_; have HB := n1_; have BK204 := n2_; have GW204 := n3_; have GE204 := n4_; have GI204 := GeI.mk GE204.out; have NB203_204 := n5_; have NB204_203 := n6_; clear n0_ n1_ n2_ n3_ n4_ n5_ n6_; clear hb hbox hg) | ((with_reducible refine gate_dst (N := 8) rfl ?_); (try (refine gate_guard (by rfl) ?_; dsimp only)); refine bx_ 8 #[.int .i64 0, .int .i64 0, .string (⟨#[]⟩ : ByteArray), .slice none 0 0] 29 ?_; intro gb205 hg w8 hbox hb; have n0_ := A_ (blk_below (bk_ BK203.out) hb); have n1_ := A_ (blk_below (bk_ BK204.out) hb); have n2_ := A_ (below_step (bw_ HB.out) hb); have n3_ := A_ (hbox); have n4_ := A_ ((d3_ : w.heap.size ≤ gb205)); have n5_ := n4_; have n6_ := A_ ((d23_ : gb203 ≠ gb205)); have n7_ := A_ n6_.out.symm; have n8_ := A_ ((by rw [hg]; exact Nat.ne_of_lt (blk_lt (bk_ BK204.out)) : gb204 ≠ gb205)); have n9_ := A_ n8_.out.symm; clear BK203; clear BK204; clear HB; have BK203 := n0_; have BK204 := n1_; have HB := n2_; have BK205 := n3_; have GW205 := n4_; have GE205 := n5_; have GI205 := GeI.mk GE205.out; have NB203_205 := n6_; have NB205_203 := n7_; have NB204_205 := n8_; have NB205_204 := n9_; clear n0_ n1_ n2_ n3_ n4_ n5_ n6_ n7_ n8_ n9_; clear hb hbox hg))
 (try simp only [Act.put, List.setIfInBounds_toArray, List.set_cons_zero, List.set_cons_succ])
 go_cut [25] (fun v25 wc => ∃ (kq : Nat) (x25_4 : Bool), v25 = .bool x25_4 ∧ Aside0 (spec_Put.j0 kq l2 l3 x25_4 a0_0 a0_1 a0_2 l0_3 a1_0 a1_1 a1_2 l1_3 = some (r1, r2, r3, r4)) ∧ Aside0 (kq ≤ k) ∧ Aside0 (wc.heap[gb203]? = some (.cells #[.int .i64 a0_0, .int .i64 a0_1, .string a0_2, (.slice A0_3 l0_3.length c0_3)] 29 (0, 0))) ∧ Aside0 (wc.heap[gb204]? = some (.cells #[.int .i64 a1_0, .int .i64 a1_1, .string a1_2, (.slice A1_3 l1_3.length c1_3)] 29 (0, 0))) ∧ Aside0 (wc.heap[gb205]? = some (.cells #[.int .i64 0, .int .i64 0, .string (⟨#[]⟩ : ByteArray), (.slice none 0 0)] 29 (0, 0))) ∧ Aside0 (Below w.heap.size w wc))
 case first =>
  have H := HC5.out
  clear HC5
  replace H := Option.bind_eq_some_iff.mp H
  obtain ⟨t206, A90, H⟩ := H
  try dsimp only at H
  have A9 := A_ A90
  clear A90
  by_cases c10 : t206 = true
  ·subst c10
   rw [if_pos rfl] at H
   replace H := Option.bind_eq_some_iff.mp H
   obtain ⟨t207, A110, H⟩ := H
   try dsimp only at H
   have A11 := A_ A110
   clear A110
   by_cases c12 : t207 = true
   ·subst c12
    rw [if_pos rfl] at H
    have H' := A_ H
    clear H
    have hnb13 := NB203_204.out
    have hnc13 := NB204_203.out
    have hnb14 := NB203_205.out
    have hnc14 := NB205_203.out
    obtain ⟨y15_0, y15_1, y15_2, y15_3, z15_0, z15_1, z15_2, z15_3⟩ := cz4_ BK203.out
    go_wp2_with (first | ((with_reducible refine gate_callee (f := 17) rfl ?_); refine gL_ (some 12) Try.func17 #[.agg #[.int .i64 a0_0, .int .i64 a0_1, .string a0_2, .slice A0_3 l0_3.length c0_3]] ?_; (with_reducible refine (spec_ExprOk.calls k a0_0 a0_1 a0_2 _ _ l0_3 true _ ?side1 ?side2 A9.out).mono ?_); (case side1 => exact Kd.C_below HR0_3.out (bw_ HB.out)); (case side2 => exact HC0_3.out); rintro e w16 ⟨rfl, hb⟩; refine ⟨_, rfl, ?_⟩; replace BK203 := A_ (blk_below (bk_ BK203.out) hb); replace BK204 := A_ (blk_below (bk_ BK204.out) hb); replace BK205 := A_ (blk_below (bk_ BK205.out) hb); replace HB := A_ (below_step (bw_ HB.out) hb); clear hb; have hnb17 := NB204_205.out; have hnc17 := NB205_204.out; obtain ⟨y18_0, y18_1, y18_2, y18_3, z18_0, z18_1, z18_2, z18_3⟩ := cz4_ BK204.out) | (go_at_call 17; (with_reducible refine (spec_ExprOk.calls k a1_0 a1_1 a1_2 _ _ l1_3 true _ ?side1 ?side2 A11.out).mono ?_); (case side1 => exact Kd.C_below HR1_3.out (bw_ HB.out)); (case side2 => exact HC1_3.out); rintro e w19 ⟨rfl, hb⟩; replace BK203 := A_ (blk_below (bk_ BK203.out) hb); replace BK204 := A_ (blk_below (bk_ BK204.out) hb); replace BK205 := A_ (blk_below (bk_ BK205.out) hb); replace HB := A_ (below_step (bw_ HB.out) hb); clear hb))
    go_meet
    case rel => exact ⟨_, (((l2.length : Int) != (l3.length : Int))), d2_, H', ⟨by first | omega | exact Nat.le_refl _⟩, ⟨by refine bk_ ?_; exact BK203.out⟩, ⟨by refine bk_ ?_; exact BK204.out⟩, ⟨by refine bk_ ?_; exact BK205.out⟩, ⟨bw_ HB.out⟩⟩
   ·replace c12 := Bool.eq_false_iff.mpr c12
    subst c12
    rw [if_neg (show ¬ (false = true) by decide)] at H
    have H' := A_ H
    clear H
    have hnb20 := NB203_204.out
    have hnc20 := NB204_203.out
    have hnb21 := NB203_205.out
    have hnc21 := NB205_203.out
    obtain ⟨y22_0, y22_1, y22_2, y22_3, z22_0, z22_1, z22_2, z22_3⟩ := cz4_ BK203.out
    go_wp2_with (first | ((with_reducible refine gate_callee (f := 17) rfl ?_); refine gL_ (some 12) Try.func17 #[.agg #[.int .i64 a0_0, .int .i64 a0_1, .string a0_2, .slice A0_3 l0_3.length c0_3]] ?_; (with_reducible refine (spec_ExprOk.calls k a0_0 a0_1 a0_2 _ _ l0_3 true _ ?side1 ?side2 A9.out).mono ?_); (case side1 => exact Kd.C_below HR0_3.out (bw_ HB.out)); (case side2 => exact HC0_3.out); rintro e w23 ⟨rfl, hb⟩; refine ⟨_, rfl, ?_⟩; replace BK203 := A_ (blk_below (bk_ BK203.out) hb); replace BK204 := A_ (blk_below (bk_ BK204.out) hb); replace BK205 := A_ (blk_below (bk_ BK205.out) hb); replace HB := A_ (below_step (bw_ HB.out) hb); clear hb; have hnb24 := NB204_205.out; have hnc24 := NB205_204.out; obtain ⟨y25_0, y25_1, y25_2, y25_3, z25_0, z25_1, z25_2, z25_3⟩ := cz4_ BK204.out) | (go_at_call 17; (with_reducible refine (spec_ExprOk.calls k a1_0 a1_1 a1_2 _ _ l1_3 false _ ?side1 ?side2 A11.out).mono ?_); (case side1 => exact Kd.C_below HR1_3.out (bw_ HB.out)); (case side2 => exact HC1_3.out); rintro e w26 ⟨rfl, hb⟩; replace BK203 := A_ (blk_below (bk_ BK203.out) hb); replace BK204 := A_ (blk_below (bk_ BK204.out) hb); replace BK205 := A_ (blk_below (bk_ BK205.out) hb); replace HB := A_ (below_step (bw_ HB.out) hb); clear hb))
    go_meet
    case rel => exact ⟨_, (true), d2_, H', ⟨by first | omega | exact Nat.le_refl _⟩, ⟨by refine bk_ ?_; exact BK203.out⟩, ⟨by refine bk_ ?_; exact BK204.out⟩, ⟨by refine bk_ ?_; exact BK205.out⟩, ⟨bw_ HB.out⟩⟩
  ·replace c10 := Bool.eq_false_iff.mpr c10
   subst c10
   rw [if_neg (show ¬ (false = true) by decide)] at H
   have H' := A_ H
   clear H
   have hnb27 := NB203_204.out
   have hnc27 := NB204_203.out
   have hnb28 := NB203_205.out
   have hnc28 := NB205_203.out
   obtain ⟨y29_0, y29_1, y29_2, y29_3, z29_0, z29_1, z29_2, z29_3⟩ := cz4_ BK203.out
   go_wp2_with (first | ((with_reducible refine gate_callee (f := 17) rfl ?_); refine gL_ (some 12) Try.func17 #[.agg #[.int .i64 a0_0, .int .i64 a0_1, .string a0_2, .slice A0_3 l0_3.length c0_3]] ?_; (with_reducible refine (spec_ExprOk.calls k a0_0 a0_1 a0_2 _ _ l0_3 false _ ?side1 ?side2 A9.out).mono ?_); (case side1 => exact Kd.C_below HR0_3.out (bw_ HB.out)); (case side2 => exact HC0_3.out); rintro e w30 ⟨rfl, hb⟩; refine ⟨_, rfl, ?_⟩; replace BK203 := A_ (blk_below (bk_ BK203.out) hb); replace BK204 := A_ (blk_below (bk_ BK204.out) hb); replace BK205 := A_ (blk_below (bk_ BK205.out) hb); replace HB := A_ (below_step (bw_ HB.out) hb); clear hb))
   go_meet
   case rel => exact ⟨_, (true), d2_, H', ⟨by first | omega | exact Nat.le_refl _⟩, ⟨by refine bk_ ?_; exact BK203.out⟩, ⟨by refine bk_ ?_; exact BK204.out⟩, ⟨by refine bk_ ?_; exact BK205.out⟩, ⟨bw_ HB.out⟩⟩
 case rest =>
  clear HC5
  try clear c1
  try clear c2
  try clear p2
  try clear c3
  try clear c10
  try clear c12
  try clear c13
  try clear c14
  try clear c17
  try clear c20
  try clear c21
  try clear c24
  try clear c27
  try clear c28
  try clear y15_0 y15_1 y15_2 y15_3 z15_0 z15_1 z15_2 z15_3
  try clear y18_0 y18_1 y18_2 y18_3 z18_0 z18_1 z18_2 z18_3
  try clear y22_0 y22_1 y22_2 y22_3 z22_0 z22_1 z22_2 z22_3
  try clear y25_0 y25_1 y25_2 y25_3 z25_0 z25_1 z25_2 z25_3
  try clear y29_0 y29_1 y29_2 y29_3 z29_0 z29_1 z29_2 z29_3
  obtain ⟨kq, x25_4, rfl, HA, HJ4, BK203, BK204, BK205, HB⟩ := hcut
  cases kq with
  | zero => exact absurd HA.out (by simp [spec_Put.j0])
  | succ kj4 =>
   have H := HA.out
   clear HA
   simp only [spec_Put.j0] at H
   by_cases c31 : x25_4 = true
   ·subst c31
    rw [if_pos rfl] at H
    simp only [Option.some.injEq, Prod.mk.injEq] at H
    obtain ⟨rfl, rfl, rfl, rfl⟩ := H
    have hnb32 := NB205_203.out
    have hnc32 := NB203_205.out
    have hnb33 := NB205_204.out
    have hnc33 := NB204_205.out
    obtain ⟨y34_0, y34_1, y34_2, y34_3, z34_0, z34_1, z34_2, z34_3⟩ := cz4_ BK205.out
    go_wp2
    refine bodyPost_ret (results_cell_row rfl _ _ gb205 29 #[.int .i64 0, .int .i64 0, .string (⟨#[]⟩ : ByteArray), .slice none 0 0] (0, 0) _ rfl ?hb_ Try.underlying29 rfl (by kernel_rfl)) rfl ?_
    (case hb_ => exact bk_ (bp4_ (bk_ BK205.out)))
    exact ⟨_, by first | rfl | (simp [errW_none, errW_some] <;> rfl) | (simp [*, errW_none, errW_some] <;> rfl), by first | exact Kd.R_nil _ _ _ _ _ | exact Kd.N_nil _ _ _ _ _ | exact Kd.V_nil _ _ _ _ _ | exact Kd.Q_nil _ _ _ _ _ | exact Kd.S_nil _ _ _ _ _, bw_ HB.out⟩
   ·replace c31 := Bool.eq_false_iff.mpr c31
    subst c31
    rw [if_neg (show ¬ (false = true) by decide)] at H
    have H' := A_ H
    clear H
    go_wp2
    go_loopg [9] kj4 (fun kq v9 w' => ∃ (x9_2 : Int) (x206000_2 : Int) (x206001_2 : Int) (x206002_2 : ByteArray), v9 = .int .i64 x9_2 ∧ Aside0 (spec_Put.l0 kq l2 l3 x9_2 a0_0 a0_1 a0_2 l0_3 a1_0 a1_1 a1_2 l1_3 = some (r1, r2, r3, r4)) ∧ Aside0 (kq ≤ kj4) ∧ Aside0 (w'.heap[gb203]? = some (.cells #[.int .i64 a0_0, .int .i64 a0_1, .string a0_2, (.slice A0_3 l0_3.length c0_3)] 29 (0, 0))) ∧ Aside0 (w'.heap[gb204]? = some (.cells #[.int .i64 a1_0, .int .i64 a1_1, .string a1_2, (.slice A1_3 l1_3.length c1_3)] 29 (0, 0))) ∧ Aside0 (w'.heap[gb205]? = some (.cells #[.int .i64 x206000_2, .int .i64 x206001_2, .string x206002_2, (.slice none 0 0)] 29 (0, 0))) ∧ Aside0 (Below w.heap.size w w'))
    case atStart => exact ⟨(0), (0), (0), ((⟨#[]⟩ : ByteArray)), d2_, H', ⟨Nat.le_refl _⟩, ⟨by refine bk_ ?_; exact BK203.out⟩, ⟨by refine bk_ ?_; exact BK204.out⟩, ⟨by refine bk_ ?_; exact BK205.out⟩, ⟨bw_ HB.out⟩⟩
    case round =>
     clear H'
     try clear c1
     try clear c2
     try clear p2
     try clear c3
     try clear c10
     try clear c12
     try clear c13
     try clear c14
     try clear c17
     try clear c20
     try clear c21
     try clear c24
     try clear c27
     try clear c28
     try clear c31
     try clear c32
     try clear c33
     try clear y15_0 y15_1 y15_2 y15_3 z15_0 z15_1 z15_2 z15_3
     try clear y18_0 y18_1 y18_2 y18_3 z18_0 z18_1 z18_2 z18_3
     try clear y22_0 y22_1 y22_2 y22_3 z22_0 z22_1 z22_2 z22_3
     try clear y25_0 y25_1 y25_2 y25_3 z25_0 z25_1 z25_2 z25_3
     try clear y29_0 y29_1 y29_2 y29_3 z29_0 z29_1 z29_2 z29_3
     try clear y34_0 y34_1 y34_2 y34_3 z34_0 z34_1 z34_2 z34_3
     try clear p2
     obtain ⟨x9_2, x206000_2, x206001_2, x206002_2, rfl, HA, HK2, BK203, BK204, BK205, HB⟩ := hrel
     cases gk with
     | zero => exact absurd HA.out (by simp [spec_Put.l0])
     | succ k2 =>
      have H := HA.out
      clear HA
      simp only [spec_Put.l0] at H
      by_cases c35 : x9_2 < (l3.length : Int)
      ·rw [if_pos c35] at H
       have c35b0 := decide_eq_true c35
       clear c35
       by_cases c36 : 0 ≤ x9_2
       ·rw [if_pos c36] at H
        have c36b0 := decide_eq_true c36
        clear c36
        replace H := Option.bind_eq_some_iff.mp H
        obtain ⟨t209, A370, H⟩ := H
        try dsimp only at H
        have A37 := A_ A370
        clear A370
        by_cases c38 : t209 = true
        ·subst c38
         rw [if_pos rfl] at H
         have H' := A_ H
         clear H
         have p208 : 0 ≤ (x9_2 : Int) := of_decide_eq_true d1_
         have q208 : x9_2 < (l3.length : Int) := of_decide_eq_true d1_
         obtain ⟨ad208, A208_3, c208_3, e208, hx208_0, hx208_1, hx208_2, hx208_3, hl208_3, hi208_3⟩ := at_T29 HR3.out x9_2 p208 q208
         cases e208
         replace hx208_0 := (HB.out.cell (World.block_lt_of_cell? w _ hx208_0)).trans hx208_0
         replace hx208_1 := (HB.out.cell (World.block_lt_of_cell? w _ hx208_1)).trans hx208_1
         replace hx208_2 := (HB.out.cell (World.block_lt_of_cell? w _ hx208_2)).trans hx208_2
         replace hx208_3 := (HB.out.cell (World.block_lt_of_cell? w _ hx208_3)).trans hx208_3
         have HR208_3 := A_ hi208_3
         have HC208_3 := A_ hl208_3
         clear hi208_3 hl208_3
         replace p208 := eq_true p208
         replace q208 := eq_true q208
         go_wp2_with (first | ((with_reducible refine gate_callee (f := 17) rfl ?_); refine gL_ (some 37) Try.func17 #[.agg #[.int .i64 ((rd_T29 l3 x9_2).f0), .int .i64 ((rd_T29 l3 x9_2).f1), .string ((rd_T29 l3 x9_2).f2), .slice A208_3 ((rd_T29 l3 x9_2).f3).length c208_3]] ?_; (with_reducible refine (spec_ExprOk.calls k2 ((rd_T29 l3 x9_2).f0) ((rd_T29 l3 x9_2).f1) ((rd_T29 l3 x9_2).f2) _ _ ((rd_T29 l3 x9_2).f3) true _ ?side1 ?side2 A37.out).mono ?_); (case side1 => exact Kd.C_below HR208_3.out (bw_ HB.out)); (case side2 => exact HC208_3.out); rintro e w39 ⟨rfl, hb⟩; refine ⟨_, rfl, ?_⟩; replace BK203 := A_ (blk_below (bk_ BK203.out) hb); replace BK204 := A_ (blk_below (bk_ BK204.out) hb); replace BK205 := A_ (blk_below (bk_ BK205.out) hb); replace HB := A_ (below_step (bw_ HB.out) hb); clear hb))
         go_roundg k2
         case measure => have := HJ4.out; have := HK2.out; omega
         case rel => exact ⟨(wrap64 (x9_2 + 1)), (x206000_2), (x206001_2), (x206002_2), d2_, H', ⟨by have := HJ4.out; have := HK2.out; omega⟩, ⟨by refine bk_ ?_; exact BK203.out⟩, ⟨by refine bk_ ?_; exact BK204.out⟩, ⟨by refine bk_ ?_; exact BK205.out⟩, ⟨bw_ HB.out⟩⟩
        ·replace c38 := Bool.eq_false_iff.mpr c38
         subst c38
         rw [if_neg (show ¬ (false = true) by decide)] at H
         simp only [Option.some.injEq, Prod.mk.injEq] at H
         obtain ⟨rfl, rfl, rfl, rfl⟩ := H
         have p208 : 0 ≤ (x9_2 : Int) := of_decide_eq_true d1_
         have q208 : x9_2 < (l3.length : Int) := of_decide_eq_true d1_
         obtain ⟨ad208, A208_3, c208_3, e208, hx208_0, hx208_1, hx208_2, hx208_3, hl208_3, hi208_3⟩ := at_T29 HR3.out x9_2 p208 q208
         cases e208
         replace hx208_0 := (HB.out.cell (World.block_lt_of_cell? w _ hx208_0)).trans hx208_0
         replace hx208_1 := (HB.out.cell (World.block_lt_of_cell? w _ hx208_1)).trans hx208_1
         replace hx208_2 := (HB.out.cell (World.block_lt_of_cell? w _ hx208_2)).trans hx208_2
         replace hx208_3 := (HB.out.cell (World.block_lt_of_cell? w _ hx208_3)).trans hx208_3
         have HR208_3 := A_ hi208_3
         have HC208_3 := A_ hl208_3
         clear hi208_3 hl208_3
         replace p208 := eq_true p208
         replace q208 := eq_true q208
         go_wp2_with (first | ((with_reducible refine gate_callee (f := 17) rfl ?_); refine gL_ (some 37) Try.func17 #[.agg #[.int .i64 ((rd_T29 l3 x9_2).f0), .int .i64 ((rd_T29 l3 x9_2).f1), .string ((rd_T29 l3 x9_2).f2), .slice A208_3 ((rd_T29 l3 x9_2).f3).length c208_3]] ?_; (with_reducible refine (spec_ExprOk.calls k2 ((rd_T29 l3 x9_2).f0) ((rd_T29 l3 x9_2).f1) ((rd_T29 l3 x9_2).f2) _ _ ((rd_T29 l3 x9_2).f3) false _ ?side1 ?side2 A37.out).mono ?_); (case side1 => exact Kd.C_below HR208_3.out (bw_ HB.out)); (case side2 => exact HC208_3.out); rintro e w40 ⟨rfl, hb⟩; refine ⟨_, rfl, ?_⟩; replace BK203 := A_ (blk_below (bk_ BK203.out) hb); replace BK204 := A_ (blk_below (bk_ BK204.out) hb); replace BK205 := A_ (blk_below (bk_ BK205.out) hb); replace HB := A_ (below_step (bw_ HB.out) hb); clear hb; have hnb41 := NB205_203.out; have hnc41 := NB203_205.out; have hnb42 := NB205_204.out; have hnc42 := NB204_205.out; obtain ⟨y43_0, y43_1, y43_2, y43_3, z43_0, z43_1, z43_2, z43_3⟩ := cz4_ BK205.out))
         refine bodyPost_ret (results_cell_row rfl _ _ gb205 29 #[.int .i64 0, .int .i64 0, .string (⟨#[]⟩ : ByteArray), .slice none 0 0] (0, 0) _ rfl ?hb_ Try.underlying29 rfl (by kernel_rfl)) rfl ?_
         (case hb_ => exact bk_ (bp4_ (bk_ BK205.out)))
         exact ⟨_, by first | rfl | (simp [errW_none, errW_some] <;> rfl) | (simp [*, errW_none, errW_some] <;> rfl), by first | exact Kd.R_nil _ _ _ _ _ | exact Kd.N_nil _ _ _ _ _ | exact Kd.V_nil _ _ _ _ _ | exact Kd.Q_nil _ _ _ _ _ | exact Kd.S_nil _ _ _ _ _, bw_ HB.out⟩
       ·rw [if_neg c36] at H
        exact absurd H (by simp)
      ·rw [if_neg c35] at H
       have c35b0 := decide_eq_false c35
       clear c35
       replace H := Option.bind_eq_some_iff.mp H
       obtain ⟨⟨t210, t211, t212, t213⟩, A440, H⟩ := H
       try dsimp only at H
       have A44 := A_ A440
       clear A440
       replace H := Option.bind_eq_some_iff.mp H
       obtain ⟨t217, A450, H⟩ := H
       try dsimp only at H
       have A45 := A_ A450
       clear A450
       by_cases c46 : t217 = true
       ·subst c46
        rw [if_pos rfl] at H
        simp only [Option.some.injEq, Prod.mk.injEq] at H
        obtain ⟨rfl, rfl, rfl, rfl⟩ := H
        have hnb47 := NB203_204.out
        have hnc47 := NB204_203.out
        have hnb48 := NB203_205.out
        have hnc48 := NB205_203.out
        obtain ⟨y49_0, y49_1, y49_2, y49_3, z49_0, z49_1, z49_2, z49_3⟩ := cz4_ BK203.out
        have hnb50 := NB204_205.out
        have hnc50 := NB205_204.out
        obtain ⟨y51_0, y51_1, y51_2, y51_3, z51_0, z51_1, z51_2, z51_3⟩ := cz4_ BK204.out
        go_wp2_with (first | ((with_reducible refine gate_callee (f := 53) rfl ?_); refine gL_ (some 44) Try.func53 #[.agg #[.int .i64 a0_0, .int .i64 a0_1, .string a0_2, .slice A0_3 l0_3.length c0_3], .agg #[.int .i64 a1_0, .int .i64 a1_1, .string a1_2, .slice A1_3 l1_3.length c1_3], .slice A2 l2.length c2, .slice A3 l3.length c3] ?_; (with_reducible refine (spec_l11Put.calls k2 a0_0 a0_1 a0_2 _ _ l0_3 a1_0 a1_1 a1_2 _ _ l1_3 _ _ l2 _ _ l3 t210 t211 t212 t213 _ ?side1 ?side2 ?side3 ?side4 ?side5 ?side6 ?side7 ?side8 A44.out).mono ?_); (case side1 => exact Kd.C_below HR0_3.out (bw_ HB.out)); (case side2 => exact HC0_3.out); (case side3 => exact Kd.C_below HR1_3.out (bw_ HB.out)); (case side4 => exact HC1_3.out); (case side5 => exact Kd.C_below HR2.out (bw_ HB.out)); (case side6 => exact HC2.out); (case side7 => exact Kd.C_below HR3.out (bw_ HB.out)); (case side8 => exact HC3.out); rintro e w52 ⟨v214, rfl, ho0, hb⟩; refine ⟨_, rfl, ?_⟩; have HO215 := A_ (Kd.R_lower (Kd.R_newB (Kd.R_newB (Kd.R_newB ho0 (bk_ BK203.out)) (bk_ BK204.out)) (bk_ BK205.out)) (below_size (bw_ HB.out))); replace BK203 := A_ (blk_below (bk_ BK203.out) hb); replace BK204 := A_ (blk_below (bk_ BK204.out) hb); replace BK205 := A_ (blk_below (bk_ BK205.out) hb); replace HB := A_ (below_step (bw_ HB.out) hb); clear hb; (try clear ho0)) | ((with_reducible refine gate_dst (N := 10) rfl ?_); (try (refine gate_guard (by rfl) ?_; dsimp only)); refine bx_ 10 #[.int .i64 0, .int .i64 0, .string (⟨#[]⟩ : ByteArray), .slice none 0 0] 29 ?_; intro gb216 hg w53 hbox hb; have n0_ := A_ (Kd.R_below (Kd.R_elderB (kr_ HO215.out) gb216 (Nat.le_of_eq hg.symm)) hb); have n1_ := A_ (blk_below (bk_ BK203.out) hb); have n2_ := A_ (blk_below (bk_ BK204.out) hb); have n3_ := A_ (blk_below (bk_ BK205.out) hb); have n4_ := A_ (below_step (bw_ HB.out) hb); have n5_ := A_ (hbox); have n6_ := A_ ((d3_ : w.heap.size ≤ gb216)); have n7_ := n6_; have n8_ := A_ ((d23_ : gb203 ≠ gb216)); have n9_ := A_ n8_.out.symm; have n10_ := A_ ((by rw [hg]; exact Nat.ne_of_lt (blk_lt (bk_ BK204.out)) : gb204 ≠ gb216)); have n11_ := A_ n10_.out.symm; have n12_ := A_ ((by rw [hg]; exact Nat.ne_of_lt (blk_lt (bk_ BK205.out)) : gb205 ≠ gb216)); have n13_ := A_ n12_.out.symm; clear HO215; clear BK203; clear BK204; clear BK205; clear HB; have HO215 := n0_; have BK203 := n1_; have BK204 := n2_; have BK205 := n3_; have HB := n4_; have BK216 := n5_; have GW216 := n6_; have GE216 := n7_; have GI216 := GeI.mk GE216.out; have NB203_216 := n8_; have NB216_203 := n9_; have NB204_216 := n10_; have NB216_204 := n11_; have NB205_216 := n12_; have NB216_205 := n13_; clear n0_ n1_ n2_ n3_ n4_ n5_ n6_ n7_ n8_ n9_ n10_ n11_ n12_ n13_; clear hb hbox hg; have hnb54 := NB216_203.out; have hnc54 := NB203_216.out; have hnb55 := NB216_204.out; have hnc55 := NB204_216.out; have hnb56 := NB216_205.out; have hnc56 := NB205_216.out; obtain ⟨y57_0, y57_1, y57_2, y57_3, z57_0, z57_1, z57_2, z57_3⟩ := cz4_ BK216.out; obtain ⟨Ao58, co58, eo58⟩ := Kd.R_slice HO215.out; subst eo58) | ((with_reducible refine gate_callee (f := 17) rfl ?_); refine gL_ (some 46) Try.func17 #[.agg #[.int .i64 t210, .int .i64 t211, .string t212, .slice Ao58 t213.length co58]] ?_; (with_reducible refine (spec_ExprOk.calls k2 t210 t211 t212 _ _ t213 true _ ?side1 ?side2 A45.out).mono ?_); (case side1 => refine (Kd.R_reads' (e := 29) (base := w.heap.size) (ok := fun k_ => ((((True ∧ k_ ≠ gb203) ∧ k_ ≠ gb204) ∧ k_ ≠ gb205) ∧ k_ ≠ gb216)) (n := t213.length) (c := co58) ?_).2.2; exact (kr_ (Kd.R_mono (rf4_ (Kd.R_mono HO215.out (fun k_ hk => (⟨hk, hk.2⟩ : _ ∧ k_ ≠ gb216))) (fun _ hk => hk.2)) (fun _ h_ => h_.1)))); (case side2 => exact (Kd.R_reads' HO215.out).2.1); rintro e w59 ⟨rfl, hb⟩; refine ⟨_, rfl, ?_⟩; replace HO215 := A_ (Kd.R_below (kr_ (Kd.R_mono (rf4_ (Kd.R_mono HO215.out (fun k_ hk => (⟨hk, hk.2⟩ : _ ∧ k_ ≠ gb216))) (fun _ hk => hk.2)) (fun _ h_ => h_.1))) hb); replace BK203 := A_ (blk_below (g := gb203) (o := .cells #[.int .i64 a0_0, .int .i64 a0_1, .string a0_2, .slice A0_3 l0_3.length c0_3] 29 (0, 0)) (by refine bk_ ?_; refine blk_far ?_ NB203_216.out _; refine bk_ ?_; refine blk_far ?_ NB203_216.out _; refine bk_ ?_; refine blk_far ?_ NB203_216.out _; refine bk_ ?_; refine blk_far ?_ NB203_216.out _; refine bk_ ?_; exact BK203.out) hb); replace BK204 := A_ (blk_below (g := gb204) (o := .cells #[.int .i64 a1_0, .int .i64 a1_1, .string a1_2, .slice A1_3 l1_3.length c1_3] 29 (0, 0)) (by refine bk_ ?_; refine blk_far ?_ NB204_216.out _; refine bk_ ?_; refine blk_far ?_ NB204_216.out _; refine bk_ ?_; refine blk_far ?_ NB204_216.out _; refine bk_ ?_; refine blk_far ?_ NB204_216.out _; refine bk_ ?_; exact BK204.out) hb); replace BK205 := A_ (blk_below (g := gb205) (o := .cells #[.int .i64 x206000_2, .int .i64 x206001_2, .string x206002_2, .slice none 0 0] 29 (0, 0)) (by refine bk_ ?_; refine blk_far ?_ NB205_216.out _; refine bk_ ?_; refine blk_far ?_ NB205_216.out _; refine bk_ ?_; refine blk_far ?_ NB205_216.out _; refine bk_ ?_; refine blk_far ?_ NB205_216.out _; refine bk_ ?_; exact BK205.out) hb); replace BK216 := A_ (blk_below (g := gb216) (o := .cells #[.int .i64 t210, .int .i64 t211, .string t212, .slice Ao58 t213.length co58] 29 (0, 0)) (by exact bk_ (bp4_ (bk_ BK216.out))) hb); replace HB := A_ (below_step (bw_ HB.out) hb); clear hb; obtain ⟨y60_0, y60_1, y60_2, y60_3, z60_0, z60_1, z60_2, z60_3⟩ := cz4_ BK216.out; obtain ⟨y61_0, y61_1, y61_2, y61_3, z61_0, z61_1, z61_2, z61_3⟩ := cz4_ BK205.out))
        refine bodyPost_ret (results_cell_row rfl _ _ gb205 29 #[.int .i64 t210, .int .i64 t211, .string t212, .slice Ao58 t213.length co58] (0, 0) _ rfl ?hb_ Try.underlying29 rfl (by kernel_rfl)) rfl ?_
        (case hb_ => exact bk_ (bp4_ (bk_ BK205.out)))
        exact ⟨_, by first | rfl | (simp [errW_none, errW_some] <;> rfl) | (simp [*, errW_none, errW_some] <;> rfl), kr_ (Kd.R_mono (rf4_ (Kd.R_mono HO215.out (fun k_ hk => (⟨hk, hk.1.2⟩ : _ ∧ k_ ≠ gb205))) (fun _ hk => hk.2)) (fun _ hk => trivial)), bw_ HB.out⟩
       ·replace c46 := Bool.eq_false_iff.mpr c46
        subst c46
        rw [if_neg (show ¬ (false = true) by decide)] at H
        simp only [Option.some.injEq, Prod.mk.injEq] at H
        obtain ⟨rfl, rfl, rfl, rfl⟩ := H
        have hnb62 := NB203_204.out
        have hnc62 := NB204_203.out
        have hnb63 := NB203_205.out
        have hnc63 := NB205_203.out
        obtain ⟨y64_0, y64_1, y64_2, y64_3, z64_0, z64_1, z64_2, z64_3⟩ := cz4_ BK203.out
        have hnb65 := NB204_205.out
        have hnc65 := NB205_204.out
        obtain ⟨y66_0, y66_1, y66_2, y66_3, z66_0, z66_1, z66_2, z66_3⟩ := cz4_ BK204.out
        go_wp2_with (first | ((with_reducible refine gate_callee (f := 53) rfl ?_); refine gL_ (some 44) Try.func53 #[.agg #[.int .i64 a0_0, .int .i64 a0_1, .string a0_2, .slice A0_3 l0_3.length c0_3], .agg #[.int .i64 a1_0, .int .i64 a1_1, .string a1_2, .slice A1_3 l1_3.length c1_3], .slice A2 l2.length c2, .slice A3 l3.length c3] ?_; (with_reducible refine (spec_l11Put.calls k2 a0_0 a0_1 a0_2 _ _ l0_3 a1_0 a1_1 a1_2 _ _ l1_3 _ _ l2 _ _ l3 t210 t211 t212 t213 _ ?side1 ?side2 ?side3 ?side4 ?side5 ?side6 ?side7 ?side8 A44.out).mono ?_); (case side1 => exact Kd.C_below HR0_3.out (bw_ HB.out)); (case side2 => exact HC0_3.out); (case side3 => exact Kd.C_below HR1_3.out (bw_ HB.out)); (case side4 => exact HC1_3.out); (case side5 => exact Kd.C_below HR2.out (bw_ HB.out)); (case side6 => exact HC2.out); (case side7 => exact Kd.C_below HR3.out (bw_ HB.out)); (case side8 => exact HC3.out); rintro e w67 ⟨v214, rfl, ho0, hb⟩; refine ⟨_, rfl, ?_⟩; have HO215 := A_ (Kd.R_lower (Kd.R_newB (Kd.R_newB (Kd.R_newB ho0 (bk_ BK203.out)) (bk_ BK204.out)) (bk_ BK205.out)) (below_size (bw_ HB.out))); replace BK203 := A_ (blk_below (bk_ BK203.out) hb); replace BK204 := A_ (blk_below (bk_ BK204.out) hb); replace BK205 := A_ (blk_below (bk_ BK205.out) hb); replace HB := A_ (below_step (bw_ HB.out) hb); clear hb; (try clear ho0)) | ((with_reducible refine gate_dst (N := 10) rfl ?_); (try (refine gate_guard (by rfl) ?_; dsimp only)); refine bx_ 10 #[.int .i64 0, .int .i64 0, .string (⟨#[]⟩ : ByteArray), .slice none 0 0] 29 ?_; intro gb216 hg w68 hbox hb; have n0_ := A_ (Kd.R_below (Kd.R_elderB (kr_ HO215.out) gb216 (Nat.le_of_eq hg.symm)) hb); have n1_ := A_ (blk_below (bk_ BK203.out) hb); have n2_ := A_ (blk_below (bk_ BK204.out) hb); have n3_ := A_ (blk_below (bk_ BK205.out) hb); have n4_ := A_ (below_step (bw_ HB.out) hb); have n5_ := A_ (hbox); have n6_ := A_ ((d3_ : w.heap.size ≤ gb216)); have n7_ := n6_; have n8_ := A_ ((d23_ : gb203 ≠ gb216)); have n9_ := A_ n8_.out.symm; have n10_ := A_ ((by rw [hg]; exact Nat.ne_of_lt (blk_lt (bk_ BK204.out)) : gb204 ≠ gb216)); have n11_ := A_ n10_.out.symm; have n12_ := A_ ((by rw [hg]; exact Nat.ne_of_lt (blk_lt (bk_ BK205.out)) : gb205 ≠ gb216)); have n13_ := A_ n12_.out.symm; clear HO215; clear BK203; clear BK204; clear BK205; clear HB; have HO215 := n0_; have BK203 := n1_; have BK204 := n2_; have BK205 := n3_; have HB := n4_; have BK216 := n5_; have GW216 := n6_; have GE216 := n7_; have GI216 := GeI.mk GE216.out; have NB203_216 := n8_; have NB216_203 := n9_; have NB204_216 := n10_; have NB216_204 := n11_; have NB205_216 := n12_; have NB216_205 := n13_; clear n0_ n1_ n2_ n3_ n4_ n5_ n6_ n7_ n8_ n9_ n10_ n11_ n12_ n13_; clear hb hbox hg; have hnb69 := NB216_203.out; have hnc69 := NB203_216.out; have hnb70 := NB216_204.out; have hnc70 := NB204_216.out; have hnb71 := NB216_205.out; have hnc71 := NB205_216.out; obtain ⟨y72_0, y72_1, y72_2, y72_3, z72_0, z72_1, z72_2, z72_3⟩ := cz4_ BK216.out; obtain ⟨Ao73, co73, eo73⟩ := Kd.R_slice HO215.out; subst eo73) | ((with_reducible refine gate_callee (f := 17) rfl ?_); refine gL_ (some 46) Try.func17 #[.agg #[.int .i64 t210, .int .i64 t211, .string t212, .slice Ao73 t213.length co73]] ?_; (with_reducible refine (spec_ExprOk.calls k2 t210 t211 t212 _ _ t213 false _ ?side1 ?side2 A45.out).mono ?_); (case side1 => refine (Kd.R_reads' (e := 29) (base := w.heap.size) (ok := fun k_ => ((((True ∧ k_ ≠ gb203) ∧ k_ ≠ gb204) ∧ k_ ≠ gb205) ∧ k_ ≠ gb216)) (n := t213.length) (c := co73) ?_).2.2; exact (kr_ (Kd.R_mono (rf4_ (Kd.R_mono HO215.out (fun k_ hk => (⟨hk, hk.2⟩ : _ ∧ k_ ≠ gb216))) (fun _ hk => hk.2)) (fun _ h_ => h_.1)))); (case side2 => exact (Kd.R_reads' HO215.out).2.1); rintro e w74 ⟨rfl, hb⟩; refine ⟨_, rfl, ?_⟩; replace HO215 := A_ (Kd.R_below (kr_ (Kd.R_mono (rf4_ (Kd.R_mono HO215.out (fun k_ hk => (⟨hk, hk.2⟩ : _ ∧ k_ ≠ gb216))) (fun _ hk => hk.2)) (fun _ h_ => h_.1))) hb); replace BK203 := A_ (blk_below (g := gb203) (o := .cells #[.int .i64 a0_0, .int .i64 a0_1, .string a0_2, .slice A0_3 l0_3.length c0_3] 29 (0, 0)) (by refine bk_ ?_; refine blk_far ?_ NB203_216.out _; refine bk_ ?_; refine blk_far ?_ NB203_216.out _; refine bk_ ?_; refine blk_far ?_ NB203_216.out _; refine bk_ ?_; refine blk_far ?_ NB203_216.out _; refine bk_ ?_; exact BK203.out) hb); replace BK204 := A_ (blk_below (g := gb204) (o := .cells #[.int .i64 a1_0, .int .i64 a1_1, .string a1_2, .slice A1_3 l1_3.length c1_3] 29 (0, 0)) (by refine bk_ ?_; refine blk_far ?_ NB204_216.out _; refine bk_ ?_; refine blk_far ?_ NB204_216.out _; refine bk_ ?_; refine blk_far ?_ NB204_216.out _; refine bk_ ?_; refine blk_far ?_ NB204_216.out _; refine bk_ ?_; exact BK204.out) hb); replace BK205 := A_ (blk_below (g := gb205) (o := .cells #[.int .i64 x206000_2, .int .i64 x206001_2, .string x206002_2, .slice none 0 0] 29 (0, 0)) (by refine bk_ ?_; refine blk_far ?_ NB205_216.out _; refine bk_ ?_; refine blk_far ?_ NB205_216.out _; refine bk_ ?_; refine blk_far ?_ NB205_216.out _; refine bk_ ?_; refine blk_far ?_ NB205_216.out _; refine bk_ ?_; exact BK205.out) hb); replace BK216 := A_ (blk_below (g := gb216) (o := .cells #[.int .i64 t210, .int .i64 t211, .string t212, .slice Ao73 t213.length co73] 29 (0, 0)) (by exact bk_ (bp4_ (bk_ BK216.out))) hb); replace HB := A_ (below_step (bw_ HB.out) hb); clear hb; obtain ⟨y75_0, y75_1, y75_2, y75_3, z75_0, z75_1, z75_2, z75_3⟩ := cz4_ BK205.out))
        refine bodyPost_ret (results_cell_row rfl _ _ gb205 29 #[.int .i64 0, .int .i64 0, .string (⟨#[]⟩ : ByteArray), .slice none 0 0] (0, 0) _ rfl ?hb_ Try.underlying29 rfl (by kernel_rfl)) rfl ?_
        (case hb_ => exact bk_ (bp4_ (bk_ BK205.out)))
        exact ⟨_, by first | rfl | (simp [errW_none, errW_some] <;> rfl) | (simp [*, errW_none, errW_some] <;> rfl), by first | exact Kd.R_nil _ _ _ _ _ | exact Kd.N_nil _ _ _ _ _ | exact Kd.V_nil _ _ _ _ _ | exact Kd.Q_nil _ _ _ _ _ | exact Kd.S_nil _ _ _ _ _, bw_ HB.out⟩

/-! ### impl_within: function 70 -/
def impl_within.f (a0 : Int) (a1 : Int) (a2 : Int) : Option (Bool) := if a0 ≥ a1 then (some (decide (a0 ≤ a2))) else (some false)
set_option maxHeartbeats 8000000 in
set_option maxRecDepth 100000 in
theorem impl_within.calls (a0 : Int) (a1 : Int) (a2 : Int) (r : Bool) (w : World) (h : impl_within.f a0 a1 a2 = some r) :
  Calls Try.prog 70 #[.int .i64 a0, .int .i64 a1, .int .i64 a2] w fun e w' => e = .returned (.bool r) ∧ Drawn0 w w' := by
 have H : (if a0 ≥ a1 then (some (decide (a0 ≤ a2))) else (some false)) = some r := h
 clear h
 by_cases c4 : a0 ≥ a1
 ·rw [if_pos c4] at H
  have c4b0 := decide_eq_true c4
  clear c4
  obtain rfl := Option.some.inj H
  go_enter Try.func70, Try.ntmps70
  go_wp2
  go_ret
  exact ⟨by first | rfl | (simp; done) | (simp [*]; done), by repeat (first | exact Drawn0.refl _ | apply Drawn0.step)⟩
 ·rw [if_neg c4] at H
  have c4b0 := decide_eq_false c4
  clear c4
  obtain rfl := Option.some.inj H
  go_enter Try.func70, Try.ntmps70
  go_wp2
  go_ret
  exact ⟨by first | rfl | (simp; done) | (simp [*]; done), by repeat (first | exact Drawn0.refl _ | apply Drawn0.step)⟩

/-! ### impl_isWord: function 68 -/
def impl_isWord.f (a0 : Int) : Option (Bool) := (impl_within.f a0 0 65535).bind fun t218 => (some t218)
set_option maxHeartbeats 8000000 in
set_option maxRecDepth 100000 in
theorem impl_isWord.calls (a0 : Int) (r : Bool) (w : World) (h : impl_isWord.f a0 = some r) :
  Calls Try.prog 68 #[.int .i64 a0] w fun e w' => e = .returned (.bool r) ∧ Drawn0 w w' := by
 have H : ((impl_within.f a0 0 65535).bind fun t218 => (some t218)) = some r := h
 clear h
 replace H := Option.bind_eq_some_iff.mp H
 obtain ⟨t218, A20, H⟩ := H
 try dsimp only at H
 have A2 := A_ A20
 clear A20
 obtain rfl := Option.some.inj H
 go_enter Try.func68, Try.ntmps68
 go_wp2_with (first | ((with_reducible refine gate_callee (f := 70) rfl ?_); refine gL_ (some 4) Try.func70 #[.int .i64 a0, .int .i64 0, .int .i64 65535] ?_; (with_reducible refine (impl_within.calls a0 0 65535 t218 _ A2.out).mono ?_); rintro e w' ⟨rfl, ⟨nd, rfl⟩⟩; refine ⟨_, rfl, ?_⟩))
 go_ret
 exact ⟨by first | rfl | (simp; done) | (simp [*]; done), by repeat (first | exact Drawn0.refl _ | apply Drawn0.step)⟩

/-! ### impl_isLetter: function 97 -/
def impl_isLetter.f (a0 : Int) : Option (Bool) := (impl_within.f (wrap64 (a0)) 97 122).bind fun t219 => (some t219)
set_option maxHeartbeats 8000000 in
set_option maxRecDepth 100000 in
theorem impl_isLetter.calls (a0 : Int) (r : Bool) (w : World) (h : impl_isLetter.f a0 = some r) :
  Calls Try.prog 97 #[.int .u8 a0] w fun e w' => e = .returned (.bool r) ∧ Drawn0 w w' := by
 have H : ((impl_within.f (wrap64 (a0)) 97 122).bind fun t219 => (some t219)) = some r := h
 clear h
 replace H := Option.bind_eq_some_iff.mp H
 obtain ⟨t219, A20, H⟩ := H
 try dsimp only at H
 have A2 := A_ A20
 clear A20
 obtain rfl := Option.some.inj H
 go_enter Try.func97, Try.ntmps97
 go_wp2_with (first | ((with_reducible refine gate_callee (f := 70) rfl ?_); refine gL_ (some 5) Try.func70 #[.int .i64 (wrap64 (a0)), .int .i64 97, .int .i64 122] ?_; (with_reducible refine (impl_within.calls (wrap64 (a0)) 97 122 t219 _ A2.out).mono ?_); rintro e w' ⟨rfl, ⟨nd, rfl⟩⟩; refine ⟨_, rfl, ?_⟩))
 go_ret
 exact ⟨by first | rfl | (simp; done) | (simp [*]; done), by repeat (first | exact Drawn0.refl _ | apply Drawn0.step)⟩

/-! ### impl_isPart: function 103 -/
def impl_isPart.f (a0 : Int) : Option (Bool) := (impl_isLetter.f a0).bind fun t220 => (if t220 = true then (some true) else ((impl_within.f (wrap64 (a0)) 48 57).bind fun t221 => (some t221)))
set_option maxHeartbeats 8000000 in
set_option maxRecDepth 100000 in
theorem impl_isPart.calls (a0 : Int) (r : Bool) (w : World) (h : impl_isPart.f a0 = some r) :
  Calls Try.prog 103 #[.int .u8 a0] w fun e w' => e = .returned (.bool r) ∧ Drawn0 w w' := by
 have H : ((impl_isLetter.f a0).bind fun t220 => (if t220 = true then (some true) else ((impl_within.f (wrap64 (a0)) 48 57).bind fun t221 => (some t221)))) = some r := h
 clear h
 replace H := Option.bind_eq_some_iff.mp H
 obtain ⟨t220, A20, H⟩ := H
 try dsimp only at H
 have A2 := A_ A20
 clear A20
 by_cases c3 : t220 = true
 ·subst c3
  rw [if_pos rfl] at H
  obtain rfl := Option.some.inj H
  go_enter Try.func103, Try.ntmps103
  go_wp2_with (first | ((with_reducible refine gate_callee (f := 97) rfl ?_); refine gL_ (some 4) Try.func97 #[.int .u8 a0] ?_; (with_reducible refine (impl_isLetter.calls a0 true _ A2.out).mono ?_); rintro e w' ⟨rfl, ⟨nd, rfl⟩⟩; refine ⟨_, rfl, ?_⟩))
  go_ret
  exact ⟨by first | rfl | (simp; done) | (simp [*]; done), by repeat (first | exact Drawn0.refl _ | apply Drawn0.step)⟩
 ·replace c3 := Bool.eq_false_iff.mpr c3
  subst c3
  rw [if_neg (show ¬ (false = true) by decide)] at H
  replace H := Option.bind_eq_some_iff.mp H
  obtain ⟨t221, A40, H⟩ := H
  try dsimp only at H
  have A4 := A_ A40
  clear A40
  obtain rfl := Option.some.inj H
  go_enter Try.func103, Try.ntmps103
  go_wp2_with (first | ((with_reducible refine gate_callee (f := 97) rfl ?_); refine gL_ (some 4) Try.func97 #[.int .u8 a0] ?_; (with_reducible refine (impl_isLetter.calls a0 false _ A2.out).mono ?_); rintro e w' ⟨rfl, ⟨nd, rfl⟩⟩; refine ⟨_, rfl, ?_⟩) | (go_at_call 70; (with_reducible refine (impl_within.calls (wrap64 (a0)) 48 57 t221 _ A4.out).mono ?_); rintro e w' ⟨rfl, ⟨nd, rfl⟩⟩))
  go_ret
  exact ⟨by first | rfl | (simp; done) | (simp [*]; done), by repeat (first | exact Drawn0.refl _ | apply Drawn0.step)⟩

/-! ### impl_runFrom: function 98 -/
def impl_runFrom.l0 : Nat → ByteArray → Int → Int → Option (ByteArray)
 | 0, _, _, _ => none
 | k + 1, x0, x1, x5 => if x5 < (x0.size : Int) then (if 0 ≤ x5 then ((impl_isPart.f (bt x0 x5)).bind fun t222 => (if t222 = true then (impl_runFrom.l0 k x0 x1 (wrap64 (x5 + 1))) else (if 0 ≤ x1 then (if x1 ≤ x5 then (if x5 ≤ (x0.size : Int) then (some (x0.extract (x1 : Int).toNat (x5 : Int).toNat)) else (none)) else (none)) else (none)))) else (none)) else (if 0 ≤ x1 then (if x1 ≤ x5 then (if x5 ≤ (x0.size : Int) then (some (x0.extract (x1 : Int).toNat (x5 : Int).toNat)) else (none)) else (none)) else (none))
def impl_runFrom.f (k : Nat) (a0 : ByteArray) (a1 : Int) : Option (ByteArray) := impl_runFrom.l0 k a0 a1 a1
theorem impl_runFrom.mono_l : ∀ k, (∀ y0 y1 y2, LeO (impl_runFrom.l0 k y0 y1 y2) (impl_runFrom.l0 (k + 1) y0 y1 y2))
 | 0 => fun _ _ _ r h => by simp [impl_runFrom.l0] at h
 | k + 1 => by
  have ih0 := impl_runFrom.mono_l k
  ·intro y0 y1 y2
   unfold impl_runFrom.l0
   repeat' first
   | (with_reducible exact ih0 _ _ _)
   | (with_reducible exact LeO.refl _)
   | (with_reducible exact LeO.none _)
   | (with_reducible refine LeO.ite ?_ ?_)
   | (with_reducible refine LeO.bind ?_ (fun _ => ?_))
   | exact ih0 _ _ _
   | exact LeO.none _
   | refine LeO.ite ?_ ?_
   | refine LeO.bind ?_ (fun _ => ?_)
theorem impl_runFrom.mono : ∀ a0 a1 k, LeO (impl_runFrom.f k a0 a1) (impl_runFrom.f (k + 1) a0 a1) := by
 intro a0 a1 k
 have ih0 := impl_runFrom.mono_l k
 unfold impl_runFrom.f
 repeat' first
   | (with_reducible exact ih0 _ _ _)
   | (with_reducible exact LeO.refl _)
   | (with_reducible exact LeO.none _)
   | (with_reducible refine LeO.ite ?_ ?_)
   | (with_reducible refine LeO.bind ?_ (fun _ => ?_))
   | exact ih0 _ _ _
   | exact LeO.none _
   | refine LeO.ite ?_ ?_
   | refine LeO.bind ?_ (fun _ => ?_)
set_option maxHeartbeats 8000000 in
set_option maxRecDepth 100000 in
theorem impl_runFrom.calls (k : Nat) (a0 : ByteArray) (a1 : Int) (r : ByteArray) (w : World) (h : impl_runFrom.f k a0 a1 = some r) :
  Calls Try.prog 98 #[.string a0, .int .i64 a1] w fun e w' => e = .returned (.string r) ∧ Drawn0 w w' := by
 have H : (impl_runFrom.l0 k a0 a1 a1) = some r := h
 clear h
 have H' := A_ H
 clear H
 go_enter Try.func98, Try.ntmps98
 go_wp2
 go_loopg [5] k (fun kq v5 w' => ∃ (x5_1 : Int), v5 = .int .i64 x5_1 ∧ Aside0 (impl_runFrom.l0 kq a0 a1 x5_1 = some r) ∧ Aside0 (kq ≤ k) ∧ Drawn0 w w')
 case atStart => exact ⟨(a1), d2_, H', ⟨Nat.le_refl _⟩, by repeat (first | exact Drawn0.refl _ | apply Drawn0.step)⟩
 case round =>
  clear H'
  try clear p2
  obtain ⟨x5_1, rfl, HA, HK1, ⟨m1, rfl⟩⟩ := hrel
  cases gk with
  | zero => exact absurd HA.out (by simp [impl_runFrom.l0])
  | succ k1 =>
   have H := HA.out
   clear HA
   simp only [impl_runFrom.l0] at H
   by_cases c3 : x5_1 < (a0.size : Int)
   ·rw [if_pos c3] at H
    have c3b0 := decide_eq_true c3
    clear c3
    by_cases c4 : 0 ≤ x5_1
    ·rw [if_pos c4] at H
     have c4b0 := decide_eq_true c4
     clear c4
     replace H := Option.bind_eq_some_iff.mp H
     obtain ⟨t222, A60, H⟩ := H
     try dsimp only at H
     have A6 := A_ A60
     clear A60
     by_cases c7 : t222 = true
     ·subst c7
      rw [if_pos rfl] at H
      have H' := A_ H
      clear H
      have p5 : 0 ≤ (x5_1 : Int) := of_decide_eq_true d1_
      have q5 : x5_1 < (a0.size : Int) := of_decide_eq_true d1_
      have hx5 := bt_at a0 x5_1
      replace p5 := eq_true p5
      replace q5 := eq_true q5
      go_wp2_with (first | (go_at_call 103; (with_reducible refine (impl_isPart.calls (bt a0 x5_1) true _ A6.out).mono ?_); rintro e w' ⟨rfl, ⟨nd, rfl⟩⟩))
      go_roundg k1
      case measure => have := HK1.out; omega
      case rel => exact ⟨(wrap64 (x5_1 + 1)), d2_, H', ⟨by have := HK1.out; omega⟩, by repeat (first | exact Drawn0.refl _ | apply Drawn0.step)⟩
     ·replace c7 := Bool.eq_false_iff.mpr c7
      subst c7
      rw [if_neg (show ¬ (false = true) by decide)] at H
      by_cases c8 : 0 ≤ a1
      ·rw [if_pos c8] at H
       have c8b0 := eq_true c8
       have c8b1 := decide_eq_true c8
       clear c8
       by_cases c9 : a1 ≤ x5_1
       ·rw [if_pos c9] at H
        have c9b0 := eq_true c9
        have c9b1 := decide_eq_true c9
        clear c9
        by_cases c10 : x5_1 ≤ (a0.size : Int)
        ·rw [if_pos c10] at H
         have c10b0 := eq_true c10
         have c10b1 := decide_eq_true c10
         clear c10
         obtain rfl := Option.some.inj H
         have p5 : 0 ≤ (x5_1 : Int) := of_decide_eq_true d1_
         have q5 : x5_1 < (a0.size : Int) := of_decide_eq_true d1_
         have hx5 := bt_at a0 x5_1
         replace p5 := eq_true p5
         replace q5 := eq_true q5
         go_wp2_with (first | (go_at_call 103; (with_reducible refine (impl_isPart.calls (bt a0 x5_1) false _ A6.out).mono ?_); rintro e w' ⟨rfl, ⟨nd, rfl⟩⟩))
         go_ret
         exact ⟨by first | rfl | (simp; done) | (simp [*]; done), by repeat (first | exact Drawn0.refl _ | apply Drawn0.step)⟩
        ·rw [if_neg c10] at H
         exact absurd H (by simp)
       ·rw [if_neg c9] at H
        exact absurd H (by simp)
      ·rw [if_neg c8] at H
       exact absurd H (by simp)
    ·rw [if_neg c4] at H
     exact absurd H (by simp)
   ·rw [if_neg c3] at H
    have c3b0 := decide_eq_false c3
    clear c3
    by_cases c11 : 0 ≤ a1
    ·rw [if_pos c11] at H
     have c11b0 := eq_true c11
     have c11b1 := decide_eq_true c11
     clear c11
     by_cases c12 : a1 ≤ x5_1
     ·rw [if_pos c12] at H
      have c12b0 := eq_true c12
      have c12b1 := decide_eq_true c12
      clear c12
      by_cases c13 : x5_1 ≤ (a0.size : Int)
      ·rw [if_pos c13] at H
       have c13b0 := eq_true c13
       have c13b1 := decide_eq_true c13
       clear c13
       obtain rfl := Option.some.inj H
       go_wp2
       go_ret
       exact ⟨by first | rfl | (simp; done) | (simp [*]; done), by repeat (first | exact Drawn0.refl _ | apply Drawn0.step)⟩
      ·rw [if_neg c13] at H
       exact absurd H (by simp)
     ·rw [if_neg c12] at H
      exact absurd H (by simp)
    ·rw [if_neg c11] at H
     exact absurd H (by simp)

/-! ### impl_hasForm: function 88 -/
def impl_hasForm.f (k : Nat) (a0 : ByteArray) : Option (Bool) := (impl_within.f (a0.size : Int) 1 6).bind fun t223 => (if t223 = true then (if 0 < (a0.size : Int) then ((impl_isLetter.f (bt a0 0)).bind fun t224 => (if t224 = true then ((impl_runFrom.f k a0 0).bind fun t225 => (some (t225.toList == a0.toList))) else (some false))) else (none)) else (some false))
theorem impl_hasForm.mono : ∀ a0 k, LeO (impl_hasForm.f k a0) (impl_hasForm.f (k + 1) a0) := by
 intro a0 k
 unfold impl_hasForm.f
 repeat' first
   | (with_reducible exact impl_runFrom.mono _ _ _)
   | (with_reducible exact LeO.refl _)
   | (with_reducible exact LeO.none _)
   | (with_reducible refine LeO.ite ?_ ?_)
   | (with_reducible refine LeO.bind ?_ (fun _ => ?_))
   | exact impl_runFrom.mono _ _ _
   | exact LeO.none _
   | refine LeO.ite ?_ ?_
   | refine LeO.bind ?_ (fun _ => ?_)
set_option maxHeartbeats 8000000 in
set_option maxRecDepth 100000 in
theorem impl_hasForm.calls (k : Nat) (a0 : ByteArray) (r : Bool) (w : World) (h : impl_hasForm.f k a0 = some r) :
  Calls Try.prog 88 #[.string a0] w fun e w' => e = .returned (.bool r) ∧ Drawn0 w w' := by
 have H : ((impl_within.f (a0.size : Int) 1 6).bind fun t223 => (if t223 = true then (if 0 < (a0.size : Int) then ((impl_isLetter.f (bt a0 0)).bind fun t224 => (if t224 = true then ((impl_runFrom.f k a0 0).bind fun t225 => (some (t225.toList == a0.toList))) else (some false))) else (none)) else (some false))) = some r := h
 clear h
 replace H := Option.bind_eq_some_iff.mp H
 obtain ⟨t223, A20, H⟩ := H
 try dsimp only at H
 have A2 := A_ A20
 clear A20
 by_cases c3 : t223 = true
 ·subst c3
  rw [if_pos rfl] at H
  by_cases c4 : 0 < (a0.size : Int)
  ·rw [if_pos c4] at H
   have c4b0 := decide_eq_true c4
   have c4b1 : decide (0 < a0.size) = true := decide_eq_true (by omega)
   clear c4
   replace H := Option.bind_eq_some_iff.mp H
   obtain ⟨t224, A60, H⟩ := H
   try dsimp only at H
   have A6 := A_ A60
   clear A60
   by_cases c7 : t224 = true
   ·subst c7
    rw [if_pos rfl] at H
    replace H := Option.bind_eq_some_iff.mp H
    obtain ⟨t225, A80, H⟩ := H
    try dsimp only at H
    have A8 := A_ A80
    clear A80
    obtain rfl := Option.some.inj H
    go_enter Try.func88, Try.ntmps88
    go_wp2_with (first | ((with_reducible refine gate_callee (f := 70) rfl ?_); refine gL_ (some 5) Try.func70 #[.int .i64 (a0.size : Int), .int .i64 1, .int .i64 6] ?_; (with_reducible refine (impl_within.calls (a0.size : Int) 1 6 true _ A2.out).mono ?_); rintro e w' ⟨rfl, ⟨nd, rfl⟩⟩; refine ⟨_, rfl, ?_⟩; have p5 : 0 ≤ (0 : Int) := (by omega); have q5 : 0 < a0.size := (by have : (0 : Int) < (a0.size : Int) := of_decide_eq_true d1_; omega); have hx5 : ∀ h : 0 < a0.size, ((a0[0]'h).toNat : Int) = bt a0 0 := bt_at a0 0; clear p5; have qi5 : (0 < (a0.size : Int)) = True := eq_true (of_decide_eq_true d1_); replace q5 := eq_true q5) | (go_at_call 97; (with_reducible refine (impl_isLetter.calls (bt a0 0) true _ A6.out).mono ?_); rintro e w' ⟨rfl, ⟨nd, rfl⟩⟩) | (go_at_call 98; (with_reducible refine (impl_runFrom.calls k a0 0 t225 _ A8.out).mono ?_); rintro e w' ⟨rfl, ⟨nd, rfl⟩⟩))
    go_ret
    exact ⟨by first | rfl | (simp; done) | (simp [*]; done), by repeat (first | exact Drawn0.refl _ | apply Drawn0.step)⟩
   ·replace c7 := Bool.eq_false_iff.mpr c7
    subst c7
    rw [if_neg (show ¬ (false = true) by decide)] at H
    obtain rfl := Option.some.inj H
    go_enter Try.func88, Try.ntmps88
    go_wp2_with (first | ((with_reducible refine gate_callee (f := 70) rfl ?_); refine gL_ (some 5) Try.func70 #[.int .i64 (a0.size : Int), .int .i64 1, .int .i64 6] ?_; (with_reducible refine (impl_within.calls (a0.size : Int) 1 6 true _ A2.out).mono ?_); rintro e w' ⟨rfl, ⟨nd, rfl⟩⟩; refine ⟨_, rfl, ?_⟩; have p5 : 0 ≤ (0 : Int) := (by omega); have q5 : 0 < a0.size := (by have : (0 : Int) < (a0.size : Int) := of_decide_eq_true d1_; omega); have hx5 : ∀ h : 0 < a0.size, ((a0[0]'h).toNat : Int) = bt a0 0 := bt_at a0 0; clear p5; have qi5 : (0 < (a0.size : Int)) = True := eq_true (of_decide_eq_true d1_); replace q5 := eq_true q5) | (go_at_call 97; (with_reducible refine (impl_isLetter.calls (bt a0 0) false _ A6.out).mono ?_); rintro e w' ⟨rfl, ⟨nd, rfl⟩⟩))
    go_ret
    exact ⟨by first | rfl | (simp; done) | (simp [*]; done), by repeat (first | exact Drawn0.refl _ | apply Drawn0.step)⟩
  ·rw [if_neg c4] at H
   exact absurd H (by simp)
 ·replace c3 := Bool.eq_false_iff.mpr c3
  subst c3
  rw [if_neg (show ¬ (false = true) by decide)] at H
  obtain rfl := Option.some.inj H
  go_enter Try.func88, Try.ntmps88
  go_wp2_with (first | ((with_reducible refine gate_callee (f := 70) rfl ?_); refine gL_ (some 5) Try.func70 #[.int .i64 (a0.size : Int), .int .i64 1, .int .i64 6] ?_; (with_reducible refine (impl_within.calls (a0.size : Int) 1 6 false _ A2.out).mono ?_); rintro e w' ⟨rfl, ⟨nd, rfl⟩⟩; refine ⟨_, rfl, ?_⟩))
  go_ret
  exact ⟨by first | rfl | (simp; done) | (simp [*]; done), by repeat (first | exact Drawn0.refl _ | apply Drawn0.step)⟩

/-! ### impl_placeIn: function 77 -/
def impl_placeIn.l0 : Nat → ByteArray → List ByteArray → Int → Int → Option (Int)
 | 0, _, _, _, _ => none
 | k + 1, x1, x7, x8, x9 => if x9 < x8 then (if 0 ≤ x9 then (if x9 < (x7.length : Int) then (if (rdOf ByteArray.empty x7 x9).toList = x1.toList then (some x9) else (impl_placeIn.l0 k x1 x7 x8 (wrap64 (x9 + 1)))) else (none)) else (none)) else (some (-1))
def impl_placeIn.f (k : Nat) (l0 : List ByteArray) (a1 : ByteArray) : Option (Int) := impl_placeIn.l0 k a1 l0 (l0.length : Int) 0
theorem impl_placeIn.mono_l : ∀ k, (∀ y0 y1 y2 y3, LeO (impl_placeIn.l0 k y0 y1 y2 y3) (impl_placeIn.l0 (k + 1) y0 y1 y2 y3))
 | 0 => fun _ _ _ _ r h => by simp [impl_placeIn.l0] at h
 | k + 1 => by
  have ih0 := impl_placeIn.mono_l k
  ·intro y0 y1 y2 y3
   unfold impl_placeIn.l0
   repeat' first
   | (with_reducible exact ih0 _ _ _ _)
   | (with_reducible exact LeO.refl _)
   | (with_reducible exact LeO.none _)
   | (with_reducible refine LeO.ite ?_ ?_)
   | (with_reducible refine LeO.bind ?_ (fun _ => ?_))
   | exact ih0 _ _ _ _
   | exact LeO.none _
   | refine LeO.ite ?_ ?_
   | refine LeO.bind ?_ (fun _ => ?_)
theorem impl_placeIn.mono : ∀ a0 a1 k, LeO (impl_placeIn.f k a0 a1) (impl_placeIn.f (k + 1) a0 a1) := by
 intro a0 a1 k
 have ih0 := impl_placeIn.mono_l k
 unfold impl_placeIn.f
 repeat' first
   | (with_reducible exact ih0 _ _ _ _)
   | (with_reducible exact LeO.refl _)
   | (with_reducible exact LeO.none _)
   | (with_reducible refine LeO.ite ?_ ?_)
   | (with_reducible refine LeO.bind ?_ (fun _ => ?_))
   | exact ih0 _ _ _ _
   | exact LeO.none _
   | refine LeO.ite ?_ ?_
   | refine LeO.bind ?_ (fun _ => ?_)
set_option maxHeartbeats 8000000 in
set_option maxRecDepth 100000 in
theorem impl_placeIn.calls (k : Nat) (A0 : Option Addr) (c0 : Nat) (l0 : List ByteArray) (a1 : ByteArray) (r : Int) (w : World) (hr0 : Kd.C Kd.string w A0 l0.length l0) (hc0 : l0.length ≤ c0) (h : impl_placeIn.f k l0 a1 = some r) :
  Calls Try.prog 77 #[.slice A0 l0.length c0, .string a1] w fun e w' => e = .returned (.int .i64 r) ∧ Drawn0 w w' := by
 have HR0 := A_ hr0
 have HC0 := A_ hc0
 clear hr0 hc0
 have H : (impl_placeIn.l0 k a1 l0 (l0.length : Int) 0) = some r := h
 clear h
 have H' := A_ H
 clear H
 go_enter Try.func77, Try.ntmps77
 go_wp2
 go_loopg [9] k (fun kq v9 w' => ∃ (x9_1 : Int), v9 = .int .i64 x9_1 ∧ Aside0 (impl_placeIn.l0 kq a1 l0 (l0.length : Int) x9_1 = some r) ∧ Aside0 (kq ≤ k) ∧ Drawn0 w w')
 case atStart => exact ⟨(0), d2_, H', ⟨Nat.le_refl _⟩, by repeat (first | exact Drawn0.refl _ | apply Drawn0.step)⟩
 case round =>
  clear H'
  try clear p2
  obtain ⟨x9_1, rfl, HA, HK1, ⟨m1, rfl⟩⟩ := hrel
  cases gk with
  | zero => exact absurd HA.out (by simp [impl_placeIn.l0])
  | succ k1 =>
   have H := HA.out
   clear HA
   simp only [impl_placeIn.l0] at H
   by_cases c3 : x9_1 < (l0.length : Int)
   ·rw [if_pos c3] at H
    have c3b0 := decide_eq_true c3
    clear c3
    by_cases c4 : 0 ≤ x9_1
    ·rw [if_pos c4] at H
     have c4b0 := decide_eq_true c4
     clear c4
     by_cases c5 : x9_1 < (l0.length : Int)
     ·rw [if_pos c5] at H
      have c5b0 := decide_eq_true c5
      clear c5
      by_cases c6 : (rdOf ByteArray.empty l0 x9_1).toList = a1.toList
      ·rw [if_pos c6] at H
       have c6b0 := beq_iff_eq.mpr c6
       have c6b1 := bne_eq_false_iff_eq.mpr c6
       clear c6
       obtain rfl := Option.some.inj H
       have p226 : 0 ≤ (x9_1 : Int) := of_decide_eq_true d1_
       have q226 : x9_1 < (l0.length : Int) := of_decide_eq_true d1_
       obtain ⟨ad226, e226, hx226_0⟩ := Kd.at_string HR0.out x9_1 p226 q226
       cases e226
       replace p226 := eq_true p226
       replace q226 := eq_true q226
       go_wp2
       go_ret
       exact ⟨by first | rfl | (simp; done) | (simp [*]; done), by repeat (first | exact Drawn0.refl _ | apply Drawn0.step)⟩
      ·rw [if_neg c6] at H
       have c6b0 := beq_eq_false_iff_ne.mpr c6
       have c6b1 := bne_iff_ne.mpr c6
       have H' := A_ H
       clear H
       have p226 : 0 ≤ (x9_1 : Int) := of_decide_eq_true d1_
       have q226 : x9_1 < (l0.length : Int) := of_decide_eq_true d1_
       obtain ⟨ad226, e226, hx226_0⟩ := Kd.at_string HR0.out x9_1 p226 q226
       cases e226
       replace p226 := eq_true p226
       replace q226 := eq_true q226
       go_wp2
       go_roundg k1
       case measure => have := HK1.out; omega
       case rel => exact ⟨(wrap64 (x9_1 + 1)), d2_, H', ⟨by have := HK1.out; omega⟩, by repeat (first | exact Drawn0.refl _ | apply Drawn0.step)⟩
     ·rw [if_neg c5] at H
      exact absurd H (by simp)
    ·rw [if_neg c4] at H
     exact absurd H (by simp)
   ·rw [if_neg c3] at H
    have c3b0 := decide_eq_false c3
    clear c3
    obtain rfl := Option.some.inj H
    go_wp2
    go_ret
    exact ⟨by first | rfl | (simp; done) | (simp [*]; done), by repeat (first | exact Drawn0.refl _ | apply Drawn0.step)⟩

/-! ### impl_opWords: function 99 -/
def impl_opWords.f  : Option (List ByteArray) := some (([(⟨#[109, 111, 118]⟩ : ByteArray), (⟨#[99, 109, 112]⟩ : ByteArray), (⟨#[98, 105, 99]⟩ : ByteArray), (⟨#[98, 105, 115]⟩ : ByteArray), (⟨#[97, 100, 100]⟩ : ByteArray), (⟨#[115, 117, 98]⟩ : ByteArray), (⟨#[99, 108, 114]⟩ : ByteArray), (⟨#[105, 110, 99]⟩ : ByteArray), (⟨#[100, 101, 99]⟩ : ByteArray), (⟨#[110, 101, 103]⟩ : ByteArray), (⟨#[116, 115, 116]⟩ : ByteArray), (⟨#[97, 115, 114]⟩ : ByteArray), (⟨#[97, 115, 108]⟩ : ByteArray), (⟨#[106, 109, 112]⟩ : ByteArray), (⟨#[106, 115, 114]⟩ : ByteArray), (⟨#[114, 116, 115]⟩ : ByteArray), (⟨#[98, 114]⟩ : ByteArray), (⟨#[98, 110, 101]⟩ : ByteArray), (⟨#[98, 101, 113]⟩ : ByteArray), (⟨#[98, 103, 101]⟩ : ByteArray), (⟨#[98, 108, 116]⟩ : ByteArray), (⟨#[104, 97, 108, 116]⟩ : ByteArray), (⟨#[101, 109, 116]⟩ : ByteArray)] : List ByteArray))
set_option maxHeartbeats 8000000 in
set_option maxRecDepth 100000 in
theorem impl_opWords.calls  (r : List ByteArray) (w : World) (h : impl_opWords.f  = some r) :
  Calls Try.prog 99 #[] w fun e w' => ∃ v0_ : Value, e = .returned (v0_) ∧ Kd.R Kd.string 9 w' w.heap.size (fun _ => True) v0_ r ∧ Below w.heap.size w w' := by
 have HB := A_ (Below.refl w.heap.size w)
 have H : (some (([(⟨#[109, 111, 118]⟩ : ByteArray), (⟨#[99, 109, 112]⟩ : ByteArray), (⟨#[98, 105, 99]⟩ : ByteArray), (⟨#[98, 105, 115]⟩ : ByteArray), (⟨#[97, 100, 100]⟩ : ByteArray), (⟨#[115, 117, 98]⟩ : ByteArray), (⟨#[99, 108, 114]⟩ : ByteArray), (⟨#[105, 110, 99]⟩ : ByteArray), (⟨#[100, 101, 99]⟩ : ByteArray), (⟨#[110, 101, 103]⟩ : ByteArray), (⟨#[116, 115, 116]⟩ : ByteArray), (⟨#[97, 115, 114]⟩ : ByteArray), (⟨#[97, 115, 108]⟩ : ByteArray), (⟨#[106, 109, 112]⟩ : ByteArray), (⟨#[106, 115, 114]⟩ : ByteArray), (⟨#[114, 116, 115]⟩ : ByteArray), (⟨#[98, 114]⟩ : ByteArray), (⟨#[98, 110, 101]⟩ : ByteArray), (⟨#[98, 101, 113]⟩ : ByteArray), (⟨#[98, 103, 101]⟩ : ByteArray), (⟨#[98, 108, 116]⟩ : ByteArray), (⟨#[104, 97, 108, 116]⟩ : ByteArray), (⟨#[101, 109, 116]⟩ : ByteArray)] : List ByteArray))) = some r := h
 clear h
 obtain ⟨y227, hy227⟩ : ∃ y_ : List ByteArray, y_ = (([(⟨#[109, 111, 118]⟩ : ByteArray), (⟨#[99, 109, 112]⟩ : ByteArray), (⟨#[98, 105, 99]⟩ : ByteArray), (⟨#[98, 105, 115]⟩ : ByteArray), (⟨#[97, 100, 100]⟩ : ByteArray), (⟨#[115, 117, 98]⟩ : ByteArray), (⟨#[99, 108, 114]⟩ : ByteArray), (⟨#[105, 110, 99]⟩ : ByteArray), (⟨#[100, 101, 99]⟩ : ByteArray), (⟨#[110, 101, 103]⟩ : ByteArray), (⟨#[116, 115, 116]⟩ : ByteArray), (⟨#[97, 115, 114]⟩ : ByteArray), (⟨#[97, 115, 108]⟩ : ByteArray), (⟨#[106, 109, 112]⟩ : ByteArray), (⟨#[106, 115, 114]⟩ : ByteArray), (⟨#[114, 116, 115]⟩ : ByteArray), (⟨#[98, 114]⟩ : ByteArray), (⟨#[98, 110, 101]⟩ : ByteArray), (⟨#[98, 101, 113]⟩ : ByteArray), (⟨#[98, 103, 101]⟩ : ByteArray), (⟨#[98, 108, 116]⟩ : ByteArray), (⟨#[104, 97, 108, 116]⟩ : ByteArray), (⟨#[101, 109, 116]⟩ : ByteArray)] : List ByteArray)) := ⟨_, rfl⟩
 replace H : (some y227) = some r := by first | (rw [hy227]; with_reducible exact H) | (have H2_ := (Option.bind_some _ _).symm.trans H; rw [hy227]; with_reducible exact H2_) | (have H2_ := (Option.bind_some _ _).symm.trans H; with_reducible exact H2_) | with_reducible exact H | (rw [hy227]; exact H) | exact H
 have Ny227 := A_ hy227
 clear hy227
 obtain rfl := Option.some.inj H
 go_enter Try.func99, Try.ntmps99
 go_wp2_with (first | ((with_reducible refine gate_dst (N := 1) rfl ?_); refine Kd.R_lit Kd.string _ 9 ?hg (N := 1) ?hd (xs := ([(⟨#[109, 111, 118]⟩ : ByteArray), (⟨#[99, 109, 112]⟩ : ByteArray), (⟨#[98, 105, 99]⟩ : ByteArray), (⟨#[98, 105, 115]⟩ : ByteArray), (⟨#[97, 100, 100]⟩ : ByteArray), (⟨#[115, 117, 98]⟩ : ByteArray), (⟨#[99, 108, 114]⟩ : ByteArray), (⟨#[105, 110, 99]⟩ : ByteArray), (⟨#[100, 101, 99]⟩ : ByteArray), (⟨#[110, 101, 103]⟩ : ByteArray), (⟨#[116, 115, 116]⟩ : ByteArray), (⟨#[97, 115, 114]⟩ : ByteArray), (⟨#[97, 115, 108]⟩ : ByteArray), (⟨#[106, 109, 112]⟩ : ByteArray), (⟨#[106, 115, 114]⟩ : ByteArray), (⟨#[114, 116, 115]⟩ : ByteArray), (⟨#[98, 114]⟩ : ByteArray), (⟨#[98, 110, 101]⟩ : ByteArray), (⟨#[98, 101, 113]⟩ : ByteArray), (⟨#[98, 103, 101]⟩ : ByteArray), (⟨#[98, 108, 116]⟩ : ByteArray), (⟨#[104, 97, 108, 116]⟩ : ByteArray), (⟨#[101, 109, 116]⟩ : ByteArray)] : List ByteArray)) (inner := [.string (⟨#[109, 111, 118]⟩ : ByteArray), .string (⟨#[99, 109, 112]⟩ : ByteArray), .string (⟨#[98, 105, 99]⟩ : ByteArray), .string (⟨#[98, 105, 115]⟩ : ByteArray), .string (⟨#[97, 100, 100]⟩ : ByteArray), .string (⟨#[115, 117, 98]⟩ : ByteArray), .string (⟨#[99, 108, 114]⟩ : ByteArray), .string (⟨#[105, 110, 99]⟩ : ByteArray), .string (⟨#[100, 101, 99]⟩ : ByteArray), .string (⟨#[110, 101, 103]⟩ : ByteArray), .string (⟨#[116, 115, 116]⟩ : ByteArray), .string (⟨#[97, 115, 114]⟩ : ByteArray), .string (⟨#[97, 115, 108]⟩ : ByteArray), .string (⟨#[106, 109, 112]⟩ : ByteArray), .string (⟨#[106, 115, 114]⟩ : ByteArray), .string (⟨#[114, 116, 115]⟩ : ByteArray), .string (⟨#[98, 114]⟩ : ByteArray), .string (⟨#[98, 110, 101]⟩ : ByteArray), .string (⟨#[98, 101, 113]⟩ : ByteArray), .string (⟨#[98, 103, 101]⟩ : ByteArray), .string (⟨#[98, 108, 116]⟩ : ByteArray), .string (⟨#[104, 97, 108, 116]⟩ : ByteArray), .string (⟨#[101, 109, 116]⟩ : ByteArray)]) (ok := fun _ => True) (okp := fun _ => True) ?hr ?hp (fun _ hk => hk) trivial (Below.refl _ _) (Nat.le_refl _) (by simp) ?_; (case hd => rfl); (case hg => rfl); (case hr => first | (go_simp; done) | (go_simp; rfl)); (case hp => exact (Reps.one (show Kd.M Kd.string _ _ _ (⟨#[109, 111, 118]⟩ : ByteArray) [.string (⟨#[109, 111, 118]⟩ : ByteArray)] from rfl) (Reps.one (show Kd.M Kd.string _ _ _ (⟨#[99, 109, 112]⟩ : ByteArray) [.string (⟨#[99, 109, 112]⟩ : ByteArray)] from rfl) (Reps.one (show Kd.M Kd.string _ _ _ (⟨#[98, 105, 99]⟩ : ByteArray) [.string (⟨#[98, 105, 99]⟩ : ByteArray)] from rfl) (Reps.one (show Kd.M Kd.string _ _ _ (⟨#[98, 105, 115]⟩ : ByteArray) [.string (⟨#[98, 105, 115]⟩ : ByteArray)] from rfl) (Reps.one (show Kd.M Kd.string _ _ _ (⟨#[97, 100, 100]⟩ : ByteArray) [.string (⟨#[97, 100, 100]⟩ : ByteArray)] from rfl) (Reps.one (show Kd.M Kd.string _ _ _ (⟨#[115, 117, 98]⟩ : ByteArray) [.string (⟨#[115, 117, 98]⟩ : ByteArray)] from rfl) (Reps.one (show Kd.M Kd.string _ _ _ (⟨#[99, 108, 114]⟩ : ByteArray) [.string (⟨#[99, 108, 114]⟩ : ByteArray)] from rfl) (Reps.one (show Kd.M Kd.string _ _ _ (⟨#[105, 110, 99]⟩ : ByteArray) [.string (⟨#[105, 110, 99]⟩ : ByteArray)] from rfl) (Reps.one (show Kd.M Kd.string _ _ _ (⟨#[100, 101, 99]⟩ : ByteArray) [.string (⟨#[100, 101, 99]⟩ : ByteArray)] from rfl) (Reps.one (show Kd.M Kd.string _ _ _ (⟨#[110, 101, 103]⟩ : ByteArray) [.string (⟨#[110, 101, 103]⟩ : ByteArray)] from rfl) (Reps.one (show Kd.M Kd.string _ _ _ (⟨#[116, 115, 116]⟩ : ByteArray) [.string (⟨#[116, 115, 116]⟩ : ByteArray)] from rfl) (Reps.one (show Kd.M Kd.string _ _ _ (⟨#[97, 115, 114]⟩ : ByteArray) [.string (⟨#[97, 115, 114]⟩ : ByteArray)] from rfl) (Reps.one (show Kd.M Kd.string _ _ _ (⟨#[97, 115, 108]⟩ : ByteArray) [.string (⟨#[97, 115, 108]⟩ : ByteArray)] from rfl) (Reps.one (show Kd.M Kd.string _ _ _ (⟨#[106, 109, 112]⟩ : ByteArray) [.string (⟨#[106, 109, 112]⟩ : ByteArray)] from rfl) (Reps.one (show Kd.M Kd.string _ _ _ (⟨#[106, 115, 114]⟩ : ByteArray) [.string (⟨#[106, 115, 114]⟩ : ByteArray)] from rfl) (Reps.one (show Kd.M Kd.string _ _ _ (⟨#[114, 116, 115]⟩ : ByteArray) [.string (⟨#[114, 116, 115]⟩ : ByteArray)] from rfl) (Reps.one (show Kd.M Kd.string _ _ _ (⟨#[98, 114]⟩ : ByteArray) [.string (⟨#[98, 114]⟩ : ByteArray)] from rfl) (Reps.one (show Kd.M Kd.string _ _ _ (⟨#[98, 110, 101]⟩ : ByteArray) [.string (⟨#[98, 110, 101]⟩ : ByteArray)] from rfl) (Reps.one (show Kd.M Kd.string _ _ _ (⟨#[98, 101, 113]⟩ : ByteArray) [.string (⟨#[98, 101, 113]⟩ : ByteArray)] from rfl) (Reps.one (show Kd.M Kd.string _ _ _ (⟨#[98, 103, 101]⟩ : ByteArray) [.string (⟨#[98, 103, 101]⟩ : ByteArray)] from rfl) (Reps.one (show Kd.M Kd.string _ _ _ (⟨#[98, 108, 116]⟩ : ByteArray) [.string (⟨#[98, 108, 116]⟩ : ByteArray)] from rfl) (Reps.one (show Kd.M Kd.string _ _ _ (⟨#[104, 97, 108, 116]⟩ : ByteArray) [.string (⟨#[104, 97, 108, 116]⟩ : ByteArray)] from rfl) (Reps.one (show Kd.M Kd.string _ _ _ (⟨#[101, 109, 116]⟩ : ByteArray) [.string (⟨#[101, 109, 116]⟩ : ByteArray)] from rfl) (Reps.none _ _))))))))))))))))))))))))); intro v228 w1 ho2 hb hg_ hnew_; clear hg_ hnew_; (first | rw [← Ny227.out] at ho2 | (simp only [Int.reduceToNat] at ho2; rw [← Ny227.out] at ho2)); have HO229 := A_ (Kd.R_lower ho2 (below_size (bw_ HB.out))); replace HB := A_ (below_step (bw_ HB.out) hb); clear hb ho2))
 go_ret
 exact ⟨_, by first | rfl | (simp [errW_none, errW_some] <;> rfl) | (simp [*, errW_none, errW_some] <;> rfl), kr_ HO229.out, bw_ HB.out⟩

/-! ### impl_regWords: function 100 -/
def impl_regWords.f  : Option (List ByteArray) := some (([(⟨#[114, 48]⟩ : ByteArray), (⟨#[114, 49]⟩ : ByteArray), (⟨#[114, 50]⟩ : ByteArray), (⟨#[114, 51]⟩ : ByteArray), (⟨#[114, 52]⟩ : ByteArray), (⟨#[114, 53]⟩ : ByteArray), (⟨#[115, 112]⟩ : ByteArray), (⟨#[112, 99]⟩ : ByteArray)] : List ByteArray))
set_option maxHeartbeats 8000000 in
set_option maxRecDepth 100000 in
theorem impl_regWords.calls  (r : List ByteArray) (w : World) (h : impl_regWords.f  = some r) :
  Calls Try.prog 100 #[] w fun e w' => ∃ v0_ : Value, e = .returned (v0_) ∧ Kd.R Kd.string 9 w' w.heap.size (fun _ => True) v0_ r ∧ Below w.heap.size w w' := by
 have HB := A_ (Below.refl w.heap.size w)
 have H : (some (([(⟨#[114, 48]⟩ : ByteArray), (⟨#[114, 49]⟩ : ByteArray), (⟨#[114, 50]⟩ : ByteArray), (⟨#[114, 51]⟩ : ByteArray), (⟨#[114, 52]⟩ : ByteArray), (⟨#[114, 53]⟩ : ByteArray), (⟨#[115, 112]⟩ : ByteArray), (⟨#[112, 99]⟩ : ByteArray)] : List ByteArray))) = some r := h
 clear h
 obtain ⟨y230, hy230⟩ : ∃ y_ : List ByteArray, y_ = (([(⟨#[114, 48]⟩ : ByteArray), (⟨#[114, 49]⟩ : ByteArray), (⟨#[114, 50]⟩ : ByteArray), (⟨#[114, 51]⟩ : ByteArray), (⟨#[114, 52]⟩ : ByteArray), (⟨#[114, 53]⟩ : ByteArray), (⟨#[115, 112]⟩ : ByteArray), (⟨#[112, 99]⟩ : ByteArray)] : List ByteArray)) := ⟨_, rfl⟩
 replace H : (some y230) = some r := by first | (rw [hy230]; with_reducible exact H) | (have H2_ := (Option.bind_some _ _).symm.trans H; rw [hy230]; with_reducible exact H2_) | (have H2_ := (Option.bind_some _ _).symm.trans H; with_reducible exact H2_) | with_reducible exact H | (rw [hy230]; exact H) | exact H
 have Ny230 := A_ hy230
 clear hy230
 obtain rfl := Option.some.inj H
 go_enter Try.func100, Try.ntmps100
 go_wp2_with (first | ((with_reducible refine gate_dst (N := 1) rfl ?_); refine Kd.R_lit Kd.string _ 9 ?hg (N := 1) ?hd (xs := ([(⟨#[114, 48]⟩ : ByteArray), (⟨#[114, 49]⟩ : ByteArray), (⟨#[114, 50]⟩ : ByteArray), (⟨#[114, 51]⟩ : ByteArray), (⟨#[114, 52]⟩ : ByteArray), (⟨#[114, 53]⟩ : ByteArray), (⟨#[115, 112]⟩ : ByteArray), (⟨#[112, 99]⟩ : ByteArray)] : List ByteArray)) (inner := [.string (⟨#[114, 48]⟩ : ByteArray), .string (⟨#[114, 49]⟩ : ByteArray), .string (⟨#[114, 50]⟩ : ByteArray), .string (⟨#[114, 51]⟩ : ByteArray), .string (⟨#[114, 52]⟩ : ByteArray), .string (⟨#[114, 53]⟩ : ByteArray), .string (⟨#[115, 112]⟩ : ByteArray), .string (⟨#[112, 99]⟩ : ByteArray)]) (ok := fun _ => True) (okp := fun _ => True) ?hr ?hp (fun _ hk => hk) trivial (Below.refl _ _) (Nat.le_refl _) (by simp) ?_; (case hd => rfl); (case hg => rfl); (case hr => first | (go_simp; done) | (go_simp; rfl)); (case hp => exact (Reps.one (show Kd.M Kd.string _ _ _ (⟨#[114, 48]⟩ : ByteArray) [.string (⟨#[114, 48]⟩ : ByteArray)] from rfl) (Reps.one (show Kd.M Kd.string _ _ _ (⟨#[114, 49]⟩ : ByteArray) [.string (⟨#[114, 49]⟩ : ByteArray)] from rfl) (Reps.one (show Kd.M Kd.string _ _ _ (⟨#[114, 50]⟩ : ByteArray) [.string (⟨#[114, 50]⟩ : ByteArray)] from rfl) (Reps.one (show Kd.M Kd.string _ _ _ (⟨#[114, 51]⟩ : ByteArray) [.string (⟨#[114, 51]⟩ : ByteArray)] from rfl) (Reps.one (show Kd.M Kd.string _ _ _ (⟨#[114, 52]⟩ : ByteArray) [.string (⟨#[114, 52]⟩ : ByteArray)] from rfl) (Reps.one (show Kd.M Kd.string _ _ _ (⟨#[114, 53]⟩ : ByteArray) [.string (⟨#[114, 53]⟩ : ByteArray)] from rfl) (Reps.one (show Kd.M Kd.string _ _ _ (⟨#[115, 112]⟩ : ByteArray) [.string (⟨#[115, 112]⟩ : ByteArray)] from rfl) (Reps.one (show Kd.M Kd.string _ _ _ (⟨#[112, 99]⟩ : ByteArray) [.string (⟨#[112, 99]⟩ : ByteArray)] from rfl) (Reps.none _ _)))))))))); intro v231 w1 ho2 hb hg_ hnew_; clear hg_ hnew_; (first | rw [← Ny230.out] at ho2 | (simp only [Int.reduceToNat] at ho2; rw [← Ny230.out] at ho2)); have HO232 := A_ (Kd.R_lower ho2 (below_size (bw_ HB.out))); replace HB := A_ (below_step (bw_ HB.out) hb); clear hb ho2))
 go_ret
 exact ⟨_, by first | rfl | (simp [errW_none, errW_some] <;> rfl) | (simp [*, errW_none, errW_some] <;> rfl), kr_ HO232.out, bw_ HB.out⟩

/-! ### impl_isKept: function 89 -/
def impl_isKept.f (k : Nat) (a0 : ByteArray) : Option (Bool) := (impl_opWords.f).bind fun t233 => ((impl_placeIn.f k t233 a0).bind fun t236 => (if t236 ≥ 0 then (some true) else ((impl_regWords.f).bind fun t237 => ((impl_placeIn.f k t237 a0).bind fun t240 => (some (decide (t240 ≥ 0)))))))
theorem impl_isKept.mono : ∀ a0 k, LeO (impl_isKept.f k a0) (impl_isKept.f (k + 1) a0) := by
 intro a0 k
 unfold impl_isKept.f
 repeat' first
   | (with_reducible exact impl_placeIn.mono _ _ _)
   | (with_reducible exact LeO.refl _)
   | (with_reducible exact LeO.none _)
   | (with_reducible refine LeO.ite ?_ ?_)
   | (with_reducible refine LeO.bind ?_ (fun _ => ?_))
   | exact impl_placeIn.mono _ _ _
   | exact LeO.none _
   | refine LeO.ite ?_ ?_
   | refine LeO.bind ?_ (fun _ => ?_)
set_option maxHeartbeats 8000000 in
set_option maxRecDepth 100000 in
theorem impl_isKept.calls (k : Nat) (a0 : ByteArray) (r : Bool) (w : World) (h : impl_isKept.f k a0 = some r) :
  Calls Try.prog 89 #[.string a0] w fun e w' => e = .returned (.bool r) ∧ Below w.heap.size w w' := by
 have HB := A_ (Below.refl w.heap.size w)
 have H : ((impl_opWords.f).bind fun t233 => ((impl_placeIn.f k t233 a0).bind fun t236 => (if t236 ≥ 0 then (some true) else ((impl_regWords.f).bind fun t237 => ((impl_placeIn.f k t237 a0).bind fun t240 => (some (decide (t240 ≥ 0)))))))) = some r := h
 clear h
 replace H := Option.bind_eq_some_iff.mp H
 obtain ⟨t233, A20, H⟩ := H
 try dsimp only at H
 have A2 := A_ A20
 clear A20
 replace H := Option.bind_eq_some_iff.mp H
 obtain ⟨t236, A30, H⟩ := H
 try dsimp only at H
 have A3 := A_ A30
 clear A30
 by_cases c4 : t236 ≥ 0
 ·rw [if_pos c4] at H
  have c4b0 := decide_eq_true c4
  clear c4
  obtain rfl := Option.some.inj H
  go_enter Try.func89, Try.ntmps89
  go_wp2_with (first | ((with_reducible refine gate_callee (f := 99) rfl ?_); refine gL_ (some 3) Try.func99 #[] ?_; (with_reducible refine (impl_opWords.calls  t233 _ A2.out).mono ?_); rintro e w5 ⟨v234, rfl, ho0, hb⟩; refine ⟨_, rfl, ?_⟩; have HO235 := A_ (Kd.R_lower ho0 (below_size (bw_ HB.out))); replace HB := A_ (below_step (bw_ HB.out) hb); clear hb; (try clear ho0); obtain ⟨Ao6, co6, eo6⟩ := Kd.R_slice HO235.out; subst eo6) | ((with_reducible refine gate_callee (f := 77) rfl ?_); refine gL_ (some 5) Try.func77 #[.slice Ao6 t233.length co6, .string a0] ?_; (with_reducible refine (impl_placeIn.calls k _ _ t233 a0 t236 _ ?side1 ?side2 A3.out).mono ?_); (case side1 => repeat (first | exact (Kd.R_reads' HO235.out).2.2 | (with_reducible refine Kd.C_alloc ?_ _) | (with_reducible refine Kd.C_drewN ?_ _) | (with_reducible refine Kd.C_drew ?_))); (case side2 => exact (Kd.R_reads' HO235.out).2.1); rintro e w' ⟨rfl, ⟨nd, rfl⟩⟩; refine ⟨_, rfl, ?_⟩))
  go_ret
  exact rt_ (bw_ HB.out)
 ·rw [if_neg c4] at H
  have c4b0 := decide_eq_false c4
  clear c4
  replace H := Option.bind_eq_some_iff.mp H
  obtain ⟨t237, A70, H⟩ := H
  try dsimp only at H
  have A7 := A_ A70
  clear A70
  replace H := Option.bind_eq_some_iff.mp H
  obtain ⟨t240, A80, H⟩ := H
  try dsimp only at H
  have A8 := A_ A80
  clear A80
  obtain rfl := Option.some.inj H
  go_enter Try.func89, Try.ntmps89
  go_wp2_with (first | ((with_reducible refine gate_callee (f := 99) rfl ?_); refine gL_ (some 3) Try.func99 #[] ?_; (with_reducible refine (impl_opWords.calls  t233 _ A2.out).mono ?_); rintro e w9 ⟨v234, rfl, ho0, hb⟩; refine ⟨_, rfl, ?_⟩; have HO235 := A_ (Kd.R_lower ho0 (below_size (bw_ HB.out))); replace HB := A_ (below_step (bw_ HB.out) hb); clear hb; (try clear ho0); obtain ⟨Ao10, co10, eo10⟩ := Kd.R_slice HO235.out; subst eo10) | ((with_reducible refine gate_callee (f := 77) rfl ?_); refine gL_ (some 5) Try.func77 #[.slice Ao10 t233.length co10, .string a0] ?_; (with_reducible refine (impl_placeIn.calls k _ _ t233 a0 t236 _ ?side1 ?side2 A3.out).mono ?_); (case side1 => repeat (first | exact (Kd.R_reads' HO235.out).2.2 | (with_reducible refine Kd.C_alloc ?_ _) | (with_reducible refine Kd.C_drewN ?_ _) | (with_reducible refine Kd.C_drew ?_))); (case side2 => exact (Kd.R_reads' HO235.out).2.1); rintro e w' ⟨rfl, ⟨nd, rfl⟩⟩; refine ⟨_, rfl, ?_⟩) | (go_at_call 100; (with_reducible refine (impl_regWords.calls  t237 _ A7.out).mono ?_); rintro e w11 ⟨v238, rfl, ho0, hb⟩; have HO239 := A_ (Kd.R_lower (Kd.R_new' ho0 (Kd.R_lt (kr_ HO235.out))) (below_size (bw_ HB.out))); replace HO235 := A_ (Kd.R_elder' (kr_ HO235.out) (Kd.R_base ho0) hb); replace HB := A_ (below_step (bw_ HB.out) hb); clear hb; (try clear ho0); obtain ⟨Ao12, co12, eo12⟩ := Kd.R_slice HO239.out; subst eo12) | (go_at_call 77; (with_reducible refine (impl_placeIn.calls k _ _ t237 a0 t240 _ ?side1 ?side2 A8.out).mono ?_); (case side1 => repeat (first | exact (Kd.R_reads' HO239.out).2.2 | (with_reducible refine Kd.C_alloc ?_ _) | (with_reducible refine Kd.C_drewN ?_ _) | (with_reducible refine Kd.C_drew ?_))); (case side2 => exact (Kd.R_reads' HO239.out).2.1); rintro e w' ⟨rfl, ⟨nd, rfl⟩⟩))
  go_ret
  exact rt_ (bw_ HB.out)

end Go.Proofs.Ytcpnhlhigpgonaa.PFnExactPut
