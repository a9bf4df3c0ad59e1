-- Laid by a program of this session (a changed copy of the kit's printer); Lean checks every line.
import Derived.Test.YtcpnhlhigpgonaaPFnPutInx0
import Derived.Test.YtcpnhlhigpgonaaPFnPutInx6
import Derived.Test.YtcpnhlhigpgonaaPFnPutInx8
namespace Go.Proofs.Ytcpnhlhigpgonaa.PFnPutIn
open Go.RowKit Go.Proofs.YtcpnhlhigpgonaaW.PrintWords Go.Proofs.YtcpnhlhigpgonaaW.PrintLast Go.Proofs.YtcpnhlhigpgonaaW.PrintMore
attribute [local go_sem] max2_int min2_int max_two min_two max_three min_three max_four min_four   -- for this text's walks alone
set_option linter.unusedVariables false
set_option linter.unusedSimpArgs false

/-! ### spec_Put: function 32 -/
mutual
def spec_Put.j0 : Nat → List ByteArray → List (S29) → Bool → Int → Int → ByteArray → List (S29) → Int → Int → ByteArray → List (S29) → Option (Int × Int × ByteArray × (List (S29)))
 | 0, _, _, _, _, _, _, _, _, _, _, _ => none
 | k + 1, x2, x3, x25, x256000, x256001, x256002, x256003, x257000, x257001, x257002, x257003 => if x25 = true then (some (0, 0, (⟨#[]⟩ : ByteArray), ([] : List (S29)))) else (spec_Put.l0 k x2 x3 0 x256000 x256001 x256002 x256003 x257000 x257001 x257002 x257003)
def spec_Put.l0 : Nat → List ByteArray → List (S29) → Int → Int → Int → ByteArray → List (S29) → Int → Int → ByteArray → List (S29) → Option (Int × Int × ByteArray × (List (S29)))
 | 0, _, _, _, _, _, _, _, _, _, _, _ => none
 | k + 1, x2, x3, x9, x256000, x256001, x256002, x256003, x257000, x257001, x257002, x257003 => if x9 < (x3.length : Int) then (if 0 ≤ x9 then ((spec_ExprOk.f k ((rd_T29 x3 x9).f0) ((rd_T29 x3 x9).f1) ((rd_T29 x3 x9).f2) ((rd_T29 x3 x9).f3)).bind fun t261 => (if t261 = true then (spec_Put.l0 k x2 x3 (wrap64 (x9 + 1)) x256000 x256001 x256002 x256003 x257000 x257001 x257002 x257003) else (some (0, 0, (⟨#[]⟩ : ByteArray), ([] : List (S29)))))) else (none)) else ((spec_l11Put.f k x256000 x256001 x256002 x256003 x257000 x257001 x257002 x257003 x2 x3).bind fun bt262 => ((spec_ExprOk.f k bt262.1 bt262.2.1 bt262.2.2.1 bt262.2.2.2).bind fun t269 => (if t269 = true then (some (bt262.1, bt262.2.1, bt262.2.2.1, bt262.2.2.2)) else (some (0, 0, (⟨#[]⟩ : ByteArray), ([] : List (S29)))))))
end
def spec_Put.f (k : Nat) (a0_0 : Int) (a0_1 : Int) (a0_2 : ByteArray) (l0_3 : List (S29)) (a1_0 : Int) (a1_1 : Int) (a1_2 : ByteArray) (l1_3 : List (S29)) (l2 : List ByteArray) (l3 : List (S29)) : Option (Int × Int × ByteArray × (List (S29))) := (spec_ExprOk.f k a0_0 a0_1 a0_2 l0_3).bind fun t258 => (if t258 = true then ((spec_ExprOk.f k a1_0 a1_1 a1_2 l1_3).bind fun t259 => (if t259 = true then (spec_Put.j0 k l2 l3 ((l2.length : Int) != (l3.length : Int)) a0_0 a0_1 a0_2 l0_3 a1_0 a1_1 a1_2 l1_3) else (spec_Put.j0 k l2 l3 true a0_0 a0_1 a0_2 l0_3 a1_0 a1_1 a1_2 l1_3))) else (spec_Put.j0 k l2 l3 true a0_0 a0_1 a0_2 l0_3 a1_0 a1_1 a1_2 l1_3))
theorem spec_Put.mono_l : ∀ k, (∀ y0 y1 y2 y3 y4 y5 y6 y7 y8 y9 y10, LeO (spec_Put.j0 k y0 y1 y2 y3 y4 y5 y6 y7 y8 y9 y10) (spec_Put.j0 (k + 1) y0 y1 y2 y3 y4 y5 y6 y7 y8 y9 y10)) ∧ (∀ y0 y1 y2 y3 y4 y5 y6 y7 y8 y9 y10, LeO (spec_Put.l0 k y0 y1 y2 y3 y4 y5 y6 y7 y8 y9 y10) (spec_Put.l0 (k + 1) y0 y1 y2 y3 y4 y5 y6 y7 y8 y9 y10))
 | 0 => ⟨fun _ _ _ _ _ _ _ _ _ _ _ r h => by simp [spec_Put.j0] at h, fun _ _ _ _ _ _ _ _ _ _ _ r h => by simp [spec_Put.l0] at h⟩
 | k + 1 => by
  obtain ⟨ih0, ih1⟩ := spec_Put.mono_l k
  refine ⟨?_, ?_⟩
  ·intro y0 y1 y2 y3 y4 y5 y6 y7 y8 y9 y10
   unfold spec_Put.j0
   repeat' first
   | (with_reducible exact ih0 _ _ _ _ _ _ _ _ _ _ _)
   | (with_reducible exact ih1 _ _ _ _ _ _ _ _ _ _ _)
   | (with_reducible exact spec_ExprOk.mono _ _ _ _ _)
   | (with_reducible exact spec_l11Put.mono _ _ _ _ _ _ _ _ _ _ _)
   | (with_reducible exact LeO.refl _)
   | (with_reducible exact LeO.none _)
   | (with_reducible refine LeO.ite ?_ ?_)
   | (with_reducible refine LeO.bind ?_ (fun _ => ?_))
   | exact ih0 _ _ _ _ _ _ _ _ _ _ _
   | exact ih1 _ _ _ _ _ _ _ _ _ _ _
   | exact spec_ExprOk.mono _ _ _ _ _
   | exact spec_l11Put.mono _ _ _ _ _ _ _ _ _ _ _
   | exact LeO.none _
   | refine LeO.ite ?_ ?_
   | refine LeO.bind ?_ (fun _ => ?_)
  ·intro y0 y1 y2 y3 y4 y5 y6 y7 y8 y9 y10
   unfold spec_Put.l0
   repeat' first
   | (with_reducible exact ih0 _ _ _ _ _ _ _ _ _ _ _)
   | (with_reducible exact ih1 _ _ _ _ _ _ _ _ _ _ _)
   | (with_reducible exact spec_ExprOk.mono _ _ _ _ _)
   | (with_reducible exact spec_l11Put.mono _ _ _ _ _ _ _ _ _ _ _)
   | (with_reducible exact LeO.refl _)
   | (with_reducible exact LeO.none _)
   | (with_reducible refine LeO.ite ?_ ?_)
   | (with_reducible refine LeO.bind ?_ (fun _ => ?_))
   | exact ih0 _ _ _ _ _ _ _ _ _ _ _
   | exact ih1 _ _ _ _ _ _ _ _ _ _ _
   | exact spec_ExprOk.mono _ _ _ _ _
   | exact spec_l11Put.mono _ _ _ _ _ _ _ _ _ _ _
   | exact LeO.none _
   | refine LeO.ite ?_ ?_
   | refine LeO.bind ?_ (fun _ => ?_)
theorem spec_Put.mono : ∀ a0 a1 a2 a3 a4 a5 a6 a7 a8 a9 k, LeO (spec_Put.f k a0 a1 a2 a3 a4 a5 a6 a7 a8 a9) (spec_Put.f (k + 1) a0 a1 a2 a3 a4 a5 a6 a7 a8 a9) := by
 intro a0 a1 a2 a3 a4 a5 a6 a7 a8 a9 k
 obtain ⟨ih0, ih1⟩ := spec_Put.mono_l k
 unfold spec_Put.f
 repeat' first
   | (with_reducible exact ih0 _ _ _ _ _ _ _ _ _ _ _)
   | (with_reducible exact ih1 _ _ _ _ _ _ _ _ _ _ _)
   | (with_reducible exact spec_ExprOk.mono _ _ _ _ _)
   | (with_reducible exact spec_l11Put.mono _ _ _ _ _ _ _ _ _ _ _)
   | (with_reducible exact LeO.refl _)
   | (with_reducible exact LeO.none _)
   | (with_reducible refine LeO.ite ?_ ?_)
   | (with_reducible refine LeO.bind ?_ (fun _ => ?_))
   | exact ih0 _ _ _ _ _ _ _ _ _ _ _
   | exact ih1 _ _ _ _ _ _ _ _ _ _ _
   | exact spec_ExprOk.mono _ _ _ _ _
   | exact spec_l11Put.mono _ _ _ _ _ _ _ _ _ _ _
   | exact LeO.none _
   | refine LeO.ite ?_ ?_
   | refine LeO.bind ?_ (fun _ => ?_)
set_option maxHeartbeats 8000000 in
set_option maxRecDepth 100000 in
theorem spec_Put.calls (k : Nat) (a0_0 : Int) (a0_1 : Int) (a0_2 : ByteArray) (A0_3 : Option Addr) (c0_3 : Nat) (l0_3 : List (S29)) (a1_0 : Int) (a1_1 : Int) (a1_2 : ByteArray) (A1_3 : Option Addr) (c1_3 : Nat) (l1_3 : List (S29)) (A2 : Option Addr) (c2 : Nat) (l2 : List ByteArray) (A3 : Option Addr) (c3 : Nat) (l3 : List (S29)) (r1 : Int) (r2 : Int) (r3 : ByteArray) (r4 : List (S29)) (w : World) (hr0_3 : Kd.C k29 w A0_3 l0_3.length l0_3) (hc0_3 : l0_3.length ≤ c0_3) (hr1_3 : Kd.C k29 w A1_3 l1_3.length l1_3) (hc1_3 : l1_3.length ≤ c1_3) (hr2 : Kd.C Kd.string w A2 l2.length l2) (hc2 : l2.length ≤ c2) (hr3 : Kd.C k29 w A3 l3.length l3) (hc3 : l3.length ≤ c3) (h : spec_Put.f k a0_0 a0_1 a0_2 l0_3 a1_0 a1_1 a1_2 l1_3 l2 l3 = some (r1, r2, r3, r4)) :
  Calls Try.prog 32 #[.agg #[.int .i64 a0_0, .int .i64 a0_1, .string a0_2, .slice A0_3 l0_3.length c0_3], .agg #[.int .i64 a1_0, .int .i64 a1_1, .string a1_2, .slice A1_3 l1_3.length c1_3], .slice A2 l2.length c2, .slice A3 l3.length c3] w fun e w' => ∃ v3_ : Value, e = .returned (.agg #[.int .i64 r1, .int .i64 r2, .string r3, v3_]) ∧ Kd.R k29 29 w' w.heap.size (fun _ => True) v3_ r4 ∧ Below w.heap.size w w' := by
 have hu29 := Try.underlying29
 have HR0_3 := A_ hr0_3
 have HC0_3 := A_ hc0_3
 clear hr0_3 hc0_3
 have HR1_3 := A_ hr1_3
 have HC1_3 := A_ hc1_3
 clear hr1_3 hc1_3
 have HR2 := A_ hr2
 have HC2 := A_ hc2
 clear hr2 hc2
 have HR3 := A_ hr3
 have HC3 := A_ hc3
 clear hr3 hc3
 have HB := A_ (Below.refl w.heap.size w)
 have H : ((spec_ExprOk.f k a0_0 a0_1 a0_2 l0_3).bind fun t258 => (if t258 = true then ((spec_ExprOk.f k a1_0 a1_1 a1_2 l1_3).bind fun t259 => (if t259 = true then (spec_Put.j0 k l2 l3 ((l2.length : Int) != (l3.length : Int)) a0_0 a0_1 a0_2 l0_3 a1_0 a1_1 a1_2 l1_3) else (spec_Put.j0 k l2 l3 true a0_0 a0_1 a0_2 l0_3 a1_0 a1_1 a1_2 l1_3))) else (spec_Put.j0 k l2 l3 true a0_0 a0_1 a0_2 l0_3 a1_0 a1_1 a1_2 l1_3))) = some (r1, r2, r3, r4) := h
 clear h
 have HC5 := A_ H
 clear H
 go_enter Try.func32, Try.ntmps32
 go_upto_region 1 with (first | ((with_reducible refine gate_dst (N := 4) rfl ?_); (try (refine gate_guard (by rfl) ?_; dsimp only)); refine bx_ 4 #[.int .i64 a0_0, .int .i64 a0_1, .string a0_2, .slice A0_3 l0_3.length c0_3] 29 ?_; intro gb255 hg w6 hbox hb; have n0_ := A_ (below_step (bw_ HB.out) hb); have n1_ := A_ (hbox); have n2_ := A_ ((d9_ : w.heap.size ≤ gb255)); have n3_ := n2_; clear HB; have HB := n0_; have BK255 := n1_; have GW255 := n2_; have GE255 := n3_; have GI255 := GeI.mk GE255.out; clear n0_ n1_ n2_ n3_; clear hb hbox hg) | ((with_reducible refine gate_dst (N := 5) rfl ?_); (try (refine gate_guard (by rfl) ?_; dsimp only)); refine bx_ 5 #[.int .i64 a1_0, .int .i64 a1_1, .string a1_2, .slice A1_3 l1_3.length c1_3] 29 ?_; intro gb256 hg w7 hbox hb; have n0_ := A_ (blk_below (bk_ BK255.out) hb); have n1_ := A_ (below_step (bw_ HB.out) hb); have n2_ := A_ (hbox); have n3_ := A_ ((d9_ : w.heap.size ≤ gb256)); have n4_ := n3_; have n5_ := A_ ((d49_ : gb255 ≠ gb256)); have n6_ := A_ n5_.out.symm; clear BK255; clear HB; have BK255 := n0_; have HB := n1_; have BK256 := n2_; have GW256 := n3_; have GE256 := n4_; have GI256 := GeI.mk GE256.out; have NB255_256 := n5_; have NB256_255 := n6_; clear n0_ n1_ n2_ n3_ n4_ n5_ n6_; clear hb hbox hg) | ((with_reducible refine gate_dst (N := 8) rfl ?_); (try (refine gate_guard (by rfl) ?_; dsimp only)); refine bx_ 8 #[.int .i64 0, .int .i64 0, .string (⟨#[]⟩ : ByteArray), .slice none 0 0] 29 ?_; intro gb257 hg w8 hbox hb; have n0_ := A_ (blk_below (bk_ BK255.out) hb); have n1_ := A_ (blk_below (bk_ BK256.out) hb); have n2_ := A_ (below_step (bw_ HB.out) hb); have n3_ := A_ (hbox); have n4_ := A_ ((d9_ : w.heap.size ≤ gb257)); have n5_ := n4_; have n6_ := A_ ((d49_ : gb255 ≠ gb257)); have n7_ := A_ n6_.out.symm; have n8_ := A_ ((by rw [hg]; exact Nat.ne_of_lt (blk_lt (bk_ BK256.out)) : gb256 ≠ gb257)); have n9_ := A_ n8_.out.symm; clear BK255; clear BK256; clear HB; have BK255 := n0_; have BK256 := n1_; have HB := n2_; have BK257 := n3_; have GW257 := n4_; have GE257 := n5_; have GI257 := GeI.mk GE257.out; have NB255_257 := n6_; have NB257_255 := n7_; have NB256_257 := n8_; have NB257_256 := n9_; clear n0_ n1_ n2_ n3_ n4_ n5_ n6_ n7_ n8_ n9_; clear hb hbox hg))
 (try simp only [Act.put, List.setIfInBounds_toArray, List.set_cons_zero, List.set_cons_succ])
 go_cut [25] (fun v25 wc => ∃ (kq : Nat) (x25_4 : Bool), v25 = .bool x25_4 ∧ Aside0 (spec_Put.j0 kq l2 l3 x25_4 a0_0 a0_1 a0_2 l0_3 a1_0 a1_1 a1_2 l1_3 = some (r1, r2, r3, r4)) ∧ Aside0 (kq ≤ k) ∧ Aside0 (wc.heap[gb255]? = some (.cells #[.int .i64 a0_0, .int .i64 a0_1, .string a0_2, (.slice A0_3 l0_3.length c0_3)] 29 (0, 0))) ∧ Aside0 (wc.heap[gb256]? = some (.cells #[.int .i64 a1_0, .int .i64 a1_1, .string a1_2, (.slice A1_3 l1_3.length c1_3)] 29 (0, 0))) ∧ Aside0 (wc.heap[gb257]? = some (.cells #[.int .i64 0, .int .i64 0, .string (⟨#[]⟩ : ByteArray), (.slice none 0 0)] 29 (0, 0))) ∧ Aside0 (Below w.heap.size w wc))
 case first =>
  have H := HC5.out
  clear HC5
  replace H := Option.bind_eq_some_iff.mp H
  obtain ⟨t258, A90, H⟩ := H
  try dsimp only at H
  have A9 := A_ A90
  clear A90
  by_cases c10 : t258 = true
  ·subst c10
   rw [if_pos rfl] at H
   replace H := Option.bind_eq_some_iff.mp H
   obtain ⟨t259, A110, H⟩ := H
   try dsimp only at H
   have A11 := A_ A110
   clear A110
   by_cases c12 : t259 = true
   ·subst c12
    rw [if_pos rfl] at H
    have H' := A_ H
    clear H
    have hnb13 := NB255_256.out
    have hnc13 := NB256_255.out
    have hnb14 := NB255_257.out
    have hnc14 := NB257_255.out
    obtain ⟨y15_0, y15_1, y15_2, y15_3, z15_0, z15_1, z15_2, z15_3⟩ := cz4_ BK255.out
    go_wp2_with (first | ((with_reducible refine gate_callee (f := 17) rfl ?_); refine gL_ (some 12) Try.func17 #[.agg #[.int .i64 a0_0, .int .i64 a0_1, .string a0_2, .slice A0_3 l0_3.length c0_3]] ?_; (with_reducible refine (spec_ExprOk.calls k a0_0 a0_1 a0_2 _ _ l0_3 true _ ?side1 ?side2 A9.out).mono ?_); (case side1 => exact Kd.C_below HR0_3.out (bw_ HB.out)); (case side2 => exact HC0_3.out); rintro e w16 ⟨rfl, hb⟩; refine ⟨_, rfl, ?_⟩; replace BK255 := A_ (blk_below (bk_ BK255.out) hb); replace BK256 := A_ (blk_below (bk_ BK256.out) hb); replace BK257 := A_ (blk_below (bk_ BK257.out) hb); replace HB := A_ (below_step (bw_ HB.out) hb); clear hb; have hnb17 := NB256_257.out; have hnc17 := NB257_256.out; obtain ⟨y18_0, y18_1, y18_2, y18_3, z18_0, z18_1, z18_2, z18_3⟩ := cz4_ BK256.out) | (go_at_call 17; (with_reducible refine (spec_ExprOk.calls k a1_0 a1_1 a1_2 _ _ l1_3 true _ ?side1 ?side2 A11.out).mono ?_); (case side1 => exact Kd.C_below HR1_3.out (bw_ HB.out)); (case side2 => exact HC1_3.out); rintro e w19 ⟨rfl, hb⟩; replace BK255 := A_ (blk_below (bk_ BK255.out) hb); replace BK256 := A_ (blk_below (bk_ BK256.out) hb); replace BK257 := A_ (blk_below (bk_ BK257.out) hb); replace HB := A_ (below_step (bw_ HB.out) hb); clear hb))
    go_meet
    case rel => exact ⟨_, (((l2.length : Int) != (l3.length : Int))), d7_, H', ⟨by first | omega | exact Nat.le_refl _⟩, ⟨by refine bk_ ?_; exact BK255.out⟩, ⟨by refine bk_ ?_; exact BK256.out⟩, ⟨by refine bk_ ?_; exact BK257.out⟩, ⟨bw_ HB.out⟩⟩
   ·replace c12 := Bool.eq_false_iff.mpr c12
    subst c12
    rw [if_neg (show ¬ (false = true) by decide)] at H
    have H' := A_ H
    clear H
    have hnb20 := NB255_256.out
    have hnc20 := NB256_255.out
    have hnb21 := NB255_257.out
    have hnc21 := NB257_255.out
    obtain ⟨y22_0, y22_1, y22_2, y22_3, z22_0, z22_1, z22_2, z22_3⟩ := cz4_ BK255.out
    go_wp2_with (first | ((with_reducible refine gate_callee (f := 17) rfl ?_); refine gL_ (some 12) Try.func17 #[.agg #[.int .i64 a0_0, .int .i64 a0_1, .string a0_2, .slice A0_3 l0_3.length c0_3]] ?_; (with_reducible refine (spec_ExprOk.calls k a0_0 a0_1 a0_2 _ _ l0_3 true _ ?side1 ?side2 A9.out).mono ?_); (case side1 => exact Kd.C_below HR0_3.out (bw_ HB.out)); (case side2 => exact HC0_3.out); rintro e w23 ⟨rfl, hb⟩; refine ⟨_, rfl, ?_⟩; replace BK255 := A_ (blk_below (bk_ BK255.out) hb); replace BK256 := A_ (blk_below (bk_ BK256.out) hb); replace BK257 := A_ (blk_below (bk_ BK257.out) hb); replace HB := A_ (below_step (bw_ HB.out) hb); clear hb; have hnb24 := NB256_257.out; have hnc24 := NB257_256.out; obtain ⟨y25_0, y25_1, y25_2, y25_3, z25_0, z25_1, z25_2, z25_3⟩ := cz4_ BK256.out) | (go_at_call 17; (with_reducible refine (spec_ExprOk.calls k a1_0 a1_1 a1_2 _ _ l1_3 false _ ?side1 ?side2 A11.out).mono ?_); (case side1 => exact Kd.C_below HR1_3.out (bw_ HB.out)); (case side2 => exact HC1_3.out); rintro e w26 ⟨rfl, hb⟩; replace BK255 := A_ (blk_below (bk_ BK255.out) hb); replace BK256 := A_ (blk_below (bk_ BK256.out) hb); replace BK257 := A_ (blk_below (bk_ BK257.out) hb); replace HB := A_ (below_step (bw_ HB.out) hb); clear hb))
    go_meet
    case rel => exact ⟨_, (true), d7_, H', ⟨by first | omega | exact Nat.le_refl _⟩, ⟨by refine bk_ ?_; exact BK255.out⟩, ⟨by refine bk_ ?_; exact BK256.out⟩, ⟨by refine bk_ ?_; exact BK257.out⟩, ⟨bw_ HB.out⟩⟩
  ·replace c10 := Bool.eq_false_iff.mpr c10
   subst c10
   rw [if_neg (show ¬ (false = true) by decide)] at H
   have H' := A_ H
   clear H
   have hnb27 := NB255_256.out
   have hnc27 := NB256_255.out
   have hnb28 := NB255_257.out
   have hnc28 := NB257_255.out
   obtain ⟨y29_0, y29_1, y29_2, y29_3, z29_0, z29_1, z29_2, z29_3⟩ := cz4_ BK255.out
   go_wp2_with (first | ((with_reducible refine gate_callee (f := 17) rfl ?_); refine gL_ (some 12) Try.func17 #[.agg #[.int .i64 a0_0, .int .i64 a0_1, .string a0_2, .slice A0_3 l0_3.length c0_3]] ?_; (with_reducible refine (spec_ExprOk.calls k a0_0 a0_1 a0_2 _ _ l0_3 false _ ?side1 ?side2 A9.out).mono ?_); (case side1 => exact Kd.C_below HR0_3.out (bw_ HB.out)); (case side2 => exact HC0_3.out); rintro e w30 ⟨rfl, hb⟩; refine ⟨_, rfl, ?_⟩; replace BK255 := A_ (blk_below (bk_ BK255.out) hb); replace BK256 := A_ (blk_below (bk_ BK256.out) hb); replace BK257 := A_ (blk_below (bk_ BK257.out) hb); replace HB := A_ (below_step (bw_ HB.out) hb); clear hb))
   go_meet
   case rel => exact ⟨_, (true), d7_, H', ⟨by first | omega | exact Nat.le_refl _⟩, ⟨by refine bk_ ?_; exact BK255.out⟩, ⟨by refine bk_ ?_; exact BK256.out⟩, ⟨by refine bk_ ?_; exact BK257.out⟩, ⟨bw_ HB.out⟩⟩
 case rest =>
  clear HC5
  try clear c1
  try clear c2
  try clear p2
  try clear c3
  try clear c10
  try clear c12
  try clear c13
  try clear c14
  try clear c17
  try clear c20
  try clear c21
  try clear c24
  try clear c27
  try clear c28
  try clear y15_0 y15_1 y15_2 y15_3 z15_0 z15_1 z15_2 z15_3
  try clear y18_0 y18_1 y18_2 y18_3 z18_0 z18_1 z18_2 z18_3
  try clear y22_0 y22_1 y22_2 y22_3 z22_0 z22_1 z22_2 z22_3
  try clear y25_0 y25_1 y25_2 y25_3 z25_0 z25_1 z25_2 z25_3
  try clear y29_0 y29_1 y29_2 y29_3 z29_0 z29_1 z29_2 z29_3
  obtain ⟨kq, x25_4, rfl, HA, HJ4, BK255, BK256, BK257, HB⟩ := hcut
  cases kq with
  | zero => exact absurd HA.out (by simp [spec_Put.j0])
  | succ kj4 =>
   have H := HA.out
   clear HA
   simp only [spec_Put.j0] at H
   by_cases c31 : x25_4 = true
   ·subst c31
    rw [if_pos rfl] at H
    simp only [Option.some.injEq, Prod.mk.injEq] at H
    obtain ⟨rfl, rfl, rfl, rfl⟩ := H
    have hnb32 := NB257_255.out
    have hnc32 := NB255_257.out
    have hnb33 := NB257_256.out
    have hnc33 := NB256_257.out
    obtain ⟨y34_0, y34_1, y34_2, y34_3, z34_0, z34_1, z34_2, z34_3⟩ := cz4_ BK257.out
    go_wp2
    refine bodyPost_ret (results_cell_row rfl _ _ gb257 29 #[.int .i64 0, .int .i64 0, .string (⟨#[]⟩ : ByteArray), .slice none 0 0] (0, 0) _ rfl ?hb_ Try.underlying29 rfl (by kernel_rfl)) rfl ?_
    (case hb_ => exact bk_ (bp4_ (bk_ BK257.out)))
    exact ⟨_, by first | rfl | (simp [errW_none, errW_some] <;> rfl) | (simp [*, errW_none, errW_some] <;> rfl), by first | exact Kd.R_nil _ _ _ _ _ | exact Kd.N_nil _ _ _ _ _ | exact Kd.V_nil _ _ _ _ _ | exact Kd.Q_nil _ _ _ _ _ | exact Kd.S_nil _ _ _ _ _, bw_ HB.out⟩
   ·replace c31 := Bool.eq_false_iff.mpr c31
    subst c31
    rw [if_neg (show ¬ (false = true) by decide)] at H
    have H' := A_ H
    clear H
    go_wp2
    go_loopg [9] kj4 (fun kq v9 w' => ∃ (x9_2 : Int) (x258000_2 : Int) (x258001_2 : Int) (x258002_2 : ByteArray), v9 = .int .i64 x9_2 ∧ Aside0 (spec_Put.l0 kq l2 l3 x9_2 a0_0 a0_1 a0_2 l0_3 a1_0 a1_1 a1_2 l1_3 = some (r1, r2, r3, r4)) ∧ Aside0 (kq ≤ kj4) ∧ Aside0 (w'.heap[gb255]? = some (.cells #[.int .i64 a0_0, .int .i64 a0_1, .string a0_2, (.slice A0_3 l0_3.length c0_3)] 29 (0, 0))) ∧ Aside0 (w'.heap[gb256]? = some (.cells #[.int .i64 a1_0, .int .i64 a1_1, .string a1_2, (.slice A1_3 l1_3.length c1_3)] 29 (0, 0))) ∧ Aside0 (w'.heap[gb257]? = some (.cells #[.int .i64 x258000_2, .int .i64 x258001_2, .string x258002_2, (.slice none 0 0)] 29 (0, 0))) ∧ Aside0 (Below w.heap.size w w'))
    case atStart => exact ⟨(0), (0), (0), ((⟨#[]⟩ : ByteArray)), d7_, H', ⟨Nat.le_refl _⟩, ⟨by refine bk_ ?_; exact BK255.out⟩, ⟨by refine bk_ ?_; exact BK256.out⟩, ⟨by refine bk_ ?_; exact BK257.out⟩, ⟨bw_ HB.out⟩⟩
    case round =>
     clear H'
     try clear c1
     try clear c2
     try clear p2
     try clear c3
     try clear c10
     try clear c12
     try clear c13
     try clear c14
     try clear c17
     try clear c20
     try clear c21
     try clear c24
     try clear c27
     try clear c28
     try clear c31
     try clear c32
     try clear c33
     try clear y15_0 y15_1 y15_2 y15_3 z15_0 z15_1 z15_2 z15_3
     try clear y18_0 y18_1 y18_2 y18_3 z18_0 z18_1 z18_2 z18_3
     try clear y22_0 y22_1 y22_2 y22_3 z22_0 z22_1 z22_2 z22_3
     try clear y25_0 y25_1 y25_2 y25_3 z25_0 z25_1 z25_2 z25_3
     try clear y29_0 y29_1 y29_2 y29_3 z29_0 z29_1 z29_2 z29_3
     try clear y34_0 y34_1 y34_2 y34_3 z34_0 z34_1 z34_2 z34_3
     try clear p2
     obtain ⟨x9_2, x258000_2, x258001_2, x258002_2, rfl, HA, HK2, BK255, BK256, BK257, HB⟩ := hrel
     cases gk with
     | zero => exact absurd HA.out (by simp [spec_Put.l0])
     | succ k2 =>
      have H := HA.out
      clear HA
      simp only [spec_Put.l0] at H
      by_cases c35 : x9_2 < (l3.length : Int)
      ·rw [if_pos c35] at H
       have c35b0 := decide_eq_true c35
       clear c35
       by_cases c36 : 0 ≤ x9_2
       ·rw [if_pos c36] at H
        have c36b0 := decide_eq_true c36
        clear c36
        replace H := Option.bind_eq_some_iff.mp H
        obtain ⟨t261, A370, H⟩ := H
        try dsimp only at H
        have A37 := A_ A370
        clear A370
        by_cases c38 : t261 = true
        ·subst c38
         rw [if_pos rfl] at H
         have H' := A_ H
         clear H
         have p260 : 0 ≤ (x9_2 : Int) := of_decide_eq_true d5_
         have q260 : x9_2 < (l3.length : Int) := of_decide_eq_true d5_
         obtain ⟨ad260, A260_3, c260_3, e260, hx260_0, hx260_1, hx260_2, hx260_3, hl260_3, hi260_3⟩ := at_T29 HR3.out x9_2 p260 q260
         cases e260
         replace hx260_0 := (HB.out.cell (World.block_lt_of_cell? w _ hx260_0)).trans hx260_0
         replace hx260_1 := (HB.out.cell (World.block_lt_of_cell? w _ hx260_1)).trans hx260_1
         replace hx260_2 := (HB.out.cell (World.block_lt_of_cell? w _ hx260_2)).trans hx260_2
         replace hx260_3 := (HB.out.cell (World.block_lt_of_cell? w _ hx260_3)).trans hx260_3
         have HR260_3 := A_ hi260_3
         have HC260_3 := A_ hl260_3
         clear hi260_3 hl260_3
         replace p260 := eq_true p260
         replace q260 := eq_true q260
         go_wp2_with (first | ((with_reducible refine gate_callee (f := 17) rfl ?_); refine gL_ (some 37) Try.func17 #[.agg #[.int .i64 ((rd_T29 l3 x9_2).f0), .int .i64 ((rd_T29 l3 x9_2).f1), .string ((rd_T29 l3 x9_2).f2), .slice A260_3 ((rd_T29 l3 x9_2).f3).length c260_3]] ?_; (with_reducible refine (spec_ExprOk.calls k2 ((rd_T29 l3 x9_2).f0) ((rd_T29 l3 x9_2).f1) ((rd_T29 l3 x9_2).f2) _ _ ((rd_T29 l3 x9_2).f3) true _ ?side1 ?side2 A37.out).mono ?_); (case side1 => exact Kd.C_below HR260_3.out (bw_ HB.out)); (case side2 => exact HC260_3.out); rintro e w39 ⟨rfl, hb⟩; refine ⟨_, rfl, ?_⟩; replace BK255 := A_ (blk_below (bk_ BK255.out) hb); replace BK256 := A_ (blk_below (bk_ BK256.out) hb); replace BK257 := A_ (blk_below (bk_ BK257.out) hb); replace HB := A_ (below_step (bw_ HB.out) hb); clear hb))
         go_roundg k2
         case measure => have := HJ4.out; have := HK2.out; omega
         case rel => exact ⟨(wrap64 (x9_2 + 1)), (x258000_2), (x258001_2), (x258002_2), d7_, H', ⟨by have := HJ4.out; have := HK2.out; omega⟩, ⟨by refine bk_ ?_; exact BK255.out⟩, ⟨by refine bk_ ?_; exact BK256.out⟩, ⟨by refine bk_ ?_; exact BK257.out⟩, ⟨bw_ HB.out⟩⟩
        ·replace c38 := Bool.eq_false_iff.mpr c38
         subst c38
         rw [if_neg (show ¬ (false = true) by decide)] at H
         simp only [Option.some.injEq, Prod.mk.injEq] at H
         obtain ⟨rfl, rfl, rfl, rfl⟩ := H
         have p260 : 0 ≤ (x9_2 : Int) := of_decide_eq_true d5_
         have q260 : x9_2 < (l3.length : Int) := of_decide_eq_true d5_
         obtain ⟨ad260, A260_3, c260_3, e260, hx260_0, hx260_1, hx260_2, hx260_3, hl260_3, hi260_3⟩ := at_T29 HR3.out x9_2 p260 q260
         cases e260
         replace hx260_0 := (HB.out.cell (World.block_lt_of_cell? w _ hx260_0)).trans hx260_0
         replace hx260_1 := (HB.out.cell (World.block_lt_of_cell? w _ hx260_1)).trans hx260_1
         replace hx260_2 := (HB.out.cell (World.block_lt_of_cell? w _ hx260_2)).trans hx260_2
         replace hx260_3 := (HB.out.cell (World.block_lt_of_cell? w _ hx260_3)).trans hx260_3
         have HR260_3 := A_ hi260_3
         have HC260_3 := A_ hl260_3
         clear hi260_3 hl260_3
         replace p260 := eq_true p260
         replace q260 := eq_true q260
         go_wp2_with (first | ((with_reducible refine gate_callee (f := 17) rfl ?_); refine gL_ (some 37) Try.func17 #[.agg #[.int .i64 ((rd_T29 l3 x9_2).f0), .int .i64 ((rd_T29 l3 x9_2).f1), .string ((rd_T29 l3 x9_2).f2), .slice A260_3 ((rd_T29 l3 x9_2).f3).length c260_3]] ?_; (with_reducible refine (spec_ExprOk.calls k2 ((rd_T29 l3 x9_2).f0) ((rd_T29 l3 x9_2).f1) ((rd_T29 l3 x9_2).f2) _ _ ((rd_T29 l3 x9_2).f3) false _ ?side1 ?side2 A37.out).mono ?_); (case side1 => exact Kd.C_below HR260_3.out (bw_ HB.out)); (case side2 => exact HC260_3.out); rintro e w40 ⟨rfl, hb⟩; refine ⟨_, rfl, ?_⟩; replace BK255 := A_ (blk_below (bk_ BK255.out) hb); replace BK256 := A_ (blk_below (bk_ BK256.out) hb); replace BK257 := A_ (blk_below (bk_ BK257.out) hb); replace HB := A_ (below_step (bw_ HB.out) hb); clear hb; have hnb41 := NB257_255.out; have hnc41 := NB255_257.out; have hnb42 := NB257_256.out; have hnc42 := NB256_257.out; obtain ⟨y43_0, y43_1, y43_2, y43_3, z43_0, z43_1, z43_2, z43_3⟩ := cz4_ BK257.out))
         refine bodyPost_ret (results_cell_row rfl _ _ gb257 29 #[.int .i64 0, .int .i64 0, .string (⟨#[]⟩ : ByteArray), .slice none 0 0] (0, 0) _ rfl ?hb_ Try.underlying29 rfl (by kernel_rfl)) rfl ?_
         (case hb_ => exact bk_ (bp4_ (bk_ BK257.out)))
         exact ⟨_, by first | rfl | (simp [errW_none, errW_some] <;> rfl) | (simp [*, errW_none, errW_some] <;> rfl), by first | exact Kd.R_nil _ _ _ _ _ | exact Kd.N_nil _ _ _ _ _ | exact Kd.V_nil _ _ _ _ _ | exact Kd.Q_nil _ _ _ _ _ | exact Kd.S_nil _ _ _ _ _, bw_ HB.out⟩
       ·rw [if_neg c36] at H
        exact absurd H (by simp)
      ·rw [if_neg c35] at H
       have c35b0 := decide_eq_false c35
       clear c35
       replace H := Option.bind_eq_some_iff.mp H
       obtain ⟨⟨t262, t263, t264, t265⟩, A440, H⟩ := H
       try dsimp only at H
       have A44 := A_ A440
       clear A440
       replace H := Option.bind_eq_some_iff.mp H
       obtain ⟨t269, A450, H⟩ := H
       try dsimp only at H
       have A45 := A_ A450
       clear A450
       by_cases c46 : t269 = true
       ·subst c46
        rw [if_pos rfl] at H
        simp only [Option.some.injEq, Prod.mk.injEq] at H
        obtain ⟨rfl, rfl, rfl, rfl⟩ := H
        have hnb47 := NB255_256.out
        have hnc47 := NB256_255.out
        have hnb48 := NB255_257.out
        have hnc48 := NB257_255.out
        obtain ⟨y49_0, y49_1, y49_2, y49_3, z49_0, z49_1, z49_2, z49_3⟩ := cz4_ BK255.out
        have hnb50 := NB256_257.out
        have hnc50 := NB257_256.out
        obtain ⟨y51_0, y51_1, y51_2, y51_3, z51_0, z51_1, z51_2, z51_3⟩ := cz4_ BK256.out
        go_wp2_with (first | ((with_reducible refine gate_callee (f := 53) rfl ?_); refine gL_ (some 44) Try.func53 #[.agg #[.int .i64 a0_0, .int .i64 a0_1, .string a0_2, .slice A0_3 l0_3.length c0_3], .agg #[.int .i64 a1_0, .int .i64 a1_1, .string a1_2, .slice A1_3 l1_3.length c1_3], .slice A2 l2.length c2, .slice A3 l3.length c3] ?_; (with_reducible refine (spec_l11Put.calls k2 a0_0 a0_1 a0_2 _ _ l0_3 a1_0 a1_1 a1_2 _ _ l1_3 _ _ l2 _ _ l3 t262 t263 t264 t265 _ ?side1 ?side2 ?side3 ?side4 ?side5 ?side6 ?side7 ?side8 A44.out).mono ?_); (case side1 => exact Kd.C_below HR0_3.out (bw_ HB.out)); (case side2 => exact HC0_3.out); (case side3 => exact Kd.C_below HR1_3.out (bw_ HB.out)); (case side4 => exact HC1_3.out); (case side5 => exact Kd.C_below HR2.out (bw_ HB.out)); (case side6 => exact HC2.out); (case side7 => exact Kd.C_below HR3.out (bw_ HB.out)); (case side8 => exact HC3.out); rintro e w52 ⟨v266, rfl, ho0, hb⟩; refine ⟨_, rfl, ?_⟩; have HO267 := A_ (Kd.R_lower (Kd.R_newB (Kd.R_newB (Kd.R_newB ho0 (bk_ BK255.out)) (bk_ BK256.out)) (bk_ BK257.out)) (below_size (bw_ HB.out))); replace BK255 := A_ (blk_below (bk_ BK255.out) hb); replace BK256 := A_ (blk_below (bk_ BK256.out) hb); replace BK257 := A_ (blk_below (bk_ BK257.out) hb); replace HB := A_ (below_step (bw_ HB.out) hb); clear hb; (try clear ho0)) | ((with_reducible refine gate_dst (N := 10) rfl ?_); (try (refine gate_guard (by rfl) ?_; dsimp only)); refine bx_ 10 #[.int .i64 0, .int .i64 0, .string (⟨#[]⟩ : ByteArray), .slice none 0 0] 29 ?_; intro gb268 hg w53 hbox hb; have n0_ := A_ (Kd.R_below (Kd.R_elderB (kr_ HO267.out) gb268 (Nat.le_of_eq hg.symm)) hb); have n1_ := A_ (blk_below (bk_ BK255.out) hb); have n2_ := A_ (blk_below (bk_ BK256.out) hb); have n3_ := A_ (blk_below (bk_ BK257.out) hb); have n4_ := A_ (below_step (bw_ HB.out) hb); have n5_ := A_ (hbox); have n6_ := A_ ((d9_ : w.heap.size ≤ gb268)); have n7_ := n6_; have n8_ := A_ ((d49_ : gb255 ≠ gb268)); have n9_ := A_ n8_.out.symm; have n10_ := A_ ((by rw [hg]; exact Nat.ne_of_lt (blk_lt (bk_ BK256.out)) : gb256 ≠ gb268)); have n11_ := A_ n10_.out.symm; have n12_ := A_ ((by rw [hg]; exact Nat.ne_of_lt (blk_lt (bk_ BK257.out)) : gb257 ≠ gb268)); have n13_ := A_ n12_.out.symm; clear HO267; clear BK255; clear BK256; clear BK257; clear HB; have HO267 := n0_; have BK255 := n1_; have BK256 := n2_; have BK257 := n3_; have HB := n4_; have BK268 := n5_; have GW268 := n6_; have GE268 := n7_; have GI268 := GeI.mk GE268.out; have NB255_268 := n8_; have NB268_255 := n9_; have NB256_268 := n10_; have NB268_256 := n11_; have NB257_268 := n12_; have NB268_257 := n13_; clear n0_ n1_ n2_ n3_ n4_ n5_ n6_ n7_ n8_ n9_ n10_ n11_ n12_ n13_; clear hb hbox hg; have hnb54 := NB268_255.out; have hnc54 := NB255_268.out; have hnb55 := NB268_256.out; have hnc55 := NB256_268.out; have hnb56 := NB268_257.out; have hnc56 := NB257_268.out; obtain ⟨y57_0, y57_1, y57_2, y57_3, z57_0, z57_1, z57_2, z57_3⟩ := cz4_ BK268.out; obtain ⟨Ao58, co58, eo58⟩ := Kd.R_slice HO267.out; subst eo58) | ((with_reducible refine gate_callee (f := 17) rfl ?_); refine gL_ (some 46) Try.func17 #[.agg #[.int .i64 t262, .int .i64 t263, .string t264, .slice Ao58 t265.length co58]] ?_; (with_reducible refine (spec_ExprOk.calls k2 t262 t263 t264 _ _ t265 true _ ?side1 ?side2 A45.out).mono ?_); (case side1 => refine (Kd.R_reads' (e := 29) (base := w.heap.size) (ok := fun k_ => ((((True ∧ k_ ≠ gb255) ∧ k_ ≠ gb256) ∧ k_ ≠ gb257) ∧ k_ ≠ gb268)) (n := t265.length) (c := co58) ?_).2.2; exact (kr_ (Kd.R_mono (rf4_ (Kd.R_mono HO267.out (fun k_ hk => (⟨hk, hk.2⟩ : _ ∧ k_ ≠ gb268))) (fun _ hk => hk.2)) (fun _ h_ => h_.1)))); (case side2 => exact (Kd.R_reads' HO267.out).2.1); rintro e w59 ⟨rfl, hb⟩; refine ⟨_, rfl, ?_⟩; replace HO267 := A_ (Kd.R_below (kr_ (Kd.R_mono (rf4_ (Kd.R_mono HO267.out (fun k_ hk => (⟨hk, hk.2⟩ : _ ∧ k_ ≠ gb268))) (fun _ hk => hk.2)) (fun _ h_ => h_.1))) hb); replace BK255 := A_ (blk_below (g := gb255) (o := .cells #[.int .i64 a0_0, .int .i64 a0_1, .string a0_2, .slice A0_3 l0_3.length c0_3] 29 (0, 0)) (by refine bk_ ?_; refine blk_far ?_ NB255_268.out _; refine bk_ ?_; refine blk_far ?_ NB255_268.out _; refine bk_ ?_; refine blk_far ?_ NB255_268.out _; refine bk_ ?_; refine blk_far ?_ NB255_268.out _; refine bk_ ?_; exact BK255.out) hb); replace BK256 := A_ (blk_below (g := gb256) (o := .cells #[.int .i64 a1_0, .int .i64 a1_1, .string a1_2, .slice A1_3 l1_3.length c1_3] 29 (0, 0)) (by refine bk_ ?_; refine blk_far ?_ NB256_268.out _; refine bk_ ?_; refine blk_far ?_ NB256_268.out _; refine bk_ ?_; refine blk_far ?_ NB256_268.out _; refine bk_ ?_; refine blk_far ?_ NB256_268.out _; refine bk_ ?_; exact BK256.out) hb); replace BK257 := A_ (blk_below (g := gb257) (o := .cells #[.int .i64 x258000_2, .int .i64 x258001_2, .string x258002_2, .slice none 0 0] 29 (0, 0)) (by refine bk_ ?_; refine blk_far ?_ NB257_268.out _; refine bk_ ?_; refine blk_far ?_ NB257_268.out _; refine bk_ ?_; refine blk_far ?_ NB257_268.out _; refine bk_ ?_; refine blk_far ?_ NB257_268.out _; refine bk_ ?_; exact BK257.out) hb); replace BK268 := A_ (blk_below (g := gb268) (o := .cells #[.int .i64 t262, .int .i64 t263, .string t264, .slice Ao58 t265.length co58] 29 (0, 0)) (by exact bk_ (bp4_ (bk_ BK268.out))) hb); replace HB := A_ (below_step (bw_ HB.out) hb); clear hb; obtain ⟨y60_0, y60_1, y60_2, y60_3, z60_0, z60_1, z60_2, z60_3⟩ := cz4_ BK268.out; obtain ⟨y61_0, y61_1, y61_2, y61_3, z61_0, z61_1, z61_2, z61_3⟩ := cz4_ BK257.out))
        refine bodyPost_ret (results_cell_row rfl _ _ gb257 29 #[.int .i64 t262, .int .i64 t263, .string t264, .slice Ao58 t265.length co58] (0, 0) _ rfl ?hb_ Try.underlying29 rfl (by kernel_rfl)) rfl ?_
        (case hb_ => exact bk_ (bp4_ (bk_ BK257.out)))
        exact ⟨_, by first | rfl | (simp [errW_none, errW_some] <;> rfl) | (simp [*, errW_none, errW_some] <;> rfl), kr_ (Kd.R_mono (rf4_ (Kd.R_mono HO267.out (fun k_ hk => (⟨hk, hk.1.2⟩ : _ ∧ k_ ≠ gb257))) (fun _ hk => hk.2)) (fun _ hk => trivial)), bw_ HB.out⟩
       ·replace c46 := Bool.eq_false_iff.mpr c46
        subst c46
        rw [if_neg (show ¬ (false = true) by decide)] at H
        simp only [Option.some.injEq, Prod.mk.injEq] at H
        obtain ⟨rfl, rfl, rfl, rfl⟩ := H
        have hnb62 := NB255_256.out
        have hnc62 := NB256_255.out
        have hnb63 := NB255_257.out
        have hnc63 := NB257_255.out
        obtain ⟨y64_0, y64_1, y64_2, y64_3, z64_0, z64_1, z64_2, z64_3⟩ := cz4_ BK255.out
        have hnb65 := NB256_257.out
        have hnc65 := NB257_256.out
        obtain ⟨y66_0, y66_1, y66_2, y66_3, z66_0, z66_1, z66_2, z66_3⟩ := cz4_ BK256.out
        go_wp2_with (first | ((with_reducible refine gate_callee (f := 53) rfl ?_); refine gL_ (some 44) Try.func53 #[.agg #[.int .i64 a0_0, .int .i64 a0_1, .string a0_2, .slice A0_3 l0_3.length c0_3], .agg #[.int .i64 a1_0, .int .i64 a1_1, .string a1_2, .slice A1_3 l1_3.length c1_3], .slice A2 l2.length c2, .slice A3 l3.length c3] ?_; (with_reducible refine (spec_l11Put.calls k2 a0_0 a0_1 a0_2 _ _ l0_3 a1_0 a1_1 a1_2 _ _ l1_3 _ _ l2 _ _ l3 t262 t263 t264 t265 _ ?side1 ?side2 ?side3 ?side4 ?side5 ?side6 ?side7 ?side8 A44.out).mono ?_); (case side1 => exact Kd.C_below HR0_3.out (bw_ HB.out)); (case side2 => exact HC0_3.out); (case side3 => exact Kd.C_below HR1_3.out (bw_ HB.out)); (case side4 => exact HC1_3.out); (case side5 => exact Kd.C_below HR2.out (bw_ HB.out)); (case side6 => exact HC2.out); (case side7 => exact Kd.C_below HR3.out (bw_ HB.out)); (case side8 => exact HC3.out); rintro e w67 ⟨v266, rfl, ho0, hb⟩; refine ⟨_, rfl, ?_⟩; have HO267 := A_ (Kd.R_lower (Kd.R_newB (Kd.R_newB (Kd.R_newB ho0 (bk_ BK255.out)) (bk_ BK256.out)) (bk_ BK257.out)) (below_size (bw_ HB.out))); replace BK255 := A_ (blk_below (bk_ BK255.out) hb); replace BK256 := A_ (blk_below (bk_ BK256.out) hb); replace BK257 := A_ (blk_below (bk_ BK257.out) hb); replace HB := A_ (below_step (bw_ HB.out) hb); clear hb; (try clear ho0)) | ((with_reducible refine gate_dst (N := 10) rfl ?_); (try (refine gate_guard (by rfl) ?_; dsimp only)); refine bx_ 10 #[.int .i64 0, .int .i64 0, .string (⟨#[]⟩ : ByteArray), .slice none 0 0] 29 ?_; intro gb268 hg w68 hbox hb; have n0_ := A_ (Kd.R_below (Kd.R_elderB (kr_ HO267.out) gb268 (Nat.le_of_eq hg.symm)) hb); have n1_ := A_ (blk_below (bk_ BK255.out) hb); have n2_ := A_ (blk_below (bk_ BK256.out) hb); have n3_ := A_ (blk_below (bk_ BK257.out) hb); have n4_ := A_ (below_step (bw_ HB.out) hb); have n5_ := A_ (hbox); have n6_ := A_ ((d9_ : w.heap.size ≤ gb268)); have n7_ := n6_; have n8_ := A_ ((d49_ : gb255 ≠ gb268)); have n9_ := A_ n8_.out.symm; have n10_ := A_ ((by rw [hg]; exact Nat.ne_of_lt (blk_lt (bk_ BK256.out)) : gb256 ≠ gb268)); have n11_ := A_ n10_.out.symm; have n12_ := A_ ((by rw [hg]; exact Nat.ne_of_lt (blk_lt (bk_ BK257.out)) : gb257 ≠ gb268)); have n13_ := A_ n12_.out.symm; clear HO267; clear BK255; clear BK256; clear BK257; clear HB; have HO267 := n0_; have BK255 := n1_; have BK256 := n2_; have BK257 := n3_; have HB := n4_; have BK268 := n5_; have GW268 := n6_; have GE268 := n7_; have GI268 := GeI.mk GE268.out; have NB255_268 := n8_; have NB268_255 := n9_; have NB256_268 := n10_; have NB268_256 := n11_; have NB257_268 := n12_; have NB268_257 := n13_; clear n0_ n1_ n2_ n3_ n4_ n5_ n6_ n7_ n8_ n9_ n10_ n11_ n12_ n13_; clear hb hbox hg; have hnb69 := NB268_255.out; have hnc69 := NB255_268.out; have hnb70 := NB268_256.out; have hnc70 := NB256_268.out; have hnb71 := NB268_257.out; have hnc71 := NB257_268.out; obtain ⟨y72_0, y72_1, y72_2, y72_3, z72_0, z72_1, z72_2, z72_3⟩ := cz4_ BK268.out; obtain ⟨Ao73, co73, eo73⟩ := Kd.R_slice HO267.out; subst eo73) | ((with_reducible refine gate_callee (f := 17) rfl ?_); refine gL_ (some 46) Try.func17 #[.agg #[.int .i64 t262, .int .i64 t263, .string t264, .slice Ao73 t265.length co73]] ?_; (with_reducible refine (spec_ExprOk.calls k2 t262 t263 t264 _ _ t265 false _ ?side1 ?side2 A45.out).mono ?_); (case side1 => refine (Kd.R_reads' (e := 29) (base := w.heap.size) (ok := fun k_ => ((((True ∧ k_ ≠ gb255) ∧ k_ ≠ gb256) ∧ k_ ≠ gb257) ∧ k_ ≠ gb268)) (n := t265.length) (c := co73) ?_).2.2; exact (kr_ (Kd.R_mono (rf4_ (Kd.R_mono HO267.out (fun k_ hk => (⟨hk, hk.2⟩ : _ ∧ k_ ≠ gb268))) (fun _ hk => hk.2)) (fun _ h_ => h_.1)))); (case side2 => exact (Kd.R_reads' HO267.out).2.1); rintro e w74 ⟨rfl, hb⟩; refine ⟨_, rfl, ?_⟩; replace HO267 := A_ (Kd.R_below (kr_ (Kd.R_mono (rf4_ (Kd.R_mono HO267.out (fun k_ hk => (⟨hk, hk.2⟩ : _ ∧ k_ ≠ gb268))) (fun _ hk => hk.2)) (fun _ h_ => h_.1))) hb); replace BK255 := A_ (blk_below (g := gb255) (o := .cells #[.int .i64 a0_0, .int .i64 a0_1, .string a0_2, .slice A0_3 l0_3.length c0_3] 29 (0, 0)) (by refine bk_ ?_; refine blk_far ?_ NB255_268.out _; refine bk_ ?_; refine blk_far ?_ NB255_268.out _; refine bk_ ?_; refine blk_far ?_ NB255_268.out _; refine bk_ ?_; refine blk_far ?_ NB255_268.out _; refine bk_ ?_; exact BK255.out) hb); replace BK256 := A_ (blk_below (g := gb256) (o := .cells #[.int .i64 a1_0, .int .i64 a1_1, .string a1_2, .slice A1_3 l1_3.length c1_3] 29 (0, 0)) (by refine bk_ ?_; refine blk_far ?_ NB256_268.out _; refine bk_ ?_; refine blk_far ?_ NB256_268.out _; refine bk_ ?_; refine blk_far ?_ NB256_268.out _; refine bk_ ?_; refine blk_far ?_ NB256_268.out _; refine bk_ ?_; exact BK256.out) hb); replace BK257 := A_ (blk_below (g := gb257) (o := .cells #[.int .i64 x258000_2, .int .i64 x258001_2, .string x258002_2, .slice none 0 0] 29 (0, 0)) (by refine bk_ ?_; refine blk_far ?_ NB257_268.out _; refine bk_ ?_; refine blk_far ?_ NB257_268.out _; refine bk_ ?_; refine blk_far ?_ NB257_268.out _; refine bk_ ?_; refine blk_far ?_ NB257_268.out _; refine bk_ ?_; exact BK257.out) hb); replace BK268 := A_ (blk_below (g := gb268) (o := .cells #[.int .i64 t262, .int .i64 t263, .string t264, .slice Ao73 t265.length co73] 29 (0, 0)) (by exact bk_ (bp4_ (bk_ BK268.out))) hb); replace HB := A_ (below_step (bw_ HB.out) hb); clear hb; obtain ⟨y75_0, y75_1, y75_2, y75_3, z75_0, z75_1, z75_2, z75_3⟩ := cz4_ BK257.out))
        refine bodyPost_ret (results_cell_row rfl _ _ gb257 29 #[.int .i64 0, .int .i64 0, .string (⟨#[]⟩ : ByteArray), .slice none 0 0] (0, 0) _ rfl ?hb_ Try.underlying29 rfl (by kernel_rfl)) rfl ?_
        (case hb_ => exact bk_ (bp4_ (bk_ BK257.out)))
        exact ⟨_, by first | rfl | (simp [errW_none, errW_some] <;> rfl) | (simp [*, errW_none, errW_some] <;> rfl), by first | exact Kd.R_nil _ _ _ _ _ | exact Kd.N_nil _ _ _ _ _ | exact Kd.V_nil _ _ _ _ _ | exact Kd.Q_nil _ _ _ _ _ | exact Kd.S_nil _ _ _ _ _, bw_ HB.out⟩

/-! ### impl_copyExpr: function 59 -/
mutual
def impl_copyExpr.l0 : Nat → List (S29) → Int → Int → Int → Int → ByteArray → List (S29) → Option (Int × Int × ByteArray × (List (S29)))
 | 0, _, _, _, _, _, _, _ => none
 | k + 1, x14, x15, x16, x273000, x273001, x273002, x273003 => if x16 < x15 then (if 0 ≤ x16 then (if x16 < (x14.length : Int) then ((impl_copyExpr.f k ((rd_T29 x14 x16).f0) ((rd_T29 x14 x16).f1) ((rd_T29 x14 x16).f2) ((rd_T29 x14 x16).f3)).bind fun bt275 => (if x273003.length < 2513169434916 then (impl_copyExpr.l0 k x14 x15 (wrap64 (x16 + 1)) x273000 x273001 x273002 (x273003 ++ [(⟨bt275.1, bt275.2.1, bt275.2.2.1, bt275.2.2.2⟩ : S29)])) else (none))) else (none)) else (none)) else (some (x273000, x273001, x273002, x273003))
def impl_copyExpr.f : Nat → Int → Int → ByteArray → List (S29) → Option (Int × Int × ByteArray × (List (S29)))
 | 0, _, _, _, _ => none
 | k + 1, a0_0, a0_1, a0_2, l0_3 => impl_copyExpr.l0 k l0_3 (l0_3.length : Int) 0 a0_0 a0_1 a0_2 ([] : List (S29))
end
theorem impl_copyExpr.mono_l : ∀ k, (∀ y0 y1 y2 y3, LeO (impl_copyExpr.f k y0 y1 y2 y3) (impl_copyExpr.f (k + 1) y0 y1 y2 y3)) ∧ (∀ y0 y1 y2 y3 y4 y5 y6, LeO (impl_copyExpr.l0 k y0 y1 y2 y3 y4 y5 y6) (impl_copyExpr.l0 (k + 1) y0 y1 y2 y3 y4 y5 y6))
 | 0 => ⟨fun _ _ _ _ r h => by simp [impl_copyExpr.f] at h, fun _ _ _ _ _ _ _ r h => by simp [impl_copyExpr.l0] at h⟩
 | k + 1 => by
  obtain ⟨ih0, ih1⟩ := impl_copyExpr.mono_l k
  refine ⟨?_, ?_⟩
  ·intro y0 y1 y2 y3
   unfold impl_copyExpr.f
   repeat' first
   | (with_reducible exact ih0 _ _ _ _)
   | (with_reducible exact ih1 _ _ _ _ _ _ _)
   | (with_reducible exact LeO.refl _)
   | (with_reducible exact LeO.none _)
   | (with_reducible refine LeO.ite ?_ ?_)
   | (with_reducible refine LeO.bind ?_ (fun _ => ?_))
   | exact ih0 _ _ _ _
   | exact ih1 _ _ _ _ _ _ _
   | exact LeO.none _
   | refine LeO.ite ?_ ?_
   | refine LeO.bind ?_ (fun _ => ?_)
  ·intro y0 y1 y2 y3 y4 y5 y6
   unfold impl_copyExpr.l0
   repeat' first
   | (with_reducible exact ih0 _ _ _ _)
   | (with_reducible exact ih1 _ _ _ _ _ _ _)
   | (with_reducible exact LeO.refl _)
   | (with_reducible exact LeO.none _)
   | (with_reducible refine LeO.ite ?_ ?_)
   | (with_reducible refine LeO.bind ?_ (fun _ => ?_))
   | exact ih0 _ _ _ _
   | exact ih1 _ _ _ _ _ _ _
   | exact LeO.none _
   | refine LeO.ite ?_ ?_
   | refine LeO.bind ?_ (fun _ => ?_)
theorem impl_copyExpr.mono : ∀ a0 a1 a2 a3 k, LeO (impl_copyExpr.f k a0 a1 a2 a3) (impl_copyExpr.f (k + 1) a0 a1 a2 a3) := by
 intro a0 a1 a2 a3 k
 obtain ⟨ih0, ih1⟩ := impl_copyExpr.mono_l k
 exact ih0 a0 a1 a2 a3
def impl_copyExpr.T5 : Bool × List (List Nat × List Nat) := (true, [([], []), ([0], [0]), ([], []), ([2], [2]), ([3], [3]), ([1, 4, 3], [1, 4]), ([0, 1, 2, 3, 4, 5], []), ([6, 5, 5, 0, 1, 2, 3, 4, 5], [5, 6])])
def impl_copyExpr.B5 : List Nat := [0, 1, 0, 4, 12, 31, 63, 127]
theorem impl_copyExpr.tab5 : rtab .any (opsOf Try.f59 5) = impl_copyExpr.T5 := by kernel_rfl
theorem impl_copyExpr.bits5 : waitsOk impl_copyExpr.T5.2 impl_copyExpr.B5 = true := by kernel_rfl
set_option maxHeartbeats 8000000 in
set_option maxRecDepth 100000 in
theorem impl_copyExpr.calls (k : Nat) : ∀ (a0_0 : Int) (a0_1 : Int) (a0_2 : ByteArray) (A0_3 : Option Addr) (c0_3 : Nat) (l0_3 : List (S29)) (r1 : Int) (r2 : Int) (r3 : ByteArray) (r4 : List (S29)) (w : World) (hr0_3 : Kd.C k29 w A0_3 l0_3.length l0_3) (hc0_3 : l0_3.length ≤ c0_3) (h : impl_copyExpr.f k a0_0 a0_1 a0_2 l0_3 = some (r1, r2, r3, r4)),
  Calls Try.prog 59 #[.agg #[.int .i64 a0_0, .int .i64 a0_1, .string a0_2, .slice A0_3 l0_3.length c0_3]] w fun e w' => ∃ v3_ : Value, e = .returned (.agg #[.int .i64 r1, .int .i64 r2, .string r3, v3_]) ∧ Kd.R k29 29 w' w.heap.size (fun _ => True) v3_ r4 ∧ Below w.heap.size w w' := by
 induction k using Nat.strongRecOn with
 | _ k ih =>
 intro a0_0 a0_1 a0_2 A0_3 c0_3 l0_3 r1 r2 r3 r4 w hr0_3 hc0_3 h
 cases k with
 | zero => exact absurd h (by simp [impl_copyExpr.f])
 | succ k =>
 simp only [impl_copyExpr.f] at h
 have hu29 := Try.underlying29
 have HR0_3 := A_ hr0_3
 have HC0_3 := A_ hc0_3
 clear hr0_3 hc0_3
 have HB := A_ (Below.refl w.heap.size w)
 have H : (impl_copyExpr.l0 k l0_3 (l0_3.length : Int) 0 a0_0 a0_1 a0_2 ([] : List (S29))) = some (r1, r2, r3, r4) := h
 clear h
 have H' := A_ H
 clear H
 go_enter Try.func59, Try.ntmps59
 go_wp2_with (first | ((with_reducible refine gate_dst (N := 1) rfl ?_); refine bx_ 1 #[.int .i64 a0_0, .int .i64 a0_1, .string a0_2, .slice A0_3 l0_3.length c0_3] 29 ?_; intro gb270 hg w2 hbox hb; have n0_ := A_ (below_step (bw_ HB.out) hb); have n1_ := A_ (hbox); have n2_ := A_ ((d9_ : w.heap.size ≤ gb270)); have n3_ := n2_; clear HB; have HB := n0_; have BK270 := n1_; have GW270 := n2_; have GE270 := n3_; have GI270 := GeI.mk GE270.out; clear n0_ n1_ n2_ n3_; clear hb hbox hg) | ((with_reducible refine gate_dst (N := 2) rfl ?_); refine bx_ 2 #[.int .i64 0, .int .i64 0, .string (⟨#[]⟩ : ByteArray), .slice none 0 0] 29 ?_; intro gb271 hg w3 hbox hb; have n0_ := A_ (blk_below (bk_ BK270.out) hb); have n1_ := A_ (below_step (bw_ HB.out) hb); have n2_ := A_ (hbox); have n3_ := A_ ((d9_ : w.heap.size ≤ gb271)); have n4_ := n3_; have n5_ := A_ ((by rw [hg]; exact Nat.ne_of_lt (blk_lt (bk_ BK270.out)) : gb270 ≠ gb271)); have n6_ := A_ n5_.out.symm; clear BK270; clear HB; have BK270 := n0_; have HB := n1_; have BK271 := n2_; have GW271 := n3_; have GE271 := n4_; have GI271 := GeI.mk GE271.out; have NB270_271 := n5_; have NB271_270 := n6_; clear n0_ n1_ n2_ n3_ n4_ n5_ n6_; clear hb hbox hg; have hnb4 := NB270_271.out; have hnc4 := NB271_270.out; obtain ⟨y5_0, y5_1, y5_2, y5_3, z5_0, z5_1, z5_2, z5_3⟩ := cz4_ BK270.out) | ((with_reducible refine gate_dst (N := 3) rfl ?_); refine bx_ 3 #[.int .i64 0, .int .i64 0, .string (⟨#[]⟩ : ByteArray), .slice none 0 0] 29 ?_; intro gb272 hg w6 hbox hb; have n0_ := A_ (blk_below (bk_ BK270.out) hb); have n1_ := A_ (blk_below (bk_ BK271.out) hb); have n2_ := A_ (below_step (bw_ HB.out) hb); have n3_ := A_ (hbox); have n4_ := A_ ((d9_ : w.heap.size ≤ gb272)); have n5_ := n4_; have n6_ := A_ ((by rw [hg]; exact Nat.ne_of_lt (blk_lt (bk_ BK270.out)) : gb270 ≠ gb272)); have n7_ := A_ n6_.out.symm; have n8_ := A_ ((by rw [hg]; exact Nat.ne_of_lt (blk_lt (bk_ BK271.out)) : gb271 ≠ gb272)); have n9_ := A_ n8_.out.symm; clear BK270; clear BK271; clear HB; have BK270 := n0_; have BK271 := n1_; have HB := n2_; have BK272 := n3_; have GW272 := n4_; have GE272 := n5_; have GI272 := GeI.mk GE272.out; have NB270_272 := n6_; have NB272_270 := n7_; have NB271_272 := n8_; have NB272_271 := n9_; clear n0_ n1_ n2_ n3_ n4_ n5_ n6_ n7_ n8_ n9_; clear hb hbox hg; have hnb7 := NB272_270.out; have hnc7 := NB270_272.out; have hnb8 := NB272_271.out; have hnc8 := NB271_272.out; obtain ⟨y9_0, y9_1, y9_2, y9_3, z9_0, z9_1, z9_2, z9_3⟩ := cz4_ BK272.out; obtain ⟨y10_0, y10_1, y10_2, y10_3, z10_0, z10_1, z10_2, z10_3⟩ := cz4_ BK270.out))
 go_loopg [16] k (fun kq v16 w' => ∃ (x16_1 : Int) (x273003_1 : List (S29)) (u273003 : Value), v16 = .int .i64 x16_1 ∧ Aside0 (impl_copyExpr.l0 kq l0_3 (l0_3.length : Int) x16_1 a0_0 a0_1 a0_2 x273003_1 = some (r1, r2, r3, r4)) ∧ Aside0 (kq ≤ k) ∧ Aside0 (Kd.R k29 29 w' w.heap.size (fun k_ => k_ ≠ gb270 ∧ k_ ≠ gb271 ∧ k_ ≠ gb272) u273003 x273003_1) ∧ Aside0 (w'.heap[gb270]? = some (.cells #[.int .i64 a0_0, .int .i64 a0_1, .string a0_2, (.slice A0_3 l0_3.length c0_3)] 29 (0, 0))) ∧ Aside0 (w'.heap[gb271]? = some (.cells #[.int .i64 0, .int .i64 0, .string (⟨#[]⟩ : ByteArray), (.slice none 0 0)] 29 (0, 0))) ∧ Aside0 (w'.heap[gb272]? = some (.cells #[.int .i64 a0_0, .int .i64 a0_1, .string a0_2, u273003] 29 (0, 0))) ∧ Aside0 (Below w.heap.size w w'))
 case atStart => exact ⟨(0), (([] : List (S29))), (.slice none 0 0), d7_, H', ⟨Nat.le_refl _⟩, ⟨by first | exact Kd.R_nil _ _ _ _ _ | exact Kd.N_nil _ _ _ _ _ | exact Kd.V_nil _ _ _ _ _ | exact Kd.Q_nil _ _ _ _ _ | exact Kd.S_nil _ _ _ _ _⟩, ⟨by refine bk_ ?_; refine blk_far ?_ NB270_272.out _; refine bk_ ?_; refine blk_far ?_ NB270_272.out _; refine bk_ ?_; refine blk_far ?_ NB270_272.out _; refine bk_ ?_; refine blk_far ?_ NB270_272.out _; refine bk_ ?_; exact BK270.out⟩, ⟨by refine bk_ ?_; refine blk_far ?_ NB271_272.out _; refine bk_ ?_; refine blk_far ?_ NB271_272.out _; refine bk_ ?_; refine blk_far ?_ NB271_272.out _; refine bk_ ?_; refine blk_far ?_ NB271_272.out _; refine bk_ ?_; exact BK271.out⟩, ⟨by exact bk_ (bp4_ (bk_ BK272.out))⟩, ⟨bw_ HB.out⟩⟩
 case round =>
  clear H'
  try clear p2
  try clear c4
  try clear c5
  try clear c7
  try clear c8
  try clear y10_0 y10_1 y10_2 y10_3 z10_0 z10_1 z10_2 z10_3
  try clear y5_0 y5_1 y5_2 y5_3 z5_0 z5_1 z5_2 z5_3
  try clear y9_0 y9_1 y9_2 y9_3 z9_0 z9_1 z9_2 z9_3
  obtain ⟨x16_1, x273003_1, u273003, rfl, HA, HK1, HO_273003, BK270, BK271, BK272, HB⟩ := hrel
  cases gk with
  | zero => exact absurd HA.out (by simp [impl_copyExpr.l0])
  | succ k1 =>
   have H := HA.out
   clear HA
   simp only [impl_copyExpr.l0] at H
   by_cases c11 : x16_1 < (l0_3.length : Int)
   ·rw [if_pos c11] at H
    have c11b0 := decide_eq_true c11
    clear c11
    by_cases c12 : 0 ≤ x16_1
    ·rw [if_pos c12] at H
     have c12b0 := decide_eq_true c12
     clear c12
     by_cases c13 : x16_1 < (l0_3.length : Int)
     ·rw [if_pos c13] at H
      have c13b0 := decide_eq_true c13
      clear c13
      replace H := Option.bind_eq_some_iff.mp H
      obtain ⟨⟨t275, t276, t277, t278⟩, A140, H⟩ := H
      try dsimp only at H
      have A14 := A_ A140
      clear A140
      by_cases c15 : x273003_1.length < 2513169434916
      ·rw [if_pos c15] at H
       have LMc15 := A_ c15
       clear c15
       obtain ⟨y281, hy281⟩ : ∃ y_ : List (S29), y_ = (x273003_1 ++ [(⟨t275, t276, t277, t278⟩ : S29)]) := ⟨_, rfl⟩
       replace H : (impl_copyExpr.l0 k1 l0_3 (l0_3.length : Int) (wrap64 (x16_1 + 1)) a0_0 a0_1 a0_2 y281) = some (r1, r2, r3, r4) := by first | (rw [hy281]; with_reducible exact H) | (have H2_ := (Option.bind_some _ _).symm.trans H; rw [hy281]; with_reducible exact H2_) | (have H2_ := (Option.bind_some _ _).symm.trans H; with_reducible exact H2_) | with_reducible exact H | (rw [hy281]; exact H) | exact H
       have Ny281 := A_ hy281
       clear hy281
       have H' := A_ H
       clear H
       have p273 : 0 ≤ (x16_1 : Int) := of_decide_eq_true d5_
       have q273 : x16_1 < (l0_3.length : Int) := of_decide_eq_true d5_
       obtain ⟨ad273, A273_3, c273_3, e273, hx273_0, hx273_1, hx273_2, hx273_3, hl273_3, hi273_3⟩ := at_T29 HR0_3.out x16_1 p273 q273
       cases e273
       replace hx273_0 := (HB.out.cell (World.block_lt_of_cell? w _ hx273_0)).trans hx273_0
       replace hx273_1 := (HB.out.cell (World.block_lt_of_cell? w _ hx273_1)).trans hx273_1
       replace hx273_2 := (HB.out.cell (World.block_lt_of_cell? w _ hx273_2)).trans hx273_2
       replace hx273_3 := (HB.out.cell (World.block_lt_of_cell? w _ hx273_3)).trans hx273_3
       have HR273_3 := A_ hi273_3
       have HC273_3 := A_ hl273_3
       clear hi273_3 hl273_3
       replace p273 := eq_true p273
       replace q273 := eq_true q273
       try go_wp2_with (first | ((with_reducible refine gate_dst (N := 5) rfl ?_); refine bx_ 5 #[.int .i64 0, .int .i64 0, .string (⟨#[]⟩ : ByteArray), .slice none 0 0] 29 ?_; intro gb274 hg w16 hbox hb; have n0_ := A_ (Kd.R_below (Kd.R_elderB (kr_ HO_273003.out) gb274 (Nat.le_of_eq hg.symm)) hb); have n1_ := A_ (blk_below (bk_ BK270.out) hb); have n2_ := A_ (blk_below (bk_ BK271.out) hb); have n3_ := A_ (blk_below (bk_ BK272.out) hb); have n4_ := A_ (below_step (bw_ HB.out) hb); have n5_ := A_ (hbox); have n6_ := A_ ((d9_ : w.heap.size ≤ gb274)); have n7_ := n6_; have n8_ := A_ ((by rw [hg]; exact Nat.ne_of_lt (blk_lt (bk_ BK270.out)) : gb270 ≠ gb274)); have n9_ := A_ n8_.out.symm; have n10_ := A_ ((by rw [hg]; exact Nat.ne_of_lt (blk_lt (bk_ BK271.out)) : gb271 ≠ gb274)); have n11_ := A_ n10_.out.symm; have n12_ := A_ ((by rw [hg]; exact Nat.ne_of_lt (blk_lt (bk_ BK272.out)) : gb272 ≠ gb274)); have n13_ := A_ n12_.out.symm; clear HO_273003; clear BK270; clear BK271; clear BK272; clear HB; have HO_273003 := n0_; have BK270 := n1_; have BK271 := n2_; have BK272 := n3_; have HB := n4_; have BK274 := n5_; have GW274 := n6_; have GE274 := n7_; have GI274 := GeI.mk GE274.out; have NB270_274 := n8_; have NB274_270 := n9_; have NB271_274 := n10_; have NB274_271 := n11_; have NB272_274 := n12_; have NB274_272 := n13_; clear n0_ n1_ n2_ n3_ n4_ n5_ n6_ n7_ n8_ n9_ n10_ n11_ n12_ n13_; clear hb hbox hg; have hnb17 := NB274_270.out; have hnc17 := NB270_274.out; have hnb18 := NB274_271.out; have hnc18 := NB271_274.out; have hnb19 := NB274_272.out; have hnc19 := NB272_274.out; obtain ⟨y20_0, y20_1, y20_2, y20_3, z20_0, z20_1, z20_2, z20_3⟩ := cz4_ BK274.out))
       obtain ⟨w21, hz_⟩ : ∃ z_, z_ = ((((w16.setCell ⟨gb274, 0, none⟩ (.int .i64 ((rd_T29 l0_3 x16_1).f0))).setCell ⟨gb274, 1, none⟩ (.int .i64 ((rd_T29 l0_3 x16_1).f1))).setCell ⟨gb274, 2, none⟩ (.string ((rd_T29 l0_3 x16_1).f2))).setCell ⟨gb274, 3, none⟩ (.slice A273_3 ((rd_T29 l0_3 x16_1).f3).length c273_3)) := ⟨_, rfl⟩
       have n0_ : Aside0 (Kd.R k29 29 w21 w.heap.size (fun k_ => k_ ≠ gb270 ∧ k_ ≠ gb271 ∧ k_ ≠ gb272 ∧ k_ ≠ gb274) u273003 x273003_1) := ⟨by rw [hz_]; exact kr_ (Kd.R_mono (rf4_ (Kd.R_mono HO_273003.out (fun k_ hk => (⟨hk, hk.2⟩ : _ ∧ k_ ≠ gb274))) (fun _ hk => hk.2)) (fun _ hk => ⟨hk.1.1.1, ⟨hk.1.1.2.1, ⟨hk.1.1.2.2, hk.1.2⟩⟩⟩))⟩
       have n1_ : Aside0 (w21.heap[gb270]? = some (.cells #[.int .i64 a0_0, .int .i64 a0_1, .string a0_2, .slice (some ad273) l0_3.length c0_3] 29 (0, 0))) := ⟨by rw [hz_]; refine bk_ ?_; refine blk_far ?_ NB270_274.out _; refine bk_ ?_; refine blk_far ?_ NB270_274.out _; refine bk_ ?_; refine blk_far ?_ NB270_274.out _; refine bk_ ?_; refine blk_far ?_ NB270_274.out _; refine bk_ ?_; exact BK270.out⟩
       have n2_ : Aside0 (w21.heap[gb271]? = some (.cells #[.int .i64 0, .int .i64 0, .string (⟨#[]⟩ : ByteArray), .slice none 0 0] 29 (0, 0))) := ⟨by rw [hz_]; refine bk_ ?_; refine blk_far ?_ NB271_274.out _; refine bk_ ?_; refine blk_far ?_ NB271_274.out _; refine bk_ ?_; refine blk_far ?_ NB271_274.out _; refine bk_ ?_; refine blk_far ?_ NB271_274.out _; refine bk_ ?_; exact BK271.out⟩
       have n3_ : Aside0 (w21.heap[gb272]? = some (.cells #[.int .i64 a0_0, .int .i64 a0_1, .string a0_2, u273003] 29 (0, 0))) := ⟨by rw [hz_]; refine bk_ ?_; refine blk_far ?_ NB272_274.out _; refine bk_ ?_; refine blk_far ?_ NB272_274.out _; refine bk_ ?_; refine blk_far ?_ NB272_274.out _; refine bk_ ?_; refine blk_far ?_ NB272_274.out _; refine bk_ ?_; exact BK272.out⟩
       have n4_ : Aside0 (w21.heap[gb274]? = some (.cells #[.int .i64 ((rd_T29 l0_3 x16_1).f0), .int .i64 ((rd_T29 l0_3 x16_1).f1), .string ((rd_T29 l0_3 x16_1).f2), .slice A273_3 ((rd_T29 l0_3 x16_1).f3).length c273_3] 29 (0, 0))) := ⟨by rw [hz_]; exact bk_ (bp4_ (bk_ BK274.out))⟩
       have n5_ : Aside0 (Below w.heap.size w w21) := ⟨by rw [hz_]; exact bw_ HB.out⟩
       (try clear HO_273003)
       (try clear BK270)
       (try clear BK271)
       (try clear BK272)
       (try clear BK274)
       (try clear HB)
       rw [← hz_]
       clear hz_
       have HO_273003 := n0_
       have BK270 := n1_
       have BK271 := n2_
       have BK272 := n3_
       have BK274 := n4_
       have HB := n5_
       clear n0_ n1_ n2_ n3_ n4_ n5_
       replace HO_273003 := A_ (Kd.R_drew HO_273003.out)
       replace BK270 := A_ (blk_drew BK270.out)
       replace BK271 := A_ (blk_drew BK271.out)
       replace BK272 := A_ (blk_drew BK272.out)
       replace BK274 := A_ (blk_drew BK274.out)
       replace HB := A_ (below_drew1 HB.out)
       refine start_ (n := 8) (S := fun w' => w'.cell? ⟨gb272, 0, none⟩ = some (.int .i64 a0_0) ∧ w'.cell? ⟨gb272, 1, none⟩ = some (.int .i64 a0_1) ∧ w'.cell? ⟨gb272, 2, none⟩ = some (.string a0_2) ∧ w'.cell? ⟨gb272, 3, none⟩ = some (u273003) ∧ w'.cell? ⟨gb274, 0, none⟩ = some (.int .i64 ((rd_T29 l0_3 x16_1).f0)) ∧ w'.cell? ⟨gb274, 1, none⟩ = some (.int .i64 ((rd_T29 l0_3 x16_1).f1)) ∧ w'.cell? ⟨gb274, 2, none⟩ = some (.string ((rd_T29 l0_3 x16_1).f2)) ∧ w'.cell? ⟨gb274, 3, none⟩ = some (.slice A273_3 ((rd_T29 l0_3 x16_1).f3).length c273_3)) (ds := [7]) #[false, false, false, false, false, false, false, false] (by kernel_rfl) rfl rfl ⟨(blk_cell BK272.out 0).trans rfl, (blk_cell BK272.out 1).trans rfl, (blk_cell BK272.out 2).trans rfl, (blk_cell BK272.out 3).trans rfl, (blk_cell BK274.out 0).trans rfl, (blk_cell BK274.out 1).trans rfl, (blk_cell BK274.out 2).trans rfl, (blk_cell BK274.out 3).trans rfl⟩ (fun hHeld => ?_); refine with_tabW impl_copyExpr.tab5 impl_copyExpr.bits5 (fun HT_ HW_ => ?_)
       generalize w21.drew = w22 at HO_273003 BK270 BK271 BK272 BK274 HB hHeld ⊢
       refine pu_ 0 (some 20) (bm_ 8 1) (any_of HT_.out (by kernel_rfl)) ?_
       refine take_ (i := 1) (N := some 21) (v := ?_) (a' := ?_) (bm_ 8 3) rfl rfl (take_ofW HT_.out HW_.out (by kernel_rfl)) (fun _ _ _ h => h) (Or.inl ⟨by rfl, ?_⟩) hHeld ?_ ?_
       rotate_left
       ·rintro w' ⟨s0, s1, s2, s3, s4, s5, s6, s7⟩
        go_simp
        with_reducible rfl
       rotate_left
       ·simp only [Act.put, List.setIfInBounds_toArray, List.set_cons_zero, List.set_cons_succ, i64_w, i32_w]
        rfl
       refine take_ (i := 2) (N := some 22) (v := ?_) (a' := ?_) (bm_ 8 7) rfl rfl (take_ofW HT_.out HW_.out (by kernel_rfl)) (fun _ _ _ h => h) (Or.inl ⟨by rfl, ?_⟩) hHeld ?_ ?_
       rotate_left
       ·rintro w' ⟨s0, s1, s2, s3, s4, s5, s6, s7⟩
        go_simp
        with_reducible rfl
       rotate_left
       ·simp only [Act.put, List.setIfInBounds_toArray, List.set_cons_zero, List.set_cons_succ, i64_w, i32_w]
        rfl
       refine one_ (i := 3) (N := some 23) (bm_ 8 15) rfl rfl (one_of HT_.out (by kernel_rfl)) (by decide) (fun K hK => ?_)
       refine goes_ Try.func59 (by kernel_rfl) rfl #[.agg #[.int .i64 ((rd_T29 l0_3 x16_1).f0), .int .i64 ((rd_T29 l0_3 x16_1).f1), .string ((rd_T29 l0_3 x16_1).f2), .slice A273_3 ((rd_T29 l0_3 x16_1).f3).length c273_3]] (by rfl) rfl rfl d31_ ?_
       with_reducible refine (ih k1 (by have := HK1.out; omega) ((rd_T29 l0_3 x16_1).f0) ((rd_T29 l0_3 x16_1).f1) ((rd_T29 l0_3 x16_1).f2) _ _ ((rd_T29 l0_3 x16_1).f3) t275 t276 t277 t278 _ ?side1 ?side2 A14.out).mono ?_
       (case side1 => exact Kd.C_below HR273_3.out (bw_ HB.out))
       (case side2 => exact HC273_3.out)
       rintro e w23 ⟨v279, rfl, ho0, hb⟩
       refine ⟨_, rfl, ?_⟩
       have HO280 := A_ (Kd.R_lower (Kd.R_newB (Kd.R_newB (Kd.R_newB (Kd.R_newB (Kd.R_new' ho0 (Kd.R_lt (kr_ HO_273003.out))) (bk_ BK270.out)) (bk_ BK271.out)) (bk_ BK272.out)) (bk_ BK274.out)) (below_size (bw_ HB.out)))
       replace HO_273003 := A_ (Kd.R_elder' (kr_ HO_273003.out) (Kd.R_base ho0) hb)
       replace BK270 := A_ (blk_below (bk_ BK270.out) hb)
       replace BK271 := A_ (blk_below (bk_ BK271.out) hb)
       replace BK272 := A_ (blk_below (bk_ BK272.out) hb)
       replace BK274 := A_ (blk_below (bk_ BK274.out) hb)
       replace HB := A_ (below_step (bw_ HB.out) hb)
       (try clear hb)
       (try clear hb2)
       (try clear hk)
       (try clear hi)
       (try clear ho0)
       obtain ⟨Ao25, co25, eo25⟩ := Kd.R_slice HO280.out
       (first | subst eo25 | (injection eo25 with f1_ f2_ f3_; have f4_ := f1_.symm; have f5_ := f3_.symm; clear f1_ f2_ f3_; subst f4_; subst f5_))
       refine hK.out _ _ ⟨(blk_cell BK272.out 0).trans rfl, (blk_cell BK272.out 1).trans rfl, (blk_cell BK272.out 2).trans rfl, (blk_cell BK272.out 3).trans rfl, (blk_cell BK274.out 0).trans rfl, (blk_cell BK274.out 1).trans rfl, (blk_cell BK274.out 2).trans rfl, (blk_cell BK274.out 3).trans rfl⟩ (fun hHeld => ?_)
       clear hK K
       refine norm_ (a' := ?_) ?_ ?_
       rotate_left
       ·show Act.put _ (some 23) _ = _
        simp only [Act.put, List.setIfInBounds_toArray, List.set_cons_zero, List.set_cons_succ, i64_w, i32_w]
        rfl
       refine one_ (i := 4) (N := some 24) (bm_ 8 31) rfl rfl (one_of HT_.out (by kernel_rfl)) (by decide) (fun K hK => ?_)
       refine value_ (w1 := ?_) (v := ?_) (by rfl) rfl ?_ ?_
       rotate_left 2
       ·go_simp
        constructor
        ·rfl
        ·rfl
       refine hK.out _ _ ⟨(blk_cell (blk_alloc BK272.out _) 0).trans rfl, (blk_cell (blk_alloc BK272.out _) 1).trans rfl, (blk_cell (blk_alloc BK272.out _) 2).trans rfl, (blk_cell (blk_alloc BK272.out _) 3).trans rfl, (blk_cell (blk_alloc BK274.out _) 0).trans rfl, (blk_cell (blk_alloc BK274.out _) 1).trans rfl, (blk_cell (blk_alloc BK274.out _) 2).trans rfl, (blk_cell (blk_alloc BK274.out _) 3).trans rfl⟩ (fun hHeld => ?_)
       clear hK K
       refine norm_ (a' := ?_) ?_ ?_
       rotate_left
       ·show Act.put _ (some 24) _ = _
        simp only [Act.put, List.setIfInBounds_toArray, List.set_cons_zero, List.set_cons_succ, i64_w, i32_w]
        rfl
       refine one_ (i := 5) (N := some 25) (bm_ 8 63) rfl rfl (one_of HT_.out (by kernel_rfl)) (by decide) (fun K hK => ?_)
       refine Kd.R_append_step k29 (w0 := w) w.heap.size (by rfl) (.tmp 21) (.tmp 24) 27 29 (.agg #[(.int .i64 0), (.int .i64 0), (.string ⟨#[]⟩), (.slice none 0 0)]) 56 rfl Try.underlying27 info29 rfl (by decide) (by omega) u273003 x273003_1 (⟨t275, t276, t277, t278⟩ : S29) [.int .i64 t275, .int .i64 t276, .string t277, .slice Ao25 t278.length co25] (fun k_ => k_ ≠ gb270 ∧ k_ ≠ gb271 ∧ k_ ≠ gb272 ∧ k_ ≠ gb274) (fun k_ => ((fun k_ => k_ ≠ gb270 ∧ k_ ≠ gb271 ∧ k_ ≠ gb272 ∧ k_ ≠ gb274)) k_ ∧ some k_ ≠ (u273003 : Value).ownBlock) rfl rfl ?aP (fun _ hk => hk) ?aF ?aO ?aB ?aS ?aL ?_
       (case aP => exact k29_mkM _ _ _ (⟨t275, t276, t277, t278⟩ : S29) (Kd.R_mono (HO280.out) (fun k_ hk => ⟨⟨hk.1.1.1.2, ⟨hk.1.1.2, ⟨hk.1.2, hk.2⟩⟩⟩, hk.1.1.1.1.2⟩)))
       (case aB => exact (bw_ HB.out))
       (case aF => exact (fun k_ hk => ⟨Kd.freshB (bk_ BK270.out) k_ hk, Kd.freshB (bk_ BK271.out) k_ hk, Kd.freshB (bk_ BK272.out) k_ hk, Kd.freshB (bk_ BK274.out) k_ hk⟩))
       (case aO => exact (kr_ (Kd.R_mono HO_273003.out (fun _ hk => ⟨hk.1.1, ⟨hk.1.2.1, ⟨hk.1.2.2.1, hk.1.2.2.2⟩⟩⟩))))
       (case aS => exact (below_size (bw_ HB.out)))
       (case aL => have := LMc15.out; omega)
       intro v282 w24 ho hb hg hat
       rw [← Ny281.out] at ho
       have n0_ := A_ (blk_grown (bk_ BK270.out) hg (Kd.R_away HO_273003.out (fun _ hk => hk.1.1)))
       have n1_ := A_ (blk_grown (bk_ BK271.out) hg (Kd.R_away HO_273003.out (fun _ hk => hk.1.2.1)))
       have n2_ := A_ (blk_grown (bk_ BK272.out) hg (Kd.R_away HO_273003.out (fun _ hk => hk.1.2.2.1)))
       have n3_ := A_ (blk_grown (bk_ BK274.out) hg (Kd.R_away HO_273003.out (fun _ hk => hk.1.2.2.2)))
       have n4_ := A_ (hb)
       have n5_ := A_ (ho)
       clear BK270
       clear BK271
       clear BK272
       clear BK274
       clear HB
       clear HO_273003
       clear HO280
       have BK270 := n0_
       have BK271 := n1_
       have BK272 := n2_
       have BK274 := n3_
       have HB := n4_
       have HO283 := n5_
       clear n0_ n1_ n2_ n3_ n4_ n5_
       clear ho hb hg hat
       obtain ⟨Ao26, co26, eo26⟩ := Kd.R_slice HO283.out
       (first | subst eo26 | (injection eo26 with f1_ f2_ f3_; have f4_ := f1_.symm; have f5_ := f3_.symm; clear f1_ f2_ f3_; subst f4_; subst f5_))
       refine hK.out _ _ ⟨(blk_cell BK272.out 0).trans rfl, (blk_cell BK272.out 1).trans rfl, (blk_cell BK272.out 2).trans rfl, (blk_cell BK272.out 3).trans rfl, (blk_cell BK274.out 0).trans rfl, (blk_cell BK274.out 1).trans rfl, (blk_cell BK274.out 2).trans rfl, (blk_cell BK274.out 3).trans rfl⟩ (fun hHeld => ?_)
       clear hK K
       refine norm_ (a' := ?_) ?_ ?_
       rotate_left
       ·show Act.put _ (some 25) _ = _
        simp only [Act.put, List.setIfInBounds_toArray, List.set_cons_zero, List.set_cons_succ, i64_w, i32_w]
        rfl
       refine pu_ 6 (some 26) (bm_ 8 127) (any_of HT_.out (by kernel_rfl)) ?_
       refine last_ (i := 7) (N := none) (bm_ 8 255) rfl rfl (one_of HT_.out (by kernel_rfl)) (by decide) (fun K hK => ?_)
       have hs27 : w24.cell? ⟨gb272, 3, none⟩ = some (u273003) := (blk_cell BK272.out 3).trans rfl
       have hfs27 := blk_frozen BK272.out 3
       have hns27_0 := NB270_272.out
       have hns27_1 := NB271_272.out
       have hns27_3 := NB274_272.out
       have hms27_0 := NB272_270.out
       have hms27_1 := NB272_271.out
       have hms27_3 := NB272_274.out
       refine skip_ (w1 := ?_) (by rfl) rfl ?_ ?_
       rotate_left
       ·go_simp
        rfl
       refine hK.out _ _ ?_
       clear hK K
       refine done_ (done_of HT_.out (by kernel_rfl)) ?_
       try go_wp2
       go_roundg k1
       case measure => have := HK1.out; omega
       case rel => exact ⟨(wrap64 (x16_1 + 1)), (y281), (.slice Ao26 y281.length co26), d7_, H', ⟨by have := HK1.out; omega⟩, ⟨kr_ (Kd.R_mono (Kd.R_far (p := ⟨gb272, 3, none⟩) (Kd.R_mono HO283.out (fun k_ hk => (⟨hk, hk.2.2.1⟩ : _ ∧ k_ ≠ gb272))) (fun _ hk => hk.2) (.slice Ao26 y281.length co26)) (fun _ hk => ⟨hk.1.1, ⟨hk.1.2.1, hk.1.2.2.1⟩⟩))⟩, ⟨by refine bk_ ?_; refine blk_far ?_ NB270_272.out _; refine bk_ ?_; exact BK270.out⟩, ⟨by refine bk_ ?_; refine blk_far ?_ NB271_272.out _; refine bk_ ?_; exact BK271.out⟩, ⟨by refine bk_ ?_; refine blk_put (cs := #[.int .i64 a0_0, .int .i64 a0_1, .string a0_2, u273003]) ?_ 3 _ rfl; refine bk_ ?_; exact BK272.out⟩, ⟨bw_ HB.out⟩⟩
      ·rw [if_neg c15] at H
       exact absurd H (by simp)
     ·rw [if_neg c13] at H
      exact absurd H (by simp)
    ·rw [if_neg c12] at H
     exact absurd H (by simp)
   ·rw [if_neg c11] at H
    have c11b0 := decide_eq_false c11
    clear c11
    simp only [Option.some.injEq, Prod.mk.injEq] at H
    obtain ⟨rfl, rfl, rfl, rfl⟩ := H
    have hnb28 := NB272_270.out
    have hnc28 := NB270_272.out
    have hnb29 := NB272_271.out
    have hnc29 := NB271_272.out
    obtain ⟨y30_0, y30_1, y30_2, y30_3, z30_0, z30_1, z30_2, z30_3⟩ := cz4_ BK272.out
    have hnb31 := NB271_270.out
    have hnc31 := NB270_271.out
    obtain ⟨y32_0, y32_1, y32_2, y32_3, z32_0, z32_1, z32_2, z32_3⟩ := cz4_ BK271.out
    obtain ⟨Ao33, co33, eo33⟩ := Kd.R_slice HO_273003.out
    subst eo33
    go_wp2
    refine bodyPost_ret (results_cell_row rfl _ _ gb271 29 #[.int .i64 a0_0, .int .i64 a0_1, .string a0_2, .slice Ao33 x273003_1.length co33] (0, 0) _ rfl ?hb_ Try.underlying29 rfl (by kernel_rfl)) rfl ?_
    (case hb_ => exact bk_ (bp4_ (bk_ BK271.out)))
    exact ⟨_, by first | rfl | (simp [errW_none, errW_some] <;> rfl) | (simp [*, errW_none, errW_some] <;> rfl), kr_ (Kd.R_mono (rf4_ (Kd.R_mono HO_273003.out (fun k_ hk => (⟨hk, hk.2.1⟩ : _ ∧ k_ ≠ gb271))) (fun _ hk => hk.2)) (fun _ hk => trivial)), bw_ HB.out⟩

end Go.Proofs.Ytcpnhlhigpgonaa.PFnPutIn
