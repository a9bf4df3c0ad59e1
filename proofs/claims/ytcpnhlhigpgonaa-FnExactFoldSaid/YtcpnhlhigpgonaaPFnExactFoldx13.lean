-- Laid by a program of this session (a changed copy of the kit's printer); Lean checks every line.
import Derived.Test.YtcpnhlhigpgonaaPFnExactFoldx0
import Derived.Test.YtcpnhlhigpgonaaPFnExactFoldx11
import Derived.Test.YtcpnhlhigpgonaaPFnExactFoldx12
namespace Go.Proofs.Ytcpnhlhigpgonaa.PFnExactFold
open Go.RowKit Go.Proofs.YtcpnhlhigpgonaaW.PrintWords Go.Proofs.YtcpnhlhigpgonaaW.PrintLast Go.Proofs.YtcpnhlhigpgonaaW.PrintMore
attribute [local go_sem] max2_int min2_int max_two min_two max_three min_three max_four min_four   -- for this text's walks alone
set_option linter.unusedVariables false
set_option linter.unusedSimpArgs false

/-! ### impl_foldTwo: function 83 -/
mutual
def impl_foldTwo.j0 : Nat → Int → Bool → Int → Int → ByteArray → List (S29) → Int → Int → ByteArray → List (S29) → Option (Int × Int × ByteArray × (List (S29)))
 | 0, _, _, _, _, _, _, _, _, _, _ => none
 | k + 1, x0, x22, x427000, x427001, x427002, x427003, x428000, x428001, x428002, x428003 => if x22 = true then ((impl_compute.f x0 x427001 x428001).bind fun bt429 => (if bt429.2 = true then ((impl_number.f bt429.1).bind fun bt431 => (some (bt431.1, bt431.2.1, bt431.2.2.1, bt431.2.2.2))) else ((impl_two.f x0 x427000 x427001 x427002 x427003 x428000 x428001 x428002 x428003).bind fun bt437 => (some (bt437.1, bt437.2.1, bt437.2.2.1, bt437.2.2.2))))) else (if x0 = 5 then (impl_foldTwo.j1 k x0 (x427000 == 1) x427000 x427001 x427002 x427003 x428000 x428001 x428002 x428003) else (impl_foldTwo.j1 k x0 false x427000 x427001 x427002 x427003 x428000 x428001 x428002 x428003))
def impl_foldTwo.j1 : Nat → Int → Bool → Int → Int → ByteArray → List (S29) → Int → Int → ByteArray → List (S29) → Option (Int × Int × ByteArray × (List (S29)))
 | 0, _, _, _, _, _, _, _, _, _, _ => none
 | k + 1, x0, x39, x427000, x427001, x427002, x427003, x428000, x428001, x428002, x428003 => if x39 = true then ((impl_added.f k x428000 x428001 x428002 x428003 x427001).bind fun bt443 => (some (bt443.1, bt443.2.1, bt443.2.2.1, bt443.2.2.2))) else (if x0 = 5 then (impl_foldTwo.j2 k x0 (x428000 == 1) x427000 x427001 x427002 x427003 x428000 x428001 x428002 x428003) else (impl_foldTwo.j2 k x0 false x427000 x427001 x427002 x427003 x428000 x428001 x428002 x428003))
def impl_foldTwo.j2 : Nat → Int → Bool → Int → Int → ByteArray → List (S29) → Int → Int → ByteArray → List (S29) → Option (Int × Int × ByteArray × (List (S29)))
 | 0, _, _, _, _, _, _, _, _, _, _ => none
 | k + 1, x0, x51, x427000, x427001, x427002, x427003, x428000, x428001, x428002, x428003 => if x51 = true then ((impl_added.f k x427000 x427001 x427002 x427003 x428001).bind fun bt449 => (some (bt449.1, bt449.2.1, bt449.2.2.1, bt449.2.2.2))) else (if x0 = 6 then (impl_foldTwo.j3 k x0 (x428000 == 1) x427000 x427001 x427002 x427003 x428000 x428001 x428002 x428003) else (impl_foldTwo.j3 k x0 false x427000 x427001 x427002 x427003 x428000 x428001 x428002 x428003))
def impl_foldTwo.j3 : Nat → Int → Bool → Int → Int → ByteArray → List (S29) → Int → Int → ByteArray → List (S29) → Option (Int × Int × ByteArray × (List (S29)))
 | 0, _, _, _, _, _, _, _, _, _, _ => none
 | k + 1, x0, x63, x427000, x427001, x427002, x427003, x428000, x428001, x428002, x428003 => if x63 = true then ((impl_Wrap.f (wrap64 (-x428001))).bind fun t455 => ((impl_added.f k x427000 x427001 x427002 x427003 t455).bind fun bt456 => (some (bt456.1, bt456.2.1, bt456.2.2.1, bt456.2.2.2)))) else (if x0 = 6 then ((impl_inSect.f x427000 x427001 x427002 x427003).bind fun bt462 => ((impl_inSect.f x428000 x428001 x428002 x428003).bind fun bt465 => (if bt462.2.2 = true then (if bt465.2.2 = true then (impl_foldTwo.j4 k x0 bt462.2.1 bt465.2.1 (bt462.1 == bt465.1) x427000 x427001 x427002 x427003 x428000 x428001 x428002 x428003) else (impl_foldTwo.j4 k x0 bt462.2.1 bt465.2.1 false x427000 x427001 x427002 x427003 x428000 x428001 x428002 x428003)) else (impl_foldTwo.j4 k x0 bt462.2.1 bt465.2.1 false x427000 x427001 x427002 x427003 x428000 x428001 x428002 x428003)))) else ((impl_two.f x0 x427000 x427001 x427002 x427003 x428000 x428001 x428002 x428003).bind fun bt480 => (some (bt480.1, bt480.2.1, bt480.2.2.1, bt480.2.2.2))))
def impl_foldTwo.j4 : Nat → Int → Int → Int → Bool → Int → Int → ByteArray → List (S29) → Int → Int → ByteArray → List (S29) → Option (Int × Int × ByteArray × (List (S29)))
 | 0, _, _, _, _, _, _, _, _, _, _, _, _ => none
 | k + 1, x0, x10, x13, x100, x427000, x427001, x427002, x427003, x428000, x428001, x428002, x428003 => if x100 = true then ((impl_number.f (wrap64 (x10 - x13))).bind fun bt468 => (some (bt468.1, bt468.2.1, bt468.2.2.1, bt468.2.2.2))) else ((impl_two.f x0 x427000 x427001 x427002 x427003 x428000 x428001 x428002 x428003).bind fun bt474 => (some (bt474.1, bt474.2.1, bt474.2.2.1, bt474.2.2.2)))
end
def impl_foldTwo.f (k : Nat) (a0 : Int) (a1_0 : Int) (a1_1 : Int) (a1_2 : ByteArray) (l1_3 : List (S29)) (a2_0 : Int) (a2_1 : Int) (a2_2 : ByteArray) (l2_3 : List (S29)) : Option (Int × Int × ByteArray × (List (S29))) := if a1_0 = 1 then (impl_foldTwo.j0 k a0 (a2_0 == 1) a1_0 a1_1 a1_2 l1_3 a2_0 a2_1 a2_2 l2_3) else (impl_foldTwo.j0 k a0 false a1_0 a1_1 a1_2 l1_3 a2_0 a2_1 a2_2 l2_3)
theorem impl_foldTwo.mono_l : ∀ k, (∀ y0 y1 y2 y3 y4 y5 y6 y7 y8 y9, LeO (impl_foldTwo.j0 k y0 y1 y2 y3 y4 y5 y6 y7 y8 y9) (impl_foldTwo.j0 (k + 1) y0 y1 y2 y3 y4 y5 y6 y7 y8 y9)) ∧ (∀ y0 y1 y2 y3 y4 y5 y6 y7 y8 y9, LeO (impl_foldTwo.j1 k y0 y1 y2 y3 y4 y5 y6 y7 y8 y9) (impl_foldTwo.j1 (k + 1) y0 y1 y2 y3 y4 y5 y6 y7 y8 y9)) ∧ (∀ y0 y1 y2 y3 y4 y5 y6 y7 y8 y9, LeO (impl_foldTwo.j2 k y0 y1 y2 y3 y4 y5 y6 y7 y8 y9) (impl_foldTwo.j2 (k + 1) y0 y1 y2 y3 y4 y5 y6 y7 y8 y9)) ∧ (∀ y0 y1 y2 y3 y4 y5 y6 y7 y8 y9, LeO (impl_foldTwo.j3 k y0 y1 y2 y3 y4 y5 y6 y7 y8 y9) (impl_foldTwo.j3 (k + 1) y0 y1 y2 y3 y4 y5 y6 y7 y8 y9)) ∧ (∀ y0 y1 y2 y3 y4 y5 y6 y7 y8 y9 y10 y11, LeO (impl_foldTwo.j4 k y0 y1 y2 y3 y4 y5 y6 y7 y8 y9 y10 y11) (impl_foldTwo.j4 (k + 1) y0 y1 y2 y3 y4 y5 y6 y7 y8 y9 y10 y11))
 | 0 => ⟨fun _ _ _ _ _ _ _ _ _ _ r h => by simp [impl_foldTwo.j0] at h, fun _ _ _ _ _ _ _ _ _ _ r h => by simp [impl_foldTwo.j1] at h, fun _ _ _ _ _ _ _ _ _ _ r h => by simp [impl_foldTwo.j2] at h, fun _ _ _ _ _ _ _ _ _ _ r h => by simp [impl_foldTwo.j3] at h, fun _ _ _ _ _ _ _ _ _ _ _ _ r h => by simp [impl_foldTwo.j4] at h⟩
 | k + 1 => by
  obtain ⟨ih0, ih1, ih2, ih3, ih4⟩ := impl_foldTwo.mono_l k
  refine ⟨?_, ?_, ?_, ?_, ?_⟩
  ·intro y0 y1 y2 y3 y4 y5 y6 y7 y8 y9
   unfold impl_foldTwo.j0
   repeat' first
   | (with_reducible exact ih0 _ _ _ _ _ _ _ _ _ _)
   | (with_reducible exact ih1 _ _ _ _ _ _ _ _ _ _)
   | (with_reducible exact ih2 _ _ _ _ _ _ _ _ _ _)
   | (with_reducible exact ih3 _ _ _ _ _ _ _ _ _ _)
   | (with_reducible exact ih4 _ _ _ _ _ _ _ _ _ _ _ _)
   | (with_reducible exact impl_added.mono _ _ _ _ _ _)
   | (with_reducible exact LeO.refl _)
   | (with_reducible exact LeO.none _)
   | (with_reducible refine LeO.ite ?_ ?_)
   | (with_reducible refine LeO.bind ?_ (fun _ => ?_))
   | exact ih0 _ _ _ _ _ _ _ _ _ _
   | exact ih1 _ _ _ _ _ _ _ _ _ _
   | exact ih2 _ _ _ _ _ _ _ _ _ _
   | exact ih3 _ _ _ _ _ _ _ _ _ _
   | exact ih4 _ _ _ _ _ _ _ _ _ _ _ _
   | exact impl_added.mono _ _ _ _ _ _
   | exact LeO.none _
   | refine LeO.ite ?_ ?_
   | refine LeO.bind ?_ (fun _ => ?_)
  ·intro y0 y1 y2 y3 y4 y5 y6 y7 y8 y9
   unfold impl_foldTwo.j1
   repeat' first
   | (with_reducible exact ih0 _ _ _ _ _ _ _ _ _ _)
   | (with_reducible exact ih1 _ _ _ _ _ _ _ _ _ _)
   | (with_reducible exact ih2 _ _ _ _ _ _ _ _ _ _)
   | (with_reducible exact ih3 _ _ _ _ _ _ _ _ _ _)
   | (with_reducible exact ih4 _ _ _ _ _ _ _ _ _ _ _ _)
   | (with_reducible exact impl_added.mono _ _ _ _ _ _)
   | (with_reducible exact LeO.refl _)
   | (with_reducible exact LeO.none _)
   | (with_reducible refine LeO.ite ?_ ?_)
   | (with_reducible refine LeO.bind ?_ (fun _ => ?_))
   | exact ih0 _ _ _ _ _ _ _ _ _ _
   | exact ih1 _ _ _ _ _ _ _ _ _ _
   | exact ih2 _ _ _ _ _ _ _ _ _ _
   | exact ih3 _ _ _ _ _ _ _ _ _ _
   | exact ih4 _ _ _ _ _ _ _ _ _ _ _ _
   | exact impl_added.mono _ _ _ _ _ _
   | exact LeO.none _
   | refine LeO.ite ?_ ?_
   | refine LeO.bind ?_ (fun _ => ?_)
  ·intro y0 y1 y2 y3 y4 y5 y6 y7 y8 y9
   unfold impl_foldTwo.j2
   repeat' first
   | (with_reducible exact ih0 _ _ _ _ _ _ _ _ _ _)
   | (with_reducible exact ih1 _ _ _ _ _ _ _ _ _ _)
   | (with_reducible exact ih2 _ _ _ _ _ _ _ _ _ _)
   | (with_reducible exact ih3 _ _ _ _ _ _ _ _ _ _)
   | (with_reducible exact ih4 _ _ _ _ _ _ _ _ _ _ _ _)
   | (with_reducible exact impl_added.mono _ _ _ _ _ _)
   | (with_reducible exact LeO.refl _)
   | (with_reducible exact LeO.none _)
   | (with_reducible refine LeO.ite ?_ ?_)
   | (with_reducible refine LeO.bind ?_ (fun _ => ?_))
   | exact ih0 _ _ _ _ _ _ _ _ _ _
   | exact ih1 _ _ _ _ _ _ _ _ _ _
   | exact ih2 _ _ _ _ _ _ _ _ _ _
   | exact ih3 _ _ _ _ _ _ _ _ _ _
   | exact ih4 _ _ _ _ _ _ _ _ _ _ _ _
   | exact impl_added.mono _ _ _ _ _ _
   | exact LeO.none _
   | refine LeO.ite ?_ ?_
   | refine LeO.bind ?_ (fun _ => ?_)
  ·intro y0 y1 y2 y3 y4 y5 y6 y7 y8 y9
   unfold impl_foldTwo.j3
   repeat' first
   | (with_reducible exact ih0 _ _ _ _ _ _ _ _ _ _)
   | (with_reducible exact ih1 _ _ _ _ _ _ _ _ _ _)
   | (with_reducible exact ih2 _ _ _ _ _ _ _ _ _ _)
   | (with_reducible exact ih3 _ _ _ _ _ _ _ _ _ _)
   | (with_reducible exact ih4 _ _ _ _ _ _ _ _ _ _ _ _)
   | (with_reducible exact impl_added.mono _ _ _ _ _ _)
   | (with_reducible exact LeO.refl _)
   | (with_reducible exact LeO.none _)
   | (with_reducible refine LeO.ite ?_ ?_)
   | (with_reducible refine LeO.bind ?_ (fun _ => ?_))
   | exact ih0 _ _ _ _ _ _ _ _ _ _
   | exact ih1 _ _ _ _ _ _ _ _ _ _
   | exact ih2 _ _ _ _ _ _ _ _ _ _
   | exact ih3 _ _ _ _ _ _ _ _ _ _
   | exact ih4 _ _ _ _ _ _ _ _ _ _ _ _
   | exact impl_added.mono _ _ _ _ _ _
   | exact LeO.none _
   | refine LeO.ite ?_ ?_
   | refine LeO.bind ?_ (fun _ => ?_)
  ·intro y0 y1 y2 y3 y4 y5 y6 y7 y8 y9 y10 y11
   unfold impl_foldTwo.j4
   repeat' first
   | (with_reducible exact ih0 _ _ _ _ _ _ _ _ _ _)
   | (with_reducible exact ih1 _ _ _ _ _ _ _ _ _ _)
   | (with_reducible exact ih2 _ _ _ _ _ _ _ _ _ _)
   | (with_reducible exact ih3 _ _ _ _ _ _ _ _ _ _)
   | (with_reducible exact ih4 _ _ _ _ _ _ _ _ _ _ _ _)
   | (with_reducible exact impl_added.mono _ _ _ _ _ _)
   | (with_reducible exact LeO.refl _)
   | (with_reducible exact LeO.none _)
   | (with_reducible refine LeO.ite ?_ ?_)
   | (with_reducible refine LeO.bind ?_ (fun _ => ?_))
   | exact ih0 _ _ _ _ _ _ _ _ _ _
   | exact ih1 _ _ _ _ _ _ _ _ _ _
   | exact ih2 _ _ _ _ _ _ _ _ _ _
   | exact ih3 _ _ _ _ _ _ _ _ _ _
   | exact ih4 _ _ _ _ _ _ _ _ _ _ _ _
   | exact impl_added.mono _ _ _ _ _ _
   | exact LeO.none _
   | refine LeO.ite ?_ ?_
   | refine LeO.bind ?_ (fun _ => ?_)
theorem impl_foldTwo.mono : ∀ a0 a1 a2 a3 a4 a5 a6 a7 a8 k, LeO (impl_foldTwo.f k a0 a1 a2 a3 a4 a5 a6 a7 a8) (impl_foldTwo.f (k + 1) a0 a1 a2 a3 a4 a5 a6 a7 a8) := by
 intro a0 a1 a2 a3 a4 a5 a6 a7 a8 k
 obtain ⟨ih0, ih1, ih2, ih3, ih4⟩ := impl_foldTwo.mono_l k
 unfold impl_foldTwo.f
 repeat' first
   | (with_reducible exact ih0 _ _ _ _ _ _ _ _ _ _)
   | (with_reducible exact ih1 _ _ _ _ _ _ _ _ _ _)
   | (with_reducible exact ih2 _ _ _ _ _ _ _ _ _ _)
   | (with_reducible exact ih3 _ _ _ _ _ _ _ _ _ _)
   | (with_reducible exact ih4 _ _ _ _ _ _ _ _ _ _ _ _)
   | (with_reducible exact impl_added.mono _ _ _ _ _ _)
   | (with_reducible exact LeO.refl _)
   | (with_reducible exact LeO.none _)
   | (with_reducible refine LeO.ite ?_ ?_)
   | (with_reducible refine LeO.bind ?_ (fun _ => ?_))
   | exact ih0 _ _ _ _ _ _ _ _ _ _
   | exact ih1 _ _ _ _ _ _ _ _ _ _
   | exact ih2 _ _ _ _ _ _ _ _ _ _
   | exact ih3 _ _ _ _ _ _ _ _ _ _
   | exact ih4 _ _ _ _ _ _ _ _ _ _ _ _
   | exact impl_added.mono _ _ _ _ _ _
   | exact LeO.none _
   | refine LeO.ite ?_ ?_
   | refine LeO.bind ?_ (fun _ => ?_)
set_option maxHeartbeats 8000000 in
set_option maxRecDepth 100000 in
theorem impl_foldTwo.calls (k : Nat) (b0 : Nat) (a0 : Int) (a1_0 : Int) (a1_1 : Int) (a1_2 : ByteArray) (P1_3_ : Nat → Prop) (A1_3 : Option Addr) (c1_3 : Nat) (l1_3 : List (S29)) (a2_0 : Int) (a2_1 : Int) (a2_2 : ByteArray) (P2_3_ : Nat → Prop) (A2_3 : Option Addr) (c2_3 : Nat) (l2_3 : List (S29)) (r1 : Int) (r2 : Int) (r3 : ByteArray) (r4 : List (S29)) (w : World) (hs1_3 : Kd.S q29 29 w b0 (fun k_ => P1_3_ k_) (.slice A1_3 l1_3.length c1_3) l1_3) (hs2_3 : Kd.S q29 29 w b0 (fun k_ => P2_3_ k_) (.slice A2_3 l2_3.length c2_3) l2_3) (hb0 : b0 ≤ w.heap.size) (hd : ∀ k_, P1_3_ k_ → P2_3_ k_ → False) (h : impl_foldTwo.f k a0 a1_0 a1_1 a1_2 l1_3 a2_0 a2_1 a2_2 l2_3 = some (r1, r2, r3, r4)) :
  Calls Try.prog 83 #[.int .i64 a0, .agg #[.int .i64 a1_0, .int .i64 a1_1, .string a1_2, .slice A1_3 l1_3.length c1_3], .agg #[.int .i64 a2_0, .int .i64 a2_1, .string a2_2, .slice A2_3 l2_3.length c2_3]] w fun e w' => ∃ v3_ : Value, e = .returned (.agg #[.int .i64 r1, .int .i64 r2, .string r3, v3_]) ∧ Kd.S q29 29 w' b0 (fun k_ => ((P1_3_ k_ ∨ P2_3_ k_) ∨ w.heap.size ≤ k_)) v3_ r4 ∧ Below w.heap.size w w' := by
 have hu29 := Try.underlying29
 have HO1_3 := A_ hs1_3
 have HO2_3 := A_ hs2_3
 have HB := A_ (Below.refl w.heap.size w)
 have H : (if a1_0 = 1 then (impl_foldTwo.j0 k a0 (a2_0 == 1) a1_0 a1_1 a1_2 l1_3 a2_0 a2_1 a2_2 l2_3) else (impl_foldTwo.j0 k a0 false a1_0 a1_1 a1_2 l1_3 a2_0 a2_1 a2_2 l2_3)) = some (r1, r2, r3, r4) := h
 clear h
 have HC4 := A_ H
 clear H
 go_enter Try.func83, Try.ntmps83
 go_upto_region 1 with (first | ((with_reducible refine gate_dst (N := 4) rfl ?_); refine bx_ 4 #[.int .i64 a1_0, .int .i64 a1_1, .string a1_2, .slice A1_3 l1_3.length c1_3] 29 ?_; intro gb426 hg w5 hbox hb; have n0_ := A_ (Kd.S_below (Kd.S_elderB (kz_ HO1_3.out) gb426 (Nat.le_of_eq hg.symm)) hb); have n1_ := A_ (Kd.S_below (Kd.S_elderB (kz_ HO2_3.out) gb426 (Nat.le_of_eq hg.symm)) hb); have n2_ := A_ (below_step (bw_ HB.out) hb); have n3_ := A_ (hbox); have n4_ := A_ ((d3_ : w.heap.size ≤ gb426)); have n5_ := n4_; clear HO1_3; clear HO2_3; clear HB; have HO1_3 := n0_; have HO2_3 := n1_; have HB := n2_; have BK426 := n3_; have GW426 := n4_; have GE426 := n5_; have GI426 := GeI.mk GE426.out; clear n0_ n1_ n2_ n3_ n4_ n5_; clear hb hbox hg) | ((with_reducible refine gate_dst (N := 5) rfl ?_); refine bx_ 5 #[.int .i64 a2_0, .int .i64 a2_1, .string a2_2, .slice A2_3 l2_3.length c2_3] 29 ?_; intro gb427 hg w6 hbox hb; have n0_ := A_ (Kd.S_below (Kd.S_elderB (kz_ HO1_3.out) gb427 (Nat.le_of_eq hg.symm)) hb); have n1_ := A_ (Kd.S_below (Kd.S_elderB (kz_ HO2_3.out) gb427 (Nat.le_of_eq hg.symm)) hb); have n2_ := A_ (blk_below (bk_ BK426.out) hb); have n3_ := A_ (below_step (bw_ HB.out) hb); have n4_ := A_ (hbox); have n5_ := A_ ((d3_ : w.heap.size ≤ gb427)); have n6_ := n5_; have n7_ := A_ ((by rw [hg]; exact Nat.ne_of_lt (blk_lt (bk_ BK426.out)) : gb426 ≠ gb427)); have n8_ := A_ n7_.out.symm; clear HO1_3; clear HO2_3; clear BK426; clear HB; have HO1_3 := n0_; have HO2_3 := n1_; have BK426 := n2_; have HB := n3_; have BK427 := n4_; have GW427 := n5_; have GE427 := n6_; have GI427 := GeI.mk GE427.out; have NB426_427 := n7_; have NB427_426 := n8_; clear n0_ n1_ n2_ n3_ n4_ n5_ n6_ n7_ n8_; clear hb hbox hg) | ((with_reducible refine gate_dst (N := 6) rfl ?_); refine bx_ 6 #[.int .i64 0, .int .i64 0, .string (⟨#[]⟩ : ByteArray), .slice none 0 0] 29 ?_; intro gb428 hg w7 hbox hb; have n0_ := A_ (Kd.S_below (Kd.S_elderB (kz_ HO1_3.out) gb428 (Nat.le_of_eq hg.symm)) hb); have n1_ := A_ (Kd.S_below (Kd.S_elderB (kz_ HO2_3.out) gb428 (Nat.le_of_eq hg.symm)) hb); have n2_ := A_ (blk_below (bk_ BK426.out) hb); have n3_ := A_ (blk_below (bk_ BK427.out) hb); have n4_ := A_ (below_step (bw_ HB.out) hb); have n5_ := A_ (hbox); have n6_ := A_ ((d3_ : w.heap.size ≤ gb428)); have n7_ := n6_; have n8_ := A_ ((by rw [hg]; exact Nat.ne_of_lt (blk_lt (bk_ BK426.out)) : gb426 ≠ gb428)); have n9_ := A_ n8_.out.symm; have n10_ := A_ ((by rw [hg]; exact Nat.ne_of_lt (blk_lt (bk_ BK427.out)) : gb427 ≠ gb428)); have n11_ := A_ n10_.out.symm; clear HO1_3; clear HO2_3; clear BK426; clear BK427; clear HB; have HO1_3 := n0_; have HO2_3 := n1_; have BK426 := n2_; have BK427 := n3_; have HB := n4_; have BK428 := n5_; have GW428 := n6_; have GE428 := n7_; have GI428 := GeI.mk GE428.out; have NB426_428 := n8_; have NB428_426 := n9_; have NB427_428 := n10_; have NB428_427 := n11_; clear n0_ n1_ n2_ n3_ n4_ n5_ n6_ n7_ n8_ n9_ n10_ n11_; clear hb hbox hg))
 (try simp only [Act.put, List.setIfInBounds_toArray, List.set_cons_zero, List.set_cons_succ])
 go_cut [22] (fun v22 wc => ∃ (kq : Nat) (x22_3 : Bool), v22 = .bool x22_3 ∧ Aside0 (impl_foldTwo.j0 kq a0 x22_3 a1_0 a1_1 a1_2 l1_3 a2_0 a2_1 a2_2 l2_3 = some (r1, r2, r3, r4)) ∧ Aside0 (kq ≤ k) ∧ Aside0 (Kd.S q29 29 wc b0 (fun k_ => P1_3_ k_ ∧ k_ ≠ gb426 ∧ k_ ≠ gb427 ∧ k_ ≠ gb428) (.slice A1_3 l1_3.length c1_3) l1_3) ∧ Aside0 (Kd.S q29 29 wc b0 (fun k_ => P2_3_ k_ ∧ k_ ≠ gb426 ∧ k_ ≠ gb427 ∧ k_ ≠ gb428) (.slice A2_3 l2_3.length c2_3) l2_3) ∧ Aside0 (wc.heap[gb426]? = some (.cells #[.int .i64 a1_0, .int .i64 a1_1, .string a1_2, (.slice A1_3 l1_3.length c1_3)] 29 (0, 0))) ∧ Aside0 (wc.heap[gb427]? = some (.cells #[.int .i64 a2_0, .int .i64 a2_1, .string a2_2, (.slice A2_3 l2_3.length c2_3)] 29 (0, 0))) ∧ Aside0 (wc.heap[gb428]? = some (.cells #[.int .i64 0, .int .i64 0, .string (⟨#[]⟩ : ByteArray), (.slice none 0 0)] 29 (0, 0))) ∧ Aside0 (Below w.heap.size w wc))
 case first =>
  have H := HC4.out
  clear HC4
  by_cases c8 : a1_0 = 1
  ·rw [if_pos c8] at H
   have c8b0 := beq_iff_eq.mpr c8
   have c8b1 := bne_eq_false_iff_eq.mpr c8
   clear c8
   (first | rw [c8b0] | (simp only [i64_w, i32_w]; rw [c8b0]) | skip)
   have H' := A_ H
   clear H
   have hnb9 := NB426_427.out
   have hnc9 := NB427_426.out
   have hnb10 := NB426_428.out
   have hnc10 := NB428_426.out
   obtain ⟨y11_0, y11_1, y11_2, y11_3, z11_0, z11_1, z11_2, z11_3⟩ := cz4_ BK426.out
   have hnb12 := NB427_428.out
   have hnc12 := NB428_427.out
   obtain ⟨y13_0, y13_1, y13_2, y13_3, z13_0, z13_1, z13_2, z13_3⟩ := cz4_ BK427.out
   go_wp2
   go_meet
   case rel => exact ⟨_, ((a2_0 == 1)), d4_, H', ⟨by first | omega | exact Nat.le_refl _⟩, ⟨kz_ (Kd.S_mono HO1_3.out (fun _ hk => ⟨hk.1.1.1, ⟨hk.1.1.2, ⟨hk.1.2, hk.2⟩⟩⟩))⟩, ⟨kz_ (Kd.S_mono HO2_3.out (fun _ hk => ⟨hk.1.1.1, ⟨hk.1.1.2, ⟨hk.1.2, hk.2⟩⟩⟩))⟩, ⟨by refine bk_ ?_; exact BK426.out⟩, ⟨by refine bk_ ?_; exact BK427.out⟩, ⟨by refine bk_ ?_; exact BK428.out⟩, ⟨bw_ HB.out⟩⟩
  ·rw [if_neg c8] at H
   have c8b0 := beq_eq_false_iff_ne.mpr c8
   have c8b1 := bne_iff_ne.mpr c8
   (first | rw [c8b0] | (simp only [i64_w, i32_w]; rw [c8b0]) | skip)
   have H' := A_ H
   clear H
   have hnb14 := NB426_427.out
   have hnc14 := NB427_426.out
   have hnb15 := NB426_428.out
   have hnc15 := NB428_426.out
   obtain ⟨y16_0, y16_1, y16_2, y16_3, z16_0, z16_1, z16_2, z16_3⟩ := cz4_ BK426.out
   go_wp2
   go_meet
   case rel => exact ⟨_, (false), d4_, H', ⟨by first | omega | exact Nat.le_refl _⟩, ⟨kz_ (Kd.S_mono HO1_3.out (fun _ hk => ⟨hk.1.1.1, ⟨hk.1.1.2, ⟨hk.1.2, hk.2⟩⟩⟩))⟩, ⟨kz_ (Kd.S_mono HO2_3.out (fun _ hk => ⟨hk.1.1.1, ⟨hk.1.1.2, ⟨hk.1.2, hk.2⟩⟩⟩))⟩, ⟨by refine bk_ ?_; exact BK426.out⟩, ⟨by refine bk_ ?_; exact BK427.out⟩, ⟨by refine bk_ ?_; exact BK428.out⟩, ⟨bw_ HB.out⟩⟩
 case rest =>
  clear HC4
  try clear c1
  try clear c2
  try clear p2
  try clear c8
  try clear c8b0
  try clear c8b1
  try clear c9
  try clear c10
  try clear c12
  try clear c14
  try clear c15
  try clear y11_0 y11_1 y11_2 y11_3 z11_0 z11_1 z11_2 z11_3
  try clear y13_0 y13_1 y13_2 y13_3 z13_0 z13_1 z13_2 z13_3
  try clear y16_0 y16_1 y16_2 y16_3 z16_0 z16_1 z16_2 z16_3
  obtain ⟨kq, x22_3, rfl, HA, HJ3, HO_427003, HO_428003, BK426, BK427, BK428, HB⟩ := hcut
  cases kq with
  | zero => exact absurd HA.out (by simp [impl_foldTwo.j0])
  | succ kj3 =>
   have H := HA.out
   clear HA
   simp only [impl_foldTwo.j0] at H
   by_cases c17 : x22_3 = true
   ·subst c17
    rw [if_pos rfl] at H
    replace H := Option.bind_eq_some_iff.mp H
    obtain ⟨⟨t429, t430⟩, A180, H⟩ := H
    try dsimp only at H
    have A18 := A_ A180
    clear A180
    by_cases c19 : t430 = true
    ·subst c19
     rw [if_pos rfl] at H
     replace H := Option.bind_eq_some_iff.mp H
     obtain ⟨⟨t431, t432, t433, t434⟩, A200, H⟩ := H
     try dsimp only at H
     have A20 := A_ A200
     clear A200
     simp only [Option.some.injEq, Prod.mk.injEq] at H
     obtain ⟨rfl, rfl, rfl, rfl⟩ := H
     have hnb21 := NB426_427.out
     have hnc21 := NB427_426.out
     have hnb22 := NB426_428.out
     have hnc22 := NB428_426.out
     obtain ⟨y23_0, y23_1, y23_2, y23_3, z23_0, z23_1, z23_2, z23_3⟩ := cz4_ BK426.out
     have hnb24 := NB427_428.out
     have hnc24 := NB428_427.out
     obtain ⟨y25_0, y25_1, y25_2, y25_3, z25_0, z25_1, z25_2, z25_3⟩ := cz4_ BK427.out
     go_wp2_with (first | ((with_reducible refine gate_callee (f := 78) rfl ?_); refine gL_ (some 29) Try.func78 #[.int .i64 a0, .int .i64 a1_1, .int .i64 a2_1] ?_; (with_reducible refine (impl_compute.calls a0 a1_1 a2_1 t429 true _ A18.out).mono ?_); rintro e w' ⟨rfl, ⟨nd, rfl⟩⟩; refine ⟨_, rfl, ?_⟩; (try (rw [drewN_self wc]; generalize hq_ : World.drewN wc _ = wc; have n0_ : Aside0 (Kd.S q29 29 wc b0 (fun k_ => P1_3_ k_ ∧ k_ ≠ gb426 ∧ k_ ≠ gb427 ∧ k_ ≠ gb428) (.slice A1_3 l1_3.length c1_3) l1_3) := ⟨by rw [← hq_]; exact (kz_ HO_427003.out)⟩; have n1_ : Aside0 (Kd.S q29 29 wc b0 (fun k_ => P2_3_ k_ ∧ k_ ≠ gb426 ∧ k_ ≠ gb427 ∧ k_ ≠ gb428) (.slice A2_3 l2_3.length c2_3) l2_3) := ⟨by rw [← hq_]; exact (kz_ HO_428003.out)⟩; have n2_ := A_ (bq_ hq_ BK426.out); have n3_ := A_ (bq_ hq_ BK427.out); have n4_ := A_ (bq_ hq_ BK428.out); have n5_ := A_ (wq_ hq_ HB.out); clear HO_427003 HO_428003 BK426 BK427 BK428 HB hq_; have HO_427003 := n0_; have HO_428003 := n1_; have BK426 := n2_; have BK427 := n3_; have BK428 := n4_; have HB := n5_; clear n0_ n1_ n2_ n3_ n4_ n5_; have hcq426_0 : wc.cell? ⟨gb426, 0, none⟩ = some (.int .i64 a1_0) := (blk_cell BK426.out 0).trans rfl; have hcq426_1 : wc.cell? ⟨gb426, 1, none⟩ = some (.int .i64 a1_1) := (blk_cell BK426.out 1).trans rfl; have hcq426_2 : wc.cell? ⟨gb426, 2, none⟩ = some (.string a1_2) := (blk_cell BK426.out 2).trans rfl; have hcq426_3 : wc.cell? ⟨gb426, 3, none⟩ = some (.slice A1_3 l1_3.length c1_3) := (blk_cell BK426.out 3).trans rfl; have hcq427_0 : wc.cell? ⟨gb427, 0, none⟩ = some (.int .i64 a2_0) := (blk_cell BK427.out 0).trans rfl; have hcq427_1 : wc.cell? ⟨gb427, 1, none⟩ = some (.int .i64 a2_1) := (blk_cell BK427.out 1).trans rfl; have hcq427_2 : wc.cell? ⟨gb427, 2, none⟩ = some (.string a2_2) := (blk_cell BK427.out 2).trans rfl; have hcq427_3 : wc.cell? ⟨gb427, 3, none⟩ = some (.slice A2_3 l2_3.length c2_3) := (blk_cell BK427.out 3).trans rfl; have hcq428_0 : wc.cell? ⟨gb428, 0, none⟩ = some (.int .i64 0) := (blk_cell BK428.out 0).trans rfl; have hcq428_1 : wc.cell? ⟨gb428, 1, none⟩ = some (.int .i64 0) := (blk_cell BK428.out 1).trans rfl; have hcq428_2 : wc.cell? ⟨gb428, 2, none⟩ = some (.string (⟨#[]⟩ : ByteArray)) := (blk_cell BK428.out 2).trans rfl; have hcq428_3 : wc.cell? ⟨gb428, 3, none⟩ = some (.slice none 0 0) := (blk_cell BK428.out 3).trans rfl))) | ((with_reducible refine gate_callee (f := 82) rfl ?_); refine gL_ (some 34) Try.func82 #[.int .i64 t429] ?_; (with_reducible refine (impl_number.calls t429 t431 t432 t433 t434 _ A20.out).mono ?_); rintro e w26 ⟨v435, rfl, ho0, hb⟩; refine ⟨_, rfl, ?_⟩; replace HO_427003 := A_ (Kd.S_below (kz_ HO_427003.out) hb); replace HO_428003 := A_ (Kd.S_below (kz_ HO_428003.out) hb); have HO436 := A_ (Kd.S_lower (Kd.S_mono (ok' := fun k_ => ((P1_3_ k_ ∨ P2_3_ k_) ∨ w.heap.size ≤ k_) ∧ k_ ≠ gb426 ∧ k_ ≠ gb427 ∧ k_ ≠ gb428) (Kd.S_bound ho0) (fun k_ hk_ => ⟨(.inr (Nat.le_trans (below_size (bw_ HB.out)) hk_.2.1)), (Kd.freshB (bk_ BK426.out) k_ hk_.2.1), (Kd.freshB (bk_ BK427.out) k_ hk_.2.1), (Kd.freshB (bk_ BK428.out) k_ hk_.2.1)⟩)) (Nat.le_trans hb0 (below_size (bw_ HB.out)))); replace BK426 := A_ (blk_below (bk_ BK426.out) hb); replace BK427 := A_ (blk_below (bk_ BK427.out) hb); replace BK428 := A_ (blk_below (bk_ BK428.out) hb); replace HB := A_ (below_step (bw_ HB.out) hb); clear hb; (try clear ho0); obtain ⟨y27_0, y27_1, y27_2, y27_3, z27_0, z27_1, z27_2, z27_3⟩ := cz4_ BK428.out; obtain ⟨Ao28, co28, eo28⟩ := Kd.S_slice HO436.out; subst eo28))
     refine bodyPost_ret (results_cell_row rfl _ _ gb428 29 #[.int .i64 t431, .int .i64 t432, .string t433, .slice Ao28 t434.length co28] (0, 0) _ rfl ?hb_ Try.underlying29 rfl (by kernel_rfl)) rfl ?_
     (case hb_ => exact bk_ (bp4_ (bk_ BK428.out)))
     exact ⟨_, by first | rfl | (simp [errW_none, errW_some] <;> rfl) | (simp [*, errW_none, errW_some] <;> rfl), Kd.Z_V (by (with_reducible repeat (first | apply Kd.S_alloc | apply Kd.S_drewN | apply Kd.S_drew)); exact Kd.S_mono (zf4_ (Kd.S_mono HO436.out (fun k_ hk => (⟨hk, hk.2.2.2⟩ : _ ∧ k_ ≠ gb428))) (fun _ hk => hk.2)) (fun _ hk => hk.1.1)), bw_ HB.out⟩
    ·replace c19 := Bool.eq_false_iff.mpr c19
     subst c19
     rw [if_neg (show ¬ (false = true) by decide)] at H
     replace H := Option.bind_eq_some_iff.mp H
     obtain ⟨⟨t437, t438, t439, t440⟩, A290, H⟩ := H
     try dsimp only at H
     have A29 := A_ A290
     clear A290
     simp only [Option.some.injEq, Prod.mk.injEq] at H
     obtain ⟨rfl, rfl, rfl, rfl⟩ := H
     have hnb30 := NB426_427.out
     have hnc30 := NB427_426.out
     have hnb31 := NB426_428.out
     have hnc31 := NB428_426.out
     obtain ⟨y32_0, y32_1, y32_2, y32_3, z32_0, z32_1, z32_2, z32_3⟩ := cz4_ BK426.out
     have hnb33 := NB427_428.out
     have hnc33 := NB428_427.out
     obtain ⟨y34_0, y34_1, y34_2, y34_3, z34_0, z34_1, z34_2, z34_3⟩ := cz4_ BK427.out
     go_wp2_with (first | ((with_reducible refine gate_callee (f := 78) rfl ?_); refine gL_ (some 29) Try.func78 #[.int .i64 a0, .int .i64 a1_1, .int .i64 a2_1] ?_; (with_reducible refine (impl_compute.calls a0 a1_1 a2_1 t429 false _ A18.out).mono ?_); rintro e w' ⟨rfl, ⟨nd, rfl⟩⟩; refine ⟨_, rfl, ?_⟩; (try (rw [drewN_self wc]; generalize hq_ : World.drewN wc _ = wc; have n0_ : Aside0 (Kd.S q29 29 wc b0 (fun k_ => P1_3_ k_ ∧ k_ ≠ gb426 ∧ k_ ≠ gb427 ∧ k_ ≠ gb428) (.slice A1_3 l1_3.length c1_3) l1_3) := ⟨by rw [← hq_]; exact (kz_ HO_427003.out)⟩; have n1_ : Aside0 (Kd.S q29 29 wc b0 (fun k_ => P2_3_ k_ ∧ k_ ≠ gb426 ∧ k_ ≠ gb427 ∧ k_ ≠ gb428) (.slice A2_3 l2_3.length c2_3) l2_3) := ⟨by rw [← hq_]; exact (kz_ HO_428003.out)⟩; have n2_ := A_ (bq_ hq_ BK426.out); have n3_ := A_ (bq_ hq_ BK427.out); have n4_ := A_ (bq_ hq_ BK428.out); have n5_ := A_ (wq_ hq_ HB.out); clear HO_427003 HO_428003 BK426 BK427 BK428 HB hq_; have HO_427003 := n0_; have HO_428003 := n1_; have BK426 := n2_; have BK427 := n3_; have BK428 := n4_; have HB := n5_; clear n0_ n1_ n2_ n3_ n4_ n5_; have hcq426_0 : wc.cell? ⟨gb426, 0, none⟩ = some (.int .i64 a1_0) := (blk_cell BK426.out 0).trans rfl; have hcq426_1 : wc.cell? ⟨gb426, 1, none⟩ = some (.int .i64 a1_1) := (blk_cell BK426.out 1).trans rfl; have hcq426_2 : wc.cell? ⟨gb426, 2, none⟩ = some (.string a1_2) := (blk_cell BK426.out 2).trans rfl; have hcq426_3 : wc.cell? ⟨gb426, 3, none⟩ = some (.slice A1_3 l1_3.length c1_3) := (blk_cell BK426.out 3).trans rfl; have hcq427_0 : wc.cell? ⟨gb427, 0, none⟩ = some (.int .i64 a2_0) := (blk_cell BK427.out 0).trans rfl; have hcq427_1 : wc.cell? ⟨gb427, 1, none⟩ = some (.int .i64 a2_1) := (blk_cell BK427.out 1).trans rfl; have hcq427_2 : wc.cell? ⟨gb427, 2, none⟩ = some (.string a2_2) := (blk_cell BK427.out 2).trans rfl; have hcq427_3 : wc.cell? ⟨gb427, 3, none⟩ = some (.slice A2_3 l2_3.length c2_3) := (blk_cell BK427.out 3).trans rfl; have hcq428_0 : wc.cell? ⟨gb428, 0, none⟩ = some (.int .i64 0) := (blk_cell BK428.out 0).trans rfl; have hcq428_1 : wc.cell? ⟨gb428, 1, none⟩ = some (.int .i64 0) := (blk_cell BK428.out 1).trans rfl; have hcq428_2 : wc.cell? ⟨gb428, 2, none⟩ = some (.string (⟨#[]⟩ : ByteArray)) := (blk_cell BK428.out 2).trans rfl; have hcq428_3 : wc.cell? ⟨gb428, 3, none⟩ = some (.slice none 0 0) := (blk_cell BK428.out 3).trans rfl))) | ((with_reducible refine gate_callee (f := 92) rfl ?_); refine gL_ (some 38) Try.func92 #[.int .i64 a0, .agg #[.int .i64 a1_0, .int .i64 a1_1, .string a1_2, .slice A1_3 l1_3.length c1_3], .agg #[.int .i64 a2_0, .int .i64 a2_1, .string a2_2, .slice A2_3 l2_3.length c2_3]] ?_; (with_reducible refine (impl_two.calls b0 a0 a1_0 a1_1 a1_2 (fun k_ => (P1_3_ k_ ∧ (k_ ≠ gb426 ∧ (k_ ≠ gb427 ∧ k_ ≠ gb428)))) _ _ l1_3 a2_0 a2_1 a2_2 (fun k_ => (P2_3_ k_ ∧ (k_ ≠ gb426 ∧ (k_ ≠ gb427 ∧ k_ ≠ gb428)))) _ _ l2_3 t437 t438 t439 t440 _ ?side1 ?side2 ?sideb ?sided A29.out).mono ?_); (case sideb => exact Nat.le_trans hb0 (below_size (bw_ HB.out))); (case sided => exact fun k_ h1_ h2_ => hd k_ h1_.1 h2_.1); (case side1 => exact kz_ HO_427003.out); (case side2 => exact kz_ HO_428003.out); rintro e w35 ⟨v441, rfl, ho0, hb⟩; refine ⟨_, rfl, ?_⟩; replace HO_427003 := A_ (Kd.S_below (kz_ HO_427003.out) hb); replace HO_428003 := A_ (Kd.S_below (kz_ HO_428003.out) hb); have HO442 := A_ ((Kd.S_mono (ok' := fun k_ => ((P1_3_ k_ ∨ P2_3_ k_) ∨ w.heap.size ≤ k_) ∧ k_ ≠ gb426 ∧ k_ ≠ gb427 ∧ k_ ≠ gb428) ho0 (fun k_ hk_ => ⟨Or.elim hk_ (fun hs_ => Or.elim hs_ (fun hs_ => (.inl (.inl hs_.1))) (fun hs_ => (.inl (.inr hs_.1)))) (fun hn_ => (.inr (Nat.le_trans (below_size (bw_ HB.out)) hn_))), Or.elim hk_ (fun hs_ => Or.elim hs_ (fun hs_ => hs_.2.1) (fun hs_ => hs_.2.1)) (fun hn_ => (Kd.freshB (bk_ BK426.out) k_ hn_)), Or.elim hk_ (fun hs_ => Or.elim hs_ (fun hs_ => hs_.2.2.1) (fun hs_ => hs_.2.2.1)) (fun hn_ => (Kd.freshB (bk_ BK427.out) k_ hn_)), Or.elim hk_ (fun hs_ => Or.elim hs_ (fun hs_ => hs_.2.2.2) (fun hs_ => hs_.2.2.2)) (fun hn_ => (Kd.freshB (bk_ BK428.out) k_ hn_))⟩))); replace BK426 := A_ (blk_below (bk_ BK426.out) hb); replace BK427 := A_ (blk_below (bk_ BK427.out) hb); replace BK428 := A_ (blk_below (bk_ BK428.out) hb); replace HB := A_ (below_step (bw_ HB.out) hb); clear hb; (try clear ho0); obtain ⟨y36_0, y36_1, y36_2, y36_3, z36_0, z36_1, z36_2, z36_3⟩ := cz4_ BK428.out; obtain ⟨Ao37, co37, eo37⟩ := Kd.S_slice HO442.out; subst eo37))
     refine bodyPost_ret (results_cell_row rfl _ _ gb428 29 #[.int .i64 t437, .int .i64 t438, .string t439, .slice Ao37 t440.length co37] (0, 0) _ rfl ?hb_ Try.underlying29 rfl (by kernel_rfl)) rfl ?_
     (case hb_ => exact bk_ (bp4_ (bk_ BK428.out)))
     exact ⟨_, by first | rfl | (simp [errW_none, errW_some] <;> rfl) | (simp [*, errW_none, errW_some] <;> rfl), Kd.Z_V (by (with_reducible repeat (first | apply Kd.S_alloc | apply Kd.S_drewN | apply Kd.S_drew)); exact Kd.S_mono (zf4_ (Kd.S_mono HO442.out (fun k_ hk => (⟨hk, hk.2.2.2⟩ : _ ∧ k_ ≠ gb428))) (fun _ hk => hk.2)) (fun _ hk => hk.1.1)), bw_ HB.out⟩
   ·replace c17 := Bool.eq_false_iff.mpr c17
    subst c17
    rw [if_neg (show ¬ (false = true) by decide)] at H
    have HC38 := A_ H
    clear H
    go_upto_region 6 with (fail)
    go_cut [39] (fun v39 wc => ∃ (kq : Nat) (x39_37 : Bool), v39 = .bool x39_37 ∧ Aside0 (impl_foldTwo.j1 kq a0 x39_37 a1_0 a1_1 a1_2 l1_3 a2_0 a2_1 a2_2 l2_3 = some (r1, r2, r3, r4)) ∧ Aside0 (kq ≤ kj3) ∧ Aside0 (Kd.S q29 29 wc b0 (fun k_ => P1_3_ k_ ∧ k_ ≠ gb426 ∧ k_ ≠ gb427 ∧ k_ ≠ gb428) (.slice A1_3 l1_3.length c1_3) l1_3) ∧ Aside0 (Kd.S q29 29 wc b0 (fun k_ => P2_3_ k_ ∧ k_ ≠ gb426 ∧ k_ ≠ gb427 ∧ k_ ≠ gb428) (.slice A2_3 l2_3.length c2_3) l2_3) ∧ Aside0 (wc.heap[gb426]? = some (.cells #[.int .i64 a1_0, .int .i64 a1_1, .string a1_2, (.slice A1_3 l1_3.length c1_3)] 29 (0, 0))) ∧ Aside0 (wc.heap[gb427]? = some (.cells #[.int .i64 a2_0, .int .i64 a2_1, .string a2_2, (.slice A2_3 l2_3.length c2_3)] 29 (0, 0))) ∧ Aside0 (wc.heap[gb428]? = some (.cells #[.int .i64 0, .int .i64 0, .string (⟨#[]⟩ : ByteArray), (.slice none 0 0)] 29 (0, 0))) ∧ Aside0 (Below w.heap.size w wc))
    case first =>
     have H := HC38.out
     clear HC38
     by_cases c39 : a0 = 5
     ·rw [if_pos c39] at H
      have c39b0 := beq_iff_eq.mpr c39
      have c39b1 := bne_eq_false_iff_eq.mpr c39
      clear c39
      (first | rw [c39b0] | (simp only [i64_w, i32_w]; rw [c39b0]) | skip)
      have H' := A_ H
      clear H
      have hnb40 := NB426_427.out
      have hnc40 := NB427_426.out
      have hnb41 := NB426_428.out
      have hnc41 := NB428_426.out
      obtain ⟨y42_0, y42_1, y42_2, y42_3, z42_0, z42_1, z42_2, z42_3⟩ := cz4_ BK426.out
      go_wp2
      go_meet
      case rel => exact ⟨_, ((a1_0 == 1)), d4_, H', ⟨by have := HJ3.out; first | omega | exact Nat.le_refl _⟩, ⟨kz_ HO_427003.out⟩, ⟨kz_ HO_428003.out⟩, ⟨by refine bk_ ?_; exact BK426.out⟩, ⟨by refine bk_ ?_; exact BK427.out⟩, ⟨by refine bk_ ?_; exact BK428.out⟩, ⟨bw_ HB.out⟩⟩
     ·rw [if_neg c39] at H
      have c39b0 := beq_eq_false_iff_ne.mpr c39
      have c39b1 := bne_iff_ne.mpr c39
      (first | rw [c39b0] | (simp only [i64_w, i32_w]; rw [c39b0]) | skip)
      have H' := A_ H
      clear H
      go_wp2
      go_meet
      case rel => exact ⟨_, (false), d4_, H', ⟨by have := HJ3.out; first | omega | exact Nat.le_refl _⟩, ⟨kz_ HO_427003.out⟩, ⟨kz_ HO_428003.out⟩, ⟨by refine bk_ ?_; exact BK426.out⟩, ⟨by refine bk_ ?_; exact BK427.out⟩, ⟨by refine bk_ ?_; exact BK428.out⟩, ⟨bw_ HB.out⟩⟩
    case rest =>
     clear HC38
     try clear c1
     try clear c2
     try clear p2
     try clear c3
     try clear c4
     try clear c7
     try clear c8
     try clear c8b0
     try clear c8b1
     try clear c9
     try clear c10
     try clear c12
     try clear c14
     try clear c15
     try clear c17
     try clear c19
     try clear c21
     try clear c22
     try clear c24
     try clear c30
     try clear c31
     try clear c33
     try clear c39
     try clear c39b0
     try clear c39b1
     try clear c40
     try clear c41
     try clear y11_0 y11_1 y11_2 y11_3 z11_0 z11_1 z11_2 z11_3
     try clear y13_0 y13_1 y13_2 y13_3 z13_0 z13_1 z13_2 z13_3
     try clear y16_0 y16_1 y16_2 y16_3 z16_0 z16_1 z16_2 z16_3
     try clear y23_0 y23_1 y23_2 y23_3 z23_0 z23_1 z23_2 z23_3
     try clear y25_0 y25_1 y25_2 y25_3 z25_0 z25_1 z25_2 z25_3
     try clear y27_0 y27_1 y27_2 y27_3 z27_0 z27_1 z27_2 z27_3
     try clear y32_0 y32_1 y32_2 y32_3 z32_0 z32_1 z32_2 z32_3
     try clear y34_0 y34_1 y34_2 y34_3 z34_0 z34_1 z34_2 z34_3
     try clear y36_0 y36_1 y36_2 y36_3 z36_0 z36_1 z36_2 z36_3
     try clear y42_0 y42_1 y42_2 y42_3 z42_0 z42_1 z42_2 z42_3
     try clear p2
     obtain ⟨kq, x39_37, rfl, HA, HJ37, HO_427003, HO_428003, BK426, BK427, BK428, HB⟩ := hcut
     cases kq with
     | zero => exact absurd HA.out (by simp [impl_foldTwo.j1])
     | succ kj37 =>
      have H := HA.out
      clear HA
      simp only [impl_foldTwo.j1] at H
      by_cases c43 : x39_37 = true
      ·subst c43
       rw [if_pos rfl] at H
       replace H := Option.bind_eq_some_iff.mp H
       obtain ⟨⟨t443, t444, t445, t446⟩, A440, H⟩ := H
       try dsimp only at H
       have A44 := A_ A440
       clear A440
       simp only [Option.some.injEq, Prod.mk.injEq] at H
       obtain ⟨rfl, rfl, rfl, rfl⟩ := H
       have hnb45 := NB427_426.out
       have hnc45 := NB426_427.out
       have hnb46 := NB427_428.out
       have hnc46 := NB428_427.out
       obtain ⟨y47_0, y47_1, y47_2, y47_3, z47_0, z47_1, z47_2, z47_3⟩ := cz4_ BK427.out
       have hnb48 := NB426_428.out
       have hnc48 := NB428_426.out
       obtain ⟨y49_0, y49_1, y49_2, y49_3, z49_0, z49_1, z49_2, z49_3⟩ := cz4_ BK426.out
       go_wp2_with (first | ((with_reducible refine gate_callee (f := 93) rfl ?_); refine gL_ (some 50) Try.func93 #[.agg #[.int .i64 a2_0, .int .i64 a2_1, .string a2_2, .slice A2_3 l2_3.length c2_3], .int .i64 a1_1] ?_; (with_reducible refine (impl_added.calls kj37 b0 a2_0 a2_1 a2_2 (fun k_ => (P2_3_ k_ ∧ (k_ ≠ gb426 ∧ (k_ ≠ gb427 ∧ k_ ≠ gb428)))) _ _ l2_3 a1_1 t443 t444 t445 t446 _ ?sideb ?side1 A44.out).mono ?_); (case sideb => exact Nat.le_trans hb0 (below_size (bw_ HB.out))); (case side1 => exact kz_ HO_428003.out); rintro e w50 ⟨v447, rfl, ho0, hb⟩; refine ⟨_, rfl, ?_⟩; replace HO_427003 := A_ (Kd.S_below (kz_ HO_427003.out) hb); replace HO_428003 := A_ (Kd.S_below (kz_ HO_428003.out) hb); have HO448 := A_ ((Kd.S_mono (ok' := fun k_ => ((P1_3_ k_ ∨ P2_3_ k_) ∨ w.heap.size ≤ k_) ∧ k_ ≠ gb426 ∧ k_ ≠ gb427 ∧ k_ ≠ gb428) ho0 (fun k_ hk_ => ⟨Or.elim hk_ (fun hs_ => (.inl (.inr hs_.1))) (fun hn_ => (.inr (Nat.le_trans (below_size (bw_ HB.out)) hn_))), Or.elim hk_ (fun hs_ => hs_.2.1) (fun hn_ => (Kd.freshB (bk_ BK426.out) k_ hn_)), Or.elim hk_ (fun hs_ => hs_.2.2.1) (fun hn_ => (Kd.freshB (bk_ BK427.out) k_ hn_)), Or.elim hk_ (fun hs_ => hs_.2.2.2) (fun hn_ => (Kd.freshB (bk_ BK428.out) k_ hn_))⟩))); replace BK426 := A_ (blk_below (bk_ BK426.out) hb); replace BK427 := A_ (blk_below (bk_ BK427.out) hb); replace BK428 := A_ (blk_below (bk_ BK428.out) hb); replace HB := A_ (below_step (bw_ HB.out) hb); clear hb; (try clear ho0); obtain ⟨y51_0, y51_1, y51_2, y51_3, z51_0, z51_1, z51_2, z51_3⟩ := cz4_ BK428.out; obtain ⟨Ao52, co52, eo52⟩ := Kd.S_slice HO448.out; subst eo52))
       refine bodyPost_ret (results_cell_row rfl _ _ gb428 29 #[.int .i64 t443, .int .i64 t444, .string t445, .slice Ao52 t446.length co52] (0, 0) _ rfl ?hb_ Try.underlying29 rfl (by kernel_rfl)) rfl ?_
       (case hb_ => exact bk_ (bp4_ (bk_ BK428.out)))
       exact ⟨_, by first | rfl | (simp [errW_none, errW_some] <;> rfl) | (simp [*, errW_none, errW_some] <;> rfl), kz_ (Kd.S_mono (zf4_ (Kd.S_mono HO448.out (fun k_ hk => (⟨hk, hk.2.2.2⟩ : _ ∧ k_ ≠ gb428))) (fun _ hk => hk.2)) (fun _ hk => hk.1.1)), bw_ HB.out⟩
      ·replace c43 := Bool.eq_false_iff.mpr c43
       subst c43
       rw [if_neg (show ¬ (false = true) by decide)] at H
       have HC53 := A_ H
       clear H
       go_upto_region 8 with (fail)
       go_cut [51] (fun v51 wc => ∃ (kq : Nat) (x51_52 : Bool), v51 = .bool x51_52 ∧ Aside0 (impl_foldTwo.j2 kq a0 x51_52 a1_0 a1_1 a1_2 l1_3 a2_0 a2_1 a2_2 l2_3 = some (r1, r2, r3, r4)) ∧ Aside0 (kq ≤ kj37) ∧ Aside0 (Kd.S q29 29 wc b0 (fun k_ => P1_3_ k_ ∧ k_ ≠ gb426 ∧ k_ ≠ gb427 ∧ k_ ≠ gb428) (.slice A1_3 l1_3.length c1_3) l1_3) ∧ Aside0 (Kd.S q29 29 wc b0 (fun k_ => P2_3_ k_ ∧ k_ ≠ gb426 ∧ k_ ≠ gb427 ∧ k_ ≠ gb428) (.slice A2_3 l2_3.length c2_3) l2_3) ∧ Aside0 (wc.heap[gb426]? = some (.cells #[.int .i64 a1_0, .int .i64 a1_1, .string a1_2, (.slice A1_3 l1_3.length c1_3)] 29 (0, 0))) ∧ Aside0 (wc.heap[gb427]? = some (.cells #[.int .i64 a2_0, .int .i64 a2_1, .string a2_2, (.slice A2_3 l2_3.length c2_3)] 29 (0, 0))) ∧ Aside0 (wc.heap[gb428]? = some (.cells #[.int .i64 0, .int .i64 0, .string (⟨#[]⟩ : ByteArray), (.slice none 0 0)] 29 (0, 0))) ∧ Aside0 (Below w.heap.size w wc))
       case first =>
        have H := HC53.out
        clear HC53
        by_cases c54 : a0 = 5
        ·rw [if_pos c54] at H
         have c54b0 := beq_iff_eq.mpr c54
         have c54b1 := bne_eq_false_iff_eq.mpr c54
         clear c54
         (first | rw [c54b0] | (simp only [i64_w, i32_w]; rw [c54b0]) | skip)
         have H' := A_ H
         clear H
         have hnb55 := NB427_426.out
         have hnc55 := NB426_427.out
         have hnb56 := NB427_428.out
         have hnc56 := NB428_427.out
         obtain ⟨y57_0, y57_1, y57_2, y57_3, z57_0, z57_1, z57_2, z57_3⟩ := cz4_ BK427.out
         go_wp2
         go_meet
         case rel => exact ⟨_, ((a2_0 == 1)), d4_, H', ⟨by have := HJ3.out; have := HJ37.out; first | omega | exact Nat.le_refl _⟩, ⟨kz_ HO_427003.out⟩, ⟨kz_ HO_428003.out⟩, ⟨by refine bk_ ?_; exact BK426.out⟩, ⟨by refine bk_ ?_; exact BK427.out⟩, ⟨by refine bk_ ?_; exact BK428.out⟩, ⟨bw_ HB.out⟩⟩
        ·rw [if_neg c54] at H
         have c54b0 := beq_eq_false_iff_ne.mpr c54
         have c54b1 := bne_iff_ne.mpr c54
         (first | rw [c54b0] | (simp only [i64_w, i32_w]; rw [c54b0]) | skip)
         have H' := A_ H
         clear H
         go_wp2
         go_meet
         case rel => exact ⟨_, (false), d4_, H', ⟨by have := HJ3.out; have := HJ37.out; first | omega | exact Nat.le_refl _⟩, ⟨kz_ HO_427003.out⟩, ⟨kz_ HO_428003.out⟩, ⟨by refine bk_ ?_; exact BK426.out⟩, ⟨by refine bk_ ?_; exact BK427.out⟩, ⟨by refine bk_ ?_; exact BK428.out⟩, ⟨bw_ HB.out⟩⟩
       case rest =>
        clear HC53
        try clear c1
        try clear c2
        try clear p2
        try clear c3
        try clear c4
        try clear c5
        try clear c7
        try clear c8
        try clear c8b0
        try clear c8b1
        try clear c9
        try clear c10
        try clear c12
        try clear c14
        try clear c15
        try clear c17
        try clear c19
        try clear c21
        try clear c22
        try clear c24
        try clear c30
        try clear c31
        try clear c33
        try clear c39
        try clear c39b0
        try clear c39b1
        try clear c40
        try clear c41
        try clear c43
        try clear c45
        try clear c46
        try clear c48
        try clear c54
        try clear c54b0
        try clear c54b1
        try clear c55
        try clear c56
        try clear y11_0 y11_1 y11_2 y11_3 z11_0 z11_1 z11_2 z11_3
        try clear y13_0 y13_1 y13_2 y13_3 z13_0 z13_1 z13_2 z13_3
        try clear y16_0 y16_1 y16_2 y16_3 z16_0 z16_1 z16_2 z16_3
        try clear y23_0 y23_1 y23_2 y23_3 z23_0 z23_1 z23_2 z23_3
        try clear y25_0 y25_1 y25_2 y25_3 z25_0 z25_1 z25_2 z25_3
        try clear y27_0 y27_1 y27_2 y27_3 z27_0 z27_1 z27_2 z27_3
        try clear y32_0 y32_1 y32_2 y32_3 z32_0 z32_1 z32_2 z32_3
        try clear y34_0 y34_1 y34_2 y34_3 z34_0 z34_1 z34_2 z34_3
        try clear y36_0 y36_1 y36_2 y36_3 z36_0 z36_1 z36_2 z36_3
        try clear y42_0 y42_1 y42_2 y42_3 z42_0 z42_1 z42_2 z42_3
        try clear y47_0 y47_1 y47_2 y47_3 z47_0 z47_1 z47_2 z47_3
        try clear y49_0 y49_1 y49_2 y49_3 z49_0 z49_1 z49_2 z49_3
        try clear y51_0 y51_1 y51_2 y51_3 z51_0 z51_1 z51_2 z51_3
        try clear y57_0 y57_1 y57_2 y57_3 z57_0 z57_1 z57_2 z57_3
        try clear p2
        obtain ⟨kq, x51_52, rfl, HA, HJ52, HO_427003, HO_428003, BK426, BK427, BK428, HB⟩ := hcut
        cases kq with
        | zero => exact absurd HA.out (by simp [impl_foldTwo.j2])
        | succ kj52 =>
         have H := HA.out
         clear HA
         simp only [impl_foldTwo.j2] at H
         by_cases c58 : x51_52 = true
         ·subst c58
          rw [if_pos rfl] at H
          replace H := Option.bind_eq_some_iff.mp H
          obtain ⟨⟨t449, t450, t451, t452⟩, A590, H⟩ := H
          try dsimp only at H
          have A59 := A_ A590
          clear A590
          simp only [Option.some.injEq, Prod.mk.injEq] at H
          obtain ⟨rfl, rfl, rfl, rfl⟩ := H
          have hnb60 := NB426_427.out
          have hnc60 := NB427_426.out
          have hnb61 := NB426_428.out
          have hnc61 := NB428_426.out
          obtain ⟨y62_0, y62_1, y62_2, y62_3, z62_0, z62_1, z62_2, z62_3⟩ := cz4_ BK426.out
          have hnb63 := NB427_428.out
          have hnc63 := NB428_427.out
          obtain ⟨y64_0, y64_1, y64_2, y64_3, z64_0, z64_1, z64_2, z64_3⟩ := cz4_ BK427.out
          go_wp2_with (first | ((with_reducible refine gate_callee (f := 93) rfl ?_); refine gL_ (some 62) Try.func93 #[.agg #[.int .i64 a1_0, .int .i64 a1_1, .string a1_2, .slice A1_3 l1_3.length c1_3], .int .i64 a2_1] ?_; (with_reducible refine (impl_added.calls kj52 b0 a1_0 a1_1 a1_2 (fun k_ => (P1_3_ k_ ∧ (k_ ≠ gb426 ∧ (k_ ≠ gb427 ∧ k_ ≠ gb428)))) _ _ l1_3 a2_1 t449 t450 t451 t452 _ ?sideb ?side1 A59.out).mono ?_); (case sideb => exact Nat.le_trans hb0 (below_size (bw_ HB.out))); (case side1 => exact kz_ HO_427003.out); rintro e w65 ⟨v453, rfl, ho0, hb⟩; refine ⟨_, rfl, ?_⟩; replace HO_427003 := A_ (Kd.S_below (kz_ HO_427003.out) hb); replace HO_428003 := A_ (Kd.S_below (kz_ HO_428003.out) hb); have HO454 := A_ ((Kd.S_mono (ok' := fun k_ => ((P1_3_ k_ ∨ P2_3_ k_) ∨ w.heap.size ≤ k_) ∧ k_ ≠ gb426 ∧ k_ ≠ gb427 ∧ k_ ≠ gb428) ho0 (fun k_ hk_ => ⟨Or.elim hk_ (fun hs_ => (.inl (.inl hs_.1))) (fun hn_ => (.inr (Nat.le_trans (below_size (bw_ HB.out)) hn_))), Or.elim hk_ (fun hs_ => hs_.2.1) (fun hn_ => (Kd.freshB (bk_ BK426.out) k_ hn_)), Or.elim hk_ (fun hs_ => hs_.2.2.1) (fun hn_ => (Kd.freshB (bk_ BK427.out) k_ hn_)), Or.elim hk_ (fun hs_ => hs_.2.2.2) (fun hn_ => (Kd.freshB (bk_ BK428.out) k_ hn_))⟩))); replace BK426 := A_ (blk_below (bk_ BK426.out) hb); replace BK427 := A_ (blk_below (bk_ BK427.out) hb); replace BK428 := A_ (blk_below (bk_ BK428.out) hb); replace HB := A_ (below_step (bw_ HB.out) hb); clear hb; (try clear ho0); obtain ⟨y66_0, y66_1, y66_2, y66_3, z66_0, z66_1, z66_2, z66_3⟩ := cz4_ BK428.out; obtain ⟨Ao67, co67, eo67⟩ := Kd.S_slice HO454.out; subst eo67))
          refine bodyPost_ret (results_cell_row rfl _ _ gb428 29 #[.int .i64 t449, .int .i64 t450, .string t451, .slice Ao67 t452.length co67] (0, 0) _ rfl ?hb_ Try.underlying29 rfl (by kernel_rfl)) rfl ?_
          (case hb_ => exact bk_ (bp4_ (bk_ BK428.out)))
          exact ⟨_, by first | rfl | (simp [errW_none, errW_some] <;> rfl) | (simp [*, errW_none, errW_some] <;> rfl), kz_ (Kd.S_mono (zf4_ (Kd.S_mono HO454.out (fun k_ hk => (⟨hk, hk.2.2.2⟩ : _ ∧ k_ ≠ gb428))) (fun _ hk => hk.2)) (fun _ hk => hk.1.1)), bw_ HB.out⟩
         ·replace c58 := Bool.eq_false_iff.mpr c58
          subst c58
          rw [if_neg (show ¬ (false = true) by decide)] at H
          have HC68 := A_ H
          clear H
          go_upto_region 10 with (fail)
          go_cut [63] (fun v63 wc => ∃ (kq : Nat) (x63_67 : Bool), v63 = .bool x63_67 ∧ Aside0 (impl_foldTwo.j3 kq a0 x63_67 a1_0 a1_1 a1_2 l1_3 a2_0 a2_1 a2_2 l2_3 = some (r1, r2, r3, r4)) ∧ Aside0 (kq ≤ kj52) ∧ Aside0 (Kd.S q29 29 wc b0 (fun k_ => P1_3_ k_ ∧ k_ ≠ gb426 ∧ k_ ≠ gb427 ∧ k_ ≠ gb428) (.slice A1_3 l1_3.length c1_3) l1_3) ∧ Aside0 (Kd.S q29 29 wc b0 (fun k_ => P2_3_ k_ ∧ k_ ≠ gb426 ∧ k_ ≠ gb427 ∧ k_ ≠ gb428) (.slice A2_3 l2_3.length c2_3) l2_3) ∧ Aside0 (wc.heap[gb426]? = some (.cells #[.int .i64 a1_0, .int .i64 a1_1, .string a1_2, (.slice A1_3 l1_3.length c1_3)] 29 (0, 0))) ∧ Aside0 (wc.heap[gb427]? = some (.cells #[.int .i64 a2_0, .int .i64 a2_1, .string a2_2, (.slice A2_3 l2_3.length c2_3)] 29 (0, 0))) ∧ Aside0 (wc.heap[gb428]? = some (.cells #[.int .i64 0, .int .i64 0, .string (⟨#[]⟩ : ByteArray), (.slice none 0 0)] 29 (0, 0))) ∧ Aside0 (Below w.heap.size w wc))
          case first =>
           have H := HC68.out
           clear HC68
           by_cases c69 : a0 = 6
           ·rw [if_pos c69] at H
            have c69b0 := beq_iff_eq.mpr c69
            have c69b1 := bne_eq_false_iff_eq.mpr c69
            clear c69
            (first | rw [c69b0] | (simp only [i64_w, i32_w]; rw [c69b0]) | skip)
            have H' := A_ H
            clear H
            have hnb70 := NB427_426.out
            have hnc70 := NB426_427.out
            have hnb71 := NB427_428.out
            have hnc71 := NB428_427.out
            obtain ⟨y72_0, y72_1, y72_2, y72_3, z72_0, z72_1, z72_2, z72_3⟩ := cz4_ BK427.out
            go_wp2
            go_meet
            case rel => exact ⟨_, ((a2_0 == 1)), d4_, H', ⟨by have := HJ3.out; have := HJ37.out; have := HJ52.out; first | omega | exact Nat.le_refl _⟩, ⟨kz_ HO_427003.out⟩, ⟨kz_ HO_428003.out⟩, ⟨by refine bk_ ?_; exact BK426.out⟩, ⟨by refine bk_ ?_; exact BK427.out⟩, ⟨by refine bk_ ?_; exact BK428.out⟩, ⟨bw_ HB.out⟩⟩
           ·rw [if_neg c69] at H
            have c69b0 := beq_eq_false_iff_ne.mpr c69
            have c69b1 := bne_iff_ne.mpr c69
            (first | rw [c69b0] | (simp only [i64_w, i32_w]; rw [c69b0]) | skip)
            have H' := A_ H
            clear H
            go_wp2
            go_meet
            case rel => exact ⟨_, (false), d4_, H', ⟨by have := HJ3.out; have := HJ37.out; have := HJ52.out; first | omega | exact Nat.le_refl _⟩, ⟨kz_ HO_427003.out⟩, ⟨kz_ HO_428003.out⟩, ⟨by refine bk_ ?_; exact BK426.out⟩, ⟨by refine bk_ ?_; exact BK427.out⟩, ⟨by refine bk_ ?_; exact BK428.out⟩, ⟨bw_ HB.out⟩⟩
          case rest =>
           clear HC68
           try clear c1
           try clear c2
           try clear p2
           try clear c3
           try clear c4
           try clear c5
           try clear c6
           try clear c7
           try clear c8
           try clear c8b0
           try clear c8b1
           try clear c9
           try clear c10
           try clear c12
           try clear c14
           try clear c15
           try clear c17
           try clear c19
           try clear c21
           try clear c22
           try clear c24
           try clear c30
           try clear c31
           try clear c33
           try clear c39
           try clear c39b0
           try clear c39b1
           try clear c40
           try clear c41
           try clear c43
           try clear c45
           try clear c46
           try clear c48
           try clear c54
           try clear c54b0
           try clear c54b1
           try clear c55
           try clear c56
           try clear c58
           try clear c60
           try clear c61
           try clear c63
           try clear c69
           try clear c69b0
           try clear c69b1
           try clear c70
           try clear c71
           try clear y11_0 y11_1 y11_2 y11_3 z11_0 z11_1 z11_2 z11_3
           try clear y13_0 y13_1 y13_2 y13_3 z13_0 z13_1 z13_2 z13_3
           try clear y16_0 y16_1 y16_2 y16_3 z16_0 z16_1 z16_2 z16_3
           try clear y23_0 y23_1 y23_2 y23_3 z23_0 z23_1 z23_2 z23_3
           try clear y25_0 y25_1 y25_2 y25_3 z25_0 z25_1 z25_2 z25_3
           try clear y27_0 y27_1 y27_2 y27_3 z27_0 z27_1 z27_2 z27_3
           try clear y32_0 y32_1 y32_2 y32_3 z32_0 z32_1 z32_2 z32_3
           try clear y34_0 y34_1 y34_2 y34_3 z34_0 z34_1 z34_2 z34_3
           try clear y36_0 y36_1 y36_2 y36_3 z36_0 z36_1 z36_2 z36_3
           try clear y42_0 y42_1 y42_2 y42_3 z42_0 z42_1 z42_2 z42_3
           try clear y47_0 y47_1 y47_2 y47_3 z47_0 z47_1 z47_2 z47_3
           try clear y49_0 y49_1 y49_2 y49_3 z49_0 z49_1 z49_2 z49_3
           try clear y51_0 y51_1 y51_2 y51_3 z51_0 z51_1 z51_2 z51_3
           try clear y57_0 y57_1 y57_2 y57_3 z57_0 z57_1 z57_2 z57_3
           try clear y62_0 y62_1 y62_2 y62_3 z62_0 z62_1 z62_2 z62_3
           try clear y64_0 y64_1 y64_2 y64_3 z64_0 z64_1 z64_2 z64_3
           try clear y66_0 y66_1 y66_2 y66_3 z66_0 z66_1 z66_2 z66_3
           try clear y72_0 y72_1 y72_2 y72_3 z72_0 z72_1 z72_2 z72_3
           try clear p2
           obtain ⟨kq, x63_67, rfl, HA, HJ67, HO_427003, HO_428003, BK426, BK427, BK428, HB⟩ := hcut
           cases kq with
           | zero => exact absurd HA.out (by simp [impl_foldTwo.j3])
           | succ kj67 =>
            have H := HA.out
            clear HA
            simp only [impl_foldTwo.j3] at H
            by_cases c73 : x63_67 = true
            ·subst c73
             rw [if_pos rfl] at H
             replace H := Option.bind_eq_some_iff.mp H
             obtain ⟨t455, A740, H⟩ := H
             try dsimp only at H
             have A74 := A_ A740
             clear A740
             replace H := Option.bind_eq_some_iff.mp H
             obtain ⟨⟨t456, t457, t458, t459⟩, A750, H⟩ := H
             try dsimp only at H
             have A75 := A_ A750
             clear A750
             simp only [Option.some.injEq, Prod.mk.injEq] at H
             obtain ⟨rfl, rfl, rfl, rfl⟩ := H
             try go_wp2
             replace HO_427003 := A_ (Kd.S_drew HO_427003.out)
             replace HO_428003 := A_ (Kd.S_drew HO_428003.out)
             replace BK426 := A_ (blk_drew BK426.out)
             replace BK427 := A_ (blk_drew BK427.out)
             replace BK428 := A_ (blk_drew BK428.out)
             replace HB := A_ (below_drew1 HB.out)
             refine start_ (n := 7) (S := fun w' => w'.cell? ⟨gb426, 0, none⟩ = some (.int .i64 a1_0) ∧ w'.cell? ⟨gb426, 1, none⟩ = some (.int .i64 a1_1) ∧ w'.cell? ⟨gb426, 2, none⟩ = some (.string a1_2) ∧ w'.cell? ⟨gb426, 3, none⟩ = some (.slice A1_3 l1_3.length c1_3) ∧ w'.cell? ⟨gb427, 0, none⟩ = some (.int .i64 a2_0) ∧ w'.cell? ⟨gb427, 1, none⟩ = some (.int .i64 a2_1) ∧ w'.cell? ⟨gb427, 2, none⟩ = some (.string a2_2) ∧ w'.cell? ⟨gb427, 3, none⟩ = some (.slice A2_3 l2_3.length c2_3)) (ds := []) #[false, false, false, false, false, false, false] (by kernel_rfl) rfl rfl ⟨(blk_cell BK426.out 0).trans rfl, (blk_cell BK426.out 1).trans rfl, (blk_cell BK426.out 2).trans rfl, (blk_cell BK426.out 3).trans rfl, (blk_cell BK427.out 0).trans rfl, (blk_cell BK427.out 1).trans rfl, (blk_cell BK427.out 2).trans rfl, (blk_cell BK427.out 3).trans rfl⟩ (fun hHeld => ?_)
             generalize wc.drew = w76 at HO_427003 HO_428003 BK426 BK427 BK428 HB hHeld ⊢
             refine pu_ 1 (some 72) (bm_ 7 2) (by kernel_rfl) ?_
             refine take_ (i := 0) (N := some 71) (v := ?_) (a' := ?_) (bm_ 7 3) rfl rfl (by kernel_rfl) (fun _ _ _ h => h) (Or.inl ⟨by rfl, ?_⟩) hHeld ?_ ?_
             rotate_left
             ·rintro w' ⟨s0, s1, s2, s3, s4, s5, s6, s7⟩
              go_simp
              with_reducible rfl
             rotate_left
             ·simp only [Act.put, List.setIfInBounds_toArray, List.set_cons_zero, List.set_cons_succ, i64_w, i32_w]
              rfl
             refine take_ (i := 2) (N := some 73) (v := ?_) (a' := ?_) (bm_ 7 7) rfl rfl (by kernel_rfl) (fun _ _ _ h => h) (Or.inl ⟨by rfl, ?_⟩) hHeld ?_ ?_
             rotate_left
             ·rintro w' ⟨s0, s1, s2, s3, s4, s5, s6, s7⟩
              go_simp
              with_reducible rfl
             rotate_left
             ·simp only [Act.put, List.setIfInBounds_toArray, List.set_cons_zero, List.set_cons_succ, i64_w, i32_w]
              rfl
             refine pu_ 3 (some 74) (bm_ 7 15) (by kernel_rfl) ?_
             refine one_ (i := 4) (N := some 75) (bm_ 7 31) rfl rfl (by kernel_rfl) (by decide) (fun K hK => ?_)
             refine goes_ Try.func76 (by kernel_rfl) rfl #[.int .i64 (wrap64 (-a2_1))] (by rfl) rfl rfl d6_ ?_
             with_reducible refine (impl_Wrap.calls (wrap64 (-a2_1)) t455 _ A74.out).mono ?_
             rintro e w' ⟨rfl, ⟨nd, rfl⟩⟩
             refine ⟨_, rfl, ?_⟩
             refine hK.out _ _ ⟨(blk_cell BK426.out 0).trans rfl, (blk_cell BK426.out 1).trans rfl, (blk_cell BK426.out 2).trans rfl, (blk_cell BK426.out 3).trans rfl, (blk_cell BK427.out 0).trans rfl, (blk_cell BK427.out 1).trans rfl, (blk_cell BK427.out 2).trans rfl, (blk_cell BK427.out 3).trans rfl⟩ (fun hHeld => ?_)
             clear hK K
             refine norm_ (a' := ?_) ?_ ?_
             rotate_left
             ·show Act.put _ (some 75) _ = _
              simp only [Act.put, List.setIfInBounds_toArray, List.set_cons_zero, List.set_cons_succ, i64_w, i32_w]
              rfl
             refine one_ (i := 5) (N := some 76) (bm_ 7 63) rfl rfl (by kernel_rfl) (by decide) (fun K hK => ?_)
             refine goes_ Try.func93 (by kernel_rfl) rfl #[.agg #[.int .i64 a1_0, .int .i64 a1_1, .string a1_2, .slice A1_3 l1_3.length c1_3], .int .i64 t455] (by rfl) rfl rfl d6_ ?_
             with_reducible refine (impl_added.calls kj67 b0 a1_0 a1_1 a1_2 (fun k_ => (P1_3_ k_ ∧ (k_ ≠ gb426 ∧ (k_ ≠ gb427 ∧ k_ ≠ gb428)))) _ _ l1_3 t455 t456 t457 t458 t459 _ ?sideb ?side1 A75.out).mono ?_
             (case sideb => exact Nat.le_trans hb0 (below_size (bw_ HB.out))); (case side1 => exact kz_ HO_427003.out)
             rintro e w77 ⟨v460, rfl, ho0, hb⟩
             refine ⟨_, rfl, ?_⟩
             replace HO_427003 := A_ (Kd.S_below (kz_ HO_427003.out) hb)
             replace HO_428003 := A_ (Kd.S_below (kz_ HO_428003.out) hb)
             have HO461 := A_ ((Kd.S_mono (ok' := fun k_ => ((P1_3_ k_ ∨ P2_3_ k_) ∨ w.heap.size ≤ k_) ∧ k_ ≠ gb426 ∧ k_ ≠ gb427 ∧ k_ ≠ gb428) ho0 (fun k_ hk_ => ⟨Or.elim hk_ (fun hs_ => (.inl (.inl hs_.1))) (fun hn_ => (.inr (Nat.le_trans (below_size (bw_ HB.out)) hn_))), Or.elim hk_ (fun hs_ => hs_.2.1) (fun hn_ => (Kd.freshB (bk_ BK426.out) k_ hn_)), Or.elim hk_ (fun hs_ => hs_.2.2.1) (fun hn_ => (Kd.freshB (bk_ BK427.out) k_ hn_)), Or.elim hk_ (fun hs_ => hs_.2.2.2) (fun hn_ => (Kd.freshB (bk_ BK428.out) k_ hn_))⟩)))
             replace BK426 := A_ (blk_below (bk_ BK426.out) hb)
             replace BK427 := A_ (blk_below (bk_ BK427.out) hb)
             replace BK428 := A_ (blk_below (bk_ BK428.out) hb)
             replace HB := A_ (below_step (bw_ HB.out) hb)
             (try clear hb)
             (try clear hb2)
             (try clear hk)
             (try clear hi)
             (try clear ho0)
             obtain ⟨Ao81, co81, eo81⟩ := Kd.S_slice HO461.out
             (first | subst eo81 | (injection eo81 with f1_ f2_ f3_; have f4_ := f1_.symm; have f5_ := f3_.symm; clear f1_ f2_ f3_; subst f4_; subst f5_))
             refine hK.out _ _ ⟨(blk_cell BK426.out 0).trans rfl, (blk_cell BK426.out 1).trans rfl, (blk_cell BK426.out 2).trans rfl, (blk_cell BK426.out 3).trans rfl, (blk_cell BK427.out 0).trans rfl, (blk_cell BK427.out 1).trans rfl, (blk_cell BK427.out 2).trans rfl, (blk_cell BK427.out 3).trans rfl⟩ (fun hHeld => ?_)
             clear hK K
             refine norm_ (a' := ?_) ?_ ?_
             rotate_left
             ·show Act.put _ (some 76) _ = _
              simp only [Act.put, List.setIfInBounds_toArray, List.set_cons_zero, List.set_cons_succ, i64_w, i32_w]
              rfl
             refine one_ (i := 6) (N := none) (bm_ 7 127) rfl rfl (by kernel_rfl) (by decide) (fun K hK => ?_)
             have hs78 : w77.cell? ⟨gb428, 0, none⟩ = some (.int .i64 0) := (blk_cell BK428.out 0).trans rfl
             have hfs78 := blk_frozen BK428.out 0
             have hns78_0 := NB426_428.out
             have hns78_1 := NB427_428.out
             have hms78_0 := NB428_426.out
             have hms78_1 := NB428_427.out
             have hs79 : w77.cell? ⟨gb428, 1, none⟩ = some (.int .i64 0) := (blk_cell BK428.out 1).trans rfl
             have hfs79 := blk_frozen BK428.out 1
             have hns79_0 := NB426_428.out
             have hns79_1 := NB427_428.out
             have hms79_0 := NB428_426.out
             have hms79_1 := NB428_427.out
             have hs80 : w77.cell? ⟨gb428, 2, none⟩ = some (.string (⟨#[]⟩ : ByteArray)) := (blk_cell BK428.out 2).trans rfl
             have hfs80 := blk_frozen BK428.out 2
             have hns80_0 := NB426_428.out
             have hns80_1 := NB427_428.out
             have hms80_0 := NB428_426.out
             have hms80_1 := NB428_427.out
             have hs82 : w77.cell? ⟨gb428, 3, none⟩ = some (.slice none 0 0) := (blk_cell BK428.out 3).trans rfl
             have hfs82 := blk_frozen BK428.out 3
             have hns82_0 := NB426_428.out
             have hns82_1 := NB427_428.out
             have hms82_0 := NB428_426.out
             have hms82_1 := NB428_427.out
             refine skip_ (w1 := ?_) (by rfl) rfl ?_ ?_
             rotate_left
             ·go_simp
              rfl
             refine hK.out _ _ ⟨(cf_ NB426_428 ((cf_ NB426_428 ((cf_ NB426_428 ((cf_ NB426_428 (hHeld.1)))))))), (cf_ NB426_428 ((cf_ NB426_428 ((cf_ NB426_428 ((cf_ NB426_428 (hHeld.2.1)))))))), (cf_ NB426_428 ((cf_ NB426_428 ((cf_ NB426_428 ((cf_ NB426_428 (hHeld.2.2.1)))))))), (cf_ NB426_428 ((cf_ NB426_428 ((cf_ NB426_428 ((cf_ NB426_428 (hHeld.2.2.2.1)))))))), (cf_ NB427_428 ((cf_ NB427_428 ((cf_ NB427_428 ((cf_ NB427_428 (hHeld.2.2.2.2.1)))))))), (cf_ NB427_428 ((cf_ NB427_428 ((cf_ NB427_428 ((cf_ NB427_428 (hHeld.2.2.2.2.2.1)))))))), (cf_ NB427_428 ((cf_ NB427_428 ((cf_ NB427_428 ((cf_ NB427_428 (hHeld.2.2.2.2.2.2.1)))))))), (cf_ NB427_428 ((cf_ NB427_428 ((cf_ NB427_428 ((cf_ NB427_428 (hHeld.2.2.2.2.2.2.2))))))))⟩ (fun hHeld => ?_)
             clear hK K
             refine done_ (by kernel_rfl) ?_
             try go_wp2
             refine bodyPost_ret (results_cell_row rfl _ _ gb428 29 #[.int .i64 t456, .int .i64 t457, .string t458, .slice Ao81 t459.length co81] (0, 0) _ rfl ?hb_ Try.underlying29 rfl (by kernel_rfl)) rfl ?_
             (case hb_ => exact bk_ (bp4_ (bk_ BK428.out)))
             exact ⟨_, by first | rfl | (simp [errW_none, errW_some] <;> rfl) | (simp [*, errW_none, errW_some] <;> rfl), kz_ (Kd.S_mono (zf4_ (Kd.S_mono HO461.out (fun k_ hk => (⟨hk, hk.2.2.2⟩ : _ ∧ k_ ≠ gb428))) (fun _ hk => hk.2)) (fun _ hk => hk.1.1)), bw_ HB.out⟩
            ·replace c73 := Bool.eq_false_iff.mpr c73
             subst c73
             rw [if_neg (show ¬ (false = true) by decide)] at H
             by_cases c83 : a0 = 6
             ·rw [if_pos c83] at H
              have c83b0 := beq_iff_eq.mpr c83
              have c83b1 := bne_eq_false_iff_eq.mpr c83
              clear c83
              replace H := Option.bind_eq_some_iff.mp H
              obtain ⟨⟨t462, t463, t464⟩, A840, H⟩ := H
              try dsimp only at H
              have A84 := A_ A840
              clear A840
              replace H := Option.bind_eq_some_iff.mp H
              obtain ⟨⟨t465, t466, t467⟩, A850, H⟩ := H
              try dsimp only at H
              have A85 := A_ A850
              clear A850
              have HC86 := A_ H
              clear H
              have hnb87 := NB426_427.out
              have hnc87 := NB427_426.out
              have hnb88 := NB426_428.out
              have hnc88 := NB428_426.out
              obtain ⟨y89_0, y89_1, y89_2, y89_3, z89_0, z89_1, z89_2, z89_3⟩ := cz4_ BK426.out
              go_upto_region 15 with (first | ((with_reducible refine gate_callee (f := 94) rfl ?_); refine gL_ (some 82) Try.func94 #[.agg #[.int .i64 a1_0, .int .i64 a1_1, .string a1_2, .slice A1_3 l1_3.length c1_3]] ?_; (with_reducible refine (impl_inSect.calls a1_0 a1_1 a1_2 _ _ l1_3 t462 t463 t464 _ ?side1 ?side2 A84.out).mono ?_); (case side1 => repeat (first | exact (q29_C (Kd.S_reads' HO_427003.out).2.2) | (with_reducible refine Kd.C_alloc ?_ _) | (with_reducible refine Kd.C_drewN ?_ _) | (with_reducible refine Kd.C_drew ?_))); (case side2 => exact (Kd.S_reads' HO_427003.out).2.1); rintro e w90 ⟨rfl, hb⟩; refine ⟨_, rfl, ?_⟩; replace HO_427003 := A_ (Kd.S_below (kz_ HO_427003.out) hb); replace HO_428003 := A_ (Kd.S_below (kz_ HO_428003.out) hb); replace BK426 := A_ (blk_below (bk_ BK426.out) hb); replace BK427 := A_ (blk_below (bk_ BK427.out) hb); replace BK428 := A_ (blk_below (bk_ BK428.out) hb); replace HB := A_ (below_step (bw_ HB.out) hb); clear hb; have hnb91 := NB427_428.out; have hnc91 := NB428_427.out; obtain ⟨y92_0, y92_1, y92_2, y92_3, z92_0, z92_1, z92_2, z92_3⟩ := cz4_ BK427.out) | ((with_reducible refine gate_callee (f := 94) rfl ?_); refine gL_ (some 88) Try.func94 #[.agg #[.int .i64 a2_0, .int .i64 a2_1, .string a2_2, .slice A2_3 l2_3.length c2_3]] ?_; (with_reducible refine (impl_inSect.calls a2_0 a2_1 a2_2 _ _ l2_3 t465 t466 t467 _ ?side1 ?side2 A85.out).mono ?_); (case side1 => repeat (first | exact (q29_C (Kd.S_reads' HO_428003.out).2.2) | (with_reducible refine Kd.C_alloc ?_ _) | (with_reducible refine Kd.C_drewN ?_ _) | (with_reducible refine Kd.C_drew ?_))); (case side2 => exact (Kd.S_reads' HO_428003.out).2.1); rintro e w93 ⟨rfl, hb⟩; refine ⟨_, rfl, ?_⟩; replace HO_427003 := A_ (Kd.S_below (kz_ HO_427003.out) hb); replace HO_428003 := A_ (Kd.S_below (kz_ HO_428003.out) hb); replace BK426 := A_ (blk_below (bk_ BK426.out) hb); replace BK427 := A_ (blk_below (bk_ BK427.out) hb); replace BK428 := A_ (blk_below (bk_ BK428.out) hb); replace HB := A_ (below_step (bw_ HB.out) hb); clear hb))
              (try simp only [Act.put, List.setIfInBounds_toArray, List.set_cons_zero, List.set_cons_succ])
              go_cut [100] (fun v100 wc => ∃ (kq : Nat) (x100_85 : Bool), v100 = .bool x100_85 ∧ Aside0 (impl_foldTwo.j4 kq a0 t463 t466 x100_85 a1_0 a1_1 a1_2 l1_3 a2_0 a2_1 a2_2 l2_3 = some (r1, r2, r3, r4)) ∧ Aside0 (kq ≤ kj67) ∧ Aside0 (Kd.S q29 29 wc b0 (fun k_ => P1_3_ k_ ∧ k_ ≠ gb426 ∧ k_ ≠ gb427 ∧ k_ ≠ gb428) (.slice A1_3 l1_3.length c1_3) l1_3) ∧ Aside0 (Kd.S q29 29 wc b0 (fun k_ => P2_3_ k_ ∧ k_ ≠ gb426 ∧ k_ ≠ gb427 ∧ k_ ≠ gb428) (.slice A2_3 l2_3.length c2_3) l2_3) ∧ Aside0 (wc.heap[gb426]? = some (.cells #[.int .i64 a1_0, .int .i64 a1_1, .string a1_2, (.slice A1_3 l1_3.length c1_3)] 29 (0, 0))) ∧ Aside0 (wc.heap[gb427]? = some (.cells #[.int .i64 a2_0, .int .i64 a2_1, .string a2_2, (.slice A2_3 l2_3.length c2_3)] 29 (0, 0))) ∧ Aside0 (wc.heap[gb428]? = some (.cells #[.int .i64 0, .int .i64 0, .string (⟨#[]⟩ : ByteArray), (.slice none 0 0)] 29 (0, 0))) ∧ Aside0 (Below w.heap.size w wc))
              case first =>
               have H := HC86.out
               clear HC86
               by_cases c94 : t464 = true
               ·subst c94
                rw [if_pos rfl] at H
                by_cases c95 : t467 = true
                ·subst c95
                 rw [if_pos rfl] at H
                 have H' := A_ H
                 clear H
                 go_wp2
                 go_meet
                 case rel => exact ⟨_, ((t462 == t465)), d4_, H', ⟨by have := HJ3.out; have := HJ37.out; have := HJ52.out; have := HJ67.out; first | omega | exact Nat.le_refl _⟩, ⟨kz_ HO_427003.out⟩, ⟨kz_ HO_428003.out⟩, ⟨by refine bk_ ?_; exact BK426.out⟩, ⟨by refine bk_ ?_; exact BK427.out⟩, ⟨by refine bk_ ?_; exact BK428.out⟩, ⟨bw_ HB.out⟩⟩
                ·replace c95 := Bool.eq_false_iff.mpr c95
                 subst c95
                 rw [if_neg (show ¬ (false = true) by decide)] at H
                 have H' := A_ H
                 clear H
                 go_wp2
                 go_meet
                 case rel => exact ⟨_, (false), d4_, H', ⟨by have := HJ3.out; have := HJ37.out; have := HJ52.out; have := HJ67.out; first | omega | exact Nat.le_refl _⟩, ⟨kz_ HO_427003.out⟩, ⟨kz_ HO_428003.out⟩, ⟨by refine bk_ ?_; exact BK426.out⟩, ⟨by refine bk_ ?_; exact BK427.out⟩, ⟨by refine bk_ ?_; exact BK428.out⟩, ⟨bw_ HB.out⟩⟩
               ·replace c94 := Bool.eq_false_iff.mpr c94
                subst c94
                rw [if_neg (show ¬ (false = true) by decide)] at H
                have H' := A_ H
                clear H
                go_wp2
                go_meet
                case rel => exact ⟨_, (false), d4_, H', ⟨by have := HJ3.out; have := HJ37.out; have := HJ52.out; have := HJ67.out; first | omega | exact Nat.le_refl _⟩, ⟨kz_ HO_427003.out⟩, ⟨kz_ HO_428003.out⟩, ⟨by refine bk_ ?_; exact BK426.out⟩, ⟨by refine bk_ ?_; exact BK427.out⟩, ⟨by refine bk_ ?_; exact BK428.out⟩, ⟨bw_ HB.out⟩⟩
              case rest =>
               clear HC86
               try clear c1
               try clear c2
               try clear p2
               try clear c3
               try clear c4
               try clear c5
               try clear c6
               try clear p6
               try clear c7
               try clear c8
               try clear c8b0
               try clear c8b1
               try clear c9
               try clear c10
               try clear c12
               try clear c14
               try clear c15
               try clear c17
               try clear c19
               try clear c21
               try clear c22
               try clear c24
               try clear c30
               try clear c31
               try clear c33
               try clear c39
               try clear c39b0
               try clear c39b1
               try clear c40
               try clear c41
               try clear c43
               try clear c45
               try clear c46
               try clear c48
               try clear c54
               try clear c54b0
               try clear c54b1
               try clear c55
               try clear c56
               try clear c58
               try clear c60
               try clear c61
               try clear c63
               try clear p64
               try clear c69
               try clear c69b0
               try clear c69b1
               try clear c70
               try clear c71
               try clear c73
               try clear c76
               try clear c83
               try clear c83b0
               try clear c83b1
               try clear c87
               try clear c88
               try clear c91
               try clear c93
               try clear c94
               try clear c95
               try clear y11_0 y11_1 y11_2 y11_3 z11_0 z11_1 z11_2 z11_3
               try clear y13_0 y13_1 y13_2 y13_3 z13_0 z13_1 z13_2 z13_3
               try clear y16_0 y16_1 y16_2 y16_3 z16_0 z16_1 z16_2 z16_3
               try clear y23_0 y23_1 y23_2 y23_3 z23_0 z23_1 z23_2 z23_3
               try clear y25_0 y25_1 y25_2 y25_3 z25_0 z25_1 z25_2 z25_3
               try clear y27_0 y27_1 y27_2 y27_3 z27_0 z27_1 z27_2 z27_3
               try clear y32_0 y32_1 y32_2 y32_3 z32_0 z32_1 z32_2 z32_3
               try clear y34_0 y34_1 y34_2 y34_3 z34_0 z34_1 z34_2 z34_3
               try clear y36_0 y36_1 y36_2 y36_3 z36_0 z36_1 z36_2 z36_3
               try clear y42_0 y42_1 y42_2 y42_3 z42_0 z42_1 z42_2 z42_3
               try clear y47_0 y47_1 y47_2 y47_3 z47_0 z47_1 z47_2 z47_3
               try clear y49_0 y49_1 y49_2 y49_3 z49_0 z49_1 z49_2 z49_3
               try clear y51_0 y51_1 y51_2 y51_3 z51_0 z51_1 z51_2 z51_3
               try clear y57_0 y57_1 y57_2 y57_3 z57_0 z57_1 z57_2 z57_3
               try clear y62_0 y62_1 y62_2 y62_3 z62_0 z62_1 z62_2 z62_3
               try clear y64_0 y64_1 y64_2 y64_3 z64_0 z64_1 z64_2 z64_3
               try clear y66_0 y66_1 y66_2 y66_3 z66_0 z66_1 z66_2 z66_3
               try clear y72_0 y72_1 y72_2 y72_3 z72_0 z72_1 z72_2 z72_3
               try clear y89_0 y89_1 y89_2 y89_3 z89_0 z89_1 z89_2 z89_3
               try clear y92_0 y92_1 y92_2 y92_3 z92_0 z92_1 z92_2 z92_3
               try clear p2
               obtain ⟨kq, x100_85, rfl, HA, HJ85, HO_427003, HO_428003, BK426, BK427, BK428, HB⟩ := hcut
               cases kq with
               | zero => exact absurd HA.out (by simp [impl_foldTwo.j4])
               | succ kj85 =>
                have H := HA.out
                clear HA
                simp only [impl_foldTwo.j4] at H
                by_cases c96 : x100_85 = true
                ·subst c96
                 rw [if_pos rfl] at H
                 replace H := Option.bind_eq_some_iff.mp H
                 obtain ⟨⟨t468, t469, t470, t471⟩, A970, H⟩ := H
                 try dsimp only at H
                 have A97 := A_ A970
                 clear A970
                 simp only [Option.some.injEq, Prod.mk.injEq] at H
                 obtain ⟨rfl, rfl, rfl, rfl⟩ := H
                 go_wp2_with (first | ((with_reducible refine gate_callee (f := 82) rfl ?_); refine gL_ (some 104) Try.func82 #[.int .i64 (wrap64 (t463 - t466))] ?_; (with_reducible refine (impl_number.calls (wrap64 (t463 - t466)) t468 t469 t470 t471 _ A97.out).mono ?_); rintro e w98 ⟨v472, rfl, ho0, hb⟩; refine ⟨_, rfl, ?_⟩; replace HO_427003 := A_ (Kd.S_below (kz_ HO_427003.out) hb); replace HO_428003 := A_ (Kd.S_below (kz_ HO_428003.out) hb); have HO473 := A_ (Kd.S_lower (Kd.S_mono (ok' := fun k_ => ((P1_3_ k_ ∨ P2_3_ k_) ∨ w.heap.size ≤ k_) ∧ k_ ≠ gb426 ∧ k_ ≠ gb427 ∧ k_ ≠ gb428) (Kd.S_bound ho0) (fun k_ hk_ => ⟨(.inr (Nat.le_trans (below_size (bw_ HB.out)) hk_.2.1)), (Kd.freshB (bk_ BK426.out) k_ hk_.2.1), (Kd.freshB (bk_ BK427.out) k_ hk_.2.1), (Kd.freshB (bk_ BK428.out) k_ hk_.2.1)⟩)) (Nat.le_trans hb0 (below_size (bw_ HB.out)))); replace BK426 := A_ (blk_below (bk_ BK426.out) hb); replace BK427 := A_ (blk_below (bk_ BK427.out) hb); replace BK428 := A_ (blk_below (bk_ BK428.out) hb); replace HB := A_ (below_step (bw_ HB.out) hb); clear hb; (try clear ho0); have hnb99 := NB428_426.out; have hnc99 := NB426_428.out; have hnb100 := NB428_427.out; have hnc100 := NB427_428.out; obtain ⟨y101_0, y101_1, y101_2, y101_3, z101_0, z101_1, z101_2, z101_3⟩ := cz4_ BK428.out; obtain ⟨Ao102, co102, eo102⟩ := Kd.S_slice HO473.out; subst eo102))
                 refine bodyPost_ret (results_cell_row rfl _ _ gb428 29 #[.int .i64 t468, .int .i64 t469, .string t470, .slice Ao102 t471.length co102] (0, 0) _ rfl ?hb_ Try.underlying29 rfl (by kernel_rfl)) rfl ?_
                 (case hb_ => exact bk_ (bp4_ (bk_ BK428.out)))
                 exact ⟨_, by first | rfl | (simp [errW_none, errW_some] <;> rfl) | (simp [*, errW_none, errW_some] <;> rfl), Kd.Z_V (by (with_reducible repeat (first | apply Kd.S_alloc | apply Kd.S_drewN | apply Kd.S_drew)); exact Kd.S_mono (zf4_ (Kd.S_mono HO473.out (fun k_ hk => (⟨hk, hk.2.2.2⟩ : _ ∧ k_ ≠ gb428))) (fun _ hk => hk.2)) (fun _ hk => hk.1.1)), bw_ HB.out⟩
                ·replace c96 := Bool.eq_false_iff.mpr c96
                 subst c96
                 rw [if_neg (show ¬ (false = true) by decide)] at H
                 replace H := Option.bind_eq_some_iff.mp H
                 obtain ⟨⟨t474, t475, t476, t477⟩, A1030, H⟩ := H
                 try dsimp only at H
                 have A103 := A_ A1030
                 clear A1030
                 simp only [Option.some.injEq, Prod.mk.injEq] at H
                 obtain ⟨rfl, rfl, rfl, rfl⟩ := H
                 have hnb104 := NB426_427.out
                 have hnc104 := NB427_426.out
                 have hnb105 := NB426_428.out
                 have hnc105 := NB428_426.out
                 obtain ⟨y106_0, y106_1, y106_2, y106_3, z106_0, z106_1, z106_2, z106_3⟩ := cz4_ BK426.out
                 have hnb107 := NB427_428.out
                 have hnc107 := NB428_427.out
                 obtain ⟨y108_0, y108_1, y108_2, y108_3, z108_0, z108_1, z108_2, z108_3⟩ := cz4_ BK427.out
                 go_wp2_with (first | ((with_reducible refine gate_callee (f := 92) rfl ?_); refine gL_ (some 108) Try.func92 #[.int .i64 a0, .agg #[.int .i64 a1_0, .int .i64 a1_1, .string a1_2, .slice A1_3 l1_3.length c1_3], .agg #[.int .i64 a2_0, .int .i64 a2_1, .string a2_2, .slice A2_3 l2_3.length c2_3]] ?_; (with_reducible refine (impl_two.calls b0 a0 a1_0 a1_1 a1_2 (fun k_ => (P1_3_ k_ ∧ (k_ ≠ gb426 ∧ (k_ ≠ gb427 ∧ k_ ≠ gb428)))) _ _ l1_3 a2_0 a2_1 a2_2 (fun k_ => (P2_3_ k_ ∧ (k_ ≠ gb426 ∧ (k_ ≠ gb427 ∧ k_ ≠ gb428)))) _ _ l2_3 t474 t475 t476 t477 _ ?side1 ?side2 ?sideb ?sided A103.out).mono ?_); (case sideb => exact Nat.le_trans hb0 (below_size (bw_ HB.out))); (case sided => exact fun k_ h1_ h2_ => hd k_ h1_.1 h2_.1); (case side1 => exact kz_ HO_427003.out); (case side2 => exact kz_ HO_428003.out); rintro e w109 ⟨v478, rfl, ho0, hb⟩; refine ⟨_, rfl, ?_⟩; replace HO_427003 := A_ (Kd.S_below (kz_ HO_427003.out) hb); replace HO_428003 := A_ (Kd.S_below (kz_ HO_428003.out) hb); have HO479 := A_ ((Kd.S_mono (ok' := fun k_ => ((P1_3_ k_ ∨ P2_3_ k_) ∨ w.heap.size ≤ k_) ∧ k_ ≠ gb426 ∧ k_ ≠ gb427 ∧ k_ ≠ gb428) ho0 (fun k_ hk_ => ⟨Or.elim hk_ (fun hs_ => Or.elim hs_ (fun hs_ => (.inl (.inl hs_.1))) (fun hs_ => (.inl (.inr hs_.1)))) (fun hn_ => (.inr (Nat.le_trans (below_size (bw_ HB.out)) hn_))), Or.elim hk_ (fun hs_ => Or.elim hs_ (fun hs_ => hs_.2.1) (fun hs_ => hs_.2.1)) (fun hn_ => (Kd.freshB (bk_ BK426.out) k_ hn_)), Or.elim hk_ (fun hs_ => Or.elim hs_ (fun hs_ => hs_.2.2.1) (fun hs_ => hs_.2.2.1)) (fun hn_ => (Kd.freshB (bk_ BK427.out) k_ hn_)), Or.elim hk_ (fun hs_ => Or.elim hs_ (fun hs_ => hs_.2.2.2) (fun hs_ => hs_.2.2.2)) (fun hn_ => (Kd.freshB (bk_ BK428.out) k_ hn_))⟩))); replace BK426 := A_ (blk_below (bk_ BK426.out) hb); replace BK427 := A_ (blk_below (bk_ BK427.out) hb); replace BK428 := A_ (blk_below (bk_ BK428.out) hb); replace HB := A_ (below_step (bw_ HB.out) hb); clear hb; (try clear ho0); obtain ⟨y110_0, y110_1, y110_2, y110_3, z110_0, z110_1, z110_2, z110_3⟩ := cz4_ BK428.out; obtain ⟨Ao111, co111, eo111⟩ := Kd.S_slice HO479.out; subst eo111))
                 refine bodyPost_ret (results_cell_row rfl _ _ gb428 29 #[.int .i64 t474, .int .i64 t475, .string t476, .slice Ao111 t477.length co111] (0, 0) _ rfl ?hb_ Try.underlying29 rfl (by kernel_rfl)) rfl ?_
                 (case hb_ => exact bk_ (bp4_ (bk_ BK428.out)))
                 exact ⟨_, by first | rfl | (simp [errW_none, errW_some] <;> rfl) | (simp [*, errW_none, errW_some] <;> rfl), Kd.Z_V (by (with_reducible repeat (first | apply Kd.S_alloc | apply Kd.S_drewN | apply Kd.S_drew)); exact Kd.S_mono (zf4_ (Kd.S_mono HO479.out (fun k_ hk => (⟨hk, hk.2.2.2⟩ : _ ∧ k_ ≠ gb428))) (fun _ hk => hk.2)) (fun _ hk => hk.1.1)), bw_ HB.out⟩
             ·rw [if_neg c83] at H
              have c83b0 := beq_eq_false_iff_ne.mpr c83
              have c83b1 := bne_iff_ne.mpr c83
              replace H := Option.bind_eq_some_iff.mp H
              obtain ⟨⟨t480, t481, t482, t483⟩, A1120, H⟩ := H
              try dsimp only at H
              have A112 := A_ A1120
              clear A1120
              simp only [Option.some.injEq, Prod.mk.injEq] at H
              obtain ⟨rfl, rfl, rfl, rfl⟩ := H
              have hnb113 := NB426_427.out
              have hnc113 := NB427_426.out
              have hnb114 := NB426_428.out
              have hnc114 := NB428_426.out
              obtain ⟨y115_0, y115_1, y115_2, y115_3, z115_0, z115_1, z115_2, z115_3⟩ := cz4_ BK426.out
              have hnb116 := NB427_428.out
              have hnc116 := NB428_427.out
              obtain ⟨y117_0, y117_1, y117_2, y117_3, z117_0, z117_1, z117_2, z117_3⟩ := cz4_ BK427.out
              go_wp2_with (first | ((with_reducible refine gate_callee (f := 92) rfl ?_); refine gL_ (some 108) Try.func92 #[.int .i64 a0, .agg #[.int .i64 a1_0, .int .i64 a1_1, .string a1_2, .slice A1_3 l1_3.length c1_3], .agg #[.int .i64 a2_0, .int .i64 a2_1, .string a2_2, .slice A2_3 l2_3.length c2_3]] ?_; (with_reducible refine (impl_two.calls b0 a0 a1_0 a1_1 a1_2 (fun k_ => (P1_3_ k_ ∧ (k_ ≠ gb426 ∧ (k_ ≠ gb427 ∧ k_ ≠ gb428)))) _ _ l1_3 a2_0 a2_1 a2_2 (fun k_ => (P2_3_ k_ ∧ (k_ ≠ gb426 ∧ (k_ ≠ gb427 ∧ k_ ≠ gb428)))) _ _ l2_3 t480 t481 t482 t483 _ ?side1 ?side2 ?sideb ?sided A112.out).mono ?_); (case sideb => exact Nat.le_trans hb0 (below_size (bw_ HB.out))); (case sided => exact fun k_ h1_ h2_ => hd k_ h1_.1 h2_.1); (case side1 => exact kz_ HO_427003.out); (case side2 => exact kz_ HO_428003.out); rintro e w118 ⟨v484, rfl, ho0, hb⟩; refine ⟨_, rfl, ?_⟩; replace HO_427003 := A_ (Kd.S_below (kz_ HO_427003.out) hb); replace HO_428003 := A_ (Kd.S_below (kz_ HO_428003.out) hb); have HO485 := A_ ((Kd.S_mono (ok' := fun k_ => ((P1_3_ k_ ∨ P2_3_ k_) ∨ w.heap.size ≤ k_) ∧ k_ ≠ gb426 ∧ k_ ≠ gb427 ∧ k_ ≠ gb428) ho0 (fun k_ hk_ => ⟨Or.elim hk_ (fun hs_ => Or.elim hs_ (fun hs_ => (.inl (.inl hs_.1))) (fun hs_ => (.inl (.inr hs_.1)))) (fun hn_ => (.inr (Nat.le_trans (below_size (bw_ HB.out)) hn_))), Or.elim hk_ (fun hs_ => Or.elim hs_ (fun hs_ => hs_.2.1) (fun hs_ => hs_.2.1)) (fun hn_ => (Kd.freshB (bk_ BK426.out) k_ hn_)), Or.elim hk_ (fun hs_ => Or.elim hs_ (fun hs_ => hs_.2.2.1) (fun hs_ => hs_.2.2.1)) (fun hn_ => (Kd.freshB (bk_ BK427.out) k_ hn_)), Or.elim hk_ (fun hs_ => Or.elim hs_ (fun hs_ => hs_.2.2.2) (fun hs_ => hs_.2.2.2)) (fun hn_ => (Kd.freshB (bk_ BK428.out) k_ hn_))⟩))); replace BK426 := A_ (blk_below (bk_ BK426.out) hb); replace BK427 := A_ (blk_below (bk_ BK427.out) hb); replace BK428 := A_ (blk_below (bk_ BK428.out) hb); replace HB := A_ (below_step (bw_ HB.out) hb); clear hb; (try clear ho0); obtain ⟨y119_0, y119_1, y119_2, y119_3, z119_0, z119_1, z119_2, z119_3⟩ := cz4_ BK428.out; obtain ⟨Ao120, co120, eo120⟩ := Kd.S_slice HO485.out; subst eo120))
              refine bodyPost_ret (results_cell_row rfl _ _ gb428 29 #[.int .i64 t480, .int .i64 t481, .string t482, .slice Ao120 t483.length co120] (0, 0) _ rfl ?hb_ Try.underlying29 rfl (by kernel_rfl)) rfl ?_
              (case hb_ => exact bk_ (bp4_ (bk_ BK428.out)))
              exact ⟨_, by first | rfl | (simp [errW_none, errW_some] <;> rfl) | (simp [*, errW_none, errW_some] <;> rfl), Kd.Z_V (by (with_reducible repeat (first | apply Kd.S_alloc | apply Kd.S_drewN | apply Kd.S_drew)); exact Kd.S_mono (zf4_ (Kd.S_mono HO485.out (fun k_ hk => (⟨hk, hk.2.2.2⟩ : _ ∧ k_ ≠ gb428))) (fun _ hk => hk.2)) (fun _ hk => hk.1.1)), bw_ HB.out⟩

end Go.Proofs.Ytcpnhlhigpgonaa.PFnExactFold
