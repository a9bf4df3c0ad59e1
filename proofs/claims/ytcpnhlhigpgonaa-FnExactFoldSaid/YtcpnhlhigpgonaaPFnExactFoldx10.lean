-- Laid by a program of this session (a changed copy of the kit's printer); Lean checks every line.
import Derived.Test.YtcpnhlhigpgonaaPFnExactFoldx0
import Derived.Test.YtcpnhlhigpgonaaPFnExactFoldx9
namespace Go.Proofs.Ytcpnhlhigpgonaa.PFnExactFold
open Go.RowKit Go.Proofs.YtcpnhlhigpgonaaW.PrintWords Go.Proofs.YtcpnhlhigpgonaaW.PrintLast Go.Proofs.YtcpnhlhigpgonaaW.PrintMore
attribute [local go_sem] max2_int min2_int max_two min_two max_three min_three max_four min_four   -- for this text's walks alone
set_option linter.unusedVariables false
set_option linter.unusedSimpArgs false

/-! ### impl_termOk: function 47 -/
mutual
def impl_termOk.j2 : Nat → Int → Bool → Int → Bool → Int → Int → ByteArray → List (S29) → Option (Bool)
 | 0, _, _, _, _, _, _, _, _ => none
 | k + 1, x1, x2, x7, x8, x363000, x363001, x363002, x363003 => if x8 = true then (if x1 < 1 then (impl_termOk.j3 k x1 x2 true x363000 x363001 x363002 x363003) else (impl_termOk.j3 k x1 x2 ((x363003.length : Int) != x7) x363000 x363001 x363002 x363003)) else (impl_termOk.j3 k x1 x2 true x363000 x363001 x363002 x363003)
def impl_termOk.j3 : Nat → Int → Bool → Bool → Int → Int → ByteArray → List (S29) → Option (Bool)
 | 0, _, _, _, _, _, _, _ => none
 | k + 1, x1, x2, x108, x363000, x363001, x363002, x363003 => if x108 = true then (some false) else (impl_termOk.l0 k x1 x2 x363003 (x363003.length : Int) 0)
def impl_termOk.l0 : Nat → Int → Bool → List (S29) → Int → Int → Option (Bool)
 | 0, _, _, _, _, _ => none
 | k + 1, x1, x2, x110, x111, x112 => if x112 < x111 then (if 0 ≤ x112 then (if x112 < (x110.length : Int) then ((impl_termOk.f k ((rd_T29 x110 x112).f0) ((rd_T29 x110 x112).f1) ((rd_T29 x110 x112).f2) ((rd_T29 x110 x112).f3) (wrap64 (x1 - 1)) x2).bind fun t369 => (if t369 = true then (impl_termOk.l0 k x1 x2 x110 x111 (wrap64 (x112 + 1))) else (some false))) else (none)) else (none)) else (some true)
def impl_termOk.j0 : Nat → Int → Bool → Int → Bool → Bool → Int → Int → ByteArray → List (S29) → Option (Bool)
 | 0, _, _, _, _, _, _, _, _, _ => none
 | k + 1, x1, x2, x7, x8, x23, x363000, x363001, x363002, x363003 => if x23 = true then (if x363001 = 0 then ((impl_isName.f k x363002).bind fun t364 => (impl_termOk.j2 k x1 x2 x7 t364 x363000 x363001 x363002 x363003)) else (impl_termOk.j2 k x1 x2 x7 false x363000 x363001 x363002 x363003)) else (if x363000 = 11 then (impl_termOk.j1 k x1 x2 x7 x8 (!x2) x363000 x363001 x363002 x363003) else (impl_termOk.j1 k x1 x2 x7 x8 false x363000 x363001 x363002 x363003))
def impl_termOk.j1 : Nat → Int → Bool → Int → Bool → Bool → Int → Int → ByteArray → List (S29) → Option (Bool)
 | 0, _, _, _, _, _, _, _, _, _ => none
 | k + 1, x1, x2, x7, x8, x44, x363000, x363001, x363002, x363003 => if x44 = true then ((impl_within.f x363001 0 9).bind fun t365 => (if t365 = true then (impl_termOk.j2 k x1 x2 x7 (x363002.toList == ([] : List UInt8)) x363000 x363001 x363002 x363003) else (impl_termOk.j2 k x1 x2 x7 false x363000 x363001 x363002 x363003))) else (if x363000 = 3 then (if x363001 = 0 then (impl_termOk.j2 k x1 x2 x7 (x363002.toList == ([] : List UInt8)) x363000 x363001 x363002 x363003) else (impl_termOk.j2 k x1 x2 x7 false x363000 x363001 x363002 x363003)) else (if x363000 = 4 then (if x363001 = 0 then (impl_termOk.j2 k x1 x2 1 (x363002.toList == ([] : List UInt8)) x363000 x363001 x363002 x363003) else (impl_termOk.j2 k x1 x2 1 false x363000 x363001 x363002 x363003)) else ((impl_isTwo.f x363000).bind fun t366 => (if t366 = true then (if x363001 = 0 then (impl_termOk.j2 k x1 x2 2 (x363002.toList == ([] : List UInt8)) x363000 x363001 x363002 x363003) else (impl_termOk.j2 k x1 x2 2 false x363000 x363001 x363002 x363003)) else (impl_termOk.j2 k x1 x2 x7 x8 x363000 x363001 x363002 x363003)))))
def impl_termOk.f : Nat → Int → Int → ByteArray → List (S29) → Int → Bool → Option (Bool)
 | 0, _, _, _, _, _, _ => none
 | k + 1, a0_0, a0_1, a0_2, l0_3, a1, a2 => if a0_0 = 1 then ((impl_isWord.f a0_1).bind fun t363 => (if t363 = true then (impl_termOk.j2 k a1 a2 0 (a0_2.toList == ([] : List UInt8)) a0_0 a0_1 a0_2 l0_3) else (impl_termOk.j2 k a1 a2 0 false a0_0 a0_1 a0_2 l0_3))) else (if a0_0 = 2 then (impl_termOk.j0 k a1 a2 0 false true a0_0 a0_1 a0_2 l0_3) else (if a0_0 = 12 then (impl_termOk.j0 k a1 a2 0 false (!a2) a0_0 a0_1 a0_2 l0_3) else (impl_termOk.j0 k a1 a2 0 false false a0_0 a0_1 a0_2 l0_3)))
end
theorem impl_termOk.mono_l : ∀ k, (∀ y0 y1 y2 y3 y4 y5, LeO (impl_termOk.f k y0 y1 y2 y3 y4 y5) (impl_termOk.f (k + 1) y0 y1 y2 y3 y4 y5)) ∧ (∀ y0 y1 y2 y3 y4 y5 y6 y7, LeO (impl_termOk.j2 k y0 y1 y2 y3 y4 y5 y6 y7) (impl_termOk.j2 (k + 1) y0 y1 y2 y3 y4 y5 y6 y7)) ∧ (∀ y0 y1 y2 y3 y4 y5 y6, LeO (impl_termOk.j3 k y0 y1 y2 y3 y4 y5 y6) (impl_termOk.j3 (k + 1) y0 y1 y2 y3 y4 y5 y6)) ∧ (∀ y0 y1 y2 y3 y4, LeO (impl_termOk.l0 k y0 y1 y2 y3 y4) (impl_termOk.l0 (k + 1) y0 y1 y2 y3 y4)) ∧ (∀ y0 y1 y2 y3 y4 y5 y6 y7 y8, LeO (impl_termOk.j0 k y0 y1 y2 y3 y4 y5 y6 y7 y8) (impl_termOk.j0 (k + 1) y0 y1 y2 y3 y4 y5 y6 y7 y8)) ∧ (∀ y0 y1 y2 y3 y4 y5 y6 y7 y8, LeO (impl_termOk.j1 k y0 y1 y2 y3 y4 y5 y6 y7 y8) (impl_termOk.j1 (k + 1) y0 y1 y2 y3 y4 y5 y6 y7 y8))
 | 0 => ⟨fun _ _ _ _ _ _ r h => by simp [impl_termOk.f] at h, fun _ _ _ _ _ _ _ _ r h => by simp [impl_termOk.j2] at h, fun _ _ _ _ _ _ _ r h => by simp [impl_termOk.j3] at h, fun _ _ _ _ _ r h => by simp [impl_termOk.l0] at h, fun _ _ _ _ _ _ _ _ _ r h => by simp [impl_termOk.j0] at h, fun _ _ _ _ _ _ _ _ _ r h => by simp [impl_termOk.j1] at h⟩
 | k + 1 => by
  obtain ⟨ih0, ih1, ih2, ih3, ih4, ih5⟩ := impl_termOk.mono_l k
  refine ⟨?_, ?_, ?_, ?_, ?_, ?_⟩
  ·intro y0 y1 y2 y3 y4 y5
   unfold impl_termOk.f
   repeat' first
   | (with_reducible exact ih0 _ _ _ _ _ _)
   | (with_reducible exact ih1 _ _ _ _ _ _ _ _)
   | (with_reducible exact ih2 _ _ _ _ _ _ _)
   | (with_reducible exact ih3 _ _ _ _ _)
   | (with_reducible exact ih4 _ _ _ _ _ _ _ _ _)
   | (with_reducible exact ih5 _ _ _ _ _ _ _ _ _)
   | (with_reducible exact impl_isName.mono _ _)
   | (with_reducible exact LeO.refl _)
   | (with_reducible exact LeO.none _)
   | (with_reducible refine LeO.ite ?_ ?_)
   | (with_reducible refine LeO.bind ?_ (fun _ => ?_))
   | exact ih0 _ _ _ _ _ _
   | exact ih1 _ _ _ _ _ _ _ _
   | exact ih2 _ _ _ _ _ _ _
   | exact ih3 _ _ _ _ _
   | exact ih4 _ _ _ _ _ _ _ _ _
   | exact ih5 _ _ _ _ _ _ _ _ _
   | exact impl_isName.mono _ _
   | exact LeO.none _
   | refine LeO.ite ?_ ?_
   | refine LeO.bind ?_ (fun _ => ?_)
  ·intro y0 y1 y2 y3 y4 y5 y6 y7
   unfold impl_termOk.j2
   repeat' first
   | (with_reducible exact ih0 _ _ _ _ _ _)
   | (with_reducible exact ih1 _ _ _ _ _ _ _ _)
   | (with_reducible exact ih2 _ _ _ _ _ _ _)
   | (with_reducible exact ih3 _ _ _ _ _)
   | (with_reducible exact ih4 _ _ _ _ _ _ _ _ _)
   | (with_reducible exact ih5 _ _ _ _ _ _ _ _ _)
   | (with_reducible exact impl_isName.mono _ _)
   | (with_reducible exact LeO.refl _)
   | (with_reducible exact LeO.none _)
   | (with_reducible refine LeO.ite ?_ ?_)
   | (with_reducible refine LeO.bind ?_ (fun _ => ?_))
   | exact ih0 _ _ _ _ _ _
   | exact ih1 _ _ _ _ _ _ _ _
   | exact ih2 _ _ _ _ _ _ _
   | exact ih3 _ _ _ _ _
   | exact ih4 _ _ _ _ _ _ _ _ _
   | exact ih5 _ _ _ _ _ _ _ _ _
   | exact impl_isName.mono _ _
   | exact LeO.none _
   | refine LeO.ite ?_ ?_
   | refine LeO.bind ?_ (fun _ => ?_)
  ·intro y0 y1 y2 y3 y4 y5 y6
   unfold impl_termOk.j3
   repeat' first
   | (with_reducible exact ih0 _ _ _ _ _ _)
   | (with_reducible exact ih1 _ _ _ _ _ _ _ _)
   | (with_reducible exact ih2 _ _ _ _ _ _ _)
   | (with_reducible exact ih3 _ _ _ _ _)
   | (with_reducible exact ih4 _ _ _ _ _ _ _ _ _)
   | (with_reducible exact ih5 _ _ _ _ _ _ _ _ _)
   | (with_reducible exact impl_isName.mono _ _)
   | (with_reducible exact LeO.refl _)
   | (with_reducible exact LeO.none _)
   | (with_reducible refine LeO.ite ?_ ?_)
   | (with_reducible refine LeO.bind ?_ (fun _ => ?_))
   | exact ih0 _ _ _ _ _ _
   | exact ih1 _ _ _ _ _ _ _ _
   | exact ih2 _ _ _ _ _ _ _
   | exact ih3 _ _ _ _ _
   | exact ih4 _ _ _ _ _ _ _ _ _
   | exact ih5 _ _ _ _ _ _ _ _ _
   | exact impl_isName.mono _ _
   | exact LeO.none _
   | refine LeO.ite ?_ ?_
   | refine LeO.bind ?_ (fun _ => ?_)
  ·intro y0 y1 y2 y3 y4
   unfold impl_termOk.l0
   repeat' first
   | (with_reducible exact ih0 _ _ _ _ _ _)
   | (with_reducible exact ih1 _ _ _ _ _ _ _ _)
   | (with_reducible exact ih2 _ _ _ _ _ _ _)
   | (with_reducible exact ih3 _ _ _ _ _)
   | (with_reducible exact ih4 _ _ _ _ _ _ _ _ _)
   | (with_reducible exact ih5 _ _ _ _ _ _ _ _ _)
   | (with_reducible exact impl_isName.mono _ _)
   | (with_reducible exact LeO.refl _)
   | (with_reducible exact LeO.none _)
   | (with_reducible refine LeO.ite ?_ ?_)
   | (with_reducible refine LeO.bind ?_ (fun _ => ?_))
   | exact ih0 _ _ _ _ _ _
   | exact ih1 _ _ _ _ _ _ _ _
   | exact ih2 _ _ _ _ _ _ _
   | exact ih3 _ _ _ _ _
   | exact ih4 _ _ _ _ _ _ _ _ _
   | exact ih5 _ _ _ _ _ _ _ _ _
   | exact impl_isName.mono _ _
   | exact LeO.none _
   | refine LeO.ite ?_ ?_
   | refine LeO.bind ?_ (fun _ => ?_)
  ·intro y0 y1 y2 y3 y4 y5 y6 y7 y8
   unfold impl_termOk.j0
   repeat' first
   | (with_reducible exact ih0 _ _ _ _ _ _)
   | (with_reducible exact ih1 _ _ _ _ _ _ _ _)
   | (with_reducible exact ih2 _ _ _ _ _ _ _)
   | (with_reducible exact ih3 _ _ _ _ _)
   | (with_reducible exact ih4 _ _ _ _ _ _ _ _ _)
   | (with_reducible exact ih5 _ _ _ _ _ _ _ _ _)
   | (with_reducible exact impl_isName.mono _ _)
   | (with_reducible exact LeO.refl _)
   | (with_reducible exact LeO.none _)
   | (with_reducible refine LeO.ite ?_ ?_)
   | (with_reducible refine LeO.bind ?_ (fun _ => ?_))
   | exact ih0 _ _ _ _ _ _
   | exact ih1 _ _ _ _ _ _ _ _
   | exact ih2 _ _ _ _ _ _ _
   | exact ih3 _ _ _ _ _
   | exact ih4 _ _ _ _ _ _ _ _ _
   | exact ih5 _ _ _ _ _ _ _ _ _
   | exact impl_isName.mono _ _
   | exact LeO.none _
   | refine LeO.ite ?_ ?_
   | refine LeO.bind ?_ (fun _ => ?_)
  ·intro y0 y1 y2 y3 y4 y5 y6 y7 y8
   unfold impl_termOk.j1
   repeat' first
   | (with_reducible exact ih0 _ _ _ _ _ _)
   | (with_reducible exact ih1 _ _ _ _ _ _ _ _)
   | (with_reducible exact ih2 _ _ _ _ _ _ _)
   | (with_reducible exact ih3 _ _ _ _ _)
   | (with_reducible exact ih4 _ _ _ _ _ _ _ _ _)
   | (with_reducible exact ih5 _ _ _ _ _ _ _ _ _)
   | (with_reducible exact impl_isName.mono _ _)
   | (with_reducible exact LeO.refl _)
   | (with_reducible exact LeO.none _)
   | (with_reducible refine LeO.ite ?_ ?_)
   | (with_reducible refine LeO.bind ?_ (fun _ => ?_))
   | exact ih0 _ _ _ _ _ _
   | exact ih1 _ _ _ _ _ _ _ _
   | exact ih2 _ _ _ _ _ _ _
   | exact ih3 _ _ _ _ _
   | exact ih4 _ _ _ _ _ _ _ _ _
   | exact ih5 _ _ _ _ _ _ _ _ _
   | exact impl_isName.mono _ _
   | exact LeO.none _
   | refine LeO.ite ?_ ?_
   | refine LeO.bind ?_ (fun _ => ?_)
theorem impl_termOk.mono : ∀ a0 a1 a2 a3 a4 a5 k, LeO (impl_termOk.f k a0 a1 a2 a3 a4 a5) (impl_termOk.f (k + 1) a0 a1 a2 a3 a4 a5) := by
 intro a0 a1 a2 a3 a4 a5 k
 obtain ⟨ih0, ih1, ih2, ih3, ih4, ih5⟩ := impl_termOk.mono_l k
 exact ih0 a0 a1 a2 a3 a4 a5
set_option maxHeartbeats 8000000 in
set_option maxRecDepth 100000 in
theorem impl_termOk.calls (k : Nat) : ∀ (a0_0 : Int) (a0_1 : Int) (a0_2 : ByteArray) (A0_3 : Option Addr) (c0_3 : Nat) (l0_3 : List (S29)) (a1 : Int) (a2 : Bool) (r : Bool) (w : World) (hr0_3 : Kd.C k29 w A0_3 l0_3.length l0_3) (hc0_3 : l0_3.length ≤ c0_3) (h : impl_termOk.f k a0_0 a0_1 a0_2 l0_3 a1 a2 = some r),
  Calls Try.prog 47 #[.agg #[.int .i64 a0_0, .int .i64 a0_1, .string a0_2, .slice A0_3 l0_3.length c0_3], .int .i64 a1, .bool a2] w fun e w' => e = .returned (.bool r) ∧ Below w.heap.size w w' := by
 induction k using Nat.strongRecOn with
 | _ k ih =>
 intro a0_0 a0_1 a0_2 A0_3 c0_3 l0_3 a1 a2 r w hr0_3 hc0_3 h
 cases k with
 | zero => exact absurd h (by simp [impl_termOk.f])
 | succ k =>
 simp only [impl_termOk.f] at h
 have hu29 := Try.underlying29
 have HR0_3 := A_ hr0_3
 have HC0_3 := A_ hc0_3
 clear hr0_3 hc0_3
 have HB := A_ (Below.refl w.heap.size w)
 have H : (if a0_0 = 1 then ((impl_isWord.f a0_1).bind fun t363 => (if t363 = true then (impl_termOk.j2 k a1 a2 0 (a0_2.toList == ([] : List UInt8)) a0_0 a0_1 a0_2 l0_3) else (impl_termOk.j2 k a1 a2 0 false a0_0 a0_1 a0_2 l0_3))) else (if a0_0 = 2 then (impl_termOk.j0 k a1 a2 0 false true a0_0 a0_1 a0_2 l0_3) else (if a0_0 = 12 then (impl_termOk.j0 k a1 a2 0 false (!a2) a0_0 a0_1 a0_2 l0_3) else (impl_termOk.j0 k a1 a2 0 false false a0_0 a0_1 a0_2 l0_3)))) = some r := h
 clear h
 have HC4 := A_ H
 clear H
 go_enter Try.func47, Try.ntmps47
 go_upto_block 0 with (first | ((with_reducible refine gate_dst (N := 3) rfl ?_); (try (refine gate_guard (by rfl) ?_; dsimp only)); refine bx_ 3 #[.int .i64 a0_0, .int .i64 a0_1, .string a0_2, .slice A0_3 l0_3.length c0_3] 29 ?_; intro gb362 hg w5 hbox hb; have n0_ := A_ (below_step (bw_ HB.out) hb); have n1_ := A_ (hbox); have n2_ := A_ ((d3_ : w.heap.size ≤ gb362)); have n3_ := n2_; clear HB; have HB := n0_; have BK362 := n1_; have GW362 := n2_; have GE362 := n3_; have GI362 := GeI.mk GE362.out; clear n0_ n1_ n2_ n3_; clear hb hbox hg))
 repeat (go_quiet (first | ((with_reducible refine gate_dst (N := 3) rfl ?_); (try (refine gate_guard (by rfl) ?_; dsimp only)); refine bx_ 3 #[.int .i64 a0_0, .int .i64 a0_1, .string a0_2, .slice A0_3 l0_3.length c0_3] 29 ?_; intro gb362 hg w5 hbox hb; have n0_ := A_ (below_step (bw_ HB.out) hb); have n1_ := A_ (hbox); have n2_ := A_ ((d3_ : w.heap.size ≤ gb362)); have n3_ := n2_; clear HB; have HB := n0_; have BK362 := n1_; have GW362 := n2_; have GE362 := n3_; have GI362 := GeI.mk GE362.out; clear n0_ n1_ n2_ n3_; clear hb hbox hg)); go_upto_block 0 with (first | ((with_reducible refine gate_dst (N := 3) rfl ?_); (try (refine gate_guard (by rfl) ?_; dsimp only)); refine bx_ 3 #[.int .i64 a0_0, .int .i64 a0_1, .string a0_2, .slice A0_3 l0_3.length c0_3] 29 ?_; intro gb362 hg w5 hbox hb; have n0_ := A_ (below_step (bw_ HB.out) hb); have n1_ := A_ (hbox); have n2_ := A_ ((d3_ : w.heap.size ≤ gb362)); have n3_ := n2_; clear HB; have HB := n0_; have BK362 := n1_; have GW362 := n2_; have GE362 := n3_; have GI362 := GeI.mk GE362.out; clear n0_ n1_ n2_ n3_; clear hb hbox hg)))
 (try simp only [Act.put, List.setIfInBounds_toArray, List.set_cons_zero, List.set_cons_succ])
 go_cut [7, 8] (fun v7 v8 wc => ∃ (kq : Nat) (x7_3 : Int) (x8_3 : Bool), v7 = .int .i64 x7_3 ∧ v8 = .bool x8_3 ∧ Aside0 (impl_termOk.j2 kq a1 a2 x7_3 x8_3 a0_0 a0_1 a0_2 l0_3 = some r) ∧ Aside0 (kq ≤ k) ∧ Aside0 (wc.heap[gb362]? = some (.cells #[.int .i64 a0_0, .int .i64 a0_1, .string a0_2, (.slice A0_3 l0_3.length c0_3)] 29 (0, 0))) ∧ Aside0 (Below w.heap.size w wc))
 case first =>
  have H := HC4.out
  clear HC4
  by_cases c6 : a0_0 = 1
  ·rw [if_pos c6] at H
   have c6b0 := beq_iff_eq.mpr c6
   have c6b1 := bne_eq_false_iff_eq.mpr c6
   clear c6
   (first | rw [c6b0] | (simp only [i64_w, i32_w]; rw [c6b0]) | skip)
   replace H := Option.bind_eq_some_iff.mp H
   obtain ⟨t363, A70, H⟩ := H
   try dsimp only at H
   have A7 := A_ A70
   clear A70
   by_cases c8 : t363 = true
   ·subst c8
    rw [if_pos rfl] at H
    have H' := A_ H
    clear H
    obtain ⟨y9_0, y9_1, y9_2, y9_3, z9_0, z9_1, z9_2, z9_3⟩ := cz4_ BK362.out
    go_wp2_with (first | (go_at_call 68; (with_reducible refine (impl_isWord.calls a0_1 true _ A7.out).mono ?_); rintro e w' ⟨rfl, ⟨nd, rfl⟩⟩; (try first | exact ⟨rfl, _, World.drewN_drewN _ _ _⟩ | exact ⟨rfl, _, Eq.trans (World.drewN_drewN _ _ _) (congrArg (World.drewN _) (Nat.add_assoc _ _ _))⟩)))
    repeat (go_quiet (first | (go_at_call 68; (with_reducible refine (impl_isWord.calls a0_1 true _ A7.out).mono ?_); rintro e w' ⟨rfl, ⟨nd, rfl⟩⟩; (try first | exact ⟨rfl, _, World.drewN_drewN _ _ _⟩ | exact ⟨rfl, _, Eq.trans (World.drewN_drewN _ _ _) (congrArg (World.drewN _) (Nat.add_assoc _ _ _))⟩))); try go_wp2_with (first | (go_at_call 68; (with_reducible refine (impl_isWord.calls a0_1 true _ A7.out).mono ?_); rintro e w' ⟨rfl, ⟨nd, rfl⟩⟩; (try first | exact ⟨rfl, _, World.drewN_drewN _ _ _⟩ | exact ⟨rfl, _, Eq.trans (World.drewN_drewN _ _ _) (congrArg (World.drewN _) (Nat.add_assoc _ _ _))⟩))))
    go_meet
    case rel => exact ⟨_, (0), ((a0_2.toList == ([] : List UInt8))), d0_, d0_, H', ⟨by first | omega | exact Nat.le_refl _⟩, ⟨by refine bk_ ?_; exact BK362.out⟩, ⟨bw_ HB.out⟩⟩
   ·replace c8 := Bool.eq_false_iff.mpr c8
    subst c8
    rw [if_neg (show ¬ (false = true) by decide)] at H
    have H' := A_ H
    clear H
    obtain ⟨y10_0, y10_1, y10_2, y10_3, z10_0, z10_1, z10_2, z10_3⟩ := cz4_ BK362.out
    go_wp2_with (first | (go_at_call 68; (with_reducible refine (impl_isWord.calls a0_1 false _ A7.out).mono ?_); rintro e w' ⟨rfl, ⟨nd, rfl⟩⟩; (try first | exact ⟨rfl, _, World.drewN_drewN _ _ _⟩ | exact ⟨rfl, _, Eq.trans (World.drewN_drewN _ _ _) (congrArg (World.drewN _) (Nat.add_assoc _ _ _))⟩)))
    repeat (go_quiet (first | (go_at_call 68; (with_reducible refine (impl_isWord.calls a0_1 false _ A7.out).mono ?_); rintro e w' ⟨rfl, ⟨nd, rfl⟩⟩; (try first | exact ⟨rfl, _, World.drewN_drewN _ _ _⟩ | exact ⟨rfl, _, Eq.trans (World.drewN_drewN _ _ _) (congrArg (World.drewN _) (Nat.add_assoc _ _ _))⟩))); try go_wp2_with (first | (go_at_call 68; (with_reducible refine (impl_isWord.calls a0_1 false _ A7.out).mono ?_); rintro e w' ⟨rfl, ⟨nd, rfl⟩⟩; (try first | exact ⟨rfl, _, World.drewN_drewN _ _ _⟩ | exact ⟨rfl, _, Eq.trans (World.drewN_drewN _ _ _) (congrArg (World.drewN _) (Nat.add_assoc _ _ _))⟩))))
    go_meet
    case rel => exact ⟨_, (0), (false), d0_, d0_, H', ⟨by first | omega | exact Nat.le_refl _⟩, ⟨by refine bk_ ?_; exact BK362.out⟩, ⟨bw_ HB.out⟩⟩
  ·rw [if_neg c6] at H
   have c6b0 := beq_eq_false_iff_ne.mpr c6
   have c6b1 := bne_iff_ne.mpr c6
   (first | rw [c6b0] | (simp only [i64_w, i32_w]; rw [c6b0]) | skip)
   have HC11 := A_ H
   clear H
   obtain ⟨y12_0, y12_1, y12_2, y12_3, z12_0, z12_1, z12_2, z12_3⟩ := cz4_ BK362.out
   go_upto_region 5 with (fail)
   repeat (go_quiet (fail); go_upto_region 5 with (fail))
   go_cut [23] (fun v23 wc => ∃ (kq : Nat) (x23_10 : Bool), v23 = .bool x23_10 ∧ Aside0 (impl_termOk.j0 kq a1 a2 0 false x23_10 a0_0 a0_1 a0_2 l0_3 = some r) ∧ Aside0 (kq ≤ k) ∧ Aside0 (wc.heap[gb362]? = some (.cells #[.int .i64 a0_0, .int .i64 a0_1, .string a0_2, (.slice A0_3 l0_3.length c0_3)] 29 (0, 0))) ∧ Aside0 (Below w.heap.size w wc))
   case first =>
    have H := HC11.out
    clear HC11
    by_cases c13 : a0_0 = 2
    ·rw [if_pos c13] at H
     have c13b0 := beq_iff_eq.mpr c13
     have c13b1 := bne_eq_false_iff_eq.mpr c13
     clear c13
     (first | rw [c13b0] | (simp only [i64_w, i32_w]; rw [c13b0]) | skip)
     have H' := A_ H
     clear H
     obtain ⟨y14_0, y14_1, y14_2, y14_3, z14_0, z14_1, z14_2, z14_3⟩ := cz4_ BK362.out
     go_wp2
     repeat (go_quiet (fail); try go_wp2)
     go_meet
     case rel => exact ⟨_, (true), d0_, H', ⟨by first | omega | exact Nat.le_refl _⟩, ⟨by refine bk_ ?_; exact BK362.out⟩, ⟨bw_ HB.out⟩⟩
    ·rw [if_neg c13] at H
     have c13b0 := beq_eq_false_iff_ne.mpr c13
     have c13b1 := bne_iff_ne.mpr c13
     (first | rw [c13b0] | (simp only [i64_w, i32_w]; rw [c13b0]) | skip)
     by_cases c15 : a0_0 = 12
     ·rw [if_pos c15] at H
      have c15b0 := beq_iff_eq.mpr c15
      have c15b1 := bne_eq_false_iff_eq.mpr c15
      clear c15
      have H' := A_ H
      clear H
      obtain ⟨y16_0, y16_1, y16_2, y16_3, z16_0, z16_1, z16_2, z16_3⟩ := cz4_ BK362.out
      go_wp2
      repeat (go_quiet (fail); try go_wp2)
      go_meet
      case rel => exact ⟨_, (!a2), d0_, H', ⟨by first | omega | exact Nat.le_refl _⟩, ⟨by refine bk_ ?_; exact BK362.out⟩, ⟨bw_ HB.out⟩⟩
     ·rw [if_neg c15] at H
      have c15b0 := beq_eq_false_iff_ne.mpr c15
      have c15b1 := bne_iff_ne.mpr c15
      have H' := A_ H
      clear H
      obtain ⟨y17_0, y17_1, y17_2, y17_3, z17_0, z17_1, z17_2, z17_3⟩ := cz4_ BK362.out
      go_wp2
      repeat (go_quiet (fail); try go_wp2)
      go_meet
      case rel => exact ⟨_, (false), d0_, H', ⟨by first | omega | exact Nat.le_refl _⟩, ⟨by refine bk_ ?_; exact BK362.out⟩, ⟨bw_ HB.out⟩⟩
   case rest =>
    clear HC11
    try clear c1
    try clear p2
    try clear c4
    try clear c6
    try clear c6b0
    try clear c6b1
    try clear c8
    try clear c13
    try clear c13b0
    try clear c13b1
    try clear c15
    try clear c15b0
    try clear c15b1
    try clear y10_0 y10_1 y10_2 y10_3 z10_0 z10_1 z10_2 z10_3
    try clear y12_0 y12_1 y12_2 y12_3 z12_0 z12_1 z12_2 z12_3
    try clear y14_0 y14_1 y14_2 y14_3 z14_0 z14_1 z14_2 z14_3
    try clear y16_0 y16_1 y16_2 y16_3 z16_0 z16_1 z16_2 z16_3
    try clear y17_0 y17_1 y17_2 y17_3 z17_0 z17_1 z17_2 z17_3
    try clear y9_0 y9_1 y9_2 y9_3 z9_0 z9_1 z9_2 z9_3
    obtain ⟨kq, x23_10, rfl, HA, HJ10, BK362, HB⟩ := hcut
    cases kq with
    | zero => exact absurd HA.out (by simp [impl_termOk.j0])
    | succ kj10 =>
     have H := HA.out
     clear HA
     simp only [impl_termOk.j0] at H
     by_cases c18 : x23_10 = true
     ·subst c18
      rw [if_pos rfl] at H
      by_cases c19 : a0_1 = 0
      ·rw [if_pos c19] at H
       have c19b0 := beq_iff_eq.mpr c19
       have c19b1 := bne_eq_false_iff_eq.mpr c19
       clear c19
       replace H := Option.bind_eq_some_iff.mp H
       obtain ⟨t364, A200, H⟩ := H
       try dsimp only at H
       have A20 := A_ A200
       clear A200
       have H' := A_ H
       clear H
       obtain ⟨y21_0, y21_1, y21_2, y21_3, z21_0, z21_1, z21_2, z21_3⟩ := cz4_ BK362.out
       go_wp2_with (first | (go_at_call 69; (with_reducible refine (impl_isName.calls kj10 a0_2 t364 _ A20.out).mono ?_); rintro e w22 ⟨rfl, hb⟩; replace BK362 := A_ (blk_below (bk_ BK362.out) hb); replace HB := A_ (below_step (bw_ HB.out) hb); clear hb))
       repeat (go_quiet (first | (go_at_call 69; (with_reducible refine (impl_isName.calls kj10 a0_2 t364 _ A20.out).mono ?_); rintro e w22 ⟨rfl, hb⟩; replace BK362 := A_ (blk_below (bk_ BK362.out) hb); replace HB := A_ (below_step (bw_ HB.out) hb); clear hb)); try go_wp2_with (first | (go_at_call 69; (with_reducible refine (impl_isName.calls kj10 a0_2 t364 _ A20.out).mono ?_); rintro e w22 ⟨rfl, hb⟩; replace BK362 := A_ (blk_below (bk_ BK362.out) hb); replace HB := A_ (below_step (bw_ HB.out) hb); clear hb)))
       go_meet
       case rel => exact ⟨_, (0), (t364), d0_, d0_, H', ⟨by have := HJ10.out; first | omega | exact Nat.le_refl _⟩, ⟨by refine bk_ ?_; exact BK362.out⟩, ⟨bw_ HB.out⟩⟩
      ·rw [if_neg c19] at H
       have c19b0 := beq_eq_false_iff_ne.mpr c19
       have c19b1 := bne_iff_ne.mpr c19
       have H' := A_ H
       clear H
       obtain ⟨y23_0, y23_1, y23_2, y23_3, z23_0, z23_1, z23_2, z23_3⟩ := cz4_ BK362.out
       go_wp2
       repeat (go_quiet (fail); try go_wp2)
       go_meet
       case rel => exact ⟨_, (0), (false), d0_, d0_, H', ⟨by have := HJ10.out; first | omega | exact Nat.le_refl _⟩, ⟨by refine bk_ ?_; exact BK362.out⟩, ⟨bw_ HB.out⟩⟩
     ·replace c18 := Bool.eq_false_iff.mpr c18
      subst c18
      rw [if_neg (show ¬ (false = true) by decide)] at H
      have HC24 := A_ H
      clear H
      go_upto_region 7 with (fail)
      repeat (go_quiet (fail); go_upto_region 7 with (fail))
      go_cut [44] (fun v44 wc => ∃ (kq : Nat) (x44_23 : Bool), v44 = .bool x44_23 ∧ Aside0 (impl_termOk.j1 kq a1 a2 0 false x44_23 a0_0 a0_1 a0_2 l0_3 = some r) ∧ Aside0 (kq ≤ kj10) ∧ Aside0 (wc.heap[gb362]? = some (.cells #[.int .i64 a0_0, .int .i64 a0_1, .string a0_2, (.slice A0_3 l0_3.length c0_3)] 29 (0, 0))) ∧ Aside0 (Below w.heap.size w wc))
      case first =>
       have H := HC24.out
       clear HC24
       by_cases c25 : a0_0 = 11
       ·rw [if_pos c25] at H
        have c25b0 := beq_iff_eq.mpr c25
        have c25b1 := bne_eq_false_iff_eq.mpr c25
        clear c25
        (first | rw [c25b0] | (simp only [i64_w, i32_w]; rw [c25b0]) | skip)
        have H' := A_ H
        clear H
        obtain ⟨y26_0, y26_1, y26_2, y26_3, z26_0, z26_1, z26_2, z26_3⟩ := cz4_ BK362.out
        go_wp2
        repeat (go_quiet (fail); try go_wp2)
        go_meet
        case rel => exact ⟨_, (!a2), d0_, H', ⟨by have := HJ10.out; first | omega | exact Nat.le_refl _⟩, ⟨by refine bk_ ?_; exact BK362.out⟩, ⟨bw_ HB.out⟩⟩
       ·rw [if_neg c25] at H
        have c25b0 := beq_eq_false_iff_ne.mpr c25
        have c25b1 := bne_iff_ne.mpr c25
        (first | rw [c25b0] | (simp only [i64_w, i32_w]; rw [c25b0]) | skip)
        have H' := A_ H
        clear H
        obtain ⟨y27_0, y27_1, y27_2, y27_3, z27_0, z27_1, z27_2, z27_3⟩ := cz4_ BK362.out
        go_wp2
        repeat (go_quiet (fail); try go_wp2)
        go_meet
        case rel => exact ⟨_, (false), d0_, H', ⟨by have := HJ10.out; first | omega | exact Nat.le_refl _⟩, ⟨by refine bk_ ?_; exact BK362.out⟩, ⟨bw_ HB.out⟩⟩
      case rest =>
       clear HC24
       try clear c1
       try clear c2
       try clear p2
       try clear c4
       try clear c6
       try clear c6b0
       try clear c6b1
       try clear c8
       try clear c13
       try clear c13b0
       try clear c13b1
       try clear c15
       try clear c15b0
       try clear c15b1
       try clear c18
       try clear c19
       try clear c19b0
       try clear c19b1
       try clear c25
       try clear c25b0
       try clear c25b1
       try clear y10_0 y10_1 y10_2 y10_3 z10_0 z10_1 z10_2 z10_3
       try clear y12_0 y12_1 y12_2 y12_3 z12_0 z12_1 z12_2 z12_3
       try clear y14_0 y14_1 y14_2 y14_3 z14_0 z14_1 z14_2 z14_3
       try clear y16_0 y16_1 y16_2 y16_3 z16_0 z16_1 z16_2 z16_3
       try clear y17_0 y17_1 y17_2 y17_3 z17_0 z17_1 z17_2 z17_3
       try clear y21_0 y21_1 y21_2 y21_3 z21_0 z21_1 z21_2 z21_3
       try clear y23_0 y23_1 y23_2 y23_3 z23_0 z23_1 z23_2 z23_3
       try clear y26_0 y26_1 y26_2 y26_3 z26_0 z26_1 z26_2 z26_3
       try clear y27_0 y27_1 y27_2 y27_3 z27_0 z27_1 z27_2 z27_3
       try clear y9_0 y9_1 y9_2 y9_3 z9_0 z9_1 z9_2 z9_3
       try clear p2
       obtain ⟨kq, x44_23, rfl, HA, HJ23, BK362, HB⟩ := hcut
       cases kq with
       | zero => exact absurd HA.out (by simp [impl_termOk.j1])
       | succ kj23 =>
        have H := HA.out
        clear HA
        simp only [impl_termOk.j1] at H
        by_cases c28 : x44_23 = true
        ·subst c28
         rw [if_pos rfl] at H
         replace H := Option.bind_eq_some_iff.mp H
         obtain ⟨t365, A290, H⟩ := H
         try dsimp only at H
         have A29 := A_ A290
         clear A290
         by_cases c30 : t365 = true
         ·subst c30
          rw [if_pos rfl] at H
          have H' := A_ H
          clear H
          obtain ⟨y31_0, y31_1, y31_2, y31_3, z31_0, z31_1, z31_2, z31_3⟩ := cz4_ BK362.out
          go_wp2_with (first | (go_at_call 70; (with_reducible refine (impl_within.calls a0_1 0 9 true _ A29.out).mono ?_); rintro e w' ⟨rfl, ⟨nd, rfl⟩⟩; (try first | exact ⟨rfl, _, World.drewN_drewN _ _ _⟩ | exact ⟨rfl, _, Eq.trans (World.drewN_drewN _ _ _) (congrArg (World.drewN _) (Nat.add_assoc _ _ _))⟩)))
          repeat (go_quiet (first | (go_at_call 70; (with_reducible refine (impl_within.calls a0_1 0 9 true _ A29.out).mono ?_); rintro e w' ⟨rfl, ⟨nd, rfl⟩⟩; (try first | exact ⟨rfl, _, World.drewN_drewN _ _ _⟩ | exact ⟨rfl, _, Eq.trans (World.drewN_drewN _ _ _) (congrArg (World.drewN _) (Nat.add_assoc _ _ _))⟩))); try go_wp2_with (first | (go_at_call 70; (with_reducible refine (impl_within.calls a0_1 0 9 true _ A29.out).mono ?_); rintro e w' ⟨rfl, ⟨nd, rfl⟩⟩; (try first | exact ⟨rfl, _, World.drewN_drewN _ _ _⟩ | exact ⟨rfl, _, Eq.trans (World.drewN_drewN _ _ _) (congrArg (World.drewN _) (Nat.add_assoc _ _ _))⟩))))
          go_meet
          case rel => exact ⟨_, (0), ((a0_2.toList == ([] : List UInt8))), d0_, d0_, H', ⟨by have := HJ10.out; have := HJ23.out; first | omega | exact Nat.le_refl _⟩, ⟨by refine bk_ ?_; exact BK362.out⟩, ⟨bw_ HB.out⟩⟩
         ·replace c30 := Bool.eq_false_iff.mpr c30
          subst c30
          rw [if_neg (show ¬ (false = true) by decide)] at H
          have H' := A_ H
          clear H
          obtain ⟨y32_0, y32_1, y32_2, y32_3, z32_0, z32_1, z32_2, z32_3⟩ := cz4_ BK362.out
          go_wp2_with (first | (go_at_call 70; (with_reducible refine (impl_within.calls a0_1 0 9 false _ A29.out).mono ?_); rintro e w' ⟨rfl, ⟨nd, rfl⟩⟩; (try first | exact ⟨rfl, _, World.drewN_drewN _ _ _⟩ | exact ⟨rfl, _, Eq.trans (World.drewN_drewN _ _ _) (congrArg (World.drewN _) (Nat.add_assoc _ _ _))⟩)))
          repeat (go_quiet (first | (go_at_call 70; (with_reducible refine (impl_within.calls a0_1 0 9 false _ A29.out).mono ?_); rintro e w' ⟨rfl, ⟨nd, rfl⟩⟩; (try first | exact ⟨rfl, _, World.drewN_drewN _ _ _⟩ | exact ⟨rfl, _, Eq.trans (World.drewN_drewN _ _ _) (congrArg (World.drewN _) (Nat.add_assoc _ _ _))⟩))); try go_wp2_with (first | (go_at_call 70; (with_reducible refine (impl_within.calls a0_1 0 9 false _ A29.out).mono ?_); rintro e w' ⟨rfl, ⟨nd, rfl⟩⟩; (try first | exact ⟨rfl, _, World.drewN_drewN _ _ _⟩ | exact ⟨rfl, _, Eq.trans (World.drewN_drewN _ _ _) (congrArg (World.drewN _) (Nat.add_assoc _ _ _))⟩))))
          go_meet
          case rel => exact ⟨_, (0), (false), d0_, d0_, H', ⟨by have := HJ10.out; have := HJ23.out; first | omega | exact Nat.le_refl _⟩, ⟨by refine bk_ ?_; exact BK362.out⟩, ⟨bw_ HB.out⟩⟩
        ·replace c28 := Bool.eq_false_iff.mpr c28
         subst c28
         rw [if_neg (show ¬ (false = true) by decide)] at H
         by_cases c33 : a0_0 = 3
         ·rw [if_pos c33] at H
          have c33b0 := beq_iff_eq.mpr c33
          have c33b1 := bne_eq_false_iff_eq.mpr c33
          clear c33
          by_cases c34 : a0_1 = 0
          ·rw [if_pos c34] at H
           have c34b0 := beq_iff_eq.mpr c34
           have c34b1 := bne_eq_false_iff_eq.mpr c34
           clear c34
           have H' := A_ H
           clear H
           obtain ⟨y35_0, y35_1, y35_2, y35_3, z35_0, z35_1, z35_2, z35_3⟩ := cz4_ BK362.out
           go_wp2
           repeat (go_quiet (fail); try go_wp2)
           go_meet
           case rel => exact ⟨_, (0), ((a0_2.toList == ([] : List UInt8))), d0_, d0_, H', ⟨by have := HJ10.out; have := HJ23.out; first | omega | exact Nat.le_refl _⟩, ⟨by refine bk_ ?_; exact BK362.out⟩, ⟨bw_ HB.out⟩⟩
          ·rw [if_neg c34] at H
           have c34b0 := beq_eq_false_iff_ne.mpr c34
           have c34b1 := bne_iff_ne.mpr c34
           have H' := A_ H
           clear H
           obtain ⟨y36_0, y36_1, y36_2, y36_3, z36_0, z36_1, z36_2, z36_3⟩ := cz4_ BK362.out
           go_wp2
           repeat (go_quiet (fail); try go_wp2)
           go_meet
           case rel => exact ⟨_, (0), (false), d0_, d0_, H', ⟨by have := HJ10.out; have := HJ23.out; first | omega | exact Nat.le_refl _⟩, ⟨by refine bk_ ?_; exact BK362.out⟩, ⟨bw_ HB.out⟩⟩
         ·rw [if_neg c33] at H
          have c33b0 := beq_eq_false_iff_ne.mpr c33
          have c33b1 := bne_iff_ne.mpr c33
          by_cases c37 : a0_0 = 4
          ·rw [if_pos c37] at H
           have c37b0 := beq_iff_eq.mpr c37
           have c37b1 := bne_eq_false_iff_eq.mpr c37
           clear c37
           by_cases c38 : a0_1 = 0
           ·rw [if_pos c38] at H
            have c38b0 := beq_iff_eq.mpr c38
            have c38b1 := bne_eq_false_iff_eq.mpr c38
            clear c38
            have H' := A_ H
            clear H
            obtain ⟨y39_0, y39_1, y39_2, y39_3, z39_0, z39_1, z39_2, z39_3⟩ := cz4_ BK362.out
            go_wp2
            repeat (go_quiet (fail); try go_wp2)
            go_meet
            case rel => exact ⟨_, (1), ((a0_2.toList == ([] : List UInt8))), d0_, d0_, H', ⟨by have := HJ10.out; have := HJ23.out; first | omega | exact Nat.le_refl _⟩, ⟨by refine bk_ ?_; exact BK362.out⟩, ⟨bw_ HB.out⟩⟩
           ·rw [if_neg c38] at H
            have c38b0 := beq_eq_false_iff_ne.mpr c38
            have c38b1 := bne_iff_ne.mpr c38
            have H' := A_ H
            clear H
            obtain ⟨y40_0, y40_1, y40_2, y40_3, z40_0, z40_1, z40_2, z40_3⟩ := cz4_ BK362.out
            go_wp2
            repeat (go_quiet (fail); try go_wp2)
            go_meet
            case rel => exact ⟨_, (1), (false), d0_, d0_, H', ⟨by have := HJ10.out; have := HJ23.out; first | omega | exact Nat.le_refl _⟩, ⟨by refine bk_ ?_; exact BK362.out⟩, ⟨bw_ HB.out⟩⟩
          ·rw [if_neg c37] at H
           have c37b0 := beq_eq_false_iff_ne.mpr c37
           have c37b1 := bne_iff_ne.mpr c37
           replace H := Option.bind_eq_some_iff.mp H
           obtain ⟨t366, A410, H⟩ := H
           try dsimp only at H
           have A41 := A_ A410
           clear A410
           by_cases c42 : t366 = true
           ·subst c42
            rw [if_pos rfl] at H
            by_cases c43 : a0_1 = 0
            ·rw [if_pos c43] at H
             have c43b0 := beq_iff_eq.mpr c43
             have c43b1 := bne_eq_false_iff_eq.mpr c43
             clear c43
             have H' := A_ H
             clear H
             obtain ⟨y44_0, y44_1, y44_2, y44_3, z44_0, z44_1, z44_2, z44_3⟩ := cz4_ BK362.out
             go_wp2_with (first | (go_at_call 71; (with_reducible refine (impl_isTwo.calls a0_0 true _ A41.out).mono ?_); rintro e w' ⟨rfl, ⟨nd, rfl⟩⟩; (try first | exact ⟨rfl, _, World.drewN_drewN _ _ _⟩ | exact ⟨rfl, _, Eq.trans (World.drewN_drewN _ _ _) (congrArg (World.drewN _) (Nat.add_assoc _ _ _))⟩)))
             repeat (go_quiet (first | (go_at_call 71; (with_reducible refine (impl_isTwo.calls a0_0 true _ A41.out).mono ?_); rintro e w' ⟨rfl, ⟨nd, rfl⟩⟩; (try first | exact ⟨rfl, _, World.drewN_drewN _ _ _⟩ | exact ⟨rfl, _, Eq.trans (World.drewN_drewN _ _ _) (congrArg (World.drewN _) (Nat.add_assoc _ _ _))⟩))); try go_wp2_with (first | (go_at_call 71; (with_reducible refine (impl_isTwo.calls a0_0 true _ A41.out).mono ?_); rintro e w' ⟨rfl, ⟨nd, rfl⟩⟩; (try first | exact ⟨rfl, _, World.drewN_drewN _ _ _⟩ | exact ⟨rfl, _, Eq.trans (World.drewN_drewN _ _ _) (congrArg (World.drewN _) (Nat.add_assoc _ _ _))⟩))))
             go_meet
             case rel => exact ⟨_, (2), ((a0_2.toList == ([] : List UInt8))), d0_, d0_, H', ⟨by have := HJ10.out; have := HJ23.out; first | omega | exact Nat.le_refl _⟩, ⟨by refine bk_ ?_; exact BK362.out⟩, ⟨bw_ HB.out⟩⟩
            ·rw [if_neg c43] at H
             have c43b0 := beq_eq_false_iff_ne.mpr c43
             have c43b1 := bne_iff_ne.mpr c43
             have H' := A_ H
             clear H
             obtain ⟨y45_0, y45_1, y45_2, y45_3, z45_0, z45_1, z45_2, z45_3⟩ := cz4_ BK362.out
             go_wp2_with (first | (go_at_call 71; (with_reducible refine (impl_isTwo.calls a0_0 true _ A41.out).mono ?_); rintro e w' ⟨rfl, ⟨nd, rfl⟩⟩; (try first | exact ⟨rfl, _, World.drewN_drewN _ _ _⟩ | exact ⟨rfl, _, Eq.trans (World.drewN_drewN _ _ _) (congrArg (World.drewN _) (Nat.add_assoc _ _ _))⟩)))
             repeat (go_quiet (first | (go_at_call 71; (with_reducible refine (impl_isTwo.calls a0_0 true _ A41.out).mono ?_); rintro e w' ⟨rfl, ⟨nd, rfl⟩⟩; (try first | exact ⟨rfl, _, World.drewN_drewN _ _ _⟩ | exact ⟨rfl, _, Eq.trans (World.drewN_drewN _ _ _) (congrArg (World.drewN _) (Nat.add_assoc _ _ _))⟩))); try go_wp2_with (first | (go_at_call 71; (with_reducible refine (impl_isTwo.calls a0_0 true _ A41.out).mono ?_); rintro e w' ⟨rfl, ⟨nd, rfl⟩⟩; (try first | exact ⟨rfl, _, World.drewN_drewN _ _ _⟩ | exact ⟨rfl, _, Eq.trans (World.drewN_drewN _ _ _) (congrArg (World.drewN _) (Nat.add_assoc _ _ _))⟩))))
             go_meet
             case rel => exact ⟨_, (2), (false), d0_, d0_, H', ⟨by have := HJ10.out; have := HJ23.out; first | omega | exact Nat.le_refl _⟩, ⟨by refine bk_ ?_; exact BK362.out⟩, ⟨bw_ HB.out⟩⟩
           ·replace c42 := Bool.eq_false_iff.mpr c42
            subst c42
            rw [if_neg (show ¬ (false = true) by decide)] at H
            have H' := A_ H
            clear H
            obtain ⟨y46_0, y46_1, y46_2, y46_3, z46_0, z46_1, z46_2, z46_3⟩ := cz4_ BK362.out
            go_wp2_with (first | (go_at_call 71; (with_reducible refine (impl_isTwo.calls a0_0 false _ A41.out).mono ?_); rintro e w' ⟨rfl, ⟨nd, rfl⟩⟩; (try first | exact ⟨rfl, _, World.drewN_drewN _ _ _⟩ | exact ⟨rfl, _, Eq.trans (World.drewN_drewN _ _ _) (congrArg (World.drewN _) (Nat.add_assoc _ _ _))⟩)))
            repeat (go_quiet (first | (go_at_call 71; (with_reducible refine (impl_isTwo.calls a0_0 false _ A41.out).mono ?_); rintro e w' ⟨rfl, ⟨nd, rfl⟩⟩; (try first | exact ⟨rfl, _, World.drewN_drewN _ _ _⟩ | exact ⟨rfl, _, Eq.trans (World.drewN_drewN _ _ _) (congrArg (World.drewN _) (Nat.add_assoc _ _ _))⟩))); try go_wp2_with (first | (go_at_call 71; (with_reducible refine (impl_isTwo.calls a0_0 false _ A41.out).mono ?_); rintro e w' ⟨rfl, ⟨nd, rfl⟩⟩; (try first | exact ⟨rfl, _, World.drewN_drewN _ _ _⟩ | exact ⟨rfl, _, Eq.trans (World.drewN_drewN _ _ _) (congrArg (World.drewN _) (Nat.add_assoc _ _ _))⟩))))
            go_meet
            case rel => exact ⟨_, (0), (false), d0_, d0_, H', ⟨by have := HJ10.out; have := HJ23.out; first | omega | exact Nat.le_refl _⟩, ⟨by refine bk_ ?_; exact BK362.out⟩, ⟨bw_ HB.out⟩⟩
 case rest =>
  clear HC4
  try clear c1
  try clear c2
  try clear p2
  try clear c3
  try clear c4
  try clear c6
  try clear c6b0
  try clear c6b1
  try clear c8
  try clear c13
  try clear c13b0
  try clear c13b1
  try clear c15
  try clear c15b0
  try clear c15b1
  try clear c18
  try clear c19
  try clear c19b0
  try clear c19b1
  try clear c25
  try clear c25b0
  try clear c25b1
  try clear c28
  try clear c30
  try clear c33
  try clear c33b0
  try clear c33b1
  try clear c34
  try clear c34b0
  try clear c34b1
  try clear c37
  try clear c37b0
  try clear c37b1
  try clear c38
  try clear c38b0
  try clear c38b1
  try clear c42
  try clear c43
  try clear c43b0
  try clear c43b1
  try clear y10_0 y10_1 y10_2 y10_3 z10_0 z10_1 z10_2 z10_3
  try clear y12_0 y12_1 y12_2 y12_3 z12_0 z12_1 z12_2 z12_3
  try clear y14_0 y14_1 y14_2 y14_3 z14_0 z14_1 z14_2 z14_3
  try clear y16_0 y16_1 y16_2 y16_3 z16_0 z16_1 z16_2 z16_3
  try clear y17_0 y17_1 y17_2 y17_3 z17_0 z17_1 z17_2 z17_3
  try clear y21_0 y21_1 y21_2 y21_3 z21_0 z21_1 z21_2 z21_3
  try clear y23_0 y23_1 y23_2 y23_3 z23_0 z23_1 z23_2 z23_3
  try clear y26_0 y26_1 y26_2 y26_3 z26_0 z26_1 z26_2 z26_3
  try clear y27_0 y27_1 y27_2 y27_3 z27_0 z27_1 z27_2 z27_3
  try clear y31_0 y31_1 y31_2 y31_3 z31_0 z31_1 z31_2 z31_3
  try clear y32_0 y32_1 y32_2 y32_3 z32_0 z32_1 z32_2 z32_3
  try clear y35_0 y35_1 y35_2 y35_3 z35_0 z35_1 z35_2 z35_3
  try clear y36_0 y36_1 y36_2 y36_3 z36_0 z36_1 z36_2 z36_3
  try clear y39_0 y39_1 y39_2 y39_3 z39_0 z39_1 z39_2 z39_3
  try clear y40_0 y40_1 y40_2 y40_3 z40_0 z40_1 z40_2 z40_3
  try clear y44_0 y44_1 y44_2 y44_3 z44_0 z44_1 z44_2 z44_3
  try clear y45_0 y45_1 y45_2 y45_3 z45_0 z45_1 z45_2 z45_3
  try clear y46_0 y46_1 y46_2 y46_3 z46_0 z46_1 z46_2 z46_3
  try clear y9_0 y9_1 y9_2 y9_3 z9_0 z9_1 z9_2 z9_3
  try clear p2
  obtain ⟨kq, x7_3, x8_3, rfl, rfl, HA, HJ3, BK362, HB⟩ := hcut
  cases kq with
  | zero => exact absurd HA.out (by simp [impl_termOk.j2])
  | succ kj3 =>
   have H := HA.out
   clear HA
   simp only [impl_termOk.j2] at H
   have HC47 := A_ H
   clear H
   go_upto_region 15 with (fail)
   repeat (go_quiet (fail); go_upto_region 15 with (fail))
   go_cut [108] (fun v108 wc => ∃ (kq : Nat) (x108_46 : Bool), v108 = .bool x108_46 ∧ Aside0 (impl_termOk.j3 kq a1 a2 x108_46 a0_0 a0_1 a0_2 l0_3 = some r) ∧ Aside0 (kq ≤ kj3) ∧ Aside0 (wc.heap[gb362]? = some (.cells #[.int .i64 a0_0, .int .i64 a0_1, .string a0_2, (.slice A0_3 l0_3.length c0_3)] 29 (0, 0))) ∧ Aside0 (Below w.heap.size w wc))
   case first =>
    have H := HC47.out
    clear HC47
    by_cases c48 : x8_3 = true
    ·subst c48
     rw [if_pos rfl] at H
     by_cases c49 : a1 < 1
     ·rw [if_pos c49] at H
      have c49b0 := decide_eq_true c49
      clear c49
      (first | rw [c49b0] | (simp only [i64_w, i32_w]; rw [c49b0]) | skip)
      have H' := A_ H
      clear H
      go_wp2
      repeat (go_quiet (fail); try go_wp2)
      go_meet
      case rel => exact ⟨_, (true), d0_, H', ⟨by have := HJ3.out; first | omega | exact Nat.le_refl _⟩, ⟨by refine bk_ ?_; exact BK362.out⟩, ⟨bw_ HB.out⟩⟩
     ·rw [if_neg c49] at H
      have c49b0 := decide_eq_false c49
      clear c49
      (first | rw [c49b0] | (simp only [i64_w, i32_w]; rw [c49b0]) | skip)
      have H' := A_ H
      clear H
      obtain ⟨y50_0, y50_1, y50_2, y50_3, z50_0, z50_1, z50_2, z50_3⟩ := cz4_ BK362.out
      go_wp2
      repeat (go_quiet (fail); try go_wp2)
      go_meet
      case rel => exact ⟨_, (((l0_3.length : Int) != x7_3)), d0_, H', ⟨by have := HJ3.out; first | omega | exact Nat.le_refl _⟩, ⟨by refine bk_ ?_; exact BK362.out⟩, ⟨bw_ HB.out⟩⟩
    ·replace c48 := Bool.eq_false_iff.mpr c48
     subst c48
     rw [if_neg (show ¬ (false = true) by decide)] at H
     have H' := A_ H
     clear H
     go_wp2
     repeat (go_quiet (fail); try go_wp2)
     go_meet
     case rel => exact ⟨_, (true), d0_, H', ⟨by have := HJ3.out; first | omega | exact Nat.le_refl _⟩, ⟨by refine bk_ ?_; exact BK362.out⟩, ⟨bw_ HB.out⟩⟩
   case rest =>
    clear HC47
    try clear c1
    try clear c2
    try clear p2
    try clear c3
    try clear c4
    try clear c6
    try clear c6b0
    try clear c6b1
    try clear c8
    try clear c13
    try clear c13b0
    try clear c13b1
    try clear c15
    try clear c15b0
    try clear c15b1
    try clear c18
    try clear c19
    try clear c19b0
    try clear c19b1
    try clear c25
    try clear c25b0
    try clear c25b1
    try clear c28
    try clear c30
    try clear c33
    try clear c33b0
    try clear c33b1
    try clear c34
    try clear c34b0
    try clear c34b1
    try clear c37
    try clear c37b0
    try clear c37b1
    try clear c38
    try clear c38b0
    try clear c38b1
    try clear c42
    try clear c43
    try clear c43b0
    try clear c43b1
    try clear c48
    try clear c49
    try clear c49b0
    try clear y10_0 y10_1 y10_2 y10_3 z10_0 z10_1 z10_2 z10_3
    try clear y12_0 y12_1 y12_2 y12_3 z12_0 z12_1 z12_2 z12_3
    try clear y14_0 y14_1 y14_2 y14_3 z14_0 z14_1 z14_2 z14_3
    try clear y16_0 y16_1 y16_2 y16_3 z16_0 z16_1 z16_2 z16_3
    try clear y17_0 y17_1 y17_2 y17_3 z17_0 z17_1 z17_2 z17_3
    try clear y21_0 y21_1 y21_2 y21_3 z21_0 z21_1 z21_2 z21_3
    try clear y23_0 y23_1 y23_2 y23_3 z23_0 z23_1 z23_2 z23_3
    try clear y26_0 y26_1 y26_2 y26_3 z26_0 z26_1 z26_2 z26_3
    try clear y27_0 y27_1 y27_2 y27_3 z27_0 z27_1 z27_2 z27_3
    try clear y31_0 y31_1 y31_2 y31_3 z31_0 z31_1 z31_2 z31_3
    try clear y32_0 y32_1 y32_2 y32_3 z32_0 z32_1 z32_2 z32_3
    try clear y35_0 y35_1 y35_2 y35_3 z35_0 z35_1 z35_2 z35_3
    try clear y36_0 y36_1 y36_2 y36_3 z36_0 z36_1 z36_2 z36_3
    try clear y39_0 y39_1 y39_2 y39_3 z39_0 z39_1 z39_2 z39_3
    try clear y40_0 y40_1 y40_2 y40_3 z40_0 z40_1 z40_2 z40_3
    try clear y44_0 y44_1 y44_2 y44_3 z44_0 z44_1 z44_2 z44_3
    try clear y45_0 y45_1 y45_2 y45_3 z45_0 z45_1 z45_2 z45_3
    try clear y46_0 y46_1 y46_2 y46_3 z46_0 z46_1 z46_2 z46_3
    try clear y50_0 y50_1 y50_2 y50_3 z50_0 z50_1 z50_2 z50_3
    try clear y9_0 y9_1 y9_2 y9_3 z9_0 z9_1 z9_2 z9_3
    try clear p2
    obtain ⟨kq, x108_46, rfl, HA, HJ46, BK362, HB⟩ := hcut
    cases kq with
    | zero => exact absurd HA.out (by simp [impl_termOk.j3])
    | succ kj46 =>
     have H := HA.out
     clear HA
     simp only [impl_termOk.j3] at H
     by_cases c51 : x108_46 = true
     ·subst c51
      rw [if_pos rfl] at H
      obtain rfl := Option.some.inj H
      go_wp2
      repeat (go_quiet (fail); try go_wp2)
      go_ret
      exact rt_ (bw_ HB.out)
     ·replace c51 := Bool.eq_false_iff.mpr c51
      subst c51
      rw [if_neg (show ¬ (false = true) by decide)] at H
      have H' := A_ H
      clear H
      obtain ⟨y52_0, y52_1, y52_2, y52_3, z52_0, z52_1, z52_2, z52_3⟩ := cz4_ BK362.out
      go_wp2
      repeat (go_quiet (fail); try go_wp2)
      go_loopg [112] kj46 (fun kq v112 w' => ∃ (x112_3 : Int), v112 = .int .i64 x112_3 ∧ Aside0 (impl_termOk.l0 kq a1 a2 l0_3 (l0_3.length : Int) x112_3 = some r) ∧ Aside0 (kq ≤ kj46) ∧ Aside0 (w'.heap[gb362]? = some (.cells #[.int .i64 a0_0, .int .i64 a0_1, .string a0_2, (.slice A0_3 l0_3.length c0_3)] 29 (0, 0))) ∧ Aside0 (Below w.heap.size w w'))
      case atStart => exact ⟨(0), d0_, H', ⟨Nat.le_refl _⟩, ⟨by refine bk_ ?_; exact BK362.out⟩, ⟨bw_ HB.out⟩⟩
      case round =>
       clear H'
       try clear c1
       try clear c2
       try clear p2
       try clear c3
       try clear c4
       try clear c5
       try clear c6
       try clear c6b0
       try clear c6b1
       try clear c8
       try clear c13
       try clear c13b0
       try clear c13b1
       try clear c15
       try clear c15b0
       try clear c15b1
       try clear c18
       try clear c19
       try clear c19b0
       try clear c19b1
       try clear c25
       try clear c25b0
       try clear c25b1
       try clear c28
       try clear c30
       try clear c33
       try clear c33b0
       try clear c33b1
       try clear c34
       try clear c34b0
       try clear c34b1
       try clear c37
       try clear c37b0
       try clear c37b1
       try clear c38
       try clear c38b0
       try clear c38b1
       try clear c42
       try clear c43
       try clear c43b0
       try clear c43b1
       try clear c48
       try clear c49
       try clear c49b0
       try clear c51
       try clear y10_0 y10_1 y10_2 y10_3 z10_0 z10_1 z10_2 z10_3
       try clear y12_0 y12_1 y12_2 y12_3 z12_0 z12_1 z12_2 z12_3
       try clear y14_0 y14_1 y14_2 y14_3 z14_0 z14_1 z14_2 z14_3
       try clear y16_0 y16_1 y16_2 y16_3 z16_0 z16_1 z16_2 z16_3
       try clear y17_0 y17_1 y17_2 y17_3 z17_0 z17_1 z17_2 z17_3
       try clear y21_0 y21_1 y21_2 y21_3 z21_0 z21_1 z21_2 z21_3
       try clear y23_0 y23_1 y23_2 y23_3 z23_0 z23_1 z23_2 z23_3
       try clear y26_0 y26_1 y26_2 y26_3 z26_0 z26_1 z26_2 z26_3
       try clear y27_0 y27_1 y27_2 y27_3 z27_0 z27_1 z27_2 z27_3
       try clear y31_0 y31_1 y31_2 y31_3 z31_0 z31_1 z31_2 z31_3
       try clear y32_0 y32_1 y32_2 y32_3 z32_0 z32_1 z32_2 z32_3
       try clear y35_0 y35_1 y35_2 y35_3 z35_0 z35_1 z35_2 z35_3
       try clear y36_0 y36_1 y36_2 y36_3 z36_0 z36_1 z36_2 z36_3
       try clear y39_0 y39_1 y39_2 y39_3 z39_0 z39_1 z39_2 z39_3
       try clear y40_0 y40_1 y40_2 y40_3 z40_0 z40_1 z40_2 z40_3
       try clear y44_0 y44_1 y44_2 y44_3 z44_0 z44_1 z44_2 z44_3
       try clear y45_0 y45_1 y45_2 y45_3 z45_0 z45_1 z45_2 z45_3
       try clear y46_0 y46_1 y46_2 y46_3 z46_0 z46_1 z46_2 z46_3
       try clear y50_0 y50_1 y50_2 y50_3 z50_0 z50_1 z50_2 z50_3
       try clear y52_0 y52_1 y52_2 y52_3 z52_0 z52_1 z52_2 z52_3
       try clear y9_0 y9_1 y9_2 y9_3 z9_0 z9_1 z9_2 z9_3
       try clear p2
       obtain ⟨x112_3, rfl, HA, HK3, BK362, HB⟩ := hrel
       cases gk with
       | zero => exact absurd HA.out (by simp [impl_termOk.l0])
       | succ k3 =>
        have H := HA.out
        clear HA
        simp only [impl_termOk.l0] at H
        by_cases c53 : x112_3 < (l0_3.length : Int)
        ·rw [if_pos c53] at H
         have c53b0 := decide_eq_true c53
         clear c53
         by_cases c54 : 0 ≤ x112_3
         ·rw [if_pos c54] at H
          have c54b0 := decide_eq_true c54
          clear c54
          by_cases c55 : x112_3 < (l0_3.length : Int)
          ·rw [if_pos c55] at H
           have c55b0 := decide_eq_true c55
           clear c55
           replace H := Option.bind_eq_some_iff.mp H
           obtain ⟨t369, A560, H⟩ := H
           try dsimp only at H
           have A56 := A_ A560
           clear A560
           by_cases c57 : t369 = true
           ·subst c57
            rw [if_pos rfl] at H
            have H' := A_ H
            clear H
            have p367 : 0 ≤ (x112_3 : Int) := of_decide_eq_true d1_
            have q367 : x112_3 < (l0_3.length : Int) := of_decide_eq_true d1_
            obtain ⟨ad367, A367_3, c367_3, e367, hx367_0, hx367_1, hx367_2, hx367_3, hl367_3, hi367_3⟩ := at_T29 HR0_3.out x112_3 p367 q367
            cases e367
            replace hx367_0 := (HB.out.cell (World.block_lt_of_cell? w _ hx367_0)).trans hx367_0
            replace hx367_1 := (HB.out.cell (World.block_lt_of_cell? w _ hx367_1)).trans hx367_1
            replace hx367_2 := (HB.out.cell (World.block_lt_of_cell? w _ hx367_2)).trans hx367_2
            replace hx367_3 := (HB.out.cell (World.block_lt_of_cell? w _ hx367_3)).trans hx367_3
            have HR367_3 := A_ hi367_3
            have HC367_3 := A_ hl367_3
            clear hi367_3 hl367_3
            replace p367 := eq_true p367
            replace q367 := eq_true q367
            go_wp2_with (first | ((with_reducible refine gate_dst (N := 10) rfl ?_); (try (refine gate_guard (by rfl) ?_; dsimp only)); refine bx_ 10 #[.int .i64 0, .int .i64 0, .string (⟨#[]⟩ : ByteArray), .slice none 0 0] 29 ?_; intro gb368 hg w58 hbox hb; have n0_ := A_ (blk_below (bk_ BK362.out) hb); have n1_ := A_ (below_step (bw_ HB.out) hb); have n2_ := A_ (hbox); have n3_ := A_ ((d3_ : w.heap.size ≤ gb368)); have n4_ := n3_; have n5_ := A_ ((d40_ : gb362 ≠ gb368)); have n6_ := A_ n5_.out.symm; clear BK362; clear HB; have BK362 := n0_; have HB := n1_; have BK368 := n2_; have GW368 := n3_; have GE368 := n4_; have GI368 := GeI.mk GE368.out; have NB362_368 := n5_; have NB368_362 := n6_; clear n0_ n1_ n2_ n3_ n4_ n5_ n6_; clear hb hbox hg; have hnb59 := NB368_362.out; have hnc59 := NB362_368.out; obtain ⟨y60_0, y60_1, y60_2, y60_3, z60_0, z60_1, z60_2, z60_3⟩ := cz4_ BK368.out) | (go_at_call 47; (with_reducible refine (ih k3 d36_ ((rd_T29 l0_3 x112_3).f0) ((rd_T29 l0_3 x112_3).f1) ((rd_T29 l0_3 x112_3).f2) _ _ ((rd_T29 l0_3 x112_3).f3) (wrap64 (a1 - 1)) a2 true _ ?side1 ?side2 A56.out).mono ?_); (case side1 => exact Kd.C_below HR367_3.out (bw_ HB.out)); (case side2 => exact HC367_3.out); rintro e w61 ⟨rfl, hb⟩; replace BK362 := A_ (blk_below (g := gb362) (o := .cells #[.int .i64 a0_0, .int .i64 a0_1, .string a0_2, .slice (some ad367) l0_3.length c0_3] 29 (0, 0)) d7_ hb); replace BK368 := A_ (blk_below (g := gb368) (o := .cells #[.int .i64 ((rd_T29 l0_3 x112_3).f0), .int .i64 ((rd_T29 l0_3 x112_3).f1), .string ((rd_T29 l0_3 x112_3).f2), .slice A367_3 ((rd_T29 l0_3 x112_3).f3).length c367_3] 29 (0, 0)) d42_ hb); replace HB := A_ (below_step (bw_ HB.out) hb); clear hb))
            repeat (go_quiet (first | ((with_reducible refine gate_dst (N := 10) rfl ?_); (try (refine gate_guard (by rfl) ?_; dsimp only)); refine bx_ 10 #[.int .i64 0, .int .i64 0, .string (⟨#[]⟩ : ByteArray), .slice none 0 0] 29 ?_; intro gb368 hg w58 hbox hb; have n0_ := A_ (blk_below (bk_ BK362.out) hb); have n1_ := A_ (below_step (bw_ HB.out) hb); have n2_ := A_ (hbox); have n3_ := A_ ((d3_ : w.heap.size ≤ gb368)); have n4_ := n3_; have n5_ := A_ ((d40_ : gb362 ≠ gb368)); have n6_ := A_ n5_.out.symm; clear BK362; clear HB; have BK362 := n0_; have HB := n1_; have BK368 := n2_; have GW368 := n3_; have GE368 := n4_; have GI368 := GeI.mk GE368.out; have NB362_368 := n5_; have NB368_362 := n6_; clear n0_ n1_ n2_ n3_ n4_ n5_ n6_; clear hb hbox hg; have hnb59 := NB368_362.out; have hnc59 := NB362_368.out; obtain ⟨y60_0, y60_1, y60_2, y60_3, z60_0, z60_1, z60_2, z60_3⟩ := cz4_ BK368.out) | (go_at_call 47; (with_reducible refine (ih k3 d36_ ((rd_T29 l0_3 x112_3).f0) ((rd_T29 l0_3 x112_3).f1) ((rd_T29 l0_3 x112_3).f2) _ _ ((rd_T29 l0_3 x112_3).f3) (wrap64 (a1 - 1)) a2 true _ ?side1 ?side2 A56.out).mono ?_); (case side1 => exact Kd.C_below HR367_3.out (bw_ HB.out)); (case side2 => exact HC367_3.out); rintro e w61 ⟨rfl, hb⟩; replace BK362 := A_ (blk_below (g := gb362) (o := .cells #[.int .i64 a0_0, .int .i64 a0_1, .string a0_2, .slice (some ad367) l0_3.length c0_3] 29 (0, 0)) d7_ hb); replace BK368 := A_ (blk_below (g := gb368) (o := .cells #[.int .i64 ((rd_T29 l0_3 x112_3).f0), .int .i64 ((rd_T29 l0_3 x112_3).f1), .string ((rd_T29 l0_3 x112_3).f2), .slice A367_3 ((rd_T29 l0_3 x112_3).f3).length c367_3] 29 (0, 0)) d42_ hb); replace HB := A_ (below_step (bw_ HB.out) hb); clear hb)); try go_wp2_with (first | ((with_reducible refine gate_dst (N := 10) rfl ?_); (try (refine gate_guard (by rfl) ?_; dsimp only)); refine bx_ 10 #[.int .i64 0, .int .i64 0, .string (⟨#[]⟩ : ByteArray), .slice none 0 0] 29 ?_; intro gb368 hg w58 hbox hb; have n0_ := A_ (blk_below (bk_ BK362.out) hb); have n1_ := A_ (below_step (bw_ HB.out) hb); have n2_ := A_ (hbox); have n3_ := A_ ((d3_ : w.heap.size ≤ gb368)); have n4_ := n3_; have n5_ := A_ ((d40_ : gb362 ≠ gb368)); have n6_ := A_ n5_.out.symm; clear BK362; clear HB; have BK362 := n0_; have HB := n1_; have BK368 := n2_; have GW368 := n3_; have GE368 := n4_; have GI368 := GeI.mk GE368.out; have NB362_368 := n5_; have NB368_362 := n6_; clear n0_ n1_ n2_ n3_ n4_ n5_ n6_; clear hb hbox hg; have hnb59 := NB368_362.out; have hnc59 := NB362_368.out; obtain ⟨y60_0, y60_1, y60_2, y60_3, z60_0, z60_1, z60_2, z60_3⟩ := cz4_ BK368.out) | (go_at_call 47; (with_reducible refine (ih k3 d36_ ((rd_T29 l0_3 x112_3).f0) ((rd_T29 l0_3 x112_3).f1) ((rd_T29 l0_3 x112_3).f2) _ _ ((rd_T29 l0_3 x112_3).f3) (wrap64 (a1 - 1)) a2 true _ ?side1 ?side2 A56.out).mono ?_); (case side1 => exact Kd.C_below HR367_3.out (bw_ HB.out)); (case side2 => exact HC367_3.out); rintro e w61 ⟨rfl, hb⟩; replace BK362 := A_ (blk_below (g := gb362) (o := .cells #[.int .i64 a0_0, .int .i64 a0_1, .string a0_2, .slice (some ad367) l0_3.length c0_3] 29 (0, 0)) d7_ hb); replace BK368 := A_ (blk_below (g := gb368) (o := .cells #[.int .i64 ((rd_T29 l0_3 x112_3).f0), .int .i64 ((rd_T29 l0_3 x112_3).f1), .string ((rd_T29 l0_3 x112_3).f2), .slice A367_3 ((rd_T29 l0_3 x112_3).f3).length c367_3] 29 (0, 0)) d42_ hb); replace HB := A_ (below_step (bw_ HB.out) hb); clear hb)))
            go_roundg k3
            case measure => have := HJ3.out; have := HJ46.out; have := HK3.out; omega
            case rel => exact ⟨(wrap64 (x112_3 + 1)), d0_, H', ⟨by have := HJ3.out; have := HJ46.out; have := HK3.out; omega⟩, ⟨by refine bk_ ?_; exact BK362.out⟩, ⟨bw_ HB.out⟩⟩
           ·replace c57 := Bool.eq_false_iff.mpr c57
            subst c57
            rw [if_neg (show ¬ (false = true) by decide)] at H
            obtain rfl := Option.some.inj H
            have p367 : 0 ≤ (x112_3 : Int) := of_decide_eq_true d1_
            have q367 : x112_3 < (l0_3.length : Int) := of_decide_eq_true d1_
            obtain ⟨ad367, A367_3, c367_3, e367, hx367_0, hx367_1, hx367_2, hx367_3, hl367_3, hi367_3⟩ := at_T29 HR0_3.out x112_3 p367 q367
            cases e367
            replace hx367_0 := (HB.out.cell (World.block_lt_of_cell? w _ hx367_0)).trans hx367_0
            replace hx367_1 := (HB.out.cell (World.block_lt_of_cell? w _ hx367_1)).trans hx367_1
            replace hx367_2 := (HB.out.cell (World.block_lt_of_cell? w _ hx367_2)).trans hx367_2
            replace hx367_3 := (HB.out.cell (World.block_lt_of_cell? w _ hx367_3)).trans hx367_3
            have HR367_3 := A_ hi367_3
            have HC367_3 := A_ hl367_3
            clear hi367_3 hl367_3
            replace p367 := eq_true p367
            replace q367 := eq_true q367
            go_wp2_with (first | ((with_reducible refine gate_dst (N := 10) rfl ?_); (try (refine gate_guard (by rfl) ?_; dsimp only)); refine bx_ 10 #[.int .i64 0, .int .i64 0, .string (⟨#[]⟩ : ByteArray), .slice none 0 0] 29 ?_; intro gb368 hg w62 hbox hb; have n0_ := A_ (blk_below (bk_ BK362.out) hb); have n1_ := A_ (below_step (bw_ HB.out) hb); have n2_ := A_ (hbox); have n3_ := A_ ((d3_ : w.heap.size ≤ gb368)); have n4_ := n3_; have n5_ := A_ ((d40_ : gb362 ≠ gb368)); have n6_ := A_ n5_.out.symm; clear BK362; clear HB; have BK362 := n0_; have HB := n1_; have BK368 := n2_; have GW368 := n3_; have GE368 := n4_; have GI368 := GeI.mk GE368.out; have NB362_368 := n5_; have NB368_362 := n6_; clear n0_ n1_ n2_ n3_ n4_ n5_ n6_; clear hb hbox hg; have hnb63 := NB368_362.out; have hnc63 := NB362_368.out; obtain ⟨y64_0, y64_1, y64_2, y64_3, z64_0, z64_1, z64_2, z64_3⟩ := cz4_ BK368.out) | (go_at_call 47; (with_reducible refine (ih k3 d36_ ((rd_T29 l0_3 x112_3).f0) ((rd_T29 l0_3 x112_3).f1) ((rd_T29 l0_3 x112_3).f2) _ _ ((rd_T29 l0_3 x112_3).f3) (wrap64 (a1 - 1)) a2 false _ ?side1 ?side2 A56.out).mono ?_); (case side1 => exact Kd.C_below HR367_3.out (bw_ HB.out)); (case side2 => exact HC367_3.out); rintro e w65 ⟨rfl, hb⟩; replace BK362 := A_ (blk_below (g := gb362) (o := .cells #[.int .i64 a0_0, .int .i64 a0_1, .string a0_2, .slice (some ad367) l0_3.length c0_3] 29 (0, 0)) d7_ hb); replace BK368 := A_ (blk_below (g := gb368) (o := .cells #[.int .i64 ((rd_T29 l0_3 x112_3).f0), .int .i64 ((rd_T29 l0_3 x112_3).f1), .string ((rd_T29 l0_3 x112_3).f2), .slice A367_3 ((rd_T29 l0_3 x112_3).f3).length c367_3] 29 (0, 0)) d42_ hb); replace HB := A_ (below_step (bw_ HB.out) hb); clear hb))
            repeat (go_quiet (first | ((with_reducible refine gate_dst (N := 10) rfl ?_); (try (refine gate_guard (by rfl) ?_; dsimp only)); refine bx_ 10 #[.int .i64 0, .int .i64 0, .string (⟨#[]⟩ : ByteArray), .slice none 0 0] 29 ?_; intro gb368 hg w62 hbox hb; have n0_ := A_ (blk_below (bk_ BK362.out) hb); have n1_ := A_ (below_step (bw_ HB.out) hb); have n2_ := A_ (hbox); have n3_ := A_ ((d3_ : w.heap.size ≤ gb368)); have n4_ := n3_; have n5_ := A_ ((d40_ : gb362 ≠ gb368)); have n6_ := A_ n5_.out.symm; clear BK362; clear HB; have BK362 := n0_; have HB := n1_; have BK368 := n2_; have GW368 := n3_; have GE368 := n4_; have GI368 := GeI.mk GE368.out; have NB362_368 := n5_; have NB368_362 := n6_; clear n0_ n1_ n2_ n3_ n4_ n5_ n6_; clear hb hbox hg; have hnb63 := NB368_362.out; have hnc63 := NB362_368.out; obtain ⟨y64_0, y64_1, y64_2, y64_3, z64_0, z64_1, z64_2, z64_3⟩ := cz4_ BK368.out) | (go_at_call 47; (with_reducible refine (ih k3 d36_ ((rd_T29 l0_3 x112_3).f0) ((rd_T29 l0_3 x112_3).f1) ((rd_T29 l0_3 x112_3).f2) _ _ ((rd_T29 l0_3 x112_3).f3) (wrap64 (a1 - 1)) a2 false _ ?side1 ?side2 A56.out).mono ?_); (case side1 => exact Kd.C_below HR367_3.out (bw_ HB.out)); (case side2 => exact HC367_3.out); rintro e w65 ⟨rfl, hb⟩; replace BK362 := A_ (blk_below (g := gb362) (o := .cells #[.int .i64 a0_0, .int .i64 a0_1, .string a0_2, .slice (some ad367) l0_3.length c0_3] 29 (0, 0)) d7_ hb); replace BK368 := A_ (blk_below (g := gb368) (o := .cells #[.int .i64 ((rd_T29 l0_3 x112_3).f0), .int .i64 ((rd_T29 l0_3 x112_3).f1), .string ((rd_T29 l0_3 x112_3).f2), .slice A367_3 ((rd_T29 l0_3 x112_3).f3).length c367_3] 29 (0, 0)) d42_ hb); replace HB := A_ (below_step (bw_ HB.out) hb); clear hb)); try go_wp2_with (first | ((with_reducible refine gate_dst (N := 10) rfl ?_); (try (refine gate_guard (by rfl) ?_; dsimp only)); refine bx_ 10 #[.int .i64 0, .int .i64 0, .string (⟨#[]⟩ : ByteArray), .slice none 0 0] 29 ?_; intro gb368 hg w62 hbox hb; have n0_ := A_ (blk_below (bk_ BK362.out) hb); have n1_ := A_ (below_step (bw_ HB.out) hb); have n2_ := A_ (hbox); have n3_ := A_ ((d3_ : w.heap.size ≤ gb368)); have n4_ := n3_; have n5_ := A_ ((d40_ : gb362 ≠ gb368)); have n6_ := A_ n5_.out.symm; clear BK362; clear HB; have BK362 := n0_; have HB := n1_; have BK368 := n2_; have GW368 := n3_; have GE368 := n4_; have GI368 := GeI.mk GE368.out; have NB362_368 := n5_; have NB368_362 := n6_; clear n0_ n1_ n2_ n3_ n4_ n5_ n6_; clear hb hbox hg; have hnb63 := NB368_362.out; have hnc63 := NB362_368.out; obtain ⟨y64_0, y64_1, y64_2, y64_3, z64_0, z64_1, z64_2, z64_3⟩ := cz4_ BK368.out) | (go_at_call 47; (with_reducible refine (ih k3 d36_ ((rd_T29 l0_3 x112_3).f0) ((rd_T29 l0_3 x112_3).f1) ((rd_T29 l0_3 x112_3).f2) _ _ ((rd_T29 l0_3 x112_3).f3) (wrap64 (a1 - 1)) a2 false _ ?side1 ?side2 A56.out).mono ?_); (case side1 => exact Kd.C_below HR367_3.out (bw_ HB.out)); (case side2 => exact HC367_3.out); rintro e w65 ⟨rfl, hb⟩; replace BK362 := A_ (blk_below (g := gb362) (o := .cells #[.int .i64 a0_0, .int .i64 a0_1, .string a0_2, .slice (some ad367) l0_3.length c0_3] 29 (0, 0)) d7_ hb); replace BK368 := A_ (blk_below (g := gb368) (o := .cells #[.int .i64 ((rd_T29 l0_3 x112_3).f0), .int .i64 ((rd_T29 l0_3 x112_3).f1), .string ((rd_T29 l0_3 x112_3).f2), .slice A367_3 ((rd_T29 l0_3 x112_3).f3).length c367_3] 29 (0, 0)) d42_ hb); replace HB := A_ (below_step (bw_ HB.out) hb); clear hb)))
            go_ret
            exact rt_ (bw_ HB.out)
          ·rw [if_neg c55] at H
           exact absurd H (by simp)
         ·rw [if_neg c54] at H
          exact absurd H (by simp)
        ·rw [if_neg c53] at H
         have c53b0 := decide_eq_false c53
         clear c53
         obtain rfl := Option.some.inj H
         go_wp2
         repeat (go_quiet (fail); try go_wp2)
         go_ret
         exact rt_ (bw_ HB.out)

end Go.Proofs.Ytcpnhlhigpgonaa.PFnExactFold
