-- Laid by a program of this session (a changed copy of the kit's printer); Lean checks every line.
import Derived.Test.YtiagbfilffbljaaPFnMachsx0
import Derived.Test.YtiagbfilffbljaaPFnMachsx2
import Derived.Test.YtiagbfilffbljaaPFnMachsx3
namespace Go.Proofs.Ytiagbfilffbljaa.PFnMachs
open Go.RowKit Go.Proofs.YtiagbfilffbljaaW.PrintWords Go.Proofs.YtiagbfilffbljaaW.PrintLast Go.Proofs.YtiagbfilffbljaaW.PrintMore
attribute [local go_sem] max2_int min2_int max_two min_two max_three min_three max_four min_four   -- for this text's walks alone
set_option linter.unusedVariables false
set_option linter.unusedSimpArgs false

/-! ### impl_MachNew: function 29 -/
structure MnI (l3 : List Int) (w0 : World) (b0 b1 b3 b4 b5 b6 : Bool) (x0 x1 x3 vb vp : Value) (g : Nat) (w : World) : Prop where
 bel : Below w0.heap.size w0 w
 r0 : RwB b0 w0.heap.size w x0 (List.replicate 256 0)
 r1 : RwB b1 w0.heap.size w x1 (List.replicate 8 0)
 r3 : RwB b3 w0.heap.size w x3 l3
 d01 : Dj b0 b1 x0 x1
 d03 : Dj b0 b3 x0 x3
 d13 : Dj b1 b3 x1 x3
 hb : b4 = true → b0 = true ∧ b1 = true ∧ b3 = true ∧ vb = .agg #[x0, x1, .bool false, .bool false, .bool false, .bool false, x3, .slice none 0 0, .int .i64 0]
 hs : b6 = true → b4 = true ∧ b5 = true
 hp : b5 = true → vp = .pointer (some ⟨g, 0, none⟩) ∧ w0.heap.size ≤ g ∧ w.heap[g]? = some (.cells (if b6 = true then #[x0, x1, .bool false, .bool false, .bool false, .bool false, x3, .slice none 0 0, .int .i64 0] else #[.slice none 0 0, .slice none 0 0, .bool false, .bool false, .bool false, .bool false, .slice none 0 0, .slice none 0 0, .int .i64 0]) 28 (0, 0)) ∧ (b0 = true → x0.ownBlock ≠ some g) ∧ (b1 = true → x1.ownBlock ≠ some g) ∧ (b3 = true → x3.ownBlock ≠ some g)
section
variable {g : Nat} {l3 : List Int} {w0 w w' : World} {b0 b1 b3 b4 b5 b6 : Bool} {x0 x1 x3 vb vp : Value}
theorem MnI.s0 {v : Value} (h : MnI l3 w0 false b1 b3 b4 b5 b6 x0 x1 x3 vb vp g w) (ho : (Kd.int .i64).R 3 w' w.heap.size (fun _ => True) v (List.replicate 256 0)) (hb : Below w.heap.size w w') : MnI l3 w0 true b1 b3 b4 b5 b6 v x1 x3 vb vp g w' := by
 have hs : b6 = false := by cases e : b6 with
  | false => rfl
  | true => exact absurd (h.hb (h.hs e).1).1 (by simp)
 subst hs
 exact ⟨below_step h.bel hb, RwB.new ho h.bel.size, h.r1.keep hb, h.r3.keep hb, (Dj.new ho h.r1).1, (Dj.new ho h.r3).1, h.d13, fun e => absurd (h.hb e).1 (by simp), (fun e => by cases e), (fun e => by
  obtain ⟨e1, e2, e3, e0_, e1_, e3_⟩ := h.hp e
  exact ⟨e1, e2, (hb.block g (blk_lt e3)).trans e3, fun _ e => absurd (blk_lt e3) (Nat.not_lt.2 ((Kd.R_bound ho).1 g e).2.1), e1_, e3_⟩)⟩
theorem MnI.s1 {v : Value} (h : MnI l3 w0 b0 false b3 b4 b5 b6 x0 x1 x3 vb vp g w) (ho : (Kd.int .i64).R 3 w' w.heap.size (fun _ => True) v (List.replicate 8 0)) (hb : Below w.heap.size w w') : MnI l3 w0 b0 true b3 b4 b5 b6 x0 v x3 vb vp g w' := by
 have hs : b6 = false := by cases e : b6 with
  | false => rfl
  | true => exact absurd (h.hb (h.hs e).1).2.1 (by simp)
 subst hs
 exact ⟨below_step h.bel hb, h.r0.keep hb, RwB.new ho h.bel.size, h.r3.keep hb, (Dj.new ho h.r0).2, h.d03, (Dj.new ho h.r3).1, fun e => absurd (h.hb e).2.1 (by simp), (fun e => by cases e), (fun e => by
  obtain ⟨e1, e2, e3, e0_, e1_, e3_⟩ := h.hp e
  exact ⟨e1, e2, (hb.block g (blk_lt e3)).trans e3, e0_, fun _ e => absurd (blk_lt e3) (Nat.not_lt.2 ((Kd.R_bound ho).1 g e).2.1), e3_⟩)⟩
theorem MnI.s3 {v : Value} (h : MnI l3 w0 b0 b1 false b4 b5 b6 x0 x1 x3 vb vp g w) (ho : (Kd.int .i64).R 3 w' w.heap.size (fun _ => True) v l3) (hb : Below w.heap.size w w') : MnI l3 w0 b0 b1 true b4 b5 b6 x0 x1 v vb vp g w' := by
 have hs : b6 = false := by cases e : b6 with
  | false => rfl
  | true => exact absurd (h.hb (h.hs e).1).2.2.1 (by simp)
 subst hs
 exact ⟨below_step h.bel hb, h.r0.keep hb, h.r1.keep hb, RwB.new ho h.bel.size, h.d01, (Dj.new ho h.r0).2, (Dj.new ho h.r1).2, fun e => absurd (h.hb e).2.2.1 (by simp), (fun e => by cases e), (fun e => by
  obtain ⟨e1, e2, e3, e0_, e1_, e3_⟩ := h.hp e
  exact ⟨e1, e2, (hb.block g (blk_lt e3)).trans e3, e0_, e1_, fun _ e => absurd (blk_lt e3) (Nat.not_lt.2 ((Kd.R_bound ho).1 g e).2.1)⟩)⟩
theorem MnI.sb (h : MnI l3 w0 b0 b1 b3 false b5 b6 x0 x1 x3 vb vp g w) (e0 : b0 = true) (e1 : b1 = true) (e3 : b3 = true) : MnI l3 w0 b0 b1 b3 true b5 b6 x0 x1 x3 (.agg #[x0, x1, .bool false, .bool false, .bool false, .bool false, x3, .slice none 0 0, .int .i64 0]) vp g w := by
 exact ⟨h.bel, h.r0, h.r1, h.r3, h.d01, h.d03, h.d13, fun _ => ⟨e0, e1, e3, rfl⟩, fun e => absurd (h.hs e).1 (by simp), h.hp⟩
theorem MnI.sa {g' : Nat} (h : MnI l3 w0 b0 b1 b3 b4 false b6 x0 x1 x3 vb vp g w) (hg : g' = w.heap.size) (hx : w'.heap[g']? = some (.cells #[.slice none 0 0, .slice none 0 0, .bool false, .bool false, .bool false, .bool false, .slice none 0 0, .slice none 0 0, .int .i64 0] 28 (0, 0))) (hb : Below w.heap.size w w') : MnI l3 w0 b0 b1 b3 b4 true b6 x0 x1 x3 vb (.pointer (some ⟨g', 0, none⟩)) g' w' := by
 have hs : b6 = false := by cases e : b6 with
  | false => rfl
  | true => exact absurd (h.hs e).2 (by simp)
 subst hs
 exact ⟨below_step h.bel hb, h.r0.keep hb, h.r1.keep hb, h.r3.keep hb, h.d01, h.d03, h.d13, h.hb, (fun e => by cases e), fun _ => ⟨rfl, hg ▸ h.bel.size, hx, fun q e => absurd (h.r0.lt q g' e) (by omega), fun q e => absurd (h.r1.lt q g' e) (by omega), fun q e => absurd (h.r3.lt q g' e) (by omega)⟩⟩
theorem MnI.ss (h : MnI l3 w0 b0 b1 b3 b4 b5 false x0 x1 x3 vb vp g w) (hx : w'.heap[g]? = some (.cells #[x0, x1, .bool false, .bool false, .bool false, .bool false, x3, .slice none 0 0, .int .i64 0] 28 (0, 0))) (hg : w.grownBy w' (some g)) (e4 : b4 = true) (e5 : b5 = true) : MnI l3 w0 b0 b1 b3 b4 b5 true x0 x1 x3 vb vp g w' := by
 obtain ⟨e1, e2, e3, e0_, e1_, e3_⟩ := h.hp e5
 exact ⟨h.bel.trans ⟨hg.os, hg.tape, hg.output, hg.size, fun k hk => hg.block k (Nat.lt_of_lt_of_le hk h.bel.size) (fun e => by injection e with e; omega)⟩, h.r0.grown hg (fun q k hk e => e0_ q (e ▸ hk)), h.r1.grown hg (fun q k hk e => e1_ q (e ▸ hk)), h.r3.grown hg (fun q k hk e => e3_ q (e ▸ hk)), h.d01, h.d03, h.d13, h.hb, fun _ => ⟨e4, e5⟩, fun _ => ⟨e1, e2, (by rw [if_pos rfl]; exact hx), e0_, e1_, e3_⟩⟩
end

/-! ### what a new machine's rows are -/
def newMem (l0 : List Int) (q : Nat) : List Int := (List.replicate 256 0).take q ++ (l0 ++ (List.replicate 256 0).drop (q + l0.length))
def newRegs (a2 : Int) : List Int := ((List.replicate 8 0).set 6 512).set 7 a2
def impl_MachNew.mk (l0 : List Int) (a1 a2 : Int) (l3 : List Int) : Option (List Int × List Int × Bool × Bool × Bool × Bool × List Int × List Int × Int) := if 0 ≤ wrap64 (Int.tdiv a1 2) ∧ wrap64 (Int.tdiv a1 2) + (l0.length : Int) ≤ 256 ∧ wrap64 (Int.tdiv a1 2) < 256 then (impl_copyInts.f l3).bind fun t => some (newMem l0 (wrap64 (Int.tdiv a1 2)).toNat, newRegs a2, false, false, false, false, t, [], 0) else none
theorem impl_MachNew.mk_some {l0 : List Int} {a1 a2 : Int} {l3 r1 r2 r7 r8 : List Int} {r3 r4 r5 r6 : Bool} {r9 : Int} (h : impl_MachNew.mk l0 a1 a2 l3 = some (r1, r2, r3, r4, r5, r6, r7, r8, r9)) :
  ∃ q : Nat, ∃ t, Aside0 (wrap64 (Int.tdiv a1 2) = (q : Int)) ∧ Aside0 (q + l0.length ≤ 256 ∧ q < 256) ∧ Aside0 (impl_copyInts.f l3 = some t) ∧ r1 = newMem l0 q ∧ r2 = newRegs a2 ∧ r3 = false ∧ r4 = false ∧ r5 = false ∧ r6 = false ∧ r7 = t ∧ r8 = [] ∧ r9 = 0 := by
 unfold impl_MachNew.mk at h
 by_cases c : 0 ≤ wrap64 (Int.tdiv a1 2) ∧ wrap64 (Int.tdiv a1 2) + (l0.length : Int) ≤ 256 ∧ wrap64 (Int.tdiv a1 2) < 256
 ·rw [if_pos c] at h
  obtain ⟨t, ht, h⟩ := Option.bind_eq_some_iff.mp h
  simp only [Option.some.injEq, Prod.mk.injEq] at h
  obtain ⟨rfl, rfl, rfl, rfl, rfl, rfl, rfl, rfl, rfl⟩ := h
  obtain ⟨q, hq⟩ := Int.eq_ofNat_of_zero_le c.1
  refine ⟨q, t, ⟨hq⟩, ⟨?_⟩, ⟨ht⟩, by rw [hq, Int.toNat_natCast], rfl, rfl, rfl, rfl, rfl, rfl, rfl, rfl⟩
  rw [hq] at c
  omega
 ·rw [if_neg c] at h
  cases h
def impl_MachNew.f (k : Nat) (l0 : List Int) (a1 : Int) (a2 : Int) (l3 : List Int) : Option (List Int × List Int × Bool × Bool × Bool × Bool × List Int × List Int × Int) := (impl_isAddr.f a1).bind fun t145 => (if t145 = true then (if (l0.length : Int) > (wrap64 (256 - (wrap64 (Int.tdiv a1 2)))) then (some (([] : List Int), ([] : List Int), false, false, false, false, ([] : List Int), ([] : List Int), 0)) else ((impl_wordsOk.f k l0).bind fun t146 => (if t146 = true then ((impl_wordsOk.f k l3).bind fun t147 => (if t147 = true then ((impl_isWord.f a2).bind fun t148 => (if t148 = true then (if (l3.length : Int) > 50 then (some (([] : List Int), ([] : List Int), false, false, false, false, ([] : List Int), ([] : List Int), 0)) else (impl_MachNew.mk l0 a1 a2 l3)) else (some (([] : List Int), ([] : List Int), false, false, false, false, ([] : List Int), ([] : List Int), 0)))) else (some (([] : List Int), ([] : List Int), false, false, false, false, ([] : List Int), ([] : List Int), 0)))) else (some (([] : List Int), ([] : List Int), false, false, false, false, ([] : List Int), ([] : List Int), 0))))) else (some (([] : List Int), ([] : List Int), false, false, false, false, ([] : List Int), ([] : List Int), 0)))
theorem impl_MachNew.mono : ∀ a0 a1 a2 a3 k, LeO (impl_MachNew.f k a0 a1 a2 a3) (impl_MachNew.f (k + 1) a0 a1 a2 a3) := by
 intro a0 a1 a2 a3 k
 unfold impl_MachNew.f
 repeat' first
   | (with_reducible exact impl_wordsOk.mono _ _)
   | (with_reducible exact LeO.refl _)
   | (with_reducible exact LeO.none _)
   | (with_reducible refine LeO.ite ?_ ?_)
   | (with_reducible refine LeO.bind ?_ (fun _ => ?_))
   | exact impl_wordsOk.mono _ _
   | exact LeO.none _
   | refine LeO.ite ?_ ?_
   | refine LeO.bind ?_ (fun _ => ?_)
set_option maxHeartbeats 8000000 in
set_option maxRecDepth 100000 in
theorem impl_MachNew.calls (k : Nat) (A0 : Option Addr) (c0 : Nat) (l0 : List Int) (a1 : Int) (a2 : Int) (A3 : Option Addr) (c3 : Nat) (l3 : List Int) (r1 : List Int) (r2 : List Int) (r3 : Bool) (r4 : Bool) (r5 : Bool) (r6 : Bool) (r7 : List Int) (r8 : List Int) (r9 : Int) (w : World) (hr0 : Kd.C (Kd.int .i64) w A0 l0.length l0) (hc0 : l0.length ≤ c0) (hr3 : Kd.C (Kd.int .i64) w A3 l3.length l3) (hc3 : l3.length ≤ c3) (h : impl_MachNew.f k l0 a1 a2 l3 = some (r1, r2, r3, r4, r5, r6, r7, r8, r9)) :
  Calls Try.prog 29 #[.slice A0 l0.length c0, .int .i64 a1, .int .i64 a2, .slice A3 l3.length c3] w fun e w' => ∃ v0_ v1_ v6_ v7_ : Value, e = .returned (.agg #[v0_, v1_, .bool r3, .bool r4, .bool r5, .bool r6, v6_, v7_, .int .i64 r9]) ∧ Kd.R (Kd.int .i64) 3 w' w.heap.size (fun k_ => some k_ ≠ (v1_ : Value).ownBlock ∧ some k_ ≠ (v6_ : Value).ownBlock ∧ some k_ ≠ (v7_ : Value).ownBlock) v0_ r1 ∧ Kd.R (Kd.int .i64) 3 w' w.heap.size (fun k_ => some k_ ≠ (v0_ : Value).ownBlock ∧ some k_ ≠ (v6_ : Value).ownBlock ∧ some k_ ≠ (v7_ : Value).ownBlock) v1_ r2 ∧ Kd.R (Kd.int .i64) 3 w' w.heap.size (fun k_ => some k_ ≠ (v0_ : Value).ownBlock ∧ some k_ ≠ (v1_ : Value).ownBlock ∧ some k_ ≠ (v7_ : Value).ownBlock) v6_ r7 ∧ Kd.R (Kd.int .i64) 3 w' w.heap.size (fun k_ => some k_ ≠ (v0_ : Value).ownBlock ∧ some k_ ≠ (v1_ : Value).ownBlock ∧ some k_ ≠ (v6_ : Value).ownBlock) v7_ r8 ∧ Below w.heap.size w w' := by
 have hu28 := Try.underlying28
 have HR0 := A_ hr0
 have HC0 := A_ hc0
 clear hr0 hc0
 have HR3 := A_ hr3
 have HC3 := A_ hc3
 clear hr3 hc3
 have HB := A_ (Below.refl w.heap.size w)
 have H : ((impl_isAddr.f a1).bind fun t145 => (if t145 = true then (if (l0.length : Int) > (wrap64 (256 - (wrap64 (Int.tdiv a1 2)))) then (some (([] : List Int), ([] : List Int), false, false, false, false, ([] : List Int), ([] : List Int), 0)) else ((impl_wordsOk.f k l0).bind fun t146 => (if t146 = true then ((impl_wordsOk.f k l3).bind fun t147 => (if t147 = true then ((impl_isWord.f a2).bind fun t148 => (if t148 = true then (if (l3.length : Int) > 50 then (some (([] : List Int), ([] : List Int), false, false, false, false, ([] : List Int), ([] : List Int), 0)) else (impl_MachNew.mk l0 a1 a2 l3)) else (some (([] : List Int), ([] : List Int), false, false, false, false, ([] : List Int), ([] : List Int), 0)))) else (some (([] : List Int), ([] : List Int), false, false, false, false, ([] : List Int), ([] : List Int), 0)))) else (some (([] : List Int), ([] : List Int), false, false, false, false, ([] : List Int), ([] : List Int), 0))))) else (some (([] : List Int), ([] : List Int), false, false, false, false, ([] : List Int), ([] : List Int), 0)))) = some (r1, r2, r3, r4, r5, r6, r7, r8, r9) := h
 clear h
 replace H := Option.bind_eq_some_iff.mp H
 obtain ⟨t145, A50, H⟩ := H
 try dsimp only at H
 have A5 := A_ A50
 clear A50
 by_cases c6 : t145 = true
 subst c6
 rw [if_pos rfl] at H
 by_cases c7 : (l0.length : Int) > (wrap64 (256 - (wrap64 (Int.tdiv a1 2))))
 rw [if_pos c7] at H
 have c7b0 := decide_eq_true c7
 clear c7
 simp only [Option.some.injEq, Prod.mk.injEq] at H
 obtain ⟨rfl, rfl, rfl, rfl, rfl, rfl, rfl, rfl, rfl⟩ := H
 rotate_left
 rw [if_neg c7] at H
 have c7b0 := decide_eq_false c7
 clear c7
 replace H := Option.bind_eq_some_iff.mp H
 obtain ⟨t146, A100, H⟩ := H
 try dsimp only at H
 have A10 := A_ A100
 clear A100
 by_cases c11 : t146 = true
 subst c11
 rw [if_pos rfl] at H
 replace H := Option.bind_eq_some_iff.mp H
 obtain ⟨t147, A120, H⟩ := H
 try dsimp only at H
 have A12 := A_ A120
 clear A120
 by_cases c13 : t147 = true
 subst c13
 rw [if_pos rfl] at H
 replace H := Option.bind_eq_some_iff.mp H
 obtain ⟨t148, A140, H⟩ := H
 try dsimp only at H
 have A14 := A_ A140
 clear A140
 by_cases c15 : t148 = true
 subst c15
 rw [if_pos rfl] at H
 by_cases c16 : (l3.length : Int) > 50
 rw [if_pos c16] at H
 have c16b0 := decide_eq_true c16
 have c16b1 : decide (50 < l3.length) = true := decide_eq_true (by omega)
 clear c16
 simp only [Option.some.injEq, Prod.mk.injEq] at H
 obtain ⟨rfl, rfl, rfl, rfl, rfl, rfl, rfl, rfl, rfl⟩ := H
 rotate_left
 rw [if_neg c16] at H
 have c16b0 := decide_eq_false c16
 have c16b1 : decide (50 < l3.length) = false := decide_eq_false (by omega)
 clear c16
 obtain ⟨q_, t_, hq0, hq1, hc_, rfl, rfl, rfl, rfl, rfl, rfl, rfl, rfl, rfl⟩ := impl_MachNew.mk_some H
 rotate_left
 replace c15 := Bool.eq_false_iff.mpr c15
 subst c15
 rw [if_neg (show ¬ (false = true) by decide)] at H
 simp only [Option.some.injEq, Prod.mk.injEq] at H
 obtain ⟨rfl, rfl, rfl, rfl, rfl, rfl, rfl, rfl, rfl⟩ := H
 rotate_left
 replace c13 := Bool.eq_false_iff.mpr c13
 subst c13
 rw [if_neg (show ¬ (false = true) by decide)] at H
 simp only [Option.some.injEq, Prod.mk.injEq] at H
 obtain ⟨rfl, rfl, rfl, rfl, rfl, rfl, rfl, rfl, rfl⟩ := H
 rotate_left
 replace c11 := Bool.eq_false_iff.mpr c11
 subst c11
 rw [if_neg (show ¬ (false = true) by decide)] at H
 simp only [Option.some.injEq, Prod.mk.injEq] at H
 obtain ⟨rfl, rfl, rfl, rfl, rfl, rfl, rfl, rfl, rfl⟩ := H
 rotate_left
 replace c6 := Bool.eq_false_iff.mpr c6
 subst c6
 rw [if_neg (show ¬ (false = true) by decide)] at H
 simp only [Option.some.injEq, Prod.mk.injEq] at H
 obtain ⟨rfl, rfl, rfl, rfl, rfl, rfl, rfl, rfl, rfl⟩ := H
 rotate_left
 all_goals go_enter Try.func29, Try.ntmps29
 all_goals go_wp2_with (first | ((with_reducible refine gate_dst (N := 8) rfl ?_); (try (refine gate_guard (by rfl) ?_; dsimp only)); refine box_event ?hg (N := 8) ?hd (cs := #[.slice none 0 0, .slice none 0 0, .bool false, .bool false, .bool false, .bool false, .slice none 0 0, .slice none 0 0, .int .i64 0]) (t := 28) ?hr ?_; (case hd => rfl); (case hg => rfl); (case hr => first | (go_simp; done) | (go_simp; rfl)); intro gb144 hg w8 hbox hb; have n0_ := A_ (below_step (bw_ HB.out) hb); have n1_ := A_ (hbox); have n2_ := A_ ((d8_ : w.heap.size ≤ gb144)); have n3_ := n2_; clear HB; have HB := n0_; have BK144 := n1_; have GW144 := n2_; have GE144 := n3_; have GI144 := GeI.mk GE144.out; clear n0_ n1_ n2_ n3_; clear hb hbox hg) | ((with_reducible refine gate_callee (f := 58) rfl ?_); refine gL_ (some 11) Try.func58 #[.int .i64 a1] ?_; (with_reducible refine (impl_isAddr.calls a1 false _ A5.out).mono ?_); rintro e w' ⟨rfl, ⟨nd, rfl⟩⟩; refine ⟨_, rfl, ?_⟩; (try (rw [drewN_self w8]; generalize hq_ : World.drewN w8 _ = w8; have n0_ := A_ (bq_ hq_ BK144.out); have n1_ := A_ (wq_ hq_ HB.out); clear BK144 HB hq_; have BK144 := n0_; have HB := n1_; clear n0_ n1_)); obtain ⟨y28_0, y28_1, y28_2, y28_3, y28_4, y28_5, y28_6, y28_7, y28_8, z28_0, z28_1, z28_2, z28_3, z28_4, z28_5, z28_6, z28_7, z28_8⟩ := cz9_ BK144.out) | ((with_reducible refine gate_callee (f := 58) rfl ?_); refine gL_ (some 11) Try.func58 #[.int .i64 a1] ?_; (with_reducible refine (impl_isAddr.calls a1 true _ A5.out).mono ?_); rintro e w' ⟨rfl, ⟨nd, rfl⟩⟩; refine ⟨_, rfl, ?_⟩; (try (rw [drewN_self w8]; generalize hq_ : World.drewN w8 _ = w8; have n0_ := A_ (bq_ hq_ BK144.out); have n1_ := A_ (wq_ hq_ HB.out); clear BK144 HB hq_; have BK144 := n0_; have HB := n1_; clear n0_ n1_)); obtain ⟨y9_0, y9_1, y9_2, y9_3, y9_4, y9_5, y9_6, y9_7, y9_8, z9_0, z9_1, z9_2, z9_3, z9_4, z9_5, z9_6, z9_7, z9_8⟩ := cz9_ BK144.out) | ((with_reducible refine gate_callee (f := 58) rfl ?_); refine gL_ (some 11) Try.func58 #[.int .i64 a1] ?_; (with_reducible refine (impl_isAddr.calls a1 true _ A5.out).mono ?_); rintro e w' ⟨rfl, ⟨nd, rfl⟩⟩; refine ⟨_, rfl, ?_⟩; (try (rw [drewN_self w8]; generalize hq_ : World.drewN w8 _ = w8; have n0_ := A_ (bq_ hq_ BK144.out); have n1_ := A_ (wq_ hq_ HB.out); clear BK144 HB hq_; have BK144 := n0_; have HB := n1_; clear n0_ n1_))) | (go_at_call 60; (with_reducible refine (impl_wordsOk.calls k _ _ l3 false _ ?side1 ?side2 A12.out).mono ?_); (case side1 => repeat (first | exact (Kd.C_below HR3.out HB.out) | (with_reducible refine Kd.C_alloc ?_ _) | (with_reducible refine Kd.C_drewN ?_ _) | (with_reducible refine Kd.C_drew ?_))); (case side2 => exact HC3.out); rintro e w' ⟨rfl, ⟨nd, rfl⟩⟩; (try (rw [drewN_self w8]; generalize hq_ : World.drewN w8 _ = w8; have n0_ := A_ (bq_ hq_ BK144.out); have n1_ := A_ (wq_ hq_ HB.out); clear BK144 HB hq_; have BK144 := n0_; have HB := n1_; clear n0_ n1_)); obtain ⟨y24_0, y24_1, y24_2, y24_3, y24_4, y24_5, y24_6, y24_7, y24_8, z24_0, z24_1, z24_2, z24_3, z24_4, z24_5, z24_6, z24_7, z24_8⟩ := cz9_ BK144.out) | (go_at_call 60; (with_reducible refine (impl_wordsOk.calls k _ _ l0 false _ ?side1 ?side2 A10.out).mono ?_); (case side1 => repeat (first | exact (Kd.C_below HR0.out HB.out) | (with_reducible refine Kd.C_alloc ?_ _) | (with_reducible refine Kd.C_drewN ?_ _) | (with_reducible refine Kd.C_drew ?_))); (case side2 => exact HC0.out); rintro e w' ⟨rfl, ⟨nd, rfl⟩⟩; (try (rw [drewN_self w8]; generalize hq_ : World.drewN w8 _ = w8; have n0_ := A_ (bq_ hq_ BK144.out); have n1_ := A_ (wq_ hq_ HB.out); clear BK144 HB hq_; have BK144 := n0_; have HB := n1_; clear n0_ n1_)); obtain ⟨y26_0, y26_1, y26_2, y26_3, y26_4, y26_5, y26_6, y26_7, y26_8, z26_0, z26_1, z26_2, z26_3, z26_4, z26_5, z26_6, z26_7, z26_8⟩ := cz9_ BK144.out) | (go_at_call 60; (with_reducible refine (impl_wordsOk.calls k _ _ l0 true _ ?side1 ?side2 A10.out).mono ?_); (case side1 => repeat (first | exact (Kd.C_below HR0.out HB.out) | (with_reducible refine Kd.C_alloc ?_ _) | (with_reducible refine Kd.C_drewN ?_ _) | (with_reducible refine Kd.C_drew ?_))); (case side2 => exact HC0.out); rintro e w' ⟨rfl, ⟨nd, rfl⟩⟩; (try (rw [drewN_self w8]; generalize hq_ : World.drewN w8 _ = w8; have n0_ := A_ (bq_ hq_ BK144.out); have n1_ := A_ (wq_ hq_ HB.out); clear BK144 HB hq_; have BK144 := n0_; have HB := n1_; clear n0_ n1_))) | (go_at_call 60; (with_reducible refine (impl_wordsOk.calls k _ _ l3 true _ ?side1 ?side2 A12.out).mono ?_); (case side1 => repeat (first | exact (Kd.C_below HR3.out HB.out) | (with_reducible refine Kd.C_alloc ?_ _) | (with_reducible refine Kd.C_drewN ?_ _) | (with_reducible refine Kd.C_drew ?_))); (case side2 => exact HC3.out); rintro e w' ⟨rfl, ⟨nd, rfl⟩⟩; (try (rw [drewN_self w8]; generalize hq_ : World.drewN w8 _ = w8; have n0_ := A_ (bq_ hq_ BK144.out); have n1_ := A_ (wq_ hq_ HB.out); clear BK144 HB hq_; have BK144 := n0_; have HB := n1_; clear n0_ n1_))) | (go_at_call 63; (with_reducible refine (impl_isWord.calls a2 false _ A14.out).mono ?_); rintro e w' ⟨rfl, ⟨nd, rfl⟩⟩; (try (rw [drewN_self w8]; generalize hq_ : World.drewN w8 _ = w8; have n0_ := A_ (bq_ hq_ BK144.out); have n1_ := A_ (wq_ hq_ HB.out); clear BK144 HB hq_; have BK144 := n0_; have HB := n1_; clear n0_ n1_)); obtain ⟨y22_0, y22_1, y22_2, y22_3, y22_4, y22_5, y22_6, y22_7, y22_8, z22_0, z22_1, z22_2, z22_3, z22_4, z22_5, z22_6, z22_7, z22_8⟩ := cz9_ BK144.out) | (go_at_call 63; (with_reducible refine (impl_isWord.calls a2 true _ A14.out).mono ?_); rintro e w' ⟨rfl, ⟨nd, rfl⟩⟩; (try (rw [drewN_self w8]; generalize hq_ : World.drewN w8 _ = w8; have n0_ := A_ (bq_ hq_ BK144.out); have n1_ := A_ (wq_ hq_ HB.out); clear BK144 HB hq_; have BK144 := n0_; have HB := n1_; clear n0_ n1_)); obtain ⟨y18_0, y18_1, y18_2, y18_3, y18_4, y18_5, y18_6, y18_7, y18_8, z18_0, z18_1, z18_2, z18_3, z18_4, z18_5, z18_6, z18_7, z18_8⟩ := cz9_ BK144.out))
 ·refine bodyPost_ret (results_cell_row rfl _ _ gb144 28 #[.slice none 0 0, .slice none 0 0, .bool false, .bool false, .bool false, .bool false, .slice none 0 0, .slice none 0 0, .int .i64 0] (0, 0) _ rfl ?hb_ Try.underlying28 rfl (by kernel_rfl)) rfl ?_
  (case hb_ => exact bk_ (bp9_ (bk_ BK144.out)))
  exact ⟨_, _, _, _, by first | rfl | (simp [errW_none, errW_some] <;> rfl) | (simp [*, errW_none, errW_some] <;> rfl), by first | exact Kd.R_nil _ _ _ _ _ | exact Kd.N_nil _ _ _ _ _ | exact Kd.V_nil _ _ _ _ _ | exact Kd.Q_nil _ _ _ _ _ | exact Kd.S_nil _ _ _ _ _, by first | exact Kd.R_nil _ _ _ _ _ | exact Kd.N_nil _ _ _ _ _ | exact Kd.V_nil _ _ _ _ _ | exact Kd.Q_nil _ _ _ _ _ | exact Kd.S_nil _ _ _ _ _, by first | exact Kd.R_nil _ _ _ _ _ | exact Kd.N_nil _ _ _ _ _ | exact Kd.V_nil _ _ _ _ _ | exact Kd.Q_nil _ _ _ _ _ | exact Kd.S_nil _ _ _ _ _, by first | exact Kd.R_nil _ _ _ _ _ | exact Kd.N_nil _ _ _ _ _ | exact Kd.V_nil _ _ _ _ _ | exact Kd.Q_nil _ _ _ _ _ | exact Kd.S_nil _ _ _ _ _, bw_ HB.out⟩
 ·refine bodyPost_ret (results_cell_row rfl _ _ gb144 28 #[.slice none 0 0, .slice none 0 0, .bool false, .bool false, .bool false, .bool false, .slice none 0 0, .slice none 0 0, .int .i64 0] (0, 0) _ rfl ?hb_ Try.underlying28 rfl (by kernel_rfl)) rfl ?_
  (case hb_ => exact bk_ (bp9_ (bk_ BK144.out)))
  exact ⟨_, _, _, _, by first | rfl | (simp [errW_none, errW_some] <;> rfl) | (simp [*, errW_none, errW_some] <;> rfl), by first | exact Kd.R_nil _ _ _ _ _ | exact Kd.N_nil _ _ _ _ _ | exact Kd.V_nil _ _ _ _ _ | exact Kd.Q_nil _ _ _ _ _ | exact Kd.S_nil _ _ _ _ _, by first | exact Kd.R_nil _ _ _ _ _ | exact Kd.N_nil _ _ _ _ _ | exact Kd.V_nil _ _ _ _ _ | exact Kd.Q_nil _ _ _ _ _ | exact Kd.S_nil _ _ _ _ _, by first | exact Kd.R_nil _ _ _ _ _ | exact Kd.N_nil _ _ _ _ _ | exact Kd.V_nil _ _ _ _ _ | exact Kd.Q_nil _ _ _ _ _ | exact Kd.S_nil _ _ _ _ _, by first | exact Kd.R_nil _ _ _ _ _ | exact Kd.N_nil _ _ _ _ _ | exact Kd.V_nil _ _ _ _ _ | exact Kd.Q_nil _ _ _ _ _ | exact Kd.S_nil _ _ _ _ _, bw_ HB.out⟩
 ·have n0_ := A_ (blk_drew BK144.out)
  have n1_ := A_ (below_drew1 HB.out)
  clear BK144 HB H
  have BK144 := n0_
  have HB := n1_
  clear n0_ n1_
  refine start_ (n := 7) (S := fun _ => True) (ds := []) #[false, false, false, false, false, false, false] (by kernel_rfl) rfl rfl trivial (fun _ => ?_)
  generalize World.drew _ = wd at BK144 HB ⊢
  refine pure_ (i := 2) (N := some 44) (v := ?_) (a' := ?_) (bm_ 7 4) rfl rfl (by kernel_rfl) (fun _ _ _ h => h) (Or.inl ⟨by rfl, ?_⟩) ?_ ?_
  rotate_left
  ·intro w'
   go_simp
   with_reducible rfl
  rotate_left
  ·simp only [Act.put, List.setIfInBounds_toArray, List.set_cons_zero, List.set_cons_succ]
   rfl
  refine open2_ (n := 7) (σ := Value × Value × Value × Value × Value × Nat) (fun s => [(42, s.1), (43, s.2.1), (45, s.2.2.1), (46, s.2.2.2.1), (9, s.2.2.2.2.1)])
   (fun l s w' => MnI r7 w (l.getD 0 false) (l.getD 1 false) (l.getD 3 false) (l.getD 4 false) (l.getD 5 false) (l.getD 6 false) s.1 s.2.1 s.2.2.1 s.2.2.2.1 s.2.2.2.2.1 s.2.2.2.2.2 w' ∧ (l.getD 2 false = true ∧ w'.heap[gb144]? = some (.cells #[.slice none 0 0, .slice none 0 0, .bool false, .bool false, .bool false, .bool false, .slice none 0 0, .slice none 0 0, .int .i64 0] 28 (0, 0)) ∧ (l.getD 5 false = true → gb144 ≠ s.2.2.2.2.2)))
   rfl (by kernel_rfl) ?step ?fin (undef, undef, undef, undef, undef, 0) ?act rfl (by decide)
   ⟨⟨HB.out, .un, .un, .un, .un, .un, .un, (fun h => by cases h), (fun h => by cases h), (fun h => by cases h)⟩, rfl, BK144.out, (fun h => by cases h)⟩
  case act => simp only [putAll, Act.put, List.setIfInBounds_toArray, List.set_cons_zero, List.set_cons_succ]
  case step =>
   rintro i oi l ⟨x0, x1, x3, vb, vp, g⟩ w1 hi ho hl hun hd ⟨hI, h2, hG, hN⟩ K hK
   dsimp only at hI hN
   have hf := gun hl hi hun
   have e : ∀ j, (l.setIfInBounds i true).getD j false = if i = j then true else l.getD j false := fun j => gst hl hi
   obtain rfl | rfl | rfl | rfl | rfl | rfl | rfl : i = 0 ∨ i = 1 ∨ i = 2 ∨ i = 3 ∨ i = 4 ∨ i = 5 ∨ i = 6 := by omega
   all_goals (simp only [List.getElem?_toArray, List.getElem?_cons_zero, List.getElem?_cons_succ, Option.some.injEq] at ho; subst ho)
   ·rw [hf] at hI
    refine lit_ (a1 := ?_) ?_ ?_
    rotate_left
    ·simp only [putAll, Act.put, List.setIfInBounds_toArray, List.set_cons_zero, List.set_cons_succ]
     rfl
    refine Kd.R_make_step (Kd.int .i64) _ 3 (by rfl) (N := 42) rfl 22 _ _ rfl 256 rfl rfl Try.underlying22 (.int .i64 0) 8 info3 rfl (by decide) (by omega) 0 (ok := fun _ => True) (okp := fun _ => True) rfl (fun _ hk => hk) trivial (by omega) (by omega) (Below.refl _ _) (Nat.le_refl _) ?_
    intro v w2 ho hb _ _
    have hq := hK (v, x1, x3, vb, vp, g) w2 ⟨by rw [e, e, e, e, e, e]; exact hI.s0 ho hb, by rw [e]; exact h2, (hb.block _ (blk_lt hG)).trans hG, by rw [e]; exact hN⟩
    simp only [putAll, Act.put, List.setIfInBounds_toArray, List.set_cons_zero, List.set_cons_succ] at hq ⊢
    exact hq
   ·rw [hf] at hI
    refine lit_ (a1 := ?_) ?_ ?_
    rotate_left
    ·simp only [putAll, Act.put, List.setIfInBounds_toArray, List.set_cons_zero, List.set_cons_succ]
     rfl
    refine Kd.R_make_step (Kd.int .i64) _ 3 (by rfl) (N := 43) rfl 22 _ _ rfl 8 rfl rfl Try.underlying22 (.int .i64 0) 8 info3 rfl (by decide) (by omega) 0 (ok := fun _ => True) (okp := fun _ => True) rfl (fun _ hk => hk) trivial (by omega) (by omega) (Below.refl _ _) (Nat.le_refl _) ?_
    intro v w2 ho hb _ _
    have hq := hK (x0, v, x3, vb, vp, g) w2 ⟨by rw [e, e, e, e, e, e]; exact hI.s1 ho hb, by rw [e]; exact h2, (hb.block _ (blk_lt hG)).trans hG, by rw [e]; exact hN⟩
    simp only [putAll, Act.put, List.setIfInBounds_toArray, List.set_cons_zero, List.set_cons_succ] at hq ⊢
    exact hq
   ·rw [h2] at hf
    cases hf
   ·rw [hf] at hI
    refine lit_ (a1 := ?_) ?_ ?_
    rotate_left
    ·simp only [putAll, Act.put, List.setIfInBounds_toArray, List.set_cons_zero, List.set_cons_succ]
     rfl
    refine goes_ Try.func64 (by kernel_rfl) rfl #[.slice A3 l3.length c3] (by rfl) rfl rfl (by (try simp only [List.map_toArray, List.map_cons, List.map_nil]); first | done | rfl) ?_
    refine (impl_copyInts.calls A3 c3 l3 r7 _ (Kd.C_below HR3.out hI.bel) HC3.out hc_.out).mono ?_
    rintro e_ w2 ⟨v, rfl, ho, hb⟩
    refine ⟨_, rfl, ?_⟩
    have hq := hK (x0, x1, v, vb, vp, g) w2 ⟨by rw [e, e, e, e, e, e]; exact hI.s3 ho hb, by rw [e]; exact h2, (hb.block _ (blk_lt hG)).trans hG, by rw [e]; exact hN⟩
    simp only [putAll, Act.put, List.setIfInBounds_toArray, List.set_cons_zero, List.set_cons_succ] at hq ⊢
    exact hq
   ·rw [hf] at hI
    have hd0 := hd { on := 0, ground := .data } (by simp) rfl
    have hd1 := hd { on := 1, ground := .data } (by simp) rfl
    have hd3 := hd { on := 3, ground := .data } (by simp) rfl
    obtain ⟨ga, ca, rfl, _, _⟩ := row_ptr (hI.r0 hd0) (List.length_replicate (n := 256)) (by decide)
    obtain ⟨gb, cb, rfl, _, _⟩ := row_ptr (hI.r1 hd1) (List.length_replicate (n := 8)) (by decide)
    obtain ⟨Ac, cc, rfl⟩ := Kd.R_slice (hI.r3 hd3)
    refine lit_ (a1 := ?_) ?_ ?_
    rotate_left
    ·simp only [putAll, Act.put, List.setIfInBounds_toArray, List.set_cons_zero, List.set_cons_succ]
     rfl
    refine value_ (N := some 46) (by rfl) rfl (v := ?_) (w1 := w1) ?_ ?_
    rotate_left
    ·go_simp
     with_reducible rfl
    have hq := hK (.slice (some ⟨ga, 0, none⟩) 256 ca, .slice (some ⟨gb, 0, none⟩) 8 cb, .slice Ac r7.length cc, .agg #[.slice (some ⟨ga, 0, none⟩) 256 ca, .slice (some ⟨gb, 0, none⟩) 8 cb, .bool false, .bool false, .bool false, .bool false, .slice Ac r7.length cc, .slice none 0 0, .int .i64 0], vp, g) w1 ⟨by rw [e, e, e, e, e, e]; exact hI.sb hd0 hd1 hd3, by rw [e]; exact h2, hG, by rw [e]; exact hN⟩
    simp only [putAll, Act.put, List.setIfInBounds_toArray, List.set_cons_zero, List.set_cons_succ] at hq ⊢
    exact hq
   ·rw [hf] at hI
    refine lit_ (a1 := ?_) ?_ ?_
    rotate_left
    ·simp only [putAll, Act.put, List.setIfInBounds_toArray, List.set_cons_zero, List.set_cons_succ]
     rfl
    refine box_step ?hg (N := 9) ?hd (cs := #[.slice none 0 0, .slice none 0 0, .bool false, .bool false, .bool false, .bool false, .slice none 0 0, .slice none 0 0, .int .i64 0]) (t := 28) ?hr ?_
    case hd => rfl
    case hg => rfl
    case hr => first | (go_simp; done) | (go_simp; rfl)
    intro g' hg w2 hbox hb
    have hq := hK (x0, x1, x3, vb, _, g') w2 ⟨by rw [e, e, e, e, e, e]; exact hI.sa hg hbox hb, by rw [e]; exact h2, (hb.block _ (blk_lt hG)).trans hG, fun _ e_ => absurd (blk_lt hG) (by dsimp only at e_; omega)⟩
    simp only [putAll, Act.put, List.setIfInBounds_toArray, List.set_cons_zero, List.set_cons_succ] at hq ⊢
    exact hq
   ·rw [hf] at hI
    refine Aside0.out ?_
    have hd5 := hd { on := 5, ground := .data } (by simp) rfl
    have hd4 := hd { on := 4, ground := .data } (by simp) rfl
    obtain ⟨hd0, hd1, hd3, rfl⟩ := hI.hb hd4
    obtain ⟨ga, ca, rfl, _, _⟩ := row_ptr (hI.r0 hd0) (List.length_replicate (n := 256)) (by decide)
    obtain ⟨gb, cb, rfl, _, _⟩ := row_ptr (hI.r1 hd1) (List.length_replicate (n := 8)) (by decide)
    obtain ⟨Ac, cc, rfl⟩ := Kd.R_slice (hI.r3 hd3)
    obtain ⟨rfl, _, hx, _⟩ := hI.hp hd5
    replace hx : w1.heap[g]? = some (.cells #[.slice none 0 0, .slice none 0 0, .bool false, .bool false, .bool false, .bool false, .slice none 0 0, .slice none 0 0, .int .i64 0] 28 (0, 0)) := hx
    refine Aside0.mk ?_
    refine lit_ (a1 := ?_) ?_ ?_
    rotate_left
    ·simp only [putAll, Act.put, List.setIfInBounds_toArray, List.set_cons_zero, List.set_cons_succ]
     rfl
    refine store_box_step (by rfl) rfl 28 (.tmp 9) (.tmp 46) rfl (g := g) (cs := #[.slice (some ⟨ga, 0, none⟩) 256 ca, .slice (some ⟨gb, 0, none⟩) 8 cb, .bool false, .bool false, .bool false, .bool false, .slice Ac r7.length cc, .slice none 0 0, .int .i64 0]) (by rfl) (by rfl) hx (by kernel_rfl) rfl (by repeat (first | exact fun _ h => absurd h List.not_mem_nil | refine List.forall_mem_cons.2 ⟨rfl, ?_⟩)) ?_
    intro w2 hx2 hg2
    have hq := hK (.slice (some ⟨ga, 0, none⟩) 256 ca, .slice (some ⟨gb, 0, none⟩) 8 cb, .slice Ac r7.length cc, .agg #[.slice (some ⟨ga, 0, none⟩) 256 ca, .slice (some ⟨gb, 0, none⟩) 8 cb, .bool false, .bool false, .bool false, .bool false, .slice Ac r7.length cc, .slice none 0 0, .int .i64 0], .pointer (some ⟨g, 0, none⟩), g) w2 ⟨by rw [e, e, e, e, e, e]; exact hI.ss hx2 hg2 hd4 hd5, by rw [e]; exact h2, (hg2.block _ (blk_lt hG) (fun e_ => hN hd5 (by injection e_))).trans hG, by rw [e]; exact hN⟩
    simp only [putAll, Act.put, List.setIfInBounds_toArray, List.set_cons_zero, List.set_cons_succ] at hq ⊢
    exact hq
  case fin =>
   rintro ⟨x0, x1, x3, vb, vp, g⟩ w1 ⟨hI, -, hG, hN⟩
   refine Aside0.out ?_
   replace hI : MnI r7 w true true true true true true x0 x1 x3 vb vp g w1 := hI
   replace hN : gb144 ≠ g := hN rfl
   obtain ⟨_, _, _, rfl⟩ := hI.hb rfl
   obtain ⟨gm, cm, rfl, hgm, _⟩ := row_ptr (hI.r0 rfl) (List.length_replicate (n := 256)) (by decide)
   obtain ⟨gr, cr, rfl, hgr, _⟩ := row_ptr (hI.r1 rfl) (List.length_replicate (n := 8)) (by decide)
   obtain ⟨Ac, cc, rfl⟩ := Kd.R_slice (hI.r3 rfl)
   obtain ⟨rfl, hge, hx, hn0, hn1, hn3⟩ := hI.hp rfl
   replace hx : w1.heap[g]? = some (.cells #[.slice (some ⟨gm, 0, none⟩) 256 cm, .slice (some ⟨gr, 0, none⟩) 8 cr, .bool false, .bool false, .bool false, .bool false, .slice Ac r7.length cc, .slice none 0 0, .int .i64 0] 28 (0, 0)) := hx
   have M0 := A_ (hI.r0 rfl)
   have M1 := A_ (hI.r1 rfl)
   have M3 := A_ (hI.r3 rfl)
   have D01 := A_ (fun e => hI.d01 rfl rfl gm rfl (by rw [e]; rfl) : gm ≠ gr)
   have D03 := A_ (fun e => hI.d03 rfl rfl gm rfl e : (Value.slice Ac r7.length cc).ownBlock ≠ some gm)
   have D13 := A_ (fun e => hI.d13 rfl rfl gr rfl e : (Value.slice Ac r7.length cc).ownBlock ≠ some gr)
   have N0 := A_ (fun e => hn0 rfl (by rw [e]; rfl) : gm ≠ g)
   have N1 := A_ (fun e => hn1 rfl (by rw [e]; rfl) : gr ≠ g)
   have N3 := A_ (hn3 rfl)
   have E0 := A_ hgm
   have E1 := A_ hgr
   have Eg := A_ hge
   have NB := A_ hN
   have NG0 := A_ (fun e => by have h := ((Kd.R_bound M0.out).1 gm rfl).2.2.2; obtain ⟨q, hq, cs, hc⟩ := h; rw [← e, hG] at hc; injection hc with hc; injection hc with _ h2 _; rw [← h2] at hq; exact absurd hq (by decide) : gb144 ≠ gm)
   have NG3 := A_ (fun e => by have h := ((Kd.R_bound M3.out).1 gb144 e).2.2.2; obtain ⟨q, hq, cs, hc⟩ := h; rw [hG] at hc; injection hc with hc; injection hc with _ h2 _; rw [← h2] at hq; exact absurd hq (by decide) : (Value.slice Ac r7.length cc).ownBlock ≠ some gb144)
   have NG1 := A_ (fun e => by have h := ((Kd.R_bound M1.out).1 gr rfl).2.2.2; obtain ⟨q, hq, cs, hc⟩ := h; rw [← e, hG] at hc; injection hc with hc; injection hc with _ h2 _; rw [← h2] at hq; exact absurd hq (by decide) : gb144 ≠ gr)
   have HB := A_ hI.bel
   clear hI hgm hgr hge hn0 hn1 hn3 hN
   have BX := A_ hx
   have BG := A_ hG
   clear hx hG
   refine Aside0.mk ?_
   simp only [putAll, Act.put, List.setIfInBounds_toArray, List.set_cons_zero, List.set_cons_succ]
   have y_0 : w1.cell? ⟨g, 0, none⟩ = some (.slice (some ⟨gm, 0, none⟩) 256 cm) := (blk_cell BX.out 0).trans rfl
   have z_0 := blk_frozen BX.out 0
   have y_1 : w1.cell? ⟨g, 1, none⟩ = some (.slice (some ⟨gr, 0, none⟩) 8 cr) := (blk_cell BX.out 1).trans rfl
   have z_1 := blk_frozen BX.out 1
   have y_2 : w1.cell? ⟨g, 2, none⟩ = some (.bool false) := (blk_cell BX.out 2).trans rfl
   have z_2 := blk_frozen BX.out 2
   have y_3 : w1.cell? ⟨g, 3, none⟩ = some (.bool false) := (blk_cell BX.out 3).trans rfl
   have z_3 := blk_frozen BX.out 3
   have y_4 : w1.cell? ⟨g, 4, none⟩ = some (.bool false) := (blk_cell BX.out 4).trans rfl
   have z_4 := blk_frozen BX.out 4
   have y_5 : w1.cell? ⟨g, 5, none⟩ = some (.bool false) := (blk_cell BX.out 5).trans rfl
   have z_5 := blk_frozen BX.out 5
   have y_6 : w1.cell? ⟨g, 6, none⟩ = some (.slice Ac r7.length cc) := (blk_cell BX.out 6).trans rfl
   have z_6 := blk_frozen BX.out 6
   have y_7 : w1.cell? ⟨g, 7, none⟩ = some (.slice none 0 0) := (blk_cell BX.out 7).trans rfl
   have z_7 := blk_frozen BX.out 7
   have y_8 : w1.cell? ⟨g, 8, none⟩ = some (.int .i64 0) := (blk_cell BX.out 8).trans rfl
   have z_8 := blk_frozen BX.out 8
   have hq := hq0.out
   obtain ⟨hq3, hq4⟩ := hq1.out
   have hq5 : (q_ : Int) ≤ 256 := by omega
   have hq6 : q_ ≤ 256 := by omega
   have S1 := A_ (fun e => N1.out (by injection e) : (Value.slice (some ⟨gr, 0, none⟩) 8 cr).ownBlock ≠ some g)
   have S0 := A_ (fun e => D01.out (by injection e with e; exact e.symm) : (Value.slice (some ⟨gr, 0, none⟩) 8 cr).ownBlock ≠ some gm)
   go_wp2_with (first | ((with_reducible refine gate_dst (N := 53) rfl ?_); refine copy_at w.heap.size rfl (.tmp 51) (.tmp 52) 22 22 3 rfl Try.underlying22 (by kernel_rfl) (q := q_) (List.replicate 256 0) l0 A0 (fun _ => True) rfl rfl (by omega) M0.out (Kd.C_below HR0.out HB.out) (by omega) ?_; intro w2 hR hg; have n0_ := A_ hR; have n1_ := A_ (R_grown_ M1.out hg S0.out); have n3_ := A_ (R_grown_ M3.out hg D03.out); have n4_ := A_ (blk_grown_ BX.out hg (Ne.symm N0.out)); have n5_ := A_ (blk_grown_ BG.out hg NG0.out); have n6_ := A_ (bel_grown_ HB.out hg E0.out); clear M0 M1 M3 BX BG HB hR hg; have M0 := n0_; have M1 := n1_; have M3 := n3_; have BX := n4_; have BG := n5_; have HB := n6_; clear n0_ n1_ n3_ n4_ n5_ n6_))
   have n0_ := A_ (Kd.R_drew M0.out)
   have n1_ := A_ (Kd.R_drew M1.out)
   have n3_ := A_ (Kd.R_drew M3.out)
   have n4_ := A_ (blk_drew BX.out)
   have n5_ := A_ (blk_drew BG.out)
   have n6_ := A_ (below_drew1 HB.out)
   clear M0 M1 M3 BX BG HB
   have M0 := n0_
   have M1 := n1_
   have M3 := n3_
   have BX := n4_
   have BG := n5_
   have HB := n6_
   clear n0_ n1_ n3_ n4_ n5_ n6_
   refine start_ (n := 9) (S := fun w' => w'.heap[g]? = some (.cells #[.slice (some ⟨gm, 0, none⟩) 256 cm, .slice (some ⟨gr, 0, none⟩) 8 cr, .bool false, .bool false, .bool false, .bool false, .slice Ac r7.length cc, .slice none 0 0, .int .i64 0] 28 (0, 0))) (ds := []) #[false, false, false, false, false, false, false, false, false] (by kernel_rfl) rfl rfl BX.out (fun hHeld => ?_)
   generalize World.drew _ = w3 at M0 M1 M3 BX BG HB hHeld ⊢
   have T0 := A_ (fun e => D01.out (by injection e) : (Value.slice (some ⟨gm, 0, none⟩) 256 cm).ownBlock ≠ some gr)
   refine pure_ (i := 0) (N := some 54) (v := ?_) (a' := ?_) (bm_ 9 1) rfl rfl (by kernel_rfl) (fun _ _ _ h => h) (Or.inl ⟨by rfl, ?_⟩) ?_ ?_
   rotate_left
   ·intro w'
    go_simp
    with_reducible rfl
   rotate_left
   ·simp only [Act.put, List.setIfInBounds_toArray, List.set_cons_zero, List.set_cons_succ]
    rfl
   refine pure_ (i := 2) (N := some 56) (v := ?_) (a' := ?_) (bm_ 9 5) rfl rfl (by kernel_rfl) (fun _ _ _ h => h) (Or.inl ⟨by rfl, ?_⟩) ?_ ?_
   rotate_left
   ·intro w'
    go_simp
    with_reducible rfl
   rotate_left
   ·simp only [Act.put, List.setIfInBounds_toArray, List.set_cons_zero, List.set_cons_succ]
    rfl
   refine pure_ (i := 4) (N := some 58) (v := ?_) (a' := ?_) (bm_ 9 21) rfl rfl (by kernel_rfl) (fun _ _ _ h => h) (Or.inl ⟨by rfl, ?_⟩) ?_ ?_
   rotate_left
   ·intro w'
    go_simp
    with_reducible rfl
   rotate_left
   ·simp only [Act.put, List.setIfInBounds_toArray, List.set_cons_zero, List.set_cons_succ]
    rfl
   refine take_ (i := 1) (N := some 55) (v := .slice (some ⟨gr, 0, none⟩) 8 cr) (a' := ?_) (bm_ 9 23) rfl rfl (by kernel_rfl) (fun _ _ _ h => h) (Or.inl ⟨by rfl, ?_⟩) hHeld ?_ ?_
   ·rintro w' s0
    have y_ := (blk_cell s0 1).trans rfl
    have z_ := blk_frozen s0 1
    go_simp
   rotate_left
   ·simp only [Act.put, List.setIfInBounds_toArray, List.set_cons_zero, List.set_cons_succ]
    rfl
   refine take_ (i := 3) (N := some 57) (v := .slice (some ⟨gr, 0, none⟩) 8 cr) (a' := ?_) (bm_ 9 31) rfl rfl (by kernel_rfl) (fun _ _ _ h => h) (Or.inl ⟨by rfl, ?_⟩) hHeld ?_ ?_
   ·rintro w' s0
    have y_ := (blk_cell s0 1).trans rfl
    have z_ := blk_frozen s0 1
    go_simp
   rotate_left
   ·simp only [Act.put, List.setIfInBounds_toArray, List.set_cons_zero, List.set_cons_succ]
    rfl
   refine pure_ (i := 5) (N := some 59) (v := ?_) (a' := ?_) (bm_ 9 63) rfl rfl (by kernel_rfl) (fun _ _ _ h => h) (Or.inl ⟨by rfl, ?_⟩) ?_ ?_
   rotate_left
   ·intro w'
    go_simp
    with_reducible rfl
   rotate_left
   ·simp only [Act.put, List.setIfInBounds_toArray, List.set_cons_zero, List.set_cons_succ]
    rfl
   refine one_ (i := 6) (N := none) (bm_ 9 127) rfl rfl (by kernel_rfl) (by decide) (fun K hK => ?_)
   refine store_row_step (by rfl) rfl 3 (.tmp 59) (.const (.int .i64 512)) rfl (j := 6) (u := 512) (by rfl) (by rfl) (by kernel_rfl) M1.out (by decide) ?_
   intro w4 hR hg
   have n0_ := A_ (R_grown_ M0.out hg T0.out)
   have n3_ := A_ (R_grown_ M3.out hg D13.out)
   have n4_ := A_ (blk_grown_ BX.out hg (Ne.symm N1.out))
   have n5_ := A_ (blk_grown_ BG.out hg NG1.out)
   have n6_ := A_ (bel_grown_ HB.out hg E1.out)
   clear M0 M1 M3 BX BG HB hg
   have M0 := n0_
   have M1 := A_ hR
   have M3 := n3_
   have BX := n4_
   have BG := n5_
   have HB := n6_
   clear n0_ n3_ n4_ n5_ n6_ hR
   refine hK.out _ _ BX.out (fun hHeld => ?_)
   clear hK K
   refine pure_ (i := 7) (N := some 60) (v := ?_) (a' := ?_) (bm_ 9 255) rfl rfl (by kernel_rfl) (fun _ _ _ h => h) (Or.inl ⟨by rfl, ?_⟩) ?_ ?_
   rotate_left
   ·intro w'
    go_simp
    with_reducible rfl
   rotate_left
   ·simp only [Act.put, List.setIfInBounds_toArray, List.set_cons_zero, List.set_cons_succ]
    rfl
   refine one_ (i := 8) (N := none) (bm_ 9 511) rfl rfl (by kernel_rfl) (by decide) (fun K hK => ?_)
   refine store_row_step (by rfl) rfl 3 (.tmp 60) (.tmp 58) rfl (j := 7) (u := a2) (by rfl) (by rfl) (by kernel_rfl) M1.out (by decide) ?_
   intro w4 hR hg
   have n0_ := A_ (R_grown_ M0.out hg T0.out)
   have n3_ := A_ (R_grown_ M3.out hg D13.out)
   have n4_ := A_ (blk_grown_ BX.out hg (Ne.symm N1.out))
   have n5_ := A_ (blk_grown_ BG.out hg NG1.out)
   have n6_ := A_ (bel_grown_ HB.out hg E1.out)
   clear M0 M1 M3 BX BG HB hg
   have M0 := n0_
   have M1 := A_ hR
   have M3 := n3_
   have BX := n4_
   have BG := n5_
   have HB := n6_
   clear n0_ n3_ n4_ n5_ n6_ hR
   refine hK.out _ _ BX.out (fun hHeld => ?_)
   clear hK K
   refine done_ (by kernel_rfl) ?_
   go_wp2_with (first | ((with_reducible refine gate_ (.load 28 (.tmp 9)) rfl ?_); refine wpList_load_row rfl 28 (.tmp 9) rfl g rfl 28 _ _ _ BX.out Try.underlying28 rfl (by kernel_rfl) ?_) | ((with_reducible refine gate_ (.store 28 (.tmp 8) (.tmp 61)) rfl ?_); refine store_box rfl rfl 28 (.tmp 8) (.tmp 61) rfl (g := gb144) (cs := #[.slice (some ⟨gm, 0, none⟩) 256 cm, .slice (some ⟨gr, 0, none⟩) 8 cr, .bool false, .bool false, .bool false, .bool false, .slice Ac r7.length cc, .slice none 0 0, .int .i64 0]) rfl rfl BG.out (by kernel_rfl) rfl (by repeat (first | exact fun _ h => absurd h List.not_mem_nil | refine List.forall_mem_cons.2 ⟨rfl, ?_⟩)) ?_; intro w5 hx5 hg; have n0_ := A_ (R_grown_ M0.out hg (fun e => NG0.out (by injection e with e; exact e.symm))); have n1_ := A_ (R_grown_ M1.out hg (fun e => NG1.out (by injection e with e; exact e.symm))); have n3_ := A_ (R_grown_ M3.out hg NG3.out); have n6_ := A_ (bel_grown_ HB.out hg GE144.out); clear M0 M1 M3 BX BG HB hg; have M0 := n0_; have M1 := n1_; have M3 := n3_; have BG := A_ hx5; have HB := n6_; clear n0_ n1_ n3_ n6_ hx5))
   refine bodyPost_ret (results_cell_row rfl _ _ gb144 28 #[.slice (some ⟨gm, 0, none⟩) 256 cm, .slice (some ⟨gr, 0, none⟩) 8 cr, .bool false, .bool false, .bool false, .bool false, .slice Ac r7.length cc, .slice none 0 0, .int .i64 0] (0, 0) _ rfl BG.out Try.underlying28 rfl (by kernel_rfl)) rfl ?_
   have own0 : ∀ k, (Value.slice (some ⟨gm, 0, none⟩) 256 cm).ownBlock = some k → k = gm := fun k h => by injection h with h; exact h.symm
   have own1 : ∀ k, (Value.slice (some ⟨gr, 0, none⟩) 8 cr).ownBlock = some k → k = gr := fun k h => by injection h with h; exact h.symm
   have no7 : ∀ k, some k ≠ (Value.slice none 0 0).ownBlock := fun k h => by cases h
   exact ⟨_, _, _, _, rfl, ⟨fun k hk => by obtain rfl := own0 k hk; exact ⟨fun e => S0.out e.symm, fun e => D03.out e.symm, no7 _⟩, M0.out.2⟩,
    ⟨fun k hk => by obtain rfl := own1 k hk; exact ⟨fun e => T0.out e.symm, fun e => D13.out e.symm, no7 _⟩, M1.out.2⟩,
    ⟨fun k hk => ⟨fun e => D03.out (hk.trans e), fun e => D13.out (hk.trans e), no7 _⟩, M3.out.2⟩,
    Kd.R_nil _ _ _ _ _, HB.out⟩
 ·refine bodyPost_ret (results_cell_row rfl _ _ gb144 28 #[.slice none 0 0, .slice none 0 0, .bool false, .bool false, .bool false, .bool false, .slice none 0 0, .slice none 0 0, .int .i64 0] (0, 0) _ rfl ?hb_ Try.underlying28 rfl (by kernel_rfl)) rfl ?_
  (case hb_ => exact bk_ (bp9_ (bk_ BK144.out)))
  exact ⟨_, _, _, _, by first | rfl | (simp [errW_none, errW_some] <;> rfl) | (simp [*, errW_none, errW_some] <;> rfl), by first | exact Kd.R_nil _ _ _ _ _ | exact Kd.N_nil _ _ _ _ _ | exact Kd.V_nil _ _ _ _ _ | exact Kd.Q_nil _ _ _ _ _ | exact Kd.S_nil _ _ _ _ _, by first | exact Kd.R_nil _ _ _ _ _ | exact Kd.N_nil _ _ _ _ _ | exact Kd.V_nil _ _ _ _ _ | exact Kd.Q_nil _ _ _ _ _ | exact Kd.S_nil _ _ _ _ _, by first | exact Kd.R_nil _ _ _ _ _ | exact Kd.N_nil _ _ _ _ _ | exact Kd.V_nil _ _ _ _ _ | exact Kd.Q_nil _ _ _ _ _ | exact Kd.S_nil _ _ _ _ _, by first | exact Kd.R_nil _ _ _ _ _ | exact Kd.N_nil _ _ _ _ _ | exact Kd.V_nil _ _ _ _ _ | exact Kd.Q_nil _ _ _ _ _ | exact Kd.S_nil _ _ _ _ _, bw_ HB.out⟩
 ·refine bodyPost_ret (results_cell_row rfl _ _ gb144 28 #[.slice none 0 0, .slice none 0 0, .bool false, .bool false, .bool false, .bool false, .slice none 0 0, .slice none 0 0, .int .i64 0] (0, 0) _ rfl ?hb_ Try.underlying28 rfl (by kernel_rfl)) rfl ?_
  (case hb_ => exact bk_ (bp9_ (bk_ BK144.out)))
  exact ⟨_, _, _, _, by first | rfl | (simp [errW_none, errW_some] <;> rfl) | (simp [*, errW_none, errW_some] <;> rfl), by first | exact Kd.R_nil _ _ _ _ _ | exact Kd.N_nil _ _ _ _ _ | exact Kd.V_nil _ _ _ _ _ | exact Kd.Q_nil _ _ _ _ _ | exact Kd.S_nil _ _ _ _ _, by first | exact Kd.R_nil _ _ _ _ _ | exact Kd.N_nil _ _ _ _ _ | exact Kd.V_nil _ _ _ _ _ | exact Kd.Q_nil _ _ _ _ _ | exact Kd.S_nil _ _ _ _ _, by first | exact Kd.R_nil _ _ _ _ _ | exact Kd.N_nil _ _ _ _ _ | exact Kd.V_nil _ _ _ _ _ | exact Kd.Q_nil _ _ _ _ _ | exact Kd.S_nil _ _ _ _ _, by first | exact Kd.R_nil _ _ _ _ _ | exact Kd.N_nil _ _ _ _ _ | exact Kd.V_nil _ _ _ _ _ | exact Kd.Q_nil _ _ _ _ _ | exact Kd.S_nil _ _ _ _ _, bw_ HB.out⟩
 ·refine bodyPost_ret (results_cell_row rfl _ _ gb144 28 #[.slice none 0 0, .slice none 0 0, .bool false, .bool false, .bool false, .bool false, .slice none 0 0, .slice none 0 0, .int .i64 0] (0, 0) _ rfl ?hb_ Try.underlying28 rfl (by kernel_rfl)) rfl ?_
  (case hb_ => exact bk_ (bp9_ (bk_ BK144.out)))
  exact ⟨_, _, _, _, by first | rfl | (simp [errW_none, errW_some] <;> rfl) | (simp [*, errW_none, errW_some] <;> rfl), by first | exact Kd.R_nil _ _ _ _ _ | exact Kd.N_nil _ _ _ _ _ | exact Kd.V_nil _ _ _ _ _ | exact Kd.Q_nil _ _ _ _ _ | exact Kd.S_nil _ _ _ _ _, by first | exact Kd.R_nil _ _ _ _ _ | exact Kd.N_nil _ _ _ _ _ | exact Kd.V_nil _ _ _ _ _ | exact Kd.Q_nil _ _ _ _ _ | exact Kd.S_nil _ _ _ _ _, by first | exact Kd.R_nil _ _ _ _ _ | exact Kd.N_nil _ _ _ _ _ | exact Kd.V_nil _ _ _ _ _ | exact Kd.Q_nil _ _ _ _ _ | exact Kd.S_nil _ _ _ _ _, by first | exact Kd.R_nil _ _ _ _ _ | exact Kd.N_nil _ _ _ _ _ | exact Kd.V_nil _ _ _ _ _ | exact Kd.Q_nil _ _ _ _ _ | exact Kd.S_nil _ _ _ _ _, bw_ HB.out⟩
 ·refine bodyPost_ret (results_cell_row rfl _ _ gb144 28 #[.slice none 0 0, .slice none 0 0, .bool false, .bool false, .bool false, .bool false, .slice none 0 0, .slice none 0 0, .int .i64 0] (0, 0) _ rfl ?hb_ Try.underlying28 rfl (by kernel_rfl)) rfl ?_
  (case hb_ => exact bk_ (bp9_ (bk_ BK144.out)))
  exact ⟨_, _, _, _, by first | rfl | (simp [errW_none, errW_some] <;> rfl) | (simp [*, errW_none, errW_some] <;> rfl), by first | exact Kd.R_nil _ _ _ _ _ | exact Kd.N_nil _ _ _ _ _ | exact Kd.V_nil _ _ _ _ _ | exact Kd.Q_nil _ _ _ _ _ | exact Kd.S_nil _ _ _ _ _, by first | exact Kd.R_nil _ _ _ _ _ | exact Kd.N_nil _ _ _ _ _ | exact Kd.V_nil _ _ _ _ _ | exact Kd.Q_nil _ _ _ _ _ | exact Kd.S_nil _ _ _ _ _, by first | exact Kd.R_nil _ _ _ _ _ | exact Kd.N_nil _ _ _ _ _ | exact Kd.V_nil _ _ _ _ _ | exact Kd.Q_nil _ _ _ _ _ | exact Kd.S_nil _ _ _ _ _, by first | exact Kd.R_nil _ _ _ _ _ | exact Kd.N_nil _ _ _ _ _ | exact Kd.V_nil _ _ _ _ _ | exact Kd.Q_nil _ _ _ _ _ | exact Kd.S_nil _ _ _ _ _, bw_ HB.out⟩

/-! ### impl_Wrap: function 43 -/
def impl_Wrap.f (a0 : Int) : Option (Int) := some (Go.bits .and .i64 a0 65535)
set_option maxHeartbeats 8000000 in
set_option maxRecDepth 100000 in
theorem impl_Wrap.calls (a0 : Int) (r : Int) (w : World) (h : impl_Wrap.f a0 = some r) :
  Calls Try.prog 43 #[.int .i64 a0] w fun e w' => e = .returned (.int .i64 r) ∧ Drawn0 w w' := by
 have H : (some (Go.bits .and .i64 a0 65535)) = some r := h
 clear h
 obtain rfl := Option.some.inj H
 go_enter Try.func43, Try.ntmps43
 go_wp2
 go_ret
 exact ⟨by first | rfl | (simp; done) | (simp [*]; done), by repeat (first | exact Drawn0.refl _ | apply Drawn0.step)⟩

/-! ### impl_copyMach: function 68 -/
def impl_copyMach.f (l0_0 : List Int) (l0_1 : List Int) (a0_2 : Bool) (a0_3 : Bool) (a0_4 : Bool) (a0_5 : Bool) (l0_6 : List Int) (l0_7 : List Int) (a0_8 : Int) : Option (List Int × List Int × Bool × Bool × Bool × Bool × List Int × List Int × Int) := (impl_copyInts.f l0_0).bind fun t151 => ((impl_copyInts.f l0_1).bind fun t154 => ((impl_copyInts.f l0_6).bind fun t157 => ((impl_copyInts.f l0_7).bind fun t160 => (some (t151, t154, a0_2, a0_3, a0_4, a0_5, t157, t160, a0_8)))))
def impl_copyMach.T1 : Bool × List (List Nat × List Nat) := (true, [([], []), ([0], [0]), ([1], [1]), ([], []), ([3], [3]), ([4, 2], [4]), ([], []), ([6], [6]), ([7, 5], [7]), ([], []), ([9], [9]), ([10, 8], [10]), ([0, 1, 2, 3, 4, 6, 7, 9, 10], []), ([12, 2, 11, 0, 1, 2, 3, 4, 6, 7, 9, 10], [2, 12]), ([0, 1, 2, 3, 4, 5, 6, 7, 9, 10, 12, 13], []), ([14, 5, 13, 0, 1, 2, 3, 4, 5, 6, 7, 9, 10, 12, 13], [5, 14]), ([0, 1, 2, 3, 4, 5, 6, 7, 8, 9, 10, 12, 13, 14, 15], []), ([16, 8, 15, 0, 1, 2, 3, 4, 5, 6, 7, 8, 9, 10, 12, 13, 14, 15], [8, 16]), ([0, 1, 2, 3, 4, 5, 6, 7, 8, 9, 10, 11, 12, 13, 14, 15, 16, 17], []), ([18, 11, 17, 0, 1, 2, 3, 4, 5, 6, 7, 8, 9, 10, 11, 12, 13, 14, 15, 16, 17], [11, 18])])
def impl_copyMach.B1 : List Nat := [0, 1, 3, 0, 8, 31, 0, 64, 255, 0, 512, 2047, 1759, 8191, 16383, 32767, 65535, 131071, 262143, 524287]
theorem impl_copyMach.tab1 : rtab .any (opsOf Try.f68 1) = impl_copyMach.T1 := by kernel_rfl
theorem impl_copyMach.bits1 : waitsOk impl_copyMach.T1.2 impl_copyMach.B1 = true := by kernel_rfl
set_option maxHeartbeats 8000000 in
set_option maxRecDepth 100000 in
theorem impl_copyMach.calls (A0_0 : Option Addr) (c0_0 : Nat) (l0_0 : List Int) (A0_1 : Option Addr) (c0_1 : Nat) (l0_1 : List Int) (a0_2 : Bool) (a0_3 : Bool) (a0_4 : Bool) (a0_5 : Bool) (A0_6 : Option Addr) (c0_6 : Nat) (l0_6 : List Int) (A0_7 : Option Addr) (c0_7 : Nat) (l0_7 : List Int) (a0_8 : Int) (r1 : List Int) (r2 : List Int) (r3 : Bool) (r4 : Bool) (r5 : Bool) (r6 : Bool) (r7 : List Int) (r8 : List Int) (r9 : Int) (w : World) (hr0_0 : Kd.C (Kd.int .i64) w A0_0 l0_0.length l0_0) (hc0_0 : l0_0.length ≤ c0_0) (hr0_1 : Kd.C (Kd.int .i64) w A0_1 l0_1.length l0_1) (hc0_1 : l0_1.length ≤ c0_1) (hr0_6 : Kd.C (Kd.int .i64) w A0_6 l0_6.length l0_6) (hc0_6 : l0_6.length ≤ c0_6) (hr0_7 : Kd.C (Kd.int .i64) w A0_7 l0_7.length l0_7) (hc0_7 : l0_7.length ≤ c0_7) (h : impl_copyMach.f l0_0 l0_1 a0_2 a0_3 a0_4 a0_5 l0_6 l0_7 a0_8 = some (r1, r2, r3, r4, r5, r6, r7, r8, r9)) :
  Calls Try.prog 68 #[.agg #[.slice A0_0 l0_0.length c0_0, .slice A0_1 l0_1.length c0_1, .bool a0_2, .bool a0_3, .bool a0_4, .bool a0_5, .slice A0_6 l0_6.length c0_6, .slice A0_7 l0_7.length c0_7, .int .i64 a0_8]] w fun e w' => ∃ v0_ v1_ v6_ v7_ : Value, e = .returned (.agg #[v0_, v1_, .bool r3, .bool r4, .bool r5, .bool r6, v6_, v7_, .int .i64 r9]) ∧ Kd.R (Kd.int .i64) 3 w' w.heap.size (fun k_ => some k_ ≠ (v1_ : Value).ownBlock ∧ some k_ ≠ (v6_ : Value).ownBlock ∧ some k_ ≠ (v7_ : Value).ownBlock) v0_ r1 ∧ Kd.R (Kd.int .i64) 3 w' w.heap.size (fun k_ => some k_ ≠ (v0_ : Value).ownBlock ∧ some k_ ≠ (v6_ : Value).ownBlock ∧ some k_ ≠ (v7_ : Value).ownBlock) v1_ r2 ∧ Kd.R (Kd.int .i64) 3 w' w.heap.size (fun k_ => some k_ ≠ (v0_ : Value).ownBlock ∧ some k_ ≠ (v1_ : Value).ownBlock ∧ some k_ ≠ (v7_ : Value).ownBlock) v6_ r7 ∧ Kd.R (Kd.int .i64) 3 w' w.heap.size (fun k_ => some k_ ≠ (v0_ : Value).ownBlock ∧ some k_ ≠ (v1_ : Value).ownBlock ∧ some k_ ≠ (v6_ : Value).ownBlock) v7_ r8 ∧ Below w.heap.size w w' := by
 have hu28 := Try.underlying28
 have HR0_0 := A_ hr0_0
 have HC0_0 := A_ hc0_0
 clear hr0_0 hc0_0
 have HR0_1 := A_ hr0_1
 have HC0_1 := A_ hc0_1
 clear hr0_1 hc0_1
 have HR0_6 := A_ hr0_6
 have HC0_6 := A_ hc0_6
 clear hr0_6 hc0_6
 have HR0_7 := A_ hr0_7
 have HC0_7 := A_ hc0_7
 clear hr0_7 hc0_7
 have HB := A_ (Below.refl w.heap.size w)
 have H : ((impl_copyInts.f l0_0).bind fun t151 => ((impl_copyInts.f l0_1).bind fun t154 => ((impl_copyInts.f l0_6).bind fun t157 => ((impl_copyInts.f l0_7).bind fun t160 => (some (t151, t154, a0_2, a0_3, a0_4, a0_5, t157, t160, a0_8)))))) = some (r1, r2, r3, r4, r5, r6, r7, r8, r9) := h
 clear h
 replace H := Option.bind_eq_some_iff.mp H
 obtain ⟨t151, A20, H⟩ := H
 try dsimp only at H
 have A2 := A_ A20
 clear A20
 replace H := Option.bind_eq_some_iff.mp H
 obtain ⟨t154, A30, H⟩ := H
 try dsimp only at H
 have A3 := A_ A30
 clear A30
 replace H := Option.bind_eq_some_iff.mp H
 obtain ⟨t157, A40, H⟩ := H
 try dsimp only at H
 have A4 := A_ A40
 clear A40
 replace H := Option.bind_eq_some_iff.mp H
 obtain ⟨t160, A50, H⟩ := H
 try dsimp only at H
 have A5 := A_ A50
 clear A50
 simp only [Option.some.injEq, Prod.mk.injEq] at H
 obtain ⟨rfl, rfl, rfl, rfl, rfl, rfl, rfl, rfl, rfl⟩ := H
 go_enter Try.func68, Try.ntmps68
 try go_wp2_with (first | ((with_reducible refine gate_dst (N := 1) rfl ?_); refine box_event ?hg (N := 1) ?hd (cs := #[.slice A0_0 l0_0.length c0_0, .slice A0_1 l0_1.length c0_1, .bool a0_2, .bool a0_3, .bool a0_4, .bool a0_5, .slice A0_6 l0_6.length c0_6, .slice A0_7 l0_7.length c0_7, .int .i64 a0_8]) (t := 28) ?hr ?_; (case hd => rfl); (case hg => rfl); (case hr => first | (go_simp; done) | (go_simp; rfl)); intro gb149 hg w6 hbox hb; have n0_ := A_ (below_step (bw_ HB.out) hb); have n1_ := A_ (hbox); have n2_ := A_ ((d8_ : w.heap.size ≤ gb149)); have n3_ := n2_; clear HB; have HB := n0_; have BK149 := n1_; have GW149 := n2_; have GE149 := n3_; have GI149 := GeI.mk GE149.out; clear n0_ n1_ n2_ n3_; clear hb hbox hg) | ((with_reducible refine gate_dst (N := 2) rfl ?_); refine box_event ?hg (N := 2) ?hd (cs := #[.slice none 0 0, .slice none 0 0, .bool false, .bool false, .bool false, .bool false, .slice none 0 0, .slice none 0 0, .int .i64 0]) (t := 28) ?hr ?_; (case hd => rfl); (case hg => rfl); (case hr => first | (go_simp; done) | (go_simp; rfl)); intro gb150 hg w7 hbox hb; have n0_ := A_ (blk_below (bk_ BK149.out) hb); have n1_ := A_ (below_step (bw_ HB.out) hb); have n2_ := A_ (hbox); have n3_ := A_ ((d8_ : w.heap.size ≤ gb150)); have n4_ := n3_; have n5_ := A_ ((by rw [hg]; exact Nat.ne_of_lt (blk_lt (bk_ BK149.out)) : gb149 ≠ gb150)); have n6_ := A_ n5_.out.symm; clear BK149; clear HB; have BK149 := n0_; have HB := n1_; have BK150 := n2_; have GW150 := n3_; have GE150 := n4_; have GI150 := GeI.mk GE150.out; have NB149_150 := n5_; have NB150_149 := n6_; clear n0_ n1_ n2_ n3_ n4_ n5_ n6_; clear hb hbox hg))
 replace BK149 := A_ (blk_drew BK149.out)
 replace BK150 := A_ (blk_drew BK150.out)
 replace HB := A_ (below_drew1 HB.out)
 refine start_ (n := 20) (S := fun w' => w'.cell? ⟨gb149, 0, none⟩ = some (.slice A0_0 l0_0.length c0_0) ∧ w'.cell? ⟨gb149, 1, none⟩ = some (.slice A0_1 l0_1.length c0_1) ∧ w'.cell? ⟨gb149, 2, none⟩ = some (.bool a0_2) ∧ w'.cell? ⟨gb149, 3, none⟩ = some (.bool a0_3) ∧ w'.cell? ⟨gb149, 4, none⟩ = some (.bool a0_4) ∧ w'.cell? ⟨gb149, 5, none⟩ = some (.bool a0_5) ∧ w'.cell? ⟨gb149, 6, none⟩ = some (.slice A0_6 l0_6.length c0_6) ∧ w'.cell? ⟨gb149, 7, none⟩ = some (.slice A0_7 l0_7.length c0_7) ∧ w'.cell? ⟨gb149, 8, none⟩ = some (.int .i64 a0_8)) (ds := [13, 15, 17, 19]) #[false, false, false, false, false, false, false, false, false, false, false, false, false, false, false, false, false, false, false, false] (by kernel_rfl) rfl rfl ⟨(blk_cell BK149.out 0).trans rfl, (blk_cell BK149.out 1).trans rfl, (blk_cell BK149.out 2).trans rfl, (blk_cell BK149.out 3).trans rfl, (blk_cell BK149.out 4).trans rfl, (blk_cell BK149.out 5).trans rfl, (blk_cell BK149.out 6).trans rfl, (blk_cell BK149.out 7).trans rfl, (blk_cell BK149.out 8).trans rfl⟩ (fun hHeld => ?_); refine with_tabW impl_copyMach.tab1 impl_copyMach.bits1 (fun HT_ HW_ => ?_)
 generalize w7.drew = w8 at BK149 BK150 HB hHeld ⊢
 refine pu_ 0 (some 3) (bm_ 20 1) (any_of HT_.out (by kernel_rfl)) ?_
 refine pu_ 3 (some 6) (bm_ 20 9) (any_of HT_.out (by kernel_rfl)) ?_
 refine pu_ 6 (some 9) (bm_ 20 73) (any_of HT_.out (by kernel_rfl)) ?_
 refine pu_ 9 (some 12) (bm_ 20 585) (any_of HT_.out (by kernel_rfl)) ?_
 refine take_ (i := 1) (N := some 4) (v := ?_) (a' := ?_) (bm_ 20 587) rfl rfl (take_ofW HT_.out HW_.out (by kernel_rfl)) (fun _ _ _ h => h) (Or.inl ⟨by rfl, ?_⟩) hHeld ?_ ?_
 rotate_left
 ·rintro w' ⟨s0, s1, s2, s3, s4, s5, s6, s7, s8⟩
  go_simp
  with_reducible rfl
 rotate_left
 ·simp only [Act.put, List.setIfInBounds_toArray, List.set_cons_zero, List.set_cons_succ, i64_w, i32_w]
  rfl
 refine take_ (i := 4) (N := some 7) (v := ?_) (a' := ?_) (bm_ 20 603) rfl rfl (take_ofW HT_.out HW_.out (by kernel_rfl)) (fun _ _ _ h => h) (Or.inl ⟨by rfl, ?_⟩) hHeld ?_ ?_
 rotate_left
 ·rintro w' ⟨s0, s1, s2, s3, s4, s5, s6, s7, s8⟩
  go_simp
  with_reducible rfl
 rotate_left
 ·simp only [Act.put, List.setIfInBounds_toArray, List.set_cons_zero, List.set_cons_succ, i64_w, i32_w]
  rfl
 refine take_ (i := 7) (N := some 10) (v := ?_) (a' := ?_) (bm_ 20 731) rfl rfl (take_ofW HT_.out HW_.out (by kernel_rfl)) (fun _ _ _ h => h) (Or.inl ⟨by rfl, ?_⟩) hHeld ?_ ?_
 rotate_left
 ·rintro w' ⟨s0, s1, s2, s3, s4, s5, s6, s7, s8⟩
  go_simp
  with_reducible rfl
 rotate_left
 ·simp only [Act.put, List.setIfInBounds_toArray, List.set_cons_zero, List.set_cons_succ, i64_w, i32_w]
  rfl
 refine take_ (i := 10) (N := some 13) (v := ?_) (a' := ?_) (bm_ 20 1755) rfl rfl (take_ofW HT_.out HW_.out (by kernel_rfl)) (fun _ _ _ h => h) (Or.inl ⟨by rfl, ?_⟩) hHeld ?_ ?_
 rotate_left
 ·rintro w' ⟨s0, s1, s2, s3, s4, s5, s6, s7, s8⟩
  go_simp
  with_reducible rfl
 rotate_left
 ·simp only [Act.put, List.setIfInBounds_toArray, List.set_cons_zero, List.set_cons_succ, i64_w, i32_w]
  rfl
 refine one_ (i := 2) (N := some 5) (bm_ 20 1759) rfl rfl (one_of HT_.out (by kernel_rfl)) (by decide) (fun K hK => ?_)
 refine goes_ Try.func64 (by kernel_rfl) rfl #[.slice A0_0 l0_0.length c0_0] (by rfl) rfl rfl d0_ ?_
 with_reducible refine (impl_copyInts.calls _ _ l0_0 t151 _ ?side1 ?side2 A2.out).mono ?_
 (case side1 => repeat (first | exact (Kd.C_below HR0_0.out HB.out) | (with_reducible refine Kd.C_alloc ?_ _) | (with_reducible refine Kd.C_drewN ?_ _) | (with_reducible refine Kd.C_drew ?_)))
 (case side2 => exact HC0_0.out)
 rintro e w9 ⟨v152, rfl, ho0, hb⟩
 refine ⟨_, rfl, ?_⟩
 have HO153 := A_ (Kd.R_lower ho0 (below_size (bw_ HB.out)))
 replace BK149 := A_ (blk_below (bk_ BK149.out) hb)
 replace BK150 := A_ (blk_below (bk_ BK150.out) hb)
 replace HB := A_ (below_step (bw_ HB.out) hb)
 (try clear hb)
 (try clear hb2)
 (try clear hk)
 (try clear hi)
 (try clear ho0)
 refine hK.out _ _ ⟨(blk_cell BK149.out 0).trans rfl, (blk_cell BK149.out 1).trans rfl, (blk_cell BK149.out 2).trans rfl, (blk_cell BK149.out 3).trans rfl, (blk_cell BK149.out 4).trans rfl, (blk_cell BK149.out 5).trans rfl, (blk_cell BK149.out 6).trans rfl, (blk_cell BK149.out 7).trans rfl, (blk_cell BK149.out 8).trans rfl⟩ (fun hHeld => ?_)
 clear hK K
 refine norm_ (a' := ?_) ?_ ?_
 rotate_left
 ·show Act.put _ (some 5) _ = _
  simp only [Act.put, List.setIfInBounds_toArray, List.set_cons_zero, List.set_cons_succ, i64_w, i32_w]
  rfl
 refine pu_ 12 (some 15) (bm_ 20 5855) (any_of HT_.out (by kernel_rfl)) ?_
 refine one_ (i := 5) (N := some 8) (bm_ 20 5887) rfl rfl (one_of HT_.out (by kernel_rfl)) (by decide) (fun K hK => ?_)
 refine goes_ Try.func64 (by kernel_rfl) rfl #[.slice A0_1 l0_1.length c0_1] (by rfl) rfl rfl d0_ ?_
 with_reducible refine (impl_copyInts.calls _ _ l0_1 t154 _ ?side1 ?side2 A3.out).mono ?_
 (case side1 => repeat (first | exact (Kd.C_below HR0_1.out HB.out) | (with_reducible refine Kd.C_alloc ?_ _) | (with_reducible refine Kd.C_drewN ?_ _) | (with_reducible refine Kd.C_drew ?_)))
 (case side2 => exact HC0_1.out)
 rintro e w10 ⟨v155, rfl, ho0, hb⟩
 refine ⟨_, rfl, ?_⟩
 have HO156 := A_ (Kd.R_lower (Kd.R_new' ho0 (Kd.R_lt (kr_ HO153.out))) (below_size (bw_ HB.out)))
 replace HO153 := A_ (Kd.R_elder' (kr_ HO153.out) (Kd.R_base ho0) hb)
 replace BK149 := A_ (blk_below (bk_ BK149.out) hb)
 replace BK150 := A_ (blk_below (bk_ BK150.out) hb)
 replace HB := A_ (below_step (bw_ HB.out) hb)
 (try clear hb)
 (try clear hb2)
 (try clear hk)
 (try clear hi)
 (try clear ho0)
 refine hK.out _ _ ⟨(blk_cell BK149.out 0).trans rfl, (blk_cell BK149.out 1).trans rfl, (blk_cell BK149.out 2).trans rfl, (blk_cell BK149.out 3).trans rfl, (blk_cell BK149.out 4).trans rfl, (blk_cell BK149.out 5).trans rfl, (blk_cell BK149.out 6).trans rfl, (blk_cell BK149.out 7).trans rfl, (blk_cell BK149.out 8).trans rfl⟩ (fun hHeld => ?_)
 clear hK K
 refine norm_ (a' := ?_) ?_ ?_
 rotate_left
 ·show Act.put _ (some 8) _ = _
  simp only [Act.put, List.setIfInBounds_toArray, List.set_cons_zero, List.set_cons_succ, i64_w, i32_w]
  rfl
 refine one_ (i := 8) (N := some 11) (bm_ 20 6143) rfl rfl (one_of HT_.out (by kernel_rfl)) (by decide) (fun K hK => ?_)
 refine goes_ Try.func64 (by kernel_rfl) rfl #[.slice A0_6 l0_6.length c0_6] (by rfl) rfl rfl d0_ ?_
 with_reducible refine (impl_copyInts.calls _ _ l0_6 t157 _ ?side1 ?side2 A4.out).mono ?_
 (case side1 => repeat (first | exact (Kd.C_below HR0_6.out HB.out) | (with_reducible refine Kd.C_alloc ?_ _) | (with_reducible refine Kd.C_drewN ?_ _) | (with_reducible refine Kd.C_drew ?_)))
 (case side2 => exact HC0_6.out)
 rintro e w11 ⟨v158, rfl, ho0, hb⟩
 refine ⟨_, rfl, ?_⟩
 have HO159 := A_ (Kd.R_lower (Kd.R_new' (Kd.R_new' ho0 (Kd.R_lt (kr_ HO153.out))) (Kd.R_lt (kr_ HO156.out))) (below_size (bw_ HB.out)))
 replace HO153 := A_ (Kd.R_elder' (kr_ HO153.out) (Kd.R_base ho0) hb)
 replace HO156 := A_ (Kd.R_elder' (kr_ HO156.out) (Kd.R_base ho0) hb)
 replace BK149 := A_ (blk_below (bk_ BK149.out) hb)
 replace BK150 := A_ (blk_below (bk_ BK150.out) hb)
 replace HB := A_ (below_step (bw_ HB.out) hb)
 (try clear hb)
 (try clear hb2)
 (try clear hk)
 (try clear hi)
 (try clear ho0)
 refine hK.out _ _ ⟨(blk_cell BK149.out 0).trans rfl, (blk_cell BK149.out 1).trans rfl, (blk_cell BK149.out 2).trans rfl, (blk_cell BK149.out 3).trans rfl, (blk_cell BK149.out 4).trans rfl, (blk_cell BK149.out 5).trans rfl, (blk_cell BK149.out 6).trans rfl, (blk_cell BK149.out 7).trans rfl, (blk_cell BK149.out 8).trans rfl⟩ (fun hHeld => ?_)
 clear hK K
 refine norm_ (a' := ?_) ?_ ?_
 rotate_left
 ·show Act.put _ (some 11) _ = _
  simp only [Act.put, List.setIfInBounds_toArray, List.set_cons_zero, List.set_cons_succ, i64_w, i32_w]
  rfl
 refine one_ (i := 11) (N := some 14) (bm_ 20 8191) rfl rfl (one_of HT_.out (by kernel_rfl)) (by decide) (fun K hK => ?_)
 refine goes_ Try.func64 (by kernel_rfl) rfl #[.slice A0_7 l0_7.length c0_7] (by rfl) rfl rfl d0_ ?_
 with_reducible refine (impl_copyInts.calls _ _ l0_7 t160 _ ?side1 ?side2 A5.out).mono ?_
 (case side1 => repeat (first | exact (Kd.C_below HR0_7.out HB.out) | (with_reducible refine Kd.C_alloc ?_ _) | (with_reducible refine Kd.C_drewN ?_ _) | (with_reducible refine Kd.C_drew ?_)))
 (case side2 => exact HC0_7.out)
 rintro e w12 ⟨v161, rfl, ho0, hb⟩
 refine ⟨_, rfl, ?_⟩
 have HO162 := A_ (Kd.R_lower (Kd.R_new' (Kd.R_new' (Kd.R_new' ho0 (Kd.R_lt (kr_ HO153.out))) (Kd.R_lt (kr_ HO156.out))) (Kd.R_lt (kr_ HO159.out))) (below_size (bw_ HB.out)))
 replace HO153 := A_ (Kd.R_elder' (kr_ HO153.out) (Kd.R_base ho0) hb)
 replace HO156 := A_ (Kd.R_elder' (kr_ HO156.out) (Kd.R_base ho0) hb)
 replace HO159 := A_ (Kd.R_elder' (kr_ HO159.out) (Kd.R_base ho0) hb)
 replace BK149 := A_ (blk_below (bk_ BK149.out) hb)
 replace BK150 := A_ (blk_below (bk_ BK150.out) hb)
 replace HB := A_ (below_step (bw_ HB.out) hb)
 (try clear hb)
 (try clear hb2)
 (try clear hk)
 (try clear hi)
 (try clear ho0)
 obtain ⟨Ao13, co13, eo13⟩ := Kd.R_slice HO153.out
 (first | subst eo13 | (injection eo13 with f1_ f2_ f3_; have f4_ := f1_.symm; have f5_ := f3_.symm; clear f1_ f2_ f3_; subst f4_; subst f5_))
 obtain ⟨Ao15, co15, eo15⟩ := Kd.R_slice HO156.out
 (first | subst eo15 | (injection eo15 with f1_ f2_ f3_; have f4_ := f1_.symm; have f5_ := f3_.symm; clear f1_ f2_ f3_; subst f4_; subst f5_))
 obtain ⟨Ao17, co17, eo17⟩ := Kd.R_slice HO159.out
 (first | subst eo17 | (injection eo17 with f1_ f2_ f3_; have f4_ := f1_.symm; have f5_ := f3_.symm; clear f1_ f2_ f3_; subst f4_; subst f5_))
 obtain ⟨Ao19, co19, eo19⟩ := Kd.R_slice HO162.out
 (first | subst eo19 | (injection eo19 with f1_ f2_ f3_; have f4_ := f1_.symm; have f5_ := f3_.symm; clear f1_ f2_ f3_; subst f4_; subst f5_))
 refine hK.out _ _ ⟨(blk_cell BK149.out 0).trans rfl, (blk_cell BK149.out 1).trans rfl, (blk_cell BK149.out 2).trans rfl, (blk_cell BK149.out 3).trans rfl, (blk_cell BK149.out 4).trans rfl, (blk_cell BK149.out 5).trans rfl, (blk_cell BK149.out 6).trans rfl, (blk_cell BK149.out 7).trans rfl, (blk_cell BK149.out 8).trans rfl⟩ (fun hHeld => ?_)
 clear hK K
 refine norm_ (a' := ?_) ?_ ?_
 rotate_left
 ·show Act.put _ (some 14) _ = _
  simp only [Act.put, List.setIfInBounds_toArray, List.set_cons_zero, List.set_cons_succ, i64_w, i32_w]
  rfl
 refine last_ (i := 13) (N := none) (bm_ 20 16383) rfl rfl (one_of HT_.out (by kernel_rfl)) (by decide) (fun K hK => ?_)
 have hs14 : w12.cell? ⟨gb149, 0, none⟩ = some (.slice A0_0 l0_0.length c0_0) := (blk_cell BK149.out 0).trans rfl
 have hfs14 := blk_frozen BK149.out 0
 have hns14_1 := NB150_149.out
 have hms14_1 := NB149_150.out
 refine skip_ (w1 := ?_) (by rfl) rfl ?_ ?_
 rotate_left
 ·go_simp
  rfl
 refine hK.out _ _ ?_
 clear hK K
 refine pu_ 14 (some 16) (bm_ 20 32767) (any_of HT_.out (by kernel_rfl)) ?_
 refine last_ (i := 15) (N := none) (bm_ 20 65535) rfl rfl (one_of HT_.out (by kernel_rfl)) (by decide) (fun K hK => ?_)
 have hs16 : w12.cell? ⟨gb149, 1, none⟩ = some (.slice A0_1 l0_1.length c0_1) := (blk_cell BK149.out 1).trans rfl
 have hfs16 := blk_frozen BK149.out 1
 have hns16_1 := NB150_149.out
 have hms16_1 := NB149_150.out
 refine skip_ (w1 := ?_) (by rfl) rfl ?_ ?_
 rotate_left
 ·go_simp
  rfl
 refine hK.out _ _ ?_
 clear hK K
 refine pu_ 16 (some 17) (bm_ 20 131071) (any_of HT_.out (by kernel_rfl)) ?_
 refine last_ (i := 17) (N := none) (bm_ 20 262143) rfl rfl (one_of HT_.out (by kernel_rfl)) (by decide) (fun K hK => ?_)
 have hs18 : w12.cell? ⟨gb149, 6, none⟩ = some (.slice A0_6 l0_6.length c0_6) := (blk_cell BK149.out 6).trans rfl
 have hfs18 := blk_frozen BK149.out 6
 have hns18_1 := NB150_149.out
 have hms18_1 := NB149_150.out
 refine skip_ (w1 := ?_) (by rfl) rfl ?_ ?_
 rotate_left
 ·go_simp
  rfl
 refine hK.out _ _ ?_
 clear hK K
 refine pu_ 18 (some 18) (bm_ 20 524287) (any_of HT_.out (by kernel_rfl)) ?_
 refine last_ (i := 19) (N := none) (bm_ 20 1048575) rfl rfl (one_of HT_.out (by kernel_rfl)) (by decide) (fun K hK => ?_)
 have hs20 : w12.cell? ⟨gb149, 7, none⟩ = some (.slice A0_7 l0_7.length c0_7) := (blk_cell BK149.out 7).trans rfl
 have hfs20 := blk_frozen BK149.out 7
 have hns20_1 := NB150_149.out
 have hms20_1 := NB149_150.out
 refine skip_ (w1 := ?_) (by rfl) rfl ?_ ?_
 rotate_left
 ·go_simp
  rfl
 refine hK.out _ _ ?_
 clear hK K
 refine done_ (done_of HT_.out (by kernel_rfl)) ?_
 have hnb21 := NB149_150.out
 have hnc21 := NB150_149.out
 obtain ⟨y22_0, y22_1, y22_2, y22_3, y22_4, y22_5, y22_6, y22_7, y22_8, z22_0, z22_1, z22_2, z22_3, z22_4, z22_5, z22_6, z22_7, z22_8⟩ := cz9_ BK149.out
 obtain ⟨y23_0, y23_1, y23_2, y23_3, y23_4, y23_5, y23_6, y23_7, y23_8, z23_0, z23_1, z23_2, z23_3, z23_4, z23_5, z23_6, z23_7, z23_8⟩ := cz9_ BK150.out
 try go_wp2
 refine bodyPost_ret (results_cell_row rfl _ _ gb150 28 #[.slice Ao13 t151.length co13, .slice Ao15 t154.length co15, .bool a0_2, .bool a0_3, .bool a0_4, .bool a0_5, .slice Ao17 t157.length co17, .slice Ao19 t160.length co19, .int .i64 a0_8] (0, 0) _ rfl ?hb_ Try.underlying28 rfl (by kernel_rfl)) rfl ?_
 (case hb_ => refine bk_ ?_; refine blk_put (cs := #[.slice Ao13 t151.length co13, .slice Ao15 t154.length co15, .bool a0_2, .bool a0_3, .bool a0_4, .bool a0_5, .slice Ao17 t157.length co17, .slice Ao19 t160.length co19, .int .i64 0]) ?_ 8 _ rfl; refine bk_ ?_; refine blk_put (cs := #[.slice Ao13 t151.length co13, .slice Ao15 t154.length co15, .bool a0_2, .bool a0_3, .bool a0_4, .bool a0_5, .slice Ao17 t157.length co17, .slice none 0 0, .int .i64 0]) ?_ 7 _ rfl; refine bk_ ?_; refine blk_put (cs := #[.slice Ao13 t151.length co13, .slice Ao15 t154.length co15, .bool a0_2, .bool a0_3, .bool a0_4, .bool a0_5, .slice none 0 0, .slice none 0 0, .int .i64 0]) ?_ 6 _ rfl; refine bk_ ?_; refine blk_put (cs := #[.slice Ao13 t151.length co13, .slice Ao15 t154.length co15, .bool a0_2, .bool a0_3, .bool a0_4, .bool false, .slice none 0 0, .slice none 0 0, .int .i64 0]) ?_ 5 _ rfl; refine bk_ ?_; refine blk_put (cs := #[.slice Ao13 t151.length co13, .slice Ao15 t154.length co15, .bool a0_2, .bool a0_3, .bool false, .bool false, .slice none 0 0, .slice none 0 0, .int .i64 0]) ?_ 4 _ rfl; refine bk_ ?_; refine blk_put (cs := #[.slice Ao13 t151.length co13, .slice Ao15 t154.length co15, .bool a0_2, .bool false, .bool false, .bool false, .slice none 0 0, .slice none 0 0, .int .i64 0]) ?_ 3 _ rfl; refine bk_ ?_; refine blk_put (cs := #[.slice Ao13 t151.length co13, .slice Ao15 t154.length co15, .bool false, .bool false, .bool false, .bool false, .slice none 0 0, .slice none 0 0, .int .i64 0]) ?_ 2 _ rfl; refine bk_ ?_; refine blk_put (cs := #[.slice Ao13 t151.length co13, .slice none 0 0, .bool false, .bool false, .bool false, .bool false, .slice none 0 0, .slice none 0 0, .int .i64 0]) ?_ 1 _ rfl; refine bk_ ?_; refine blk_put (cs := #[.slice none 0 0, .slice none 0 0, .bool false, .bool false, .bool false, .bool false, .slice none 0 0, .slice none 0 0, .int .i64 0]) ?_ 0 _ rfl; refine bk_ ?_; refine blk_far ?_ NB150_149.out _; refine bk_ ?_; refine blk_far ?_ NB150_149.out _; refine bk_ ?_; refine blk_far ?_ NB150_149.out _; refine bk_ ?_; refine blk_far ?_ NB150_149.out _; refine bk_ ?_; exact BK150.out)
 exact ⟨_, _, _, _, by first | rfl | (simp [errW_none, errW_some] <;> rfl) | (simp [*, errW_none, errW_some] <;> rfl), kr_ (Kd.R_mono (rf9_ (Kd.R_far (p := ⟨gb149, 7, none⟩) (Kd.R_far (p := ⟨gb149, 6, none⟩) (Kd.R_far (p := ⟨gb149, 1, none⟩) (Kd.R_far (p := ⟨gb149, 0, none⟩) (Kd.R_types (Kd.R_types HO153.out BK149.out (by decide)) BK150.out (by decide)) (fun _ hk => hk.1.2) (.slice Ao13 t151.length co13)) (fun _ hk => hk.1.2) (.slice Ao15 t154.length co15)) (fun _ hk => hk.1.2) (.slice Ao17 t157.length co17)) (fun _ hk => hk.1.2) (.slice Ao19 t160.length co19)) (fun _ hk => hk.2)) (fun _ hk => ⟨hk.1.1.1.1.2, ⟨hk.1.1.1.2, hk.1.1.2⟩⟩)), kr_ (Kd.R_mono (rf9_ (Kd.R_far (p := ⟨gb149, 7, none⟩) (Kd.R_far (p := ⟨gb149, 6, none⟩) (Kd.R_far (p := ⟨gb149, 1, none⟩) (Kd.R_far (p := ⟨gb149, 0, none⟩) (Kd.R_types (Kd.R_types HO156.out BK149.out (by decide)) BK150.out (by decide)) (fun _ hk => hk.1.2) (.slice Ao13 t151.length co13)) (fun _ hk => hk.1.2) (.slice Ao15 t154.length co15)) (fun _ hk => hk.1.2) (.slice Ao17 t157.length co17)) (fun _ hk => hk.1.2) (.slice Ao19 t160.length co19)) (fun _ hk => hk.2)) (fun _ hk => ⟨hk.1.1.1.1.2, ⟨hk.1.1.1.2, hk.1.1.2⟩⟩)), kr_ (Kd.R_mono (rf9_ (Kd.R_far (p := ⟨gb149, 7, none⟩) (Kd.R_far (p := ⟨gb149, 6, none⟩) (Kd.R_far (p := ⟨gb149, 1, none⟩) (Kd.R_far (p := ⟨gb149, 0, none⟩) (Kd.R_types (Kd.R_types HO159.out BK149.out (by decide)) BK150.out (by decide)) (fun _ hk => hk.1.2) (.slice Ao13 t151.length co13)) (fun _ hk => hk.1.2) (.slice Ao15 t154.length co15)) (fun _ hk => hk.1.2) (.slice Ao17 t157.length co17)) (fun _ hk => hk.1.2) (.slice Ao19 t160.length co19)) (fun _ hk => hk.2)) (fun _ hk => ⟨hk.1.1.1.1.2, ⟨hk.1.1.1.2, hk.1.1.2⟩⟩)), kr_ (Kd.R_mono (rf9_ (Kd.R_far (p := ⟨gb149, 7, none⟩) (Kd.R_far (p := ⟨gb149, 6, none⟩) (Kd.R_far (p := ⟨gb149, 1, none⟩) (Kd.R_far (p := ⟨gb149, 0, none⟩) (Kd.R_types (Kd.R_types HO162.out BK149.out (by decide)) BK150.out (by decide)) (fun _ hk => hk.1.2) (.slice Ao13 t151.length co13)) (fun _ hk => hk.1.2) (.slice Ao15 t154.length co15)) (fun _ hk => hk.1.2) (.slice Ao17 t157.length co17)) (fun _ hk => hk.1.2) (.slice Ao19 t160.length co19)) (fun _ hk => hk.2)) (fun _ hk => ⟨hk.1.1.1.1.2, ⟨hk.1.1.1.2, hk.1.1.2⟩⟩)), bw_ HB.out⟩

end Go.Proofs.Ytiagbfilffbljaa.PFnMachs
