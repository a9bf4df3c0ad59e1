-- Laid by a program of this session (a changed copy of the kit's printer); Lean checks every line.
import Derived.Test.YtiagbfilffbljaaPFnStoredx0
import Derived.Test.YtiagbfilffbljaaPFnStoredx2
import Derived.Test.YtiagbfilffbljaaPFnStoredx4
namespace Go.Proofs.Ytiagbfilffbljaa.PFnStored
open Go.RowKit Go.Proofs.YtiagbfilffbljaaW.PrintWords Go.Proofs.YtiagbfilffbljaaW.PrintLast Go.Proofs.YtiagbfilffbljaaW.PrintMore
attribute [local go_sem] max2_int min2_int max_two min_two max_three min_three max_four min_four   -- for this text's walks alone
set_option linter.unusedVariables false
set_option linter.unusedSimpArgs false

/-! ### spec_MachNew: function 27 -/
mutual
def spec_MachNew.j0 : Nat → List Int → Int → Int → List Int → Bool → Option (List Int × List Int × Bool × Bool × Bool × Bool × List Int × List Int × Int)
 | 0, _, _, _, _, _ => none
 | k + 1, x0, x1, x2, x3, x46 => if x46 = true then (some (([] : List Int), ([] : List Int), false, false, false, false, ([] : List Int), ([] : List Int), 0)) else (if 256 ≤ 35184372088832 then (if 8 ≤ 35184372088832 then ((some (([] : List Int) : List Int)).bind fun y250 => (if y250.length + x3.length < 17592186044416 then (spec_MachNew.l0 k x0 x1 x2 0 (List.replicate 256 0) (List.replicate 8 0) false false false false (y250 ++ x3) 0) else (none))) else (none)) else (none))
def spec_MachNew.l0 : Nat → List Int → Int → Int → Int → List Int → List Int → Bool → Bool → Bool → Bool → List Int → Int → Option (List Int × List Int × Bool × Bool × Bool × Bool × List Int × List Int × Int)
 | 0, _, _, _, _, _, _, _, _, _, _, _, _ => none
 | k + 1, x0, x1, x2, x10, x257000, x257001, x257002, x257003, x257004, x257005, x257006, x257008 => if x10 < (x0.length : Int) then (if 0 ≤ x10 then (if 0 ≤ (wrap64 ((wrap64 (Int.tdiv x1 2)) + x10)) then (if (wrap64 ((wrap64 (Int.tdiv x1 2)) + x10)) < (x257000.length : Int) then (spec_MachNew.l0 k x0 x1 x2 (wrap64 (x10 + 1)) (x257000.set ((wrap64 ((wrap64 (Int.tdiv x1 2)) + x10)) : Int).toNat (rd x0 x10)) x257001 x257002 x257003 x257004 x257005 x257006 x257008) else (none)) else (none)) else (none)) else (if 6 < (x257001.length : Int) then (if 7 < (x257001.length : Int) then (some (x257000, ((x257001.set (6 : Int).toNat 512).set (7 : Int).toNat x2), x257002, x257003, x257004, x257005, x257006, ([] : List Int), x257008)) else (none)) else (none))
end
def spec_MachNew.f (k : Nat) (l0 : List Int) (a1 : Int) (a2 : Int) (l3 : List Int) : Option (List Int × List Int × Bool × Bool × Bool × Bool × List Int × List Int × Int) := (spec_l1In.f a1 0 510).bind fun t240 => (if t240 = true then (if (Int.tmod a1 2) = 0 then (if (l0.length : Int) > (wrap64 (256 - (wrap64 (Int.tdiv a1 2)))) then (spec_MachNew.j0 k l0 a1 a2 l3 true) else ((spec_l5Words.f k l0).bind fun t241 => (if t241 = true then ((spec_l1In.f a2 0 65535).bind fun t242 => (if t242 = true then (if (l3.length : Int) > 50 then (spec_MachNew.j0 k l0 a1 a2 l3 true) else ((spec_l5Words.f k l3).bind fun t243 => (spec_MachNew.j0 k l0 a1 a2 l3 (!t243)))) else (spec_MachNew.j0 k l0 a1 a2 l3 true))) else (spec_MachNew.j0 k l0 a1 a2 l3 true)))) else (spec_MachNew.j0 k l0 a1 a2 l3 true)) else (spec_MachNew.j0 k l0 a1 a2 l3 true))
theorem spec_MachNew.mono_l : ∀ k, (∀ y0 y1 y2 y3 y4, LeO (spec_MachNew.j0 k y0 y1 y2 y3 y4) (spec_MachNew.j0 (k + 1) y0 y1 y2 y3 y4)) ∧ (∀ y0 y1 y2 y3 y4 y5 y6 y7 y8 y9 y10 y11, LeO (spec_MachNew.l0 k y0 y1 y2 y3 y4 y5 y6 y7 y8 y9 y10 y11) (spec_MachNew.l0 (k + 1) y0 y1 y2 y3 y4 y5 y6 y7 y8 y9 y10 y11))
 | 0 => ⟨fun _ _ _ _ _ r h => by simp [spec_MachNew.j0] at h, fun _ _ _ _ _ _ _ _ _ _ _ _ r h => by simp [spec_MachNew.l0] at h⟩
 | k + 1 => by
  obtain ⟨ih0, ih1⟩ := spec_MachNew.mono_l k
  refine ⟨?_, ?_⟩
  ·intro y0 y1 y2 y3 y4
   unfold spec_MachNew.j0
   repeat' first
   | (with_reducible exact ih0 _ _ _ _ _)
   | (with_reducible exact ih1 _ _ _ _ _ _ _ _ _ _ _ _)
   | (with_reducible exact spec_l5Words.mono _ _)
   | (with_reducible exact LeO.refl _)
   | (with_reducible exact LeO.none _)
   | (with_reducible refine LeO.ite ?_ ?_)
   | (with_reducible refine LeO.bind ?_ (fun _ => ?_))
   | exact ih0 _ _ _ _ _
   | exact ih1 _ _ _ _ _ _ _ _ _ _ _ _
   | exact spec_l5Words.mono _ _
   | exact LeO.none _
   | refine LeO.ite ?_ ?_
   | refine LeO.bind ?_ (fun _ => ?_)
  ·intro y0 y1 y2 y3 y4 y5 y6 y7 y8 y9 y10 y11
   unfold spec_MachNew.l0
   repeat' first
   | (with_reducible exact ih0 _ _ _ _ _)
   | (with_reducible exact ih1 _ _ _ _ _ _ _ _ _ _ _ _)
   | (with_reducible exact spec_l5Words.mono _ _)
   | (with_reducible exact LeO.refl _)
   | (with_reducible exact LeO.none _)
   | (with_reducible refine LeO.ite ?_ ?_)
   | (with_reducible refine LeO.bind ?_ (fun _ => ?_))
   | exact ih0 _ _ _ _ _
   | exact ih1 _ _ _ _ _ _ _ _ _ _ _ _
   | exact spec_l5Words.mono _ _
   | exact LeO.none _
   | refine LeO.ite ?_ ?_
   | refine LeO.bind ?_ (fun _ => ?_)
theorem spec_MachNew.mono : ∀ a0 a1 a2 a3 k, LeO (spec_MachNew.f k a0 a1 a2 a3) (spec_MachNew.f (k + 1) a0 a1 a2 a3) := by
 intro a0 a1 a2 a3 k
 obtain ⟨ih0, ih1⟩ := spec_MachNew.mono_l k
 unfold spec_MachNew.f
 repeat' first
   | (with_reducible exact ih0 _ _ _ _ _)
   | (with_reducible exact ih1 _ _ _ _ _ _ _ _ _ _ _ _)
   | (with_reducible exact spec_l5Words.mono _ _)
   | (with_reducible exact LeO.refl _)
   | (with_reducible exact LeO.none _)
   | (with_reducible refine LeO.ite ?_ ?_)
   | (with_reducible refine LeO.bind ?_ (fun _ => ?_))
   | exact ih0 _ _ _ _ _
   | exact ih1 _ _ _ _ _ _ _ _ _ _ _ _
   | exact spec_l5Words.mono _ _
   | exact LeO.none _
   | refine LeO.ite ?_ ?_
   | refine LeO.bind ?_ (fun _ => ?_)
def spec_MachNew.T3 : Bool × List (List Nat × List Nat) := (true, [([], []), ([], []), ([], []), ([], []), ([2, 3], [2, 3]), ([0, 1, 4], [0, 1, 4]), ([], []), ([6, 5, 4, 0, 1, 2, 3, 4, 5, 6], [5, 6])])
def spec_MachNew.B3 : List Nat := [0, 0, 0, 0, 12, 31, 0, 127]
theorem spec_MachNew.tab3 : rtab .any (opsOf Try.f27 3) = spec_MachNew.T3 := by kernel_rfl
theorem spec_MachNew.bits3 : waitsOk spec_MachNew.T3.2 spec_MachNew.B3 = true := by kernel_rfl
def spec_MachNew.T7 : Bool × List (List Nat × List Nat) := (true, [([], []), ([0], [0]), ([], []), ([2], [2]), ([], []), ([3, 4], [3, 4]), ([], []), ([], []), ([6, 7], [6, 7]), ([8], [8]), ([1, 5, 0, 1, 2, 3, 4, 5, 6, 7, 8, 9], [1, 5]), ([10, 9, 0, 1, 2, 3, 4, 5, 6, 7, 8, 9], [9, 10])])
def spec_MachNew.B7 : List Nat := [0, 1, 0, 4, 0, 28, 0, 0, 192, 448, 1023, 2047]
theorem spec_MachNew.tab7 : rtab .any (opsOf Try.f27 7) = spec_MachNew.T7 := by kernel_rfl
theorem spec_MachNew.bits7 : waitsOk spec_MachNew.T7.2 spec_MachNew.B7 = true := by kernel_rfl
structure MsI (y0 y1 y2 y4 : List Int) (gr : Nat) (w0 : World) (b0 b1 b2 b4 b5 b6 : Bool) (x0 x1 x2 x4 vb vp : Value) (g : Nat) (w : World) : Prop where
 bel : Below w0.heap.size w0 w
 r0 : RwB b0 w0.heap.size w x0 y0
 r1 : RwB b1 w0.heap.size w x1 y1
 r2 : RwB (b2 && !b4) w0.heap.size w x2 y2
 r4 : RwB b4 w0.heap.size w x4 y4
 d01 : Dj b0 b1 x0 x1
 d02 : Dj b0 (b2 && !b4) x0 x2
 d04 : Dj b0 b4 x0 x4
 d12 : Dj b1 (b2 && !b4) x1 x2
 d14 : Dj b1 b4 x1 x4
 h4 : b4 = true → b2 = true
 hb : b5 = true → b0 = true ∧ b1 = true ∧ b4 = true ∧ vb = .agg #[x0, x1, .bool false, .bool false, .bool false, .bool false, x4, .slice none 0 0, .int .i64 0]
 hp : b6 = true → vp = .pointer (some ⟨g, 0, none⟩) ∧ w0.heap.size ≤ g ∧ w.heap[g]? = some (.cells #[.slice none 0 0, .slice none 0 0, .bool false, .bool false, .bool false, .bool false, .slice none 0 0, .slice none 0 0, .int .i64 0] 28 (0, 0)) ∧ (b0 = true → x0.ownBlock ≠ some g) ∧ (b1 = true → x1.ownBlock ≠ some g) ∧ ((b2 && !b4) = true → x2.ownBlock ≠ some g) ∧ (b4 = true → x4.ownBlock ≠ some g) ∧ gr ≠ g
 hr : w.heap[gr]? = some (.cells #[.slice none 0 0, .slice none 0 0, .bool false, .bool false, .bool false, .bool false, .slice none 0 0, .slice none 0 0, .int .i64 0] 28 (0, 0))
section
variable {g gr : Nat} {y0 y1 y2 y4 : List Int} {w0 w w' : World} {b0 b1 b2 b4 b5 b6 : Bool} {x0 x1 x2 x4 vb vp : Value}
theorem MsI.s0 {v : Value} (h : MsI y0 y1 y2 y4 gr w0 false b1 b2 b4 b5 b6 x0 x1 x2 x4 vb vp g w) (ho : (Kd.int .i64).R 3 w' w.heap.size (fun _ => True) v y0) (hb : Below w.heap.size w w') : MsI y0 y1 y2 y4 gr w0 true b1 b2 b4 b5 b6 v x1 x2 x4 vb vp g w' :=
 ⟨below_step h.bel hb, RwB.new ho h.bel.size, h.r1.keep hb, h.r2.keep hb, h.r4.keep hb, (Dj.new ho h.r1).1, (Dj.new ho h.r2).1, (Dj.new ho h.r4).1, h.d12, h.d14, h.h4, fun e => absurd (h.hb e).1 (by simp),
  (fun e => by
   obtain ⟨e1, e2, e3, e4, e5, e6, e7, e8⟩ := h.hp e
   exact ⟨e1, e2, (hb.block g (blk_lt e3)).trans e3, fun _ e => absurd (blk_lt e3) (Nat.not_lt.2 ((Kd.R_bound ho).1 g e).2.1), e5, e6, e7, e8⟩), (hb.block _ (blk_lt h.hr)).trans h.hr⟩
theorem MsI.s1 {v : Value} (h : MsI y0 y1 y2 y4 gr w0 b0 false b2 b4 b5 b6 x0 x1 x2 x4 vb vp g w) (ho : (Kd.int .i64).R 3 w' w.heap.size (fun _ => True) v y1) (hb : Below w.heap.size w w') : MsI y0 y1 y2 y4 gr w0 b0 true b2 b4 b5 b6 x0 v x2 x4 vb vp g w' :=
 ⟨below_step h.bel hb, h.r0.keep hb, RwB.new ho h.bel.size, h.r2.keep hb, h.r4.keep hb, (Dj.new ho h.r0).2, h.d02, h.d04, (Dj.new ho h.r2).1, (Dj.new ho h.r4).1, h.h4, fun e => absurd (h.hb e).2.1 (by simp),
  (fun e => by
   obtain ⟨e1, e2, e3, e4, e5, e6, e7, e8⟩ := h.hp e
   exact ⟨e1, e2, (hb.block g (blk_lt e3)).trans e3, e4, fun _ e => absurd (blk_lt e3) (Nat.not_lt.2 ((Kd.R_bound ho).1 g e).2.1), e6, e7, e8⟩), (hb.block _ (blk_lt h.hr)).trans h.hr⟩
theorem MsI.s2 {v : Value} (h : MsI y0 y1 y2 y4 gr w0 b0 b1 false b4 b5 b6 x0 x1 x2 x4 vb vp g w) (ho : (Kd.int .i64).R 3 w' w.heap.size (fun _ => True) v y2) (hb : Below w.heap.size w w') : MsI y0 y1 y2 y4 gr w0 b0 b1 true b4 b5 b6 x0 x1 v x4 vb vp g w' := by
 have e4 : b4 = false := by cases e : b4 with
  | false => rfl
  | true => exact absurd (h.h4 e) (by simp)
 subst e4
 exact ⟨below_step h.bel hb, h.r0.keep hb, h.r1.keep hb, RwB.new ho h.bel.size, h.r4.keep hb, h.d01, (Dj.new ho h.r0).2, h.d04, (Dj.new ho h.r1).2, h.d14, fun _ => rfl, h.hb,
  (fun e => by
   obtain ⟨e1, e2, e3, e4, e5, e6, e7, e8⟩ := h.hp e
   exact ⟨e1, e2, (hb.block g (blk_lt e3)).trans e3, e4, e5, fun _ e => absurd (blk_lt e3) (Nat.not_lt.2 ((Kd.R_bound ho).1 g e).2.1), e7, e8⟩), (hb.block _ (blk_lt h.hr)).trans h.hr⟩
theorem MsI.s4 {v : Value} (h : MsI y0 y1 y2 y4 gr w0 b0 b1 true false b5 b6 x0 x1 x2 x4 vb vp g w) (ho : (Kd.int .i64).R 3 w' w0.heap.size (fun _ => True) v y4) (hb : Below w0.heap.size w0 w') (hg : w.grownBy w' x2.ownBlock) (ha : v.ownBlock = x2.ownBlock ∨ ∃ b, v.ownBlock = some b ∧ w.heap.size ≤ b) : MsI y0 y1 y2 y4 gr w0 b0 b1 true true b5 b6 x0 x1 x2 v vb vp g w' := by
 have new : ∀ {b : Bool} {u : Value} {ys : List Int}, RwB b w0.heap.size w u ys → Dj b true u x2 → Dj b true u v := fun hl hd q _ k hk e => by
  rcases ha with ha | ⟨b, hb, hle⟩
  ·exact hd q rfl k hk (ha ▸ e)
  ·have := hl.lt q k hk
   rw [hb] at e
   injection e with e
   omega
 have nr : some gr ≠ x2.ownBlock := fun e => by
  obtain ⟨q, hq, cs, hc⟩ := ((Kd.R_bound (h.r2 rfl)).1 gr e.symm).2.2.2
  rw [h.hr] at hc
  injection hc with hc
  injection hc with _ h2 _
  rw [← h2] at hq
  exact absurd hq (by decide)
 refine ⟨hb, h.r0.grown hg (fun q k hk e => h.d02 q rfl k hk e.symm), h.r1.grown hg (fun q k hk e => h.d12 q rfl k hk e.symm), .un, fun _ => ho, h.d01, .un', new h.r0 h.d02, .un', new h.r1 h.d12, fun _ => rfl, fun e => absurd (h.hb e).2.2.1 (by simp), (fun e => ?_), (hg.block _ (blk_lt h.hr) nr).trans h.hr⟩
 obtain ⟨e1, e2, e3, e4, e5, e6, e7, e8⟩ := h.hp e
 refine ⟨e1, e2, (hg.block g (blk_lt e3) (fun e => e6 rfl e.symm)).trans e3, e4, e5, (fun e => by cases e), fun _ e => ?_, e8⟩
 rcases ha with ha | ⟨b, hb, hle⟩
 ·exact e6 rfl (ha ▸ e)
 ·have := blk_lt e3
  rw [hb] at e
  injection e with e
  omega
theorem MsI.sb (h : MsI y0 y1 y2 y4 gr w0 b0 b1 b2 b4 false b6 x0 x1 x2 x4 vb vp g w) (e0 : b0 = true) (e1 : b1 = true) (e4 : b4 = true) : MsI y0 y1 y2 y4 gr w0 b0 b1 b2 b4 true b6 x0 x1 x2 x4 (.agg #[x0, x1, .bool false, .bool false, .bool false, .bool false, x4, .slice none 0 0, .int .i64 0]) vp g w :=
 ⟨h.bel, h.r0, h.r1, h.r2, h.r4, h.d01, h.d02, h.d04, h.d12, h.d14, h.h4, fun _ => ⟨e0, e1, e4, rfl⟩, h.hp, h.hr⟩
theorem MsI.sa {g' : Nat} (h : MsI y0 y1 y2 y4 gr w0 b0 b1 b2 b4 b5 false x0 x1 x2 x4 vb vp g w) (hg : g' = w.heap.size) (hx : w'.heap[g']? = some (.cells #[.slice none 0 0, .slice none 0 0, .bool false, .bool false, .bool false, .bool false, .slice none 0 0, .slice none 0 0, .int .i64 0] 28 (0, 0))) (hb : Below w.heap.size w w') : MsI y0 y1 y2 y4 gr w0 b0 b1 b2 b4 b5 true x0 x1 x2 x4 vb (.pointer (some ⟨g', 0, none⟩)) g' w' :=
 ⟨below_step h.bel hb, h.r0.keep hb, h.r1.keep hb, h.r2.keep hb, h.r4.keep hb, h.d01, h.d02, h.d04, h.d12, h.d14, h.h4, h.hb, fun _ => ⟨rfl, hg ▸ h.bel.size, hx, fun q e => absurd (h.r0.lt q g' e) (by omega), fun q e => absurd (h.r1.lt q g' e) (by omega), fun q e => absurd (h.r2.lt q g' e) (by omega), fun q e => absurd (h.r4.lt q g' e) (by omega), fun e => absurd (blk_lt h.hr) (by omega)⟩, (hb.block _ (blk_lt h.hr)).trans h.hr⟩
end
set_option maxHeartbeats 8000000 in
set_option maxRecDepth 100000 in
theorem spec_MachNew.calls (k : Nat) (A0 : Option Addr) (c0 : Nat) (l0 : List Int) (a1 : Int) (a2 : Int) (A3 : Option Addr) (c3 : Nat) (l3 : List Int) (r1 : List Int) (r2 : List Int) (r3 : Bool) (r4 : Bool) (r5 : Bool) (r6 : Bool) (r7 : List Int) (r8 : List Int) (r9 : Int) (w : World) (hr0 : Kd.C (Kd.int .i64) w A0 l0.length l0) (hc0 : l0.length ≤ c0) (hr3 : Kd.C (Kd.int .i64) w A3 l3.length l3) (hc3 : l3.length ≤ c3) (h : spec_MachNew.f k l0 a1 a2 l3 = some (r1, r2, r3, r4, r5, r6, r7, r8, r9)) :
  Calls Try.prog 27 #[.slice A0 l0.length c0, .int .i64 a1, .int .i64 a2, .slice A3 l3.length c3] w fun e w' => ∃ v0_ v1_ v6_ v7_ : Value, e = .returned (.agg #[v0_, v1_, .bool r3, .bool r4, .bool r5, .bool r6, v6_, v7_, .int .i64 r9]) ∧ Kd.R (Kd.int .i64) 3 w' w.heap.size (fun k_ => some k_ ≠ (v1_ : Value).ownBlock ∧ some k_ ≠ (v6_ : Value).ownBlock ∧ some k_ ≠ (v7_ : Value).ownBlock) v0_ r1 ∧ Kd.R (Kd.int .i64) 3 w' w.heap.size (fun k_ => some k_ ≠ (v0_ : Value).ownBlock ∧ some k_ ≠ (v6_ : Value).ownBlock ∧ some k_ ≠ (v7_ : Value).ownBlock) v1_ r2 ∧ Kd.R (Kd.int .i64) 3 w' w.heap.size (fun k_ => some k_ ≠ (v0_ : Value).ownBlock ∧ some k_ ≠ (v1_ : Value).ownBlock ∧ some k_ ≠ (v7_ : Value).ownBlock) v6_ r7 ∧ Kd.R (Kd.int .i64) 3 w' w.heap.size (fun k_ => some k_ ≠ (v0_ : Value).ownBlock ∧ some k_ ≠ (v1_ : Value).ownBlock ∧ some k_ ≠ (v6_ : Value).ownBlock) v7_ r8 ∧ Below w.heap.size w w' := by
 have hu28 := Try.underlying28
 have HR0 := A_ hr0
 have HC0 := A_ hc0
 clear hr0 hc0
 have HR3 := A_ hr3
 have HC3 := A_ hc3
 clear hr3 hc3
 have HB := A_ (Below.refl w.heap.size w)
 have H : ((spec_l1In.f a1 0 510).bind fun t240 => (if t240 = true then (if (Int.tmod a1 2) = 0 then (if (l0.length : Int) > (wrap64 (256 - (wrap64 (Int.tdiv a1 2)))) then (spec_MachNew.j0 k l0 a1 a2 l3 true) else ((spec_l5Words.f k l0).bind fun t241 => (if t241 = true then ((spec_l1In.f a2 0 65535).bind fun t242 => (if t242 = true then (if (l3.length : Int) > 50 then (spec_MachNew.j0 k l0 a1 a2 l3 true) else ((spec_l5Words.f k l3).bind fun t243 => (spec_MachNew.j0 k l0 a1 a2 l3 (!t243)))) else (spec_MachNew.j0 k l0 a1 a2 l3 true))) else (spec_MachNew.j0 k l0 a1 a2 l3 true)))) else (spec_MachNew.j0 k l0 a1 a2 l3 true)) else (spec_MachNew.j0 k l0 a1 a2 l3 true))) = some (r1, r2, r3, r4, r5, r6, r7, r8, r9) := h
 clear h
 have HC5 := A_ H
 clear H
 go_enter Try.func27, Try.ntmps27
 go_upto_region 1 with (first | ((with_reducible refine gate_dst (N := 8) rfl ?_); (try (refine gate_guard (by rfl) ?_; dsimp only)); refine bx_ 8 #[.slice none 0 0, .slice none 0 0, .bool false, .bool false, .bool false, .bool false, .slice none 0 0, .slice none 0 0, .int .i64 0] 28 ?_; intro gb239 hg w6 hbox hb; have n0_ := A_ (below_step (bw_ HB.out) hb); have n1_ := A_ (hbox); have n2_ := A_ ((d5_ : w.heap.size ≤ gb239)); have n3_ := n2_; clear HB; have HB := n0_; have BK239 := n1_; have GW239 := n2_; have GE239 := n3_; have GI239 := GeI.mk GE239.out; clear n0_ n1_ n2_ n3_; clear hb hbox hg))
 (try simp only [Act.put, List.setIfInBounds_toArray, List.set_cons_zero, List.set_cons_succ])
 go_cut [46] (fun v46 wc => ∃ (kq : Nat) (x46_4 : Bool), v46 = .bool x46_4 ∧ Aside0 (spec_MachNew.j0 kq l0 a1 a2 l3 x46_4 = some (r1, r2, r3, r4, r5, r6, r7, r8, r9)) ∧ Aside0 (kq ≤ k) ∧ Aside0 (wc.heap[gb239]? = some (.cells #[(.slice none 0 0), (.slice none 0 0), .bool false, .bool false, .bool false, .bool false, (.slice none 0 0), (.slice none 0 0), .int .i64 0] 28 (0, 0))) ∧ Aside0 (Below w.heap.size w wc))
 case first =>
  have H := HC5.out
  clear HC5
  replace H := Option.bind_eq_some_iff.mp H
  obtain ⟨t240, A70, H⟩ := H
  try dsimp only at H
  have A7 := A_ A70
  clear A70
  by_cases c8 : t240 = true
  ·subst c8
   rw [if_pos rfl] at H
   by_cases c9 : (Int.tmod a1 2) = 0
   ·rw [if_pos c9] at H
    have c9b0 := beq_iff_eq.mpr c9
    have c9b1 := bne_eq_false_iff_eq.mpr c9
    clear c9
    (first | rw [c9b0] | (simp only [i64_w, i32_w]; rw [c9b0]) | skip)
    by_cases c10 : (l0.length : Int) > (wrap64 (256 - (wrap64 (Int.tdiv a1 2))))
    ·rw [if_pos c10] at H
     have c10b0 := decide_eq_true c10
     clear c10
     have H' := A_ H
     clear H
     go_wp2_with (first | ((with_reducible refine gate_callee (f := 57) rfl ?_); refine gL_ (some 12) Try.func57 #[.int .i64 a1, .int .i64 0, .int .i64 510] ?_; (with_reducible refine (spec_l1In.calls a1 0 510 true _ A7.out).mono ?_); rintro e w' ⟨rfl, ⟨nd, rfl⟩⟩; refine ⟨_, rfl, ?_⟩))
     go_meet
     case rel => exact ⟨_, (true), d6_, H', ⟨by first | omega | exact Nat.le_refl _⟩, ⟨by refine bk_ ?_; exact BK239.out⟩, ⟨bw_ HB.out⟩⟩
    ·rw [if_neg c10] at H
     have c10b0 := decide_eq_false c10
     clear c10
     replace H := Option.bind_eq_some_iff.mp H
     obtain ⟨t241, A110, H⟩ := H
     try dsimp only at H
     have A11 := A_ A110
     clear A110
     by_cases c12 : t241 = true
     ·subst c12
      rw [if_pos rfl] at H
      replace H := Option.bind_eq_some_iff.mp H
      obtain ⟨t242, A130, H⟩ := H
      try dsimp only at H
      have A13 := A_ A130
      clear A130
      by_cases c14 : t242 = true
      ·subst c14
       rw [if_pos rfl] at H
       by_cases c15 : (l3.length : Int) > 50
       ·rw [if_pos c15] at H
        have c15b0 := decide_eq_true c15
        have c15b1 : decide (50 < l3.length) = true := decide_eq_true (by omega)
        clear c15
        have H' := A_ H
        clear H
        go_wp2_with (first | ((with_reducible refine gate_callee (f := 57) rfl ?_); refine gL_ (some 12) Try.func57 #[.int .i64 a1, .int .i64 0, .int .i64 510] ?_; (with_reducible refine (spec_l1In.calls a1 0 510 true _ A7.out).mono ?_); rintro e w' ⟨rfl, ⟨nd, rfl⟩⟩; refine ⟨_, rfl, ?_⟩) | (go_at_call 59; (with_reducible refine (spec_l5Words.calls k _ _ l0 true _ ?side1 ?side2 A11.out).mono ?_); (case side1 => exact Kd.C_below HR0.out (bw_ HB.out)); (case side2 => exact HC0.out); rintro e w' ⟨rfl, ⟨nd, rfl⟩⟩) | (go_at_call 57; (with_reducible refine (spec_l1In.calls a2 0 65535 true _ A13.out).mono ?_); rintro e w' ⟨rfl, ⟨nd, rfl⟩⟩))
        go_meet
        case rel => exact ⟨_, (true), d6_, H', ⟨by first | omega | exact Nat.le_refl _⟩, ⟨by refine bk_ ?_; exact BK239.out⟩, ⟨bw_ HB.out⟩⟩
       ·rw [if_neg c15] at H
        have c15b0 := decide_eq_false c15
        have c15b1 : decide (50 < l3.length) = false := decide_eq_false (by omega)
        clear c15
        replace H := Option.bind_eq_some_iff.mp H
        obtain ⟨t243, A160, H⟩ := H
        try dsimp only at H
        have A16 := A_ A160
        clear A160
        have H' := A_ H
        clear H
        go_wp2_with (first | ((with_reducible refine gate_callee (f := 57) rfl ?_); refine gL_ (some 12) Try.func57 #[.int .i64 a1, .int .i64 0, .int .i64 510] ?_; (with_reducible refine (spec_l1In.calls a1 0 510 true _ A7.out).mono ?_); rintro e w' ⟨rfl, ⟨nd, rfl⟩⟩; refine ⟨_, rfl, ?_⟩) | (go_at_call 59; (with_reducible refine (spec_l5Words.calls k _ _ l0 true _ ?side1 ?side2 A11.out).mono ?_); (case side1 => exact Kd.C_below HR0.out (bw_ HB.out)); (case side2 => exact HC0.out); rintro e w' ⟨rfl, ⟨nd, rfl⟩⟩) | (go_at_call 57; (with_reducible refine (spec_l1In.calls a2 0 65535 true _ A13.out).mono ?_); rintro e w' ⟨rfl, ⟨nd, rfl⟩⟩) | (go_at_call 59; (with_reducible refine (spec_l5Words.calls k _ _ l3 t243 _ ?side1 ?side2 A16.out).mono ?_); (case side1 => exact Kd.C_below HR3.out (bw_ HB.out)); (case side2 => exact HC3.out); rintro e w' ⟨rfl, ⟨nd, rfl⟩⟩))
        go_meet
        case rel => exact ⟨_, (!t243), d6_, H', ⟨by first | omega | exact Nat.le_refl _⟩, ⟨by refine bk_ ?_; exact BK239.out⟩, ⟨bw_ HB.out⟩⟩
      ·replace c14 := Bool.eq_false_iff.mpr c14
       subst c14
       rw [if_neg (show ¬ (false = true) by decide)] at H
       have H' := A_ H
       clear H
       go_wp2_with (first | ((with_reducible refine gate_callee (f := 57) rfl ?_); refine gL_ (some 12) Try.func57 #[.int .i64 a1, .int .i64 0, .int .i64 510] ?_; (with_reducible refine (spec_l1In.calls a1 0 510 true _ A7.out).mono ?_); rintro e w' ⟨rfl, ⟨nd, rfl⟩⟩; refine ⟨_, rfl, ?_⟩) | (go_at_call 59; (with_reducible refine (spec_l5Words.calls k _ _ l0 true _ ?side1 ?side2 A11.out).mono ?_); (case side1 => exact Kd.C_below HR0.out (bw_ HB.out)); (case side2 => exact HC0.out); rintro e w' ⟨rfl, ⟨nd, rfl⟩⟩) | (go_at_call 57; (with_reducible refine (spec_l1In.calls a2 0 65535 false _ A13.out).mono ?_); rintro e w' ⟨rfl, ⟨nd, rfl⟩⟩))
       go_meet
       case rel => exact ⟨_, (true), d6_, H', ⟨by first | omega | exact Nat.le_refl _⟩, ⟨by refine bk_ ?_; exact BK239.out⟩, ⟨bw_ HB.out⟩⟩
     ·replace c12 := Bool.eq_false_iff.mpr c12
      subst c12
      rw [if_neg (show ¬ (false = true) by decide)] at H
      have H' := A_ H
      clear H
      go_wp2_with (first | ((with_reducible refine gate_callee (f := 57) rfl ?_); refine gL_ (some 12) Try.func57 #[.int .i64 a1, .int .i64 0, .int .i64 510] ?_; (with_reducible refine (spec_l1In.calls a1 0 510 true _ A7.out).mono ?_); rintro e w' ⟨rfl, ⟨nd, rfl⟩⟩; refine ⟨_, rfl, ?_⟩) | (go_at_call 59; (with_reducible refine (spec_l5Words.calls k _ _ l0 false _ ?side1 ?side2 A11.out).mono ?_); (case side1 => exact Kd.C_below HR0.out (bw_ HB.out)); (case side2 => exact HC0.out); rintro e w' ⟨rfl, ⟨nd, rfl⟩⟩))
      go_meet
      case rel => exact ⟨_, (true), d6_, H', ⟨by first | omega | exact Nat.le_refl _⟩, ⟨by refine bk_ ?_; exact BK239.out⟩, ⟨bw_ HB.out⟩⟩
   ·rw [if_neg c9] at H
    have c9b0 := beq_eq_false_iff_ne.mpr c9
    have c9b1 := bne_iff_ne.mpr c9
    (first | rw [c9b0] | (simp only [i64_w, i32_w]; rw [c9b0]) | skip)
    have H' := A_ H
    clear H
    go_wp2_with (first | ((with_reducible refine gate_callee (f := 57) rfl ?_); refine gL_ (some 12) Try.func57 #[.int .i64 a1, .int .i64 0, .int .i64 510] ?_; (with_reducible refine (spec_l1In.calls a1 0 510 true _ A7.out).mono ?_); rintro e w' ⟨rfl, ⟨nd, rfl⟩⟩; refine ⟨_, rfl, ?_⟩))
    go_meet
    case rel => exact ⟨_, (true), d6_, H', ⟨by first | omega | exact Nat.le_refl _⟩, ⟨by refine bk_ ?_; exact BK239.out⟩, ⟨bw_ HB.out⟩⟩
  ·replace c8 := Bool.eq_false_iff.mpr c8
   subst c8
   rw [if_neg (show ¬ (false = true) by decide)] at H
   have H' := A_ H
   clear H
   go_wp2_with (first | ((with_reducible refine gate_callee (f := 57) rfl ?_); refine gL_ (some 12) Try.func57 #[.int .i64 a1, .int .i64 0, .int .i64 510] ?_; (with_reducible refine (spec_l1In.calls a1 0 510 false _ A7.out).mono ?_); rintro e w' ⟨rfl, ⟨nd, rfl⟩⟩; refine ⟨_, rfl, ?_⟩))
   go_meet
   case rel => exact ⟨_, (true), d6_, H', ⟨by first | omega | exact Nat.le_refl _⟩, ⟨by refine bk_ ?_; exact BK239.out⟩, ⟨bw_ HB.out⟩⟩
 case rest =>
  clear HC5
  try clear c1
  try clear c2
  try clear p2
  try clear c3
  try clear c5
  try clear p6
  try clear c8
  try clear c9
  try clear c9b0
  try clear c9b1
  try clear c10
  try clear c10b0
  try clear c12
  try clear c14
  try clear c15
  try clear c15b0
  try clear c15b1
  obtain ⟨kq, x46_4, rfl, HA, HJ4, BK239, HB⟩ := hcut
  cases kq with
  | zero => exact absurd HA.out (by simp [spec_MachNew.j0])
  | succ kj4 =>
   have H := HA.out
   clear HA
   simp only [spec_MachNew.j0] at H
   by_cases c17 : x46_4 = true
   ·subst c17
    rw [if_pos rfl] at H
    simp only [Option.some.injEq, Prod.mk.injEq] at H
    obtain ⟨rfl, rfl, rfl, rfl, rfl, rfl, rfl, rfl, rfl⟩ := H
    obtain ⟨y18_0, y18_1, y18_2, y18_3, y18_4, y18_5, y18_6, y18_7, y18_8, z18_0, z18_1, z18_2, z18_3, z18_4, z18_5, z18_6, z18_7, z18_8⟩ := cz9_ BK239.out
    go_wp2
    refine bodyPost_ret (results_cell_row rfl _ _ gb239 28 #[.slice none 0 0, .slice none 0 0, .bool false, .bool false, .bool false, .bool false, .slice none 0 0, .slice none 0 0, .int .i64 0] (0, 0) _ rfl ?hb_ Try.underlying28 rfl (by kernel_rfl)) rfl ?_
    (case hb_ => exact bk_ (bp9_ (bk_ BK239.out)))
    exact ⟨_, _, _, _, by first | rfl | (simp [errW_none, errW_some] <;> rfl) | (simp [*, errW_none, errW_some] <;> rfl), by first | exact Kd.R_nil _ _ _ _ _ | exact Kd.N_nil _ _ _ _ _ | exact Kd.V_nil _ _ _ _ _ | exact Kd.Q_nil _ _ _ _ _ | exact Kd.S_nil _ _ _ _ _, by first | exact Kd.R_nil _ _ _ _ _ | exact Kd.N_nil _ _ _ _ _ | exact Kd.V_nil _ _ _ _ _ | exact Kd.Q_nil _ _ _ _ _ | exact Kd.S_nil _ _ _ _ _, by first | exact Kd.R_nil _ _ _ _ _ | exact Kd.N_nil _ _ _ _ _ | exact Kd.V_nil _ _ _ _ _ | exact Kd.Q_nil _ _ _ _ _ | exact Kd.S_nil _ _ _ _ _, by first | exact Kd.R_nil _ _ _ _ _ | exact Kd.N_nil _ _ _ _ _ | exact Kd.V_nil _ _ _ _ _ | exact Kd.Q_nil _ _ _ _ _ | exact Kd.S_nil _ _ _ _ _, bw_ HB.out⟩
   ·replace c17 := Bool.eq_false_iff.mpr c17
    subst c17
    rw [if_neg (show ¬ (false = true) by decide)] at H
    by_cases c19 : 256 ≤ 35184372088832
    ·rw [if_pos c19] at H
     have c19b0 := eq_true c19
     have c19b1 := decide_eq_true c19
     clear c19
     obtain ⟨y244, hy244⟩ : ∃ y_ : List Int, y_ = (List.replicate 256 0) := ⟨_, rfl⟩
     replace H : (if 8 ≤ 35184372088832 then ((some (([] : List Int) : List Int)).bind fun y250 => (if y250.length + l3.length < 17592186044416 then (spec_MachNew.l0 kj4 l0 a1 a2 0 y244 (List.replicate 8 0) false false false false (y250 ++ l3) 0) else (none))) else (none)) = some (r1, r2, r3, r4, r5, r6, r7, r8, r9) := by first | (rw [hy244]; with_reducible exact H) | (have H2_ := (Option.bind_some _ _).symm.trans H; rw [hy244]; with_reducible exact H2_) | (have H2_ := (Option.bind_some _ _).symm.trans H; with_reducible exact H2_) | with_reducible exact H | (rw [hy244]; exact H) | exact H
     have Ny244 := A_ hy244
     clear hy244
     by_cases c20 : 8 ≤ 35184372088832
     ·rw [if_pos c20] at H
      have c20b0 := eq_true c20
      have c20b1 := decide_eq_true c20
      clear c20
      obtain ⟨y247, hy247⟩ : ∃ y_ : List Int, y_ = (List.replicate 8 0) := ⟨_, rfl⟩
      replace H : ((some (([] : List Int) : List Int)).bind fun y250 => (if y250.length + l3.length < 17592186044416 then (spec_MachNew.l0 kj4 l0 a1 a2 0 y244 y247 false false false false (y250 ++ l3) 0) else (none))) = some (r1, r2, r3, r4, r5, r6, r7, r8, r9) := by first | (rw [hy247]; with_reducible exact H) | (have H2_ := (Option.bind_some _ _).symm.trans H; rw [hy247]; with_reducible exact H2_) | (have H2_ := (Option.bind_some _ _).symm.trans H; with_reducible exact H2_) | with_reducible exact H | (rw [hy247]; exact H) | exact H
      have Ny247 := A_ hy247
      clear hy247
      obtain ⟨y250, hy250⟩ : ∃ y_ : List Int, y_ = (([] : List Int)) := ⟨_, rfl⟩
      replace H : (if y250.length + l3.length < 17592186044416 then (spec_MachNew.l0 kj4 l0 a1 a2 0 y244 y247 false false false false (y250 ++ l3) 0) else (none)) = some (r1, r2, r3, r4, r5, r6, r7, r8, r9) := by first | (rw [hy250]; with_reducible exact H) | (have H2_ := (Option.bind_some _ _).symm.trans H; rw [hy250]; with_reducible exact H2_) | (have H2_ := (Option.bind_some _ _).symm.trans H; with_reducible exact H2_) | with_reducible exact H | (rw [hy250]; exact H) | exact H
      have Ny250 := A_ hy250
      clear hy250
      by_cases c21 : y250.length + l3.length < 17592186044416
      ·rw [if_pos c21] at H
       have LMc21 := A_ c21
       clear c21
       obtain ⟨y253, hy253⟩ : ∃ y_ : List Int, y_ = (y250 ++ l3) := ⟨_, rfl⟩
       replace H : (spec_MachNew.l0 kj4 l0 a1 a2 0 y244 y247 false false false false y253 0) = some (r1, r2, r3, r4, r5, r6, r7, r8, r9) := by first | (rw [hy253]; with_reducible exact H) | (have H2_ := (Option.bind_some _ _).symm.trans H; rw [hy253]; with_reducible exact H2_) | (have H2_ := (Option.bind_some _ _).symm.trans H; with_reducible exact H2_) | with_reducible exact H | (rw [hy253]; exact H) | exact H
       have Ny253 := A_ hy253
       clear hy253
       have H' := A_ H
       clear H
       try go_wp2
       replace BK239 := A_ (blk_drew BK239.out)
       replace HB := A_ (below_drew1 HB.out)
       refine start_ (n := 8) (S := fun w' => True) (ds := []) #[false, false, false, false, false, false, false, false] (by kernel_rfl) rfl rfl trivial (fun hHeld => ?_); refine with_tabW spec_MachNew.tab3 spec_MachNew.bits3 (fun HT_ HW_ => ?_)
       generalize wc.drew = w22 at BK239 HB hHeld ⊢
       refine pu_ 3 (some 51) (bm_ 8 8) (any_of HT_.out (by kernel_rfl)) ?_
       refine join_ (σ := Value × Value × Value × Value × Nat) 1 (bm_ 8 127) (fun s_ => [(48, s_.1), (49, s_.2.1), (50, s_.2.2.1), (52, s_.2.2.2.1), (9, .pointer (some ⟨s_.2.2.2.2, 0, none⟩)), (53, .agg #[s_.1, s_.2.1, .bool false, .bool false, .bool false, .bool false, s_.2.2.2.1, .slice none 0 0, .int .i64 0])]) (fun s_ w' => (Kd.R (Kd.int .i64) 3 w' w.heap.size (fun k_ => some k_ ≠ (s_.2.1 : Value).ownBlock ∧ some k_ ≠ (s_.2.2.2.1 : Value).ownBlock) s_.1 y244) ∧ (Kd.R (Kd.int .i64) 3 w' w.heap.size (fun k_ => some k_ ≠ (s_.1 : Value).ownBlock ∧ some k_ ≠ (s_.2.2.2.1 : Value).ownBlock) s_.2.1 y247) ∧ (Kd.R (Kd.int .i64) 3 w' w.heap.size (fun k_ => some k_ ≠ (s_.1 : Value).ownBlock ∧ some k_ ≠ (s_.2.1 : Value).ownBlock) s_.2.2.2.1 y253) ∧ (w'.heap[gb239]? = some (.cells #[.slice none 0 0, .slice none 0 0, .bool false, .bool false, .bool false, .bool false, .slice none 0 0, .slice none 0 0, .int .i64 0] 28 (0, 0))) ∧ (w'.heap[s_.2.2.2.2]? = some (.cells #[.slice none 0 0, .slice none 0 0, .bool false, .bool false, .bool false, .bool false, .slice none 0 0, .slice none 0 0, .int .i64 0] 28 (0, 0))) ∧ (w.heap.size ≤ s_.2.2.2.2) ∧ (w.heap.size ≤ s_.2.2.2.2) ∧ (gb239 ≠ s_.2.2.2.2) ∧ (s_.2.2.2.2 ≠ gb239) ∧ (Below w.heap.size w w')) ?_ ?_
       rotate_left
       ·intro hJ
        refine open3_ (n := 8) (l := #[false, false, false, true, false, false, false, false]) #[true, true, true, true, true, true, true, false] (σ := Value × Value × Value × Value × Value × Value × Nat) (fun s => [(48, s.1), (49, s.2.1), (50, s.2.2.1), (52, s.2.2.2.1), (53, s.2.2.2.2.1), (9, s.2.2.2.2.2.1)])
         (fun l s w' => MsI y244 y247 y250 y253 gb239 w (l.getD 0 false) (l.getD 1 false) (l.getD 2 false) (l.getD 4 false) (l.getD 5 false) (l.getD 6 false) s.1 s.2.1 s.2.2.1 s.2.2.2.1 s.2.2.2.2.1 s.2.2.2.2.2.1 s.2.2.2.2.2.2 w' ∧ l.getD 3 false = true ∧ l.getD 7 false = false)
         rfl (by kernel_rfl) ?step ?stop (fun s w' h => by cases h.2.2) (?v0, ?v1, ?v2, ?v4, ?vb, ?vp, 0) ?act rfl
         ⟨⟨(bw_ HB.out), .un, .un, .un, .un, .un, .un, .un, .un, .un, (fun h => by cases h), (fun h => by cases h), (fun h => by cases h), (bk_ BK239.out)⟩, rfl, rfl⟩
        case act =>
         simp only [putAll, Act.put, List.setIfInBounds_toArray, List.set_cons_zero, List.set_cons_succ]
         rfl
        case stop =>
         rintro ⟨x0, x1, x2, x4, vb, vp, g⟩ w1 ⟨hI, -, -⟩
         refine Aside0.out ?_
         replace hI : MsI y244 y247 y250 y253 gb239 w true true true true true true x0 x1 x2 x4 vb vp g w1 := hI
         obtain ⟨_, _, _, rfl⟩ := hI.hb rfl
         obtain ⟨rfl, hge, hx, hn0, hn1, hn2, hn4, hne⟩ := hI.hp rfl
         refine Aside0.mk ?_
         have hq := hJ (x0, x1, x2, x4, g) w1 ⟨⟨fun k hk => ⟨fun e => hI.d01 rfl rfl k hk e.symm, fun e => hI.d04 rfl rfl k hk e.symm⟩, (hI.r0 rfl).2⟩, ⟨fun k hk => ⟨fun e => hI.d01 rfl rfl k e.symm hk, fun e => hI.d14 rfl rfl k hk e.symm⟩, (hI.r1 rfl).2⟩, ⟨fun k hk => ⟨fun e => hI.d04 rfl rfl k e.symm hk, fun e => hI.d14 rfl rfl k e.symm hk⟩, (hI.r4 rfl).2⟩, hI.hr, hx, hge, hge, hne, hne.symm, hI.bel⟩
         simp only [putAll, Act.put, List.setIfInBounds_toArray, List.set_cons_zero, List.set_cons_succ] at hq ⊢
         exact hq
        case step =>
         rintro i oi l ⟨x0, x1, x2, x4, vb, vp, g⟩ w1 hi ho hl hne hun hd ⟨hI, h3, h7⟩ K hK
         dsimp only at hI
         have hf := gun hl hi hun
         have e : ∀ j, (l.setIfInBounds i true).getD j false = if i = j then true else l.getD j false := fun j => gst hl hi
         obtain rfl | rfl | rfl | rfl | rfl | rfl | rfl | rfl : i = 0 ∨ i = 1 ∨ i = 2 ∨ i = 3 ∨ i = 4 ∨ i = 5 ∨ i = 6 ∨ i = 7 := by omega
         all_goals (simp only [List.getElem?_toArray, List.getElem?_cons_zero, List.getElem?_cons_succ, Option.some.injEq] at ho; subst ho)
         ·rw [hf] at hI
          refine lit_ (a1 := ?_) ?_ ?_
          rotate_left
          ·simp only [putAll, Act.put, List.setIfInBounds_toArray, List.set_cons_zero, List.set_cons_succ]
           rfl
          refine Kd.R_make_step (Kd.int .i64) _ 3 (by rfl) (N := 48) rfl 22 _ _ rfl 256 rfl rfl Try.underlying22 (.int .i64 0) 8 info3 rfl (by decide) (by omega) 0 (ok := fun _ => True) (okp := fun _ => True) rfl (fun _ hk => hk) trivial (by omega) (by omega) (Below.refl _ _) (Nat.le_refl _) ?_
          intro v w2 ho hb _ _
          simp only [Int.reduceToNat] at ho
          rw [← Ny244.out] at ho
          have hq := hK (v, x1, x2, x4, vb, vp, g) w2 ⟨by rw [e, e, e, e, e, e]; exact hI.s0 ho hb, by rw [e]; exact h3, by rw [e]; exact h7⟩
          simp only [putAll, Act.put, List.setIfInBounds_toArray, List.set_cons_zero, List.set_cons_succ] at hq ⊢
          exact hq
         ·rw [hf] at hI
          refine lit_ (a1 := ?_) ?_ ?_
          rotate_left
          ·simp only [putAll, Act.put, List.setIfInBounds_toArray, List.set_cons_zero, List.set_cons_succ]
           rfl
          refine Kd.R_make_step (Kd.int .i64) _ 3 (by rfl) (N := 49) rfl 22 _ _ rfl 8 rfl rfl Try.underlying22 (.int .i64 0) 8 info3 rfl (by decide) (by omega) 0 (ok := fun _ => True) (okp := fun _ => True) rfl (fun _ hk => hk) trivial (by omega) (by omega) (Below.refl _ _) (Nat.le_refl _) ?_
          intro v w2 ho hb _ _
          simp only [Int.reduceToNat] at ho
          rw [← Ny247.out] at ho
          have hq := hK (x0, v, x2, x4, vb, vp, g) w2 ⟨by rw [e, e, e, e, e, e]; exact hI.s1 ho hb, by rw [e]; exact h3, by rw [e]; exact h7⟩
          simp only [putAll, Act.put, List.setIfInBounds_toArray, List.set_cons_zero, List.set_cons_succ] at hq ⊢
          exact hq
         ·rw [hf] at hI
          refine lit_ (a1 := ?_) ?_ ?_
          rotate_left
          ·simp only [putAll, Act.put, List.setIfInBounds_toArray, List.set_cons_zero, List.set_cons_succ]
           rfl
          refine Kd.R_lit_step (Kd.int .i64) _ 3 ?hg (N := 50) ?hd (xs := ([] : List Int)) (inner := []) (ok := fun _ => True) (okp := fun _ => True) ?hr ?hp (fun _ hk => hk) trivial (Below.refl _ _) (Nat.le_refl _) (by simp) ?_
          case hd => rfl
          case hg => rfl
          case hr => first | (go_simp; done) | (go_simp; rfl)
          case hp => exact (Reps.none _ _)
          intro v w2 ho hb _ _
          rw [← Ny250.out] at ho
          have hq := hK (x0, x1, v, x4, vb, vp, g) w2 ⟨by rw [e, e, e, e, e, e]; exact hI.s2 ho hb, by rw [e]; exact h3, by rw [e]; exact h7⟩
          simp only [putAll, Act.put, List.setIfInBounds_toArray, List.set_cons_zero, List.set_cons_succ] at hq ⊢
          exact hq
         ·rw [h3] at hf
          cases hf
         ·rw [hf] at hI
          have hd2 := hd { on := 2, ground := .data } (by simp) rfl
          dsimp only at hd2
          rw [hd2] at hI
          refine lit_ (a1 := ?_) ?_ ?_
          rotate_left
          ·simp only [putAll, Act.put, List.setIfInBounds_toArray, List.set_cons_zero, List.set_cons_succ]
           rfl
          refine Kd.R_append_rows_step (Kd.int .i64) (w0 := w) w.heap.size (by rfl) (.tmp 50) (.tmp 51) 22 3 (.int .i64 0) 8 rfl Try.underlying22 info3 rfl (by decide) (by omega) x2 y250 l3 _ _ _ (fun _ => True) (fun _ => False) rfl rfl (hI.r2 rfl) (Kd.C_below HR3.out hI.bel) (fun _ _ h => h) (fun _ h => h.elim) (fun _ _ => trivial) hI.bel hI.bel.size (by have := LMc21.out; omega) ?_
          intro v w2 ho hb hg ha
          rw [← Ny253.out] at ho
          have hq := hK (x0, x1, x2, v, vb, vp, g) w2 ⟨by rw [e, e, e, e, e, e]; show MsI _ _ _ _ _ _ _ _ (l.getD 2 false) _ _ _ _ _ _ _ _ _ _ _; rw [hd2]; exact hI.s4 ho hb hg ha, by rw [e]; exact h3, by rw [e]; exact h7⟩
          simp only [putAll, Act.put, List.setIfInBounds_toArray, List.set_cons_zero, List.set_cons_succ] at hq ⊢
          exact hq
         ·rw [hf] at hI
          refine Aside0.out ?_
          have hd0 := hd { on := 0, ground := .data } (by simp) rfl
          have hd1 := hd { on := 1, ground := .data } (by simp) rfl
          have hd4 := hd { on := 4, ground := .data } (by simp) rfl
          obtain ⟨Aa, ca, rfl⟩ := Kd.R_slice (hI.r0 hd0)
          obtain ⟨Ab, cb, rfl⟩ := Kd.R_slice (hI.r1 hd1)
          obtain ⟨Ac, cc, rfl⟩ := Kd.R_slice (hI.r4 hd4)
          refine Aside0.mk ?_
          refine lit_ (a1 := ?_) ?_ ?_
          rotate_left
          ·simp only [putAll, Act.put, List.setIfInBounds_toArray, List.set_cons_zero, List.set_cons_succ]
           rfl
          refine value_ (N := some 53) (by rfl) rfl (v := ?_) (w1 := w1) ?_ ?_
          rotate_left
          ·go_simp
           with_reducible rfl
          have hq := hK (.slice Aa y244.length ca, .slice Ab y247.length cb, x2, .slice Ac y253.length cc, .agg #[.slice Aa y244.length ca, .slice Ab y247.length cb, .bool false, .bool false, .bool false, .bool false, .slice Ac y253.length cc, .slice none 0 0, .int .i64 0], vp, g) w1 ⟨by rw [e, e, e, e, e, e]; exact hI.sb hd0 hd1 hd4, by rw [e]; exact h3, by rw [e]; exact h7⟩
          simp only [putAll, Act.put, List.setIfInBounds_toArray, List.set_cons_zero, List.set_cons_succ] at hq ⊢
          exact hq
         ·rw [hf] at hI
          refine lit_ (a1 := ?_) ?_ ?_
          rotate_left
          ·simp only [putAll, Act.put, List.setIfInBounds_toArray, List.set_cons_zero, List.set_cons_succ]
           rfl
          refine box_step ?hg (N := 9) ?hd (cs := #[.slice none 0 0, .slice none 0 0, .bool false, .bool false, .bool false, .bool false, .slice none 0 0, .slice none 0 0, .int .i64 0]) (t := 28) ?hr ?_
          case hd => rfl
          case hg => rfl
          case hr => first | (go_simp; done) | (go_simp; rfl)
          intro g' hg w2 hbox hb
          have hq := hK (x0, x1, x2, x4, vb, .pointer (some ⟨g', 0, none⟩), g') w2 ⟨by rw [e, e, e, e, e, e]; exact hI.sa hg hbox hb, by rw [e]; exact h3, by rw [e]; exact h7⟩
          simp only [putAll, Act.put, List.setIfInBounds_toArray, List.set_cons_zero, List.set_cons_succ] at hq ⊢
          exact hq
         ·refine absurd ?_ hne
          have hd5 := hd { on := 5, ground := .data } (by simp) rfl
          have hd6 := hd { on := 6, ground := .data } (by simp) rfl
          dsimp only at hd5 hd6
          have hv := hI.hb hd5
          have hd2 := hI.h4 hv.2.2.1
          have hg : ∀ j, j < 8 → l.getD j false = (#[true, true, true, true, true, true, true, false] : Array Bool).getD j false := by
           intro j hj
           obtain rfl | rfl | rfl | rfl | rfl | rfl | rfl | rfl : j = 0 ∨ j = 1 ∨ j = 2 ∨ j = 3 ∨ j = 4 ∨ j = 5 ∨ j = 6 ∨ j = 7 := by omega
           ·exact hv.1
           ·exact hv.2.1
           ·exact hd2
           ·exact h3
           ·exact hv.2.2.1
           ·exact hd5
           ·exact hd6
           ·exact h7
          exact eq_of_getD hl rfl hg
       rintro ⟨v245, v248, v251, v254, gb256⟩ w34 ⟨h0_, h1_, h2_, h3_, h4_, h5_, h6_, h7_, h8_, h9_⟩
       have n0_ : Aside0 (Kd.R (Kd.int .i64) 3 w34 w.heap.size (fun k_ => some k_ ≠ (v248 : Value).ownBlock ∧ some k_ ≠ (v254 : Value).ownBlock) v245 y244) := ⟨h0_⟩
       have n1_ : Aside0 (Kd.R (Kd.int .i64) 3 w34 w.heap.size (fun k_ => some k_ ≠ (v245 : Value).ownBlock ∧ some k_ ≠ (v254 : Value).ownBlock) v248 y247) := ⟨h1_⟩
       have n2_ : Aside0 (Kd.R (Kd.int .i64) 3 w34 w.heap.size (fun k_ => some k_ ≠ (v245 : Value).ownBlock ∧ some k_ ≠ (v248 : Value).ownBlock) v254 y253) := ⟨h2_⟩
       have n3_ : Aside0 (w34.heap[gb239]? = some (.cells #[.slice none 0 0, .slice none 0 0, .bool false, .bool false, .bool false, .bool false, .slice none 0 0, .slice none 0 0, .int .i64 0] 28 (0, 0))) := ⟨h3_⟩
       have n4_ : Aside0 (w34.heap[gb256]? = some (.cells #[.slice none 0 0, .slice none 0 0, .bool false, .bool false, .bool false, .bool false, .slice none 0 0, .slice none 0 0, .int .i64 0] 28 (0, 0))) := ⟨h4_⟩
       have n5_ : Aside0 (w.heap.size ≤ gb256) := ⟨h5_⟩
       have n6_ : Aside0 (w.heap.size ≤ gb256) := ⟨h6_⟩
       have n7_ : Aside0 (gb239 ≠ gb256) := ⟨h7_⟩
       have n8_ : Aside0 (gb256 ≠ gb239) := ⟨h8_⟩
       have n9_ : Aside0 (Below w.heap.size w w34) := ⟨h9_⟩
       clear BK239
       clear HB
       clear h0_ h1_ h2_ h3_ h4_ h5_ h6_ h7_ h8_ h9_
       have HO246 := n0_
       have HO249 := n1_
       have HO255 := n2_
       have BK239 := n3_
       have BK256 := n4_
       have GW256 := n5_
       have GE256 := n6_
       have GI256 := GeI.mk GE256.out
       have NB239_256 := n7_
       have NB256_239 := n8_
       have HB := n9_
       clear n0_ n1_ n2_ n3_ n4_ n5_ n6_ n7_ n8_ n9_
       have hHeld := trivial
       obtain ⟨Ao35, co35, eo35⟩ := Kd.R_slice HO255.out
       (first | subst eo35 | (injection eo35 with f1_ f2_ f3_; have f4_ := f1_.symm; have f5_ := f3_.symm; clear f1_ f2_ f3_; subst f4_; subst f5_))
       obtain ⟨Ao36, co36, eo36⟩ := Kd.R_slice HO249.out
       (first | subst eo36 | (injection eo36 with f1_ f2_ f3_; have f4_ := f1_.symm; have f5_ := f3_.symm; clear f1_ f2_ f3_; subst f4_; subst f5_))
       obtain ⟨Ao37, co37, eo37⟩ := Kd.R_slice HO246.out
       (first | subst eo37 | (injection eo37 with f1_ f2_ f3_; have f4_ := f1_.symm; have f5_ := f3_.symm; clear f1_ f2_ f3_; subst f4_; subst f5_))
       refine norm_ (a' := ?_) ?_ ?_
       rotate_left
       ·simp only [putAll, Act.put, List.setIfInBounds_toArray, List.set_cons_zero, List.set_cons_succ]
        rfl
       refine one_ (i := 7) (N := none) (bm_ 8 255) rfl rfl (one_of HT_.out (by kernel_rfl)) (by decide) (fun K hK => ?_)
       have hs38 : w34.cell? ⟨gb256, 0, none⟩ = some (.slice none 0 0) := (blk_cell BK256.out 0).trans rfl
       have hfs38 := blk_frozen BK256.out 0
       have hns38_0 := NB239_256.out
       have hms38_0 := NB256_239.out
       have hs39 : w34.cell? ⟨gb256, 1, none⟩ = some (.slice none 0 0) := (blk_cell BK256.out 1).trans rfl
       have hfs39 := blk_frozen BK256.out 1
       have hns39_0 := NB239_256.out
       have hms39_0 := NB256_239.out
       have hs40 : w34.cell? ⟨gb256, 2, none⟩ = some (.bool false) := (blk_cell BK256.out 2).trans rfl
       have hfs40 := blk_frozen BK256.out 2
       have hns40_0 := NB239_256.out
       have hms40_0 := NB256_239.out
       have hs41 : w34.cell? ⟨gb256, 3, none⟩ = some (.bool false) := (blk_cell BK256.out 3).trans rfl
       have hfs41 := blk_frozen BK256.out 3
       have hns41_0 := NB239_256.out
       have hms41_0 := NB256_239.out
       have hs42 : w34.cell? ⟨gb256, 4, none⟩ = some (.bool false) := (blk_cell BK256.out 4).trans rfl
       have hfs42 := blk_frozen BK256.out 4
       have hns42_0 := NB239_256.out
       have hms42_0 := NB256_239.out
       have hs43 : w34.cell? ⟨gb256, 5, none⟩ = some (.bool false) := (blk_cell BK256.out 5).trans rfl
       have hfs43 := blk_frozen BK256.out 5
       have hns43_0 := NB239_256.out
       have hms43_0 := NB256_239.out
       have hs44 : w34.cell? ⟨gb256, 6, none⟩ = some (.slice none 0 0) := (blk_cell BK256.out 6).trans rfl
       have hfs44 := blk_frozen BK256.out 6
       have hns44_0 := NB239_256.out
       have hms44_0 := NB256_239.out
       have hs45 : w34.cell? ⟨gb256, 7, none⟩ = some (.slice none 0 0) := (blk_cell BK256.out 7).trans rfl
       have hfs45 := blk_frozen BK256.out 7
       have hns45_0 := NB239_256.out
       have hms45_0 := NB256_239.out
       have hs46 : w34.cell? ⟨gb256, 8, none⟩ = some (.int .i64 0) := (blk_cell BK256.out 8).trans rfl
       have hfs46 := blk_frozen BK256.out 8
       have hns46_0 := NB239_256.out
       have hms46_0 := NB256_239.out
       refine skip_ (w1 := ?_) (by rfl) rfl ?_ ?_
       rotate_left
       ·go_simp
        rfl
       refine hK.out _ _ trivial (fun hHeld => ?_)
       clear hK K
       refine done_ (done_of HT_.out (by kernel_rfl)) ?_
       try go_wp2
       go_loopg [10] kj4 (fun kq v10 w' => ∃ (x10_2 : Int) (x257000_2 : List Int) (x257001_2 : List Int) (x257006_2 : List Int) (u257000 : Value) (u257001 : Value) (u257006 : Value), v10 = .int .i64 x10_2 ∧ Aside0 (spec_MachNew.l0 kq l0 a1 a2 x10_2 x257000_2 x257001_2 false false false false x257006_2 0 = some (r1, r2, r3, r4, r5, r6, r7, r8, r9)) ∧ Aside0 (kq ≤ kj4) ∧ Aside0 (Kd.R (Kd.int .i64) 3 w' w.heap.size (fun k_ => some k_ ≠ (u257001 : Value).ownBlock ∧ some k_ ≠ (u257006 : Value).ownBlock) u257000 x257000_2) ∧ Aside0 (Kd.R (Kd.int .i64) 3 w' w.heap.size (fun k_ => some k_ ≠ (u257000 : Value).ownBlock ∧ some k_ ≠ (u257006 : Value).ownBlock) u257001 x257001_2) ∧ Aside0 (Kd.R (Kd.int .i64) 3 w' w.heap.size (fun k_ => some k_ ≠ (u257000 : Value).ownBlock ∧ some k_ ≠ (u257001 : Value).ownBlock) u257006 x257006_2) ∧ Aside0 (w'.heap[gb239]? = some (.cells #[(.slice none 0 0), (.slice none 0 0), .bool false, .bool false, .bool false, .bool false, (.slice none 0 0), (.slice none 0 0), .int .i64 0] 28 (0, 0))) ∧ Aside0 (w'.heap[gb256]? = some (.cells #[u257000, u257001, .bool false, .bool false, .bool false, .bool false, u257006, (.slice none 0 0), .int .i64 0] 28 (0, 0))) ∧ Aside0 (Below w.heap.size w w'))
       case atStart => exact ⟨(0), (y244), (y247), (y253), (.slice Ao37 y244.length co37), (.slice Ao36 y247.length co36), (.slice Ao35 y253.length co35), d6_, H', ⟨Nat.le_refl _⟩, ⟨kr_ (Kd.R_mono (rf9_ (Kd.R_types HO246.out BK256.out (by decide)) (fun _ hk => hk.2)) (fun _ hk => ⟨hk.1.1, hk.1.2⟩))⟩, ⟨kr_ (Kd.R_mono (rf9_ (Kd.R_types HO249.out BK256.out (by decide)) (fun _ hk => hk.2)) (fun _ hk => ⟨hk.1.1, hk.1.2⟩))⟩, ⟨kr_ (Kd.R_mono (rf9_ (Kd.R_types HO255.out BK256.out (by decide)) (fun _ hk => hk.2)) (fun _ hk => ⟨hk.1.1, hk.1.2⟩))⟩, ⟨by refine bk_ ?_; refine blk_far ?_ NB239_256.out _; refine bk_ ?_; refine blk_far ?_ NB239_256.out _; refine bk_ ?_; refine blk_far ?_ NB239_256.out _; refine bk_ ?_; refine blk_far ?_ NB239_256.out _; refine bk_ ?_; refine blk_far ?_ NB239_256.out _; refine bk_ ?_; refine blk_far ?_ NB239_256.out _; refine bk_ ?_; refine blk_far ?_ NB239_256.out _; refine bk_ ?_; refine blk_far ?_ NB239_256.out _; refine bk_ ?_; refine blk_far ?_ NB239_256.out _; refine bk_ ?_; exact BK239.out⟩, ⟨by exact bk_ (bp9_ (bk_ BK256.out))⟩, ⟨bw_ HB.out⟩⟩
       case round =>
        clear H'
        try clear c2
        try clear p2
        try clear c21
        obtain ⟨x10_2, x257000_2, x257001_2, x257006_2, u257000, u257001, u257006, rfl, HA, HK2, HO_257000, HO_257001, HO_257006, BK239, BK256, HB⟩ := hrel
        cases gk with
        | zero => exact absurd HA.out (by simp [spec_MachNew.l0])
        | succ k2 =>
         have H := HA.out
         clear HA
         simp only [spec_MachNew.l0] at H
         by_cases c47 : x10_2 < (l0.length : Int)
         ·rw [if_pos c47] at H
          have c47b0 := decide_eq_true c47
          clear c47
          by_cases c48 : 0 ≤ x10_2
          ·rw [if_pos c48] at H
           have c48b0 := decide_eq_true c48
           clear c48
           obtain ⟨ji49, hji49⟩ : ∃ j_ : Int, (wrap64 ((wrap64 (Int.tdiv a1 2)) + x10_2)) = j_ := ⟨_, rfl⟩
           replace H : (if 0 ≤ (ji49) then (if (ji49) < (x257000_2.length : Int) then (spec_MachNew.l0 k2 l0 a1 a2 (wrap64 (x10_2 + 1)) (x257000_2.set ((ji49) : Int).toNat (rd l0 x10_2)) x257001_2 false false false false x257006_2 0) else (none)) else (none)) = some (r1, r2, r3, r4, r5, r6, r7, r8, r9) := by first | (rw [hji49] at H; exact H) | (simp only [hji49] at H ⊢; exact H)
           have hji49w : (IntKind.i64.wrap ((wrap64 (Int.tdiv a1 2)) + x10_2)) = ji49 := (i64_w _).trans hji49
           by_cases c50 : 0 ≤ (ji49)
           ·rw [if_pos c50] at H
            have c50b0 := decide_eq_true c50
            clear c50
            by_cases c51 : (ji49) < (x257000_2.length : Int)
            ·rw [if_pos c51] at H
             have c51b0 := decide_eq_true c51
             clear c51
             obtain ⟨y258, hy258⟩ : ∃ y_ : List Int, y_ = (x257000_2.set ((ji49) : Int).toNat (rd l0 x10_2)) := ⟨_, rfl⟩
             replace H : (spec_MachNew.l0 k2 l0 a1 a2 (wrap64 (x10_2 + 1)) y258 x257001_2 false false false false x257006_2 0) = some (r1, r2, r3, r4, r5, r6, r7, r8, r9) := by first | (rw [hy258]; with_reducible exact H) | (have H2_ := (Option.bind_some _ _).symm.trans H; rw [hy258]; with_reducible exact H2_) | (have H2_ := (Option.bind_some _ _).symm.trans H; with_reducible exact H2_) | with_reducible exact H | (rw [hy258]; exact H) | exact H
             have Ny258 := A_ hy258
             clear hy258
             have H' := A_ H
             clear H
             try go_wp2
             replace HO_257000 := A_ (Kd.R_drew HO_257000.out)
             replace HO_257001 := A_ (Kd.R_drew HO_257001.out)
             replace HO_257006 := A_ (Kd.R_drew HO_257006.out)
             replace BK239 := A_ (blk_drew BK239.out)
             replace BK256 := A_ (blk_drew BK256.out)
             replace HB := A_ (below_drew1 HB.out)
             have p257 : 0 ≤ (x10_2 : Int) := of_decide_eq_true d8_
             have q257 : x10_2 < (l0.length : Int) := of_decide_eq_true d8_
             obtain ⟨ad257, e257, hx257_0⟩ := Kd.at_int HR0.out x10_2 p257 q257
             have hw257_0 := hx257_0
             cases e257
             replace hx257_0 := (HB.out.cell (World.block_lt_of_cell? w _ hx257_0)).trans hx257_0
             replace p257 := eq_true p257
             replace q257 := eq_true q257
             have p52 : 0 ≤ ((ji49) : Int) := of_decide_eq_true d8_
             have q52 : ((ji49) : Int) < ((x257000_2.length : Int) : Int) := of_decide_eq_true d8_
             obtain ⟨go52, co52, eo52, gb52, gl52, cl52, HG52⟩ := Kd.R_form HO_257000.out (by omega)
             (first | cases eo52 | (injection eo52 with ea_ en_ ec_; (first | subst ea_ | (injection ea_ with ea_; subst ea_)); subst ec_; clear en_))
             have GB52 := A_ gb52
             have GG52 := A_ HG52
             clear gb52 gl52 HG52
             obtain ⟨hx52_0, hf52_0⟩ := Kd.R_celln 0 HO_257000.out ((ji49) : Int) p52 q52
             replace p52 := eq_true p52
             replace q52 := eq_true q52
             have HP54 := Kd.R_putn HO_257000.out ((ji49) : Int) (rd l0 x10_2)
             rw [← Ny258.out] at HP54
             have HQ54 := A_ HP54
             clear HP54
             refine start_ (n := 12) (S := fun w' => w'.cell? ⟨gb256, 0, none⟩ = some (.slice (some ⟨go52, 0, none⟩) x257000_2.length co52) ∧ w'.cell? ⟨gb256, 1, none⟩ = some (u257001) ∧ w'.cell? ⟨gb256, 2, none⟩ = some (.bool false) ∧ w'.cell? ⟨gb256, 3, none⟩ = some (.bool false) ∧ w'.cell? ⟨gb256, 4, none⟩ = some (.bool false) ∧ w'.cell? ⟨gb256, 5, none⟩ = some (.bool false) ∧ w'.cell? ⟨gb256, 6, none⟩ = some (u257006) ∧ w'.cell? ⟨gb256, 7, none⟩ = some (.slice none 0 0) ∧ w'.cell? ⟨gb256, 8, none⟩ = some (.int .i64 0) ∧ w'.cell? (ad257.add (x10_2).toNat) = some (.int .i64 (rd l0 x10_2))) (ds := [11]) #[false, false, false, false, false, false, false, false, false, false, false, false] (by kernel_rfl) rfl rfl ⟨(blk_cell BK256.out 0).trans rfl, (blk_cell BK256.out 1).trans rfl, (blk_cell BK256.out 2).trans rfl, (blk_cell BK256.out 3).trans rfl, (blk_cell BK256.out 4).trans rfl, (blk_cell BK256.out 5).trans rfl, (blk_cell BK256.out 6).trans rfl, (blk_cell BK256.out 7).trans rfl, (blk_cell BK256.out 8).trans rfl, ((HB.out.cell (World.block_lt_of_cell? w _ hw257_0)).trans hw257_0)⟩ (fun hHeld => ?_); refine with_tabW spec_MachNew.tab7 spec_MachNew.bits7 (fun HT_ HW_ => ?_)
             generalize wr.drew = w53 at HO_257000 HO_257001 HO_257006 BK239 BK256 HB GG52 HQ54 hf52_0 hx257_0 hx52_0 hHeld ⊢
             refine pu_ 0 (some 60) (bm_ 12 1) (any_of HT_.out (by kernel_rfl)) ?_
             refine pu_ 2 (some 62) (bm_ 12 5) (any_of HT_.out (by kernel_rfl)) ?_
             refine pu_ 3 (some 63) (bm_ 12 13) (any_of HT_.out (by kernel_rfl)) ?_
             refine pu_ 4 (some 64) (bm_ 12 29) (any_of HT_.out (by kernel_rfl)) ?_
             refine pu_ 5 (some 65) (bm_ 12 61) (any_of HT_.out (by kernel_rfl)) ?_
             refine pu_ 6 (some 66) (bm_ 12 125) (any_of HT_.out (by kernel_rfl)) ?_
             refine pu_ 7 (some 67) (bm_ 12 253) (any_of HT_.out (by kernel_rfl)) ?_
             refine pu_ 8 (some 68) (bm_ 12 509) (any_of HT_.out (by kernel_rfl)) ?_
             refine take_ (i := 1) (N := some 61) (v := ?_) (a' := ?_) (bm_ 12 511) rfl rfl (take_ofW HT_.out HW_.out (by kernel_rfl)) (fun _ _ _ h => h) (Or.inl ⟨by rfl, ?_⟩) hHeld ?_ ?_
             rotate_left
             ·rintro w' ⟨s0, s1, s2, s3, s4, s5, s6, s7, s8, s9⟩
              go_simp
              with_reducible rfl
             rotate_left
             ·simp only [Act.put, List.setIfInBounds_toArray, List.set_cons_zero, List.set_cons_succ, i64_w, i32_w]
              rfl
             refine take_ (i := 9) (N := some 69) (v := ?_) (a' := ?_) (bm_ 12 1023) rfl rfl (take_ofW HT_.out HW_.out (by kernel_rfl)) (fun _ _ _ h => h) (Or.inl ⟨by rfl, ?_⟩) hHeld ?_ ?_
             rotate_left
             ·rintro w' ⟨s0, s1, s2, s3, s4, s5, s6, s7, s8, s9⟩
              go_simp
              with_reducible rfl
             rotate_left
             ·simp only [Act.put, List.setIfInBounds_toArray, List.set_cons_zero, List.set_cons_succ, i64_w, i32_w]
              rfl
             refine pu_ 10 (some 70) (bm_ 12 2047) (any_of HT_.out (by kernel_rfl)) ?_
             refine last_ (i := 11) (N := none) (bm_ 12 4095) rfl rfl (one_of HT_.out (by kernel_rfl)) (by decide) (fun K hK => ?_)
             refine skip_ (w1 := ?_) (by rfl) rfl ?_ ?_
             rotate_left
             ·go_simp
              rfl
             refine hK.out _ _ ?_
             clear hK K
             refine done_ (done_of HT_.out (by kernel_rfl)) ?_
             try go_wp2
             go_roundg k2
             case measure => have := HJ4.out; have := HK2.out; omega
             case rel => exact ⟨(wrap64 (x10_2 + 1)), (y258), (x257001_2), (x257006_2), (.slice (some ⟨go52, 0, none⟩) x257000_2.length co52), (u257001), (u257006), d6_, H', ⟨by have := HJ4.out; have := HK2.out; omega⟩, ⟨kr_ (HQ54.out)⟩, ⟨by (with_reducible repeat (first | apply Kd.R_alloc | apply Kd.R_drewN | apply Kd.R_drew)); exact Kd.R_mono (Kd.R_far (p := ⟨go52, ((ji49) : Int).toNat, none⟩) (Kd.R_mono HO_257001.out (fun k_ hk => (⟨hk, fun e_ => hk.1 (by rw [e_]; rfl)⟩ : _ ∧ k_ ≠ go52))) (fun _ hk => hk.2) (.int .i64 (rd l0 x10_2))) (fun _ hk => ⟨hk.1.1, hk.1.2⟩)⟩, ⟨by (with_reducible repeat (first | apply Kd.R_alloc | apply Kd.R_drewN | apply Kd.R_drew)); exact Kd.R_mono (Kd.R_far (p := ⟨go52, ((ji49) : Int).toNat, none⟩) (Kd.R_mono HO_257006.out (fun k_ hk => (⟨hk, fun e_ => hk.1 (by rw [e_]; rfl)⟩ : _ ∧ k_ ≠ go52))) (fun _ hk => hk.2) (.int .i64 (rd l0 x10_2))) (fun _ hk => ⟨hk.1.1, hk.1.2⟩)⟩, ⟨by refine bk_ ?_; refine blk_far ?_ (by have h_ := Kd.R_ne HO_257000.out BK239.out (by decide); intro e_; exact h_ (by rw [e_]; rfl)) _; refine bk_ ?_; exact BK239.out⟩, ⟨by refine bk_ ?_; refine blk_far ?_ (by have h_ := Kd.R_ne HO_257000.out BK256.out (by decide); intro e_; exact h_ (by rw [e_]; rfl)) _; refine bk_ ?_; exact BK256.out⟩, ⟨by repeat (first | (with_reducible first | exact HB.out | apply below_alloc | apply pw_below_drewN | apply below_drew1 | refine below_set ?_ GB52.out | refine below_set ?_ GE239.out | refine below_set ?_ GE256.out) | exact HB.out)⟩⟩
            ·rw [if_neg c51] at H
             exact absurd H (by simp)
           ·rw [if_neg c50] at H
            exact absurd H (by simp)
          ·rw [if_neg c48] at H
           exact absurd H (by simp)
         ·rw [if_neg c47] at H
          have c47b0 := decide_eq_false c47
          clear c47
          by_cases c55 : 6 < (x257001_2.length : Int)
          ·rw [if_pos c55] at H
           have c55b0 := decide_eq_true c55
           have c55b1 : decide (6 < x257001_2.length) = true := decide_eq_true (by omega)
           clear c55
           obtain ⟨y259, hy259⟩ : ∃ y_ : List Int, y_ = (x257001_2.set (6 : Int).toNat 512) := ⟨_, rfl⟩
           replace H : (if 7 < (x257001_2.length : Int) then (some (x257000_2, (y259.set (7 : Int).toNat a2), false, false, false, false, x257006_2, ([] : List Int), 0)) else (none)) = some (r1, r2, r3, r4, r5, r6, r7, r8, r9) := by first | (rw [hy259]; with_reducible exact H) | (have H2_ := (Option.bind_some _ _).symm.trans H; rw [hy259]; with_reducible exact H2_) | (have H2_ := (Option.bind_some _ _).symm.trans H; with_reducible exact H2_) | with_reducible exact H | (rw [hy259]; exact H) | exact H
           have Ny259 := A_ hy259
           clear hy259
           by_cases c57 : 7 < (x257001_2.length : Int)
           ·rw [if_pos c57] at H
            have c57b0 := decide_eq_true c57
            have c57b1 : decide (7 < x257001_2.length) = true := decide_eq_true (by omega)
            clear c57
            obtain ⟨y260, hy260⟩ : ∃ y_ : List Int, y_ = (y259.set (7 : Int).toNat a2) := ⟨_, rfl⟩
            replace H : (some (x257000_2, y260, false, false, false, false, x257006_2, ([] : List Int), 0)) = some (r1, r2, r3, r4, r5, r6, r7, r8, r9) := by first | (rw [hy260]; with_reducible exact H) | (have H2_ := (Option.bind_some _ _).symm.trans H; rw [hy260]; with_reducible exact H2_) | (have H2_ := (Option.bind_some _ _).symm.trans H; with_reducible exact H2_) | with_reducible exact H | (rw [hy260]; exact H) | exact H
            have Ny260 := A_ hy260
            clear hy260
            simp only [Option.some.injEq, Prod.mk.injEq] at H
            obtain ⟨rfl, rfl, rfl, rfl, rfl, rfl, rfl, rfl, rfl⟩ := H
            have hnb59 := NB256_239.out
            have hnc59 := NB239_256.out
            obtain ⟨y60_0, y60_1, y60_2, y60_3, y60_4, y60_5, y60_6, y60_7, y60_8, z60_0, z60_1, z60_2, z60_3, z60_4, z60_5, z60_6, z60_7, z60_8⟩ := cz9_ BK256.out
            have p56 : 0 ≤ (6 : Int) := (by omega)
            have q56 : (6 : Int) < ((x257001_2.length : Int) : Int) := of_decide_eq_true d8_
            have qi56 : (6 < x257001_2.length) = True := eq_true (by omega)
            obtain ⟨go56, co56, eo56, gb56, gl56, cl56, HG56⟩ := Kd.R_form HO_257001.out (by omega)
            (first | cases eo56 | (injection eo56 with ea_ en_ ec_; (first | subst ea_ | (injection ea_ with ea_; subst ea_)); subst ec_; clear en_))
            have GB56 := A_ gb56
            have GG56 := A_ HG56
            clear gb56 gl56 HG56
            obtain ⟨hx56_0, hf56_0⟩ := Kd.R_celln 0 HO_257001.out (6 : Int) p56 q56
            (try rw [show ((6 : Int)).toNat = 6 from rfl] at hx56_0)
            (try simp only [Nat.reduceMul, Nat.zero_mul, Nat.zero_add, Nat.reduceAdd] at hx56_0)
            (try rw [show ((6 : Int)).toNat = 6 from rfl] at hf56_0)
            (try simp only [Nat.reduceMul, Nat.zero_mul, Nat.zero_add, Nat.reduceAdd] at hf56_0)
            replace p56 := eq_true p56
            replace q56 := eq_true q56
            have HP61 := Kd.R_putg HO_257001.out (6 : Int) 512
            go_wp2_with (first | ((with_reducible refine gate_store (t := 3) (p := 73) rfl ?_); refine store_event (t := 3) (p := 73) (v := ?vo_w62) (w1 := (wr.setCell ⟨go56, (6 : Int).toNat, none⟩ (.int .i64 512))) ?hg ?ho ?hn ?hr ?_; (case ho => rfl); (case hg => rfl); (case hn => rfl); (case hr => first | (go_simp; done) | (go_simp; rfl)); intro w62 hw; have hg : wr.grownBy w62 (some go56) := (by rw [hw]; exact HP61.2); have hp_ : Kd.R (Kd.int .i64) 3 w62 w.heap.size (fun k_ => some k_ ≠ (u257000 : Value).ownBlock ∧ some k_ ≠ (u257006 : Value).ownBlock) (.slice (some ⟨go56, 0, none⟩) x257001_2.length co56) y259 := (by rw [hw, Ny259.out]; exact HP61.1); clear HP61; replace HO_257000 := A_ (Kd.R_after (v := (.slice (some ⟨go56, 0, none⟩) x257001_2.length co56)) (v1 := (.slice (some ⟨go56, 0, none⟩) x257001_2.length co56)) (ok := (fun k_ => some k_ ≠ (u257006 : Value).ownBlock)) (kr_ (Kd.R_mono HO_257000.out (fun _ hk => ⟨hk.2, hk.1⟩))) hg (.inl rfl)); replace HO_257006 := A_ (Kd.R_after (v := (.slice (some ⟨go56, 0, none⟩) x257001_2.length co56)) (v1 := (.slice (some ⟨go56, 0, none⟩) x257001_2.length co56)) (ok := (fun k_ => some k_ ≠ (u257000 : Value).ownBlock)) (kr_ HO_257006.out) hg (.inl rfl)); replace BK239 := A_ (blk_grown (bk_ BK239.out) hg (Kd.R_ne HO_257001.out BK239.out (by decide))); replace BK256 := A_ (blk_grown (bk_ BK256.out) hg (Kd.R_ne HO_257001.out BK256.out (by decide))); replace HO_257001 := A_ (hp_); replace HB := A_ ((by rw [hw]; exact below_set (HB.out) GB56.out : Below w.heap.size w w62)); clear hg hw hp_; obtain ⟨y63_0, y63_1, y63_2, y63_3, y63_4, y63_5, y63_6, y63_7, y63_8, z63_0, z63_1, z63_2, z63_3, z63_4, z63_5, z63_6, z63_7, z63_8⟩ := cz9_ BK256.out; have p58 : 0 ≤ (7 : Int) := (by omega); have q58 : (7 : Int) < ((x257001_2.length : Int) : Int) := of_decide_eq_true d8_; have qi58 : (7 < x257001_2.length) = True := eq_true (by omega); obtain ⟨hx58_0, hf58_0⟩ := Kd.R_celln 0 HO_257001.out (7 : Int) p58 q58; (try rw [show ((7 : Int)).toNat = 7 from rfl] at hx58_0); (try simp only [Nat.reduceMul, Nat.zero_mul, Nat.zero_add, Nat.reduceAdd] at hx58_0); (try rw [show ((7 : Int)).toNat = 7 from rfl] at hf58_0); (try simp only [Nat.reduceMul, Nat.zero_mul, Nat.zero_add, Nat.reduceAdd] at hf58_0); replace p58 := eq_true p58; replace q58 := eq_true q58; obtain ⟨hy64_, hz64_⟩ := Kd.R_celln 0 HO_257001.out (7 : Int) (by omega) (of_decide_eq_true d8_); (try simp only [Int.reduceToNat, Int.toNat_zero, Int.toNat_ofNat, Nat.reduceMul, Nat.zero_mul, Nat.zero_add] at hy64_ hz64_); (try rw [show ((7 : Int)).toNat = 7 from rfl] at hy64_); (try rw [show ((7 : Int)).toNat = 7 from rfl] at hz64_); have HP64 := Kd.R_putg HO_257001.out (7 : Int) a2) | ((with_reducible refine gate_store (t := 3) (p := 77) rfl ?_); refine store_event (t := 3) (p := 77) (v := ?vo_w65) (w1 := (w62.setCell ⟨go56, (7 : Int).toNat, none⟩ (.int .i64 a2))) ?hg ?ho ?hn ?hr ?_; (case ho => rfl); (case hg => rfl); (case hn => rfl); (case hr => first | (go_simp; done) | (go_simp; rfl)); intro w65 hw; have hg : w62.grownBy w65 (some go56) := (by rw [hw]; exact HP64.2); have hp_ : Kd.R (Kd.int .i64) 3 w65 w.heap.size (fun k_ => some k_ ≠ (u257000 : Value).ownBlock ∧ some k_ ≠ (u257006 : Value).ownBlock) (.slice (some ⟨go56, 0, none⟩) x257001_2.length co56) y260 := (by rw [hw, Ny260.out]; exact HP64.1); clear HP64; replace HO_257000 := A_ (Kd.R_after (v := (.slice (some ⟨go56, 0, none⟩) x257001_2.length co56)) (v1 := (.slice (some ⟨go56, 0, none⟩) x257001_2.length co56)) (ok := (fun k_ => some k_ ≠ (u257006 : Value).ownBlock)) (kr_ HO_257000.out) hg (.inl rfl)); replace HO_257006 := A_ (Kd.R_after (v := (.slice (some ⟨go56, 0, none⟩) x257001_2.length co56)) (v1 := (.slice (some ⟨go56, 0, none⟩) x257001_2.length co56)) (ok := (fun k_ => some k_ ≠ (u257000 : Value).ownBlock)) (kr_ HO_257006.out) hg (.inl rfl)); replace BK239 := A_ (blk_grown (bk_ BK239.out) hg (Kd.R_ne HO_257001.out BK239.out (by decide))); replace BK256 := A_ (blk_grown (bk_ BK256.out) hg (Kd.R_ne HO_257001.out BK256.out (by decide))); replace HO_257001 := A_ (hp_); replace HB := A_ ((by rw [hw]; exact below_set (HB.out) GB56.out : Below w.heap.size w w65)); clear hg hw hp_; obtain ⟨y66_0, y66_1, y66_2, y66_3, y66_4, y66_5, y66_6, y66_7, y66_8, z66_0, z66_1, z66_2, z66_3, z66_4, z66_5, z66_6, z66_7, z66_8⟩ := cz9_ BK256.out; obtain ⟨Ao67, co67, eo67⟩ := Kd.R_slice HO_257000.out; subst eo67; obtain ⟨y68_0, y68_1, y68_2, y68_3, y68_4, y68_5, y68_6, y68_7, y68_8, z68_0, z68_1, z68_2, z68_3, z68_4, z68_5, z68_6, z68_7, z68_8⟩ := cz9_ BK239.out; obtain ⟨Ao69, co69, eo69⟩ := Kd.R_slice HO_257006.out; subst eo69))
            refine bodyPost_ret (results_cell_row rfl _ _ gb239 28 #[.slice Ao67 x257000_2.length co67, .slice (some ⟨go56, 0, none⟩) x257001_2.length co56, .bool false, .bool false, .bool false, .bool false, .slice Ao69 x257006_2.length co69, .slice none 0 0, .int .i64 0] (0, 0) _ rfl ?hb_ Try.underlying28 rfl (by kernel_rfl)) rfl ?_
            (case hb_ => exact bk_ (bp9_ (bk_ BK239.out)))
            exact ⟨_, _, _, _, by first | rfl | (simp [errW_none, errW_some] <;> rfl) | (simp [*, errW_none, errW_some] <;> rfl), kr_ (Kd.R_mono (rf9_ (Kd.R_types HO_257000.out BK239.out (by decide)) (fun _ hk => hk.2)) (fun _ hk => ⟨hk.1.2, ⟨hk.1.1, (by simp [Value.ownBlock])⟩⟩)), kr_ (Kd.R_mono (rf9_ (Kd.R_types HO_257001.out BK239.out (by decide)) (fun _ hk => hk.2)) (fun _ hk => ⟨hk.1.1, ⟨hk.1.2, (by simp [Value.ownBlock])⟩⟩)), kr_ (Kd.R_mono (rf9_ (Kd.R_types HO_257006.out BK239.out (by decide)) (fun _ hk => hk.2)) (fun _ hk => ⟨hk.1.1, ⟨hk.1.2, (by simp [Value.ownBlock])⟩⟩)), by first | exact Kd.R_nil _ _ _ _ _ | exact Kd.N_nil _ _ _ _ _ | exact Kd.V_nil _ _ _ _ _ | exact Kd.Q_nil _ _ _ _ _ | exact Kd.S_nil _ _ _ _ _, bw_ HB.out⟩
           ·rw [if_neg c57] at H
            exact absurd H (by simp)
          ·rw [if_neg c55] at H
           exact absurd H (by simp)
      ·rw [if_neg c21] at H
       exact absurd H (by simp)
     ·exact absurd (by decide) c20
    ·exact absurd (by decide) c19
end Go.Proofs.Ytiagbfilffbljaa.PFnStored
