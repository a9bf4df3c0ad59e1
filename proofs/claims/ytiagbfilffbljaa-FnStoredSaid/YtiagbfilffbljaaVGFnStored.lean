/- What may have changed between two worlds, as a stretch of blocks; rows and boxes that lie beside it stay. For walks of laws that are written by hand. No program in sight. -/
import Derived.Test.YtiagbfilffbljaaVFnStored
import Derived.RowKit
namespace Go.Proofs.Ytiagbfilffbljaa.Chg
open Go.RowKit Go.Proofs.YtiagbfilffbljaaW.PrintWords Go.Proofs.YtiagbfilffbljaaW.PrintLast Go.Proofs.YtiagbfilffbljaaW.PrintMore
set_option linter.unusedVariables false
/-- From w to w1 no block changed but those of lo .. hi - 1, and new ones came. -/
structure Ch (w w1 : World) (lo hi : Nat) : Prop where
  os : w1.os = w.os
  tape : w1.tape = w.tape
  output : w1.output = w.output
  size : w.heap.size ≤ w1.heap.size
  block : ∀ k, k < w.heap.size → k < lo ∨ hi ≤ k → w1.heap[k]? = w.heap[k]?
section
variable {w w0 w1 w2 : World} {lo hi lo' hi' : Nat}
theorem Ch.of_below (h : Below w.heap.size w w1) : Ch w w1 0 0 := ⟨h.os, h.tape, h.output, h.size, fun k hk _ => h.block k hk⟩
theorem Ch.below (h : Ch w w1 0 0) : Below w.heap.size w w1 := ⟨h.os, h.tape, h.output, h.size, fun k hk => h.block k hk (Or.inr (Nat.zero_le _))⟩
theorem Ch.of_drawn (h : Drawn0 w w1) : Ch w w1 0 0 := Ch.of_below h.below
theorem Ch.drew (w : World) : Ch w w.drew 0 0 := Ch.of_below (below_drew1 (Below.refl _ _))
theorem Ch.trans (h : Ch w w1 lo hi) (k : Ch w1 w2 lo hi) : Ch w w2 lo hi :=
  ⟨k.os.trans h.os, k.tape.trans h.tape, k.output.trans h.output, Nat.le_trans h.size k.size, fun i hi ho => (k.block i (Nat.lt_of_lt_of_le hi h.size) ho).trans (h.block i hi ho)⟩
theorem Ch.mono (h : Ch w w1 lo hi) (h1 : hi ≤ lo ∨ (lo' ≤ lo ∧ hi ≤ hi')) : Ch w w1 lo' hi' :=
  ⟨h.os, h.tape, h.output, h.size, fun i hlt ho => h.block i hlt (by omega)⟩
theorem blk_ch {g : Nat} {o : Obj} (hc : Ch w w1 lo hi) (h : w.heap[g]? = some o) (hg : g < lo ∨ hi ≤ g) : w1.heap[g]? = some o :=
  (hc.block g (blk_lt h) hg).trans h
theorem below_ch (hb : Below w0.heap.size w0 w) (hc : Ch w w1 lo hi) (h : hi ≤ lo ∨ w0.heap.size ≤ lo) : Below w0.heap.size w0 w1 :=
  hb.trans ⟨hc.os, hc.tape, hc.output, hc.size, fun k hk => hc.block k (Nat.lt_of_lt_of_le hk hb.size) (by omega)⟩
end
section
variable {w w0 w1 : World} {lo hi lo' hi' : Nat} {α : Type} {d : Kd α} {e : Nat} {v : Value} {xs : List α} {ok : Nat → Prop}
/-- rows whose blocks lie in lo .. hi - 1 -/
theorem R_range (h : d.R e w lo ok v xs) (hh : w.heap.size ≤ hi) : d.R e w lo (fun k => ok k ∧ lo ≤ k ∧ k < hi) v xs :=
  Kd.R_mono (Kd.R_bound h) (fun k hk => ⟨hk.1, hk.2.1, Nat.lt_of_lt_of_le hk.2.2.1 hh⟩)
theorem R_ch (h : d.R e w lo ok v xs) (hk : ∀ k, ok k → lo ≤ k ∧ k < hi) (hc : Ch w w1 lo' hi') (hd : hi ≤ lo' ∨ hi' ≤ lo ∨ hi' ≤ lo') : d.R e w1 lo ok v xs :=
  Kd.R_step h (fun k ho hlt => hc.block k hlt (by have := hk k ho; omega))
/-- a row of numbers: its own block alone matters. -/
theorem R_own1 {enc : α → Value} {h1 : ∀ x, (enc x).oneCell' = true} (h : (Kd.scalar enc h1).R e w lo ok v xs) : (Kd.scalar enc h1).R e w lo (fun k => v.ownBlock = some k) v xs :=
  ⟨fun k hk => hk, h.2⟩
theorem R_own1' {enc : α → Value} {h1 : ∀ x, (enc x).oneCell' = true} (h : (Kd.scalar enc h1).R e w lo ok v xs) (hok : ∀ k, v.ownBlock = some k → ok k) {ok' : Nat → Prop} (hok' : ∀ k, v.ownBlock = some k → ok' k) : (Kd.scalar enc h1).R e w lo ok' v xs :=
  ⟨hok', h.2⟩
end
theorem own_raise {w : World} {base lo : Nat} {e : TypeId} {size n : Nat} {v : Value} {xs : List Value} (h : w.ownsRow base e size v n xs) (hlo : ∀ k, v.ownBlock = some k → lo ≤ k) : w.ownsRow lo e size v n xs := by
  obtain ⟨h1, h2⟩ := h
  refine ⟨h1, ?_⟩
  rcases h2 with h2 | ⟨g, cap, cur, rfl, hg, r⟩
  · exact .inl h2
  · exact .inr ⟨g, cap, cur, rfl, hlo g (by simp [Value.ownBlock]), r⟩
theorem R_raise {w : World} {base lo : Nat} {α : Type} {e : Nat} {v : Value} {xs : List α} {ok ok' : Nat → Prop} {enc : α → Value} {h1 : ∀ x, (enc x).oneCell' = true} (h : (Kd.scalar enc h1).R e w base ok v xs) (hlo : ∀ k, v.ownBlock = some k → lo ≤ k) (hok : ∀ k, v.ownBlock = some k → ok' k) : (Kd.scalar enc h1).R e w lo ok' v xs := by
  obtain ⟨h0, inner, ho, hr⟩ := h
  exact ⟨hok, inner, own_raise ho hlo, hr⟩
section
variable {P : Program} {ops : Array Oper} {rest : List Oper} {o : Oper} {a : Act} {Q : Exit → Act → World → Prop} {W : World}
/-- A whole struct is stored into its box. -/
theorem store_struct (hgd : o.guard = none) (hN : o.dst = none) (t : TypeId) (p x : Operand) (ho : o.op = .store t p x) {g : Nat} {t' : TypeId} {old cs : Array Value}
    (haddr : a.eval p = .pointer (some ⟨g, 0, none⟩)) (hx : a.eval x = .agg cs) (hb : W.heap[g]? = some (.cells old t' (0, 0))) (ht : (P.info? t).map (·.size) = some cs.size) (hsz : old.size = cs.size)
    (h1 : ∀ q ∈ cs.toList, q.oneCell' = true)
    (h : ∀ w1, w1.heap[g]? = some (.cells cs t' (0, 0)) → Ch W w1 g (g + 1) → wpList P ops Q rest a w1) : wpList P ops Q (o :: rest) a W := by
  have hlen : cs.toList.length = cs.size := Array.length_toList
  refine wpList_plain hgd fun K hK => ?_
  have hrun := run_store_run (P := P) (o := 0) t (.agg cs) cs.toList hb rfl (by rw [hlen]; exact ht) (by rw [hlen]; omega) h1
  obtain ⟨cur', h3, h4, h5⟩ := setCells_row cs.toList 0 W old hb (by rw [hlen]; omega)
  obtain ⟨s1, s2, s3, s4⟩ := setCells_same g cs.toList 0 W
  have hcur : cur' = cs := by
    apply Array.toList_inj.1
    rw [h5, List.take_zero, List.nil_append, Nat.zero_add, hlen, List.drop_of_length_le (by rw [Array.length_toList]; omega), List.append_nil]
  rw [hcur] at h3
  have hK2 := h _ h3 ⟨s1, s2, s3, by rw [s4]; exact Nat.le_refl _, fun k _ hk => setCells_far _ _ k (by omega)⟩
  unfold Oper.wp execOp
  simp only [ho, haddr, hx, Sem.run_bind, Sem.run_pure, Result.andThen_ok, hrun]
  show K (a.put o.dst undef) _
  rw [hN]
  exact hK a _ hK2
/-- The same as a step of a region that draws its order. -/
theorem store_struct_step {oi : Oper} {K : Act → World → Prop} (hw : Region.wanted oi (yielded ops a.tmps) = true) (hN : oi.dst = none) (t : TypeId) (p x : Operand) (ho : oi.op = .store t p x) {g : Nat} {t' : TypeId} {old cs : Array Value}
    (haddr : a.eval p = .pointer (some ⟨g, 0, none⟩)) (hx : a.eval x = .agg cs) (hb : W.heap[g]? = some (.cells old t' (0, 0))) (ht : (P.info? t).map (·.size) = some cs.size) (hsz : old.size = cs.size)
    (h1 : ∀ q ∈ cs.toList, q.oneCell' = true)
    (h : ∀ w1, w1.heap[g]? = some (.cells cs t' (0, 0)) → Ch W w1 g (g + 1) → K a w1) : if Region.wanted oi (yielded ops a.tmps) = true then Oper.wp P oi a W K Q else K (a.put none undef) W := by
  have hlen : cs.toList.length = cs.size := Array.length_toList
  have hrun := run_store_run (P := P) (o := 0) t (.agg cs) cs.toList hb rfl (by rw [hlen]; exact ht) (by rw [hlen]; omega) h1
  obtain ⟨cur', h3, h4, h5⟩ := setCells_row cs.toList 0 W old hb (by rw [hlen]; omega)
  obtain ⟨s1, s2, s3, s4⟩ := setCells_same g cs.toList 0 W
  have hcur : cur' = cs := by
    apply Array.toList_inj.1
    rw [h5, List.take_zero, List.nil_append, Nat.zero_add, hlen, List.drop_of_length_le (by rw [Array.length_toList]; omega), List.append_nil]
  rw [hcur] at h3
  refine skip_ hw hN ?_ (h _ h3 ⟨s1, s2, s3, by rw [s4]; exact Nat.le_refl _, fun k _ hk => setCells_far _ _ k (by omega)⟩)
  unfold execOp
  simp only [ho, haddr, hx, Sem.run_bind, Sem.run_pure, Result.andThen_ok, hrun]
/-- A whole struct is read out of its box: what the operation yields. -/
theorem load_yields (ty : TypeId) (x : Operand) (ho : o.op = .load ty x) (g : Nat) (hx : a.eval x = .pointer (some ⟨g, 0, none⟩)) (t : TypeId) (cs : Array Value) (d : TypeDesc) (hg : W.heap[g]? = some (.cells cs t (0, 0)))
    (hu : P.underlying ty = some d) (hd : (match d with | .struct _ | .array _ _ => true | _ => false) = true) (hi : (P.info? ty).map (·.size) = some cs.size) :
    (execOp a.eval o).run P W = .ok (.value (.agg cs)) W := by
  unfold execOp
  simp only [ho, hx, Instr.loadAt, Instr.sureAddr, Sem.run_bind, Sem.run_pure, Result.andThen_ok, run_loadVar_row W g t ty cs (0, 0) d hg hu hd hi]
end
/-! ### A machine's four rows -/
def R4 (w : World) (lo hi : Nat) (v0 v1 v6 v7 : Value) (l0 l1 l6 l7 : List Int) : Prop :=
  (Kd.int .i64).R 3 w lo (fun k => (lo ≤ k ∧ k < hi) ∧ some k ≠ v1.ownBlock ∧ some k ≠ v6.ownBlock ∧ some k ≠ v7.ownBlock) v0 l0 ∧
  (Kd.int .i64).R 3 w lo (fun k => (lo ≤ k ∧ k < hi) ∧ some k ≠ v0.ownBlock ∧ some k ≠ v6.ownBlock ∧ some k ≠ v7.ownBlock) v1 l1 ∧
  (Kd.int .i64).R 3 w lo (fun k => (lo ≤ k ∧ k < hi) ∧ some k ≠ v0.ownBlock ∧ some k ≠ v1.ownBlock ∧ some k ≠ v7.ownBlock) v6 l6 ∧
  (Kd.int .i64).R 3 w lo (fun k => (lo ≤ k ∧ k < hi) ∧ some k ≠ v0.ownBlock ∧ some k ≠ v1.ownBlock ∧ some k ≠ v6.ownBlock) v7 l7
section
variable {w w0 w1 : World} {lo hi lo' hi' : Nat} {v0 v1 v6 v7 : Value} {l0 l1 l6 l7 : List Int}
theorem R4_ch (h : R4 w lo hi v0 v1 v6 v7 l0 l1 l6 l7) (hc : Ch w w1 lo' hi') (hd : hi ≤ lo' ∨ hi' ≤ lo ∨ hi' ≤ lo') : R4 w1 lo hi v0 v1 v6 v7 l0 l1 l6 l7 :=
  ⟨R_ch h.1 (fun _ k => k.1) hc hd, R_ch h.2.1 (fun _ k => k.1) hc hd, R_ch h.2.2.1 (fun _ k => k.1) hc hd, R_ch h.2.2.2 (fun _ k => k.1) hc hd⟩
theorem R4_of (h0 : (Kd.int .i64).R 3 w1 w.heap.size (fun k => some k ≠ v1.ownBlock ∧ some k ≠ v6.ownBlock ∧ some k ≠ v7.ownBlock) v0 l0)
    (h1 : (Kd.int .i64).R 3 w1 w.heap.size (fun k => some k ≠ v0.ownBlock ∧ some k ≠ v6.ownBlock ∧ some k ≠ v7.ownBlock) v1 l1)
    (h6 : (Kd.int .i64).R 3 w1 w.heap.size (fun k => some k ≠ v0.ownBlock ∧ some k ≠ v1.ownBlock ∧ some k ≠ v7.ownBlock) v6 l6)
    (h7 : (Kd.int .i64).R 3 w1 w.heap.size (fun k => some k ≠ v0.ownBlock ∧ some k ≠ v1.ownBlock ∧ some k ≠ v6.ownBlock) v7 l7) :
    R4 w1 w.heap.size w1.heap.size v0 v1 v6 v7 l0 l1 l6 l7 :=
  ⟨Kd.R_mono (R_range h0 (Nat.le_refl _)) (fun k hk => ⟨hk.2, hk.1⟩), Kd.R_mono (R_range h1 (Nat.le_refl _)) (fun k hk => ⟨hk.2, hk.1⟩),
   Kd.R_mono (R_range h6 (Nat.le_refl _)) (fun k hk => ⟨hk.2, hk.1⟩), Kd.R_mono (R_range h7 (Nat.le_refl _)) (fun k hk => ⟨hk.2, hk.1⟩)⟩
end
end Go.Proofs.Ytiagbfilffbljaa.Chg
