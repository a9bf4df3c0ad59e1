-- Laid by a program of this session; Lean checks every line.
import Derived.Test.YtcpnhlhigpgonaaPFnPutInx13
import Derived.Test.YtcpnhlhigpgonaaVFnPutIn
import Derived.RowKit
namespace Go.Proofs.Ytcpnhlhigpgonaa.Chg
open Go.RowKit Go.Proofs.YtcpnhlhigpgonaaW.PrintWords Go.Proofs.YtcpnhlhigpgonaaW.PrintLast Go.Proofs.YtcpnhlhigpgonaaW.PrintMore
set_option linter.unusedVariables false
structure Ch (w w1 : World) (lo hi : Nat) : Prop where
  os : w1.os = w.os
  tape : w1.tape = w.tape
  output : w1.output = w.output
  size : w.heap.size ≤ w1.heap.size
  block : ∀ k, k < w.heap.size → k < lo ∨ hi ≤ k → w1.heap[k]? = w.heap[k]?
section
variable {w w0 w1 w2 : World} {lo hi lo' hi' : Nat}
theorem Ch.of_below (h : Below w.heap.size w w1) : Ch w w1 0 0 := ⟨h.os, h.tape, h.output, h.size, fun k hk _ => h.block k hk⟩
theorem Ch.below (h : Ch w w1 0 0) : Below w.heap.size w w1 := ⟨h.os, h.tape, h.output, h.size, fun k hk => h.block k hk (Or.inr (Nat.zero_le _))⟩
theorem Ch.of_drawn (h : Drawn0 w w1) : Ch w w1 0 0 := Ch.of_below h.below
theorem Ch.drew (w : World) : Ch w w.drew 0 0 := Ch.of_below (below_drew1 (Below.refl _ _))
theorem Ch.trans (h : Ch w w1 lo hi) (k : Ch w1 w2 lo hi) : Ch w w2 lo hi :=
  ⟨k.os.trans h.os, k.tape.trans h.tape, k.output.trans h.output, Nat.le_trans h.size k.size, fun i hi ho => (k.block i (Nat.lt_of_lt_of_le hi h.size) ho).trans (h.block i hi ho)⟩
theorem Ch.mono (h : Ch w w1 lo hi) (h1 : hi ≤ lo ∨ (lo' ≤ lo ∧ hi ≤ hi')) : Ch w w1 lo' hi' :=
  ⟨h.os, h.tape, h.output, h.size, fun i hlt ho => h.block i hlt (by omega)⟩
theorem blk_ch {g : Nat} {o : Obj} (hc : Ch w w1 lo hi) (h : w.heap[g]? = some o) (hg : g < lo ∨ hi ≤ g) : w1.heap[g]? = some o :=
  (hc.block g (blk_lt h) hg).trans h
theorem below_ch (hb : Below w0.heap.size w0 w) (hc : Ch w w1 lo hi) (h : hi ≤ lo ∨ w0.heap.size ≤ lo) : Below w0.heap.size w0 w1 :=
  hb.trans ⟨hc.os, hc.tape, hc.output, hc.size, fun k hk => hc.block k (Nat.lt_of_lt_of_le hk hb.size) (by omega)⟩
end
section
variable {w w0 w1 : World} {lo hi lo' hi' : Nat} {α : Type} {d : Kd α} {e : Nat} {v : Value} {xs : List α} {ok : Nat → Prop}
end
section
variable {P : Program} {ops : Array Oper} {rest : List Oper} {o : Oper} {a : Act} {Q : Exit → Act → World → Prop} {W : World}
theorem store_struct (hgd : o.guard = none) (hN : o.dst = none) (t : TypeId) (p x : Operand) (ho : o.op = .store t p x) {g : Nat} {t' : TypeId} {old cs : Array Value}
    (haddr : a.eval p = .pointer (some ⟨g, 0, none⟩)) (hx : a.eval x = .agg cs) (hb : W.heap[g]? = some (.cells old t' (0, 0))) (ht : (P.info? t).map (·.size) = some cs.size) (hsz : old.size = cs.size)
    (h1 : ∀ q ∈ cs.toList, q.oneCell' = true)
    (h : ∀ w1, w1.heap[g]? = some (.cells cs t' (0, 0)) → Ch W w1 g (g + 1) → wpList P ops Q rest a w1) : wpList P ops Q (o :: rest) a W := by
  have hlen : cs.toList.length = cs.size := Array.length_toList
  refine wpList_plain hgd fun K hK => ?_
  have hrun := run_store_run (P := P) (o := 0) t (.agg cs) cs.toList hb rfl (by rw [hlen]; exact ht) (by rw [hlen]; omega) h1
  obtain ⟨cur', h3, h4, h5⟩ := setCells_row cs.toList 0 W old hb (by rw [hlen]; omega)
  obtain ⟨s1, s2, s3, s4⟩ := setCells_same g cs.toList 0 W
  have hcur : cur' = cs := by
    apply Array.toList_inj.1
    rw [h5, List.take_zero, List.nil_append, Nat.zero_add, hlen, List.drop_of_length_le (by rw [Array.length_toList]; omega), List.append_nil]
  rw [hcur] at h3
  have hK2 := h _ h3 ⟨s1, s2, s3, by rw [s4]; exact Nat.le_refl _, fun k _ hk => setCells_far _ _ k (by omega)⟩
  unfold Oper.wp execOp
  simp only [ho, haddr, hx, Sem.run_bind, Sem.run_pure, Result.andThen_ok, hrun]
  show K (a.put o.dst undef) _
  rw [hN]
  exact hK a _ hK2
theorem store_struct_step {oi : Oper} {K : Act → World → Prop} (hw : Region.wanted oi (yielded ops a.tmps) = true) (hN : oi.dst = none) (t : TypeId) (p x : Operand) (ho : oi.op = .store t p x) {g : Nat} {t' : TypeId} {old cs : Array Value}
    (haddr : a.eval p = .pointer (some ⟨g, 0, none⟩)) (hx : a.eval x = .agg cs) (hb : W.heap[g]? = some (.cells old t' (0, 0))) (ht : (P.info? t).map (·.size) = some cs.size) (hsz : old.size = cs.size)
    (h1 : ∀ q ∈ cs.toList, q.oneCell' = true)
    (h : ∀ w1, w1.heap[g]? = some (.cells cs t' (0, 0)) → Ch W w1 g (g + 1) → K a w1) : if Region.wanted oi (yielded ops a.tmps) = true then Oper.wp P oi a W K Q else K (a.put none undef) W := by
  have hlen : cs.toList.length = cs.size := Array.length_toList
  have hrun := run_store_run (P := P) (o := 0) t (.agg cs) cs.toList hb rfl (by rw [hlen]; exact ht) (by rw [hlen]; omega) h1
  obtain ⟨cur', h3, h4, h5⟩ := setCells_row cs.toList 0 W old hb (by rw [hlen]; omega)
  obtain ⟨s1, s2, s3, s4⟩ := setCells_same g cs.toList 0 W
  have hcur : cur' = cs := by
    apply Array.toList_inj.1
    rw [h5, List.take_zero, List.nil_append, Nat.zero_add, hlen, List.drop_of_length_le (by rw [Array.length_toList]; omega), List.append_nil]
  rw [hcur] at h3
  refine skip_ hw hN ?_ (h _ h3 ⟨s1, s2, s3, by rw [s4]; exact Nat.le_refl _, fun k _ hk => setCells_far _ _ k (by omega)⟩)
  unfold execOp
  simp only [ho, haddr, hx, Sem.run_bind, Sem.run_pure, Result.andThen_ok, hrun]
theorem load_yields (ty : TypeId) (x : Operand) (ho : o.op = .load ty x) (g : Nat) (hx : a.eval x = .pointer (some ⟨g, 0, none⟩)) (t : TypeId) (cs : Array Value) (d : TypeDesc) (hg : W.heap[g]? = some (.cells cs t (0, 0)))
    (hu : P.underlying ty = some d) (hd : (match d with | .struct _ | .array _ _ => true | _ => false) = true) (hi : (P.info? ty).map (·.size) = some cs.size) :
    (execOp a.eval o).run P W = .ok (.value (.agg cs)) W := by
  unfold execOp
  simp only [ho, hx, Instr.loadAt, Instr.sureAddr, Sem.run_bind, Sem.run_pure, Result.andThen_ok, run_loadVar_row W g t ty cs (0, 0) d hg hu hd hi]
end
section
variable {w w0 w1 : World} {lo hi lo' hi' : Nat} {v0 v1 v6 v7 : Value} {l0 l1 l6 l7 : List Int}
end
end Go.Proofs.Ytcpnhlhigpgonaa.Chg

namespace Go.Proofs.Ytcpnhlhigpgonaa.PFnPutIn
open Go.RowKit Go.Proofs.YtcpnhlhigpgonaaW.PrintWords Go.Proofs.YtcpnhlhigpgonaaW.PrintLast Go.Proofs.YtcpnhlhigpgonaaW.PrintMore Go.Proofs.Ytcpnhlhigpgonaa.Chg
set_option linter.unusedVariables false
set_option linter.unusedSimpArgs false
attribute [local go_sem] max2_int min2_int max_two min_two max_three min_three max_four min_four
section
variable {w w0 w1 : World} {lo hi lo' hi' n : Nat}
theorem co_ (h : Below w.heap.size w w1) : Ch w w1 0 0 := Ch.of_below h
theorem bz_ {g : Nat} {o : Obj} (hc : Ch w w1 0 0) (h : Aside0 (w.heap[g]? = some o)) : Aside0 (w1.heap[g]? = some o) := ⟨blk_ch hc h.out (Or.inr (Nat.zero_le _))⟩
theorem bs_ {g : Nat} {o : Obj} (hc : Ch w w1 lo hi) (h : Aside0 (w.heap[g]? = some o)) (hg : g < lo ∨ hi ≤ g) : Aside0 (w1.heap[g]? = some o) := ⟨blk_ch hc h.out hg⟩
theorem hz_ (hc : Ch w w1 0 0) (hb : Aside0 (Below w0.heap.size w0 w)) : Aside0 (Below w0.heap.size w0 w1) := ⟨below_ch hb.out hc (Or.inl (Nat.le_refl _))⟩
theorem hs_ (hc : Ch w w1 lo hi) (hb : Aside0 (Below w0.heap.size w0 w)) (h : w0.heap.size ≤ lo) : Aside0 (Below w0.heap.size w0 w1) := ⟨below_ch hb.out hc (Or.inr h)⟩
theorem t_ (hc : Ch w w1 lo hi) (h : Aside0 (n ≤ w.heap.size)) : Aside0 (n ≤ w1.heap.size) := ⟨Nat.le_trans h.out hc.size⟩
end
theorem ss_ {P : Program} {ops : Array Oper} {rest : List Oper} {o : Oper} {a : Act} {Q : Exit → Act → World → Prop} {W : World} (t : TypeId) (p x : Tmp) (cs : Array Value) {g : Nat} {t' : TypeId} {old : Array Value} (hb : W.heap[g]? = some (.cells old t' (0, 0)))
  (h : ∀ w1, w1.heap[g]? = some (.cells cs t' (0, 0)) → Ch W w1 g (g + 1) → wpList P ops Q rest a w1)
  (hgd : o.guard = none := by exact rfl) (hN : o.dst = none := by exact rfl) (ho : o.op = .store t (.tmp p) (.tmp x) := by exact rfl) (haddr : a.eval (.tmp p) = .pointer (some ⟨g, 0, none⟩) := by exact rfl) (hx : a.eval (.tmp x) = .agg cs := by exact rfl)
  (ht : (P.info? t).map (·.size) = some cs.size := by kernel_rfl) (hsz : old.size = cs.size := by exact rfl) (h1 : ∀ q ∈ cs.toList, q.oneCell' = true := by repeat (first | exact fun _ h => absurd h List.not_mem_nil | refine List.forall_mem_cons.2 ⟨rfl, ?_⟩)) :
  wpList P ops Q (o :: rest) a W := store_struct hgd hN t (.tmp p) (.tmp x) ho haddr hx hb ht hsz h1 h
theorem ld_ {P : Program} {ops : Array Oper} {rest : List Oper} {o : Oper} {a : Act} {w : World} {Q : Exit → Act → World → Prop} (ty : TypeId) (N : Tmp) {g : Nat} {t : TypeId} {cs : Array Value} {d : TypeDesc} (hg : w.heap[g]? = some (.cells cs t (0, 0))) (hu : P.underlying ty = some d) (h : wpList P ops Q rest (a.put o.dst (.agg cs)) w)
  (hgd : o.guard = none := by exact rfl) (ho : o.op = .load ty (.tmp N) := by exact rfl) (hx : a.eval (.tmp N) = .pointer (some ⟨g, 0, none⟩) := by exact rfl) (hd : (match d with | .struct _ | .array _ _ => true | _ => false) = true := by exact rfl) (hi : (P.info? ty).map (·.size) = some cs.size := by kernel_rfl) :
  wpList P ops Q (o :: rest) a w := wpList_load_row hgd ty (.tmp N) ho g hx t cs (0, 0) d hg hu hd hi h
section
variable {w w0 w1 : World} {lo hi lo' hi' n : Nat} {α : Type} {d : Kd α} {A : Option Addr} {m : Nat} {xs : List α}
theorem fz_ (hc : Ch w w1 0 0) (h : Aside0 (Kd.F d w (fun k => lo ≤ k ∧ k < hi) A m xs)) : Aside0 (Kd.F d w1 (fun k => lo ≤ k ∧ k < hi) A m xs) := ⟨Kd.F_step h.out (fun k _ hlt => hc.block k hlt (Or.inr (Nat.zero_le _)))⟩
theorem fs_ (hc : Ch w w1 lo' hi') (h : Aside0 (Kd.F d w (fun k => lo ≤ k ∧ k < hi) A m xs)) (hd : hi ≤ lo' ∨ hi' ≤ lo) : Aside0 (Kd.F d w1 (fun k => lo ≤ k ∧ k < hi) A m xs) := ⟨Kd.F_step h.out (fun k hk hlt => hc.block k hlt (by omega))⟩
theorem F_wide (h : Kd.F d w (fun k => lo ≤ k ∧ k < hi) A m xs) (h1 : lo' ≤ lo) (h2 : hi ≤ hi') : Kd.F d w (fun k => lo' ≤ k ∧ k < hi') A m xs := Kd.F_mono h (fun k hk => ⟨Nat.le_trans h1 hk.1, Nat.lt_of_lt_of_le hk.2 h2⟩)
theorem N_in {e base : Nat} {v : Value} (h : Kd.N d e w1 base (fun k_ => w.heap.size ≤ k_) v xs) : ∃ A c, v = .slice A xs.length c ∧ xs.length ≤ c ∧ Kd.F d w1 (fun k => w.heap.size ≤ k ∧ k < w1.heap.size) A xs.length xs := by
  obtain ⟨A, c, hv, hl, hF⟩ := Kd.N_V (base' := base) h
  exact ⟨A, c, hv, hl, Kd.F_bound hF⟩
theorem R_in {e : Nat} {ok : Nat → Prop} {v : Value} (h : Kd.R d e w1 w.heap.size ok v xs) : ∃ A c, v = .slice A xs.length c ∧ xs.length ≤ c ∧ Kd.F d w1 (fun k => w.heap.size ≤ k ∧ k < w1.heap.size) A xs.length xs := by
  obtain ⟨A, c, hv, hl, hF⟩ := Kd.R_V (base' := 0) (Kd.R_bound h)
  exact ⟨A, c, hv, hl, Kd.F_mono hF (fun k hk => ⟨hk.2.1, hk.2.2.1⟩)⟩
theorem k_ch {g : Nat} (hk : KeepBut w w1 g none) (h0 : Below w0.heap.size w0 w) (h1 : Below w0.heap.size w0 w1) : Ch w w1 g (g + 1) :=
  ⟨h1.os.trans h0.os.symm, h1.tape.trans h0.tape.symm, h1.output.trans h0.output.symm, hk.1, fun k hlt hne => hk.2 k hlt (by omega) (by simp)⟩
end
section
variable {w w0 w1 : World} {lo hi g : Nat} {f0 : List Int} {f1 f2 : Int}
theorem iz_ (hc : Ch w w1 0 0) (h : Aside0 (IsS77 w0 w g f0 f1 f2)) : Aside0 (IsS77 w0 w1 g f0 f1 f2) := by
  obtain ⟨A0, c0, h1, h2, h3⟩ := h.out
  exact ⟨A0, c0, blk_ch hc h1 (Or.inr (Nat.zero_le _)), h2, h3⟩
theorem is_ (hc : Ch w w1 lo hi) (h : Aside0 (IsS77 w0 w g f0 f1 f2)) (hg : g < lo ∨ hi ≤ g) : Aside0 (IsS77 w0 w1 g f0 f1 f2) := by
  obtain ⟨A0, c0, h1, h2, h3⟩ := h.out
  exact ⟨A0, c0, blk_ch hc h1 hg, h2, h3⟩
end
theorem bl2_ {P : Program} {ops : Array Oper} {Q : Exit → Act → World → Prop} {rest : List Oper} {o : Oper} {a : Act} {W : World} (N : Tmp) (cs : Array Value) (t : TypeId) (n : Nat)
 (h : ∀ g, g = W.heap.size → ∀ w1, w1.heap[g]? = some (.cells cs t (0, 0)) → Below W.heap.size W w1 → wpList P ops Q rest (a.put o.dst (.slice (some ⟨g, 0, none⟩) n n)) w1) (hgd : o.guard = none := by exact rfl) (hd : o.dst = some N := by exact rfl)
 (hrun : (execOp a.eval o).run P W = .ok (.value (.slice (some ⟨W.heap.size, 0, none⟩) n n)) (W.alloc (.cells cs t (0, 0))) := by first | (go_simp; done) | (go_simp; rfl)) : wpList P ops Q (o :: rest) a W :=
 Kd.event_run hgd hrun (h _ rfl _ (blk_new W _) (below_alloc (Below.refl _ _) _))
theorem bl2_step {P : Program} {ops : Array Oper} {Q : Exit → Act → World → Prop} {Kc : Act → World → Prop} {o : Oper} {a : Act} {W : World} (N : Tmp) (cs : Array Value) (t : TypeId) (n : Nat) (hw : Region.wanted o (yielded ops a.tmps) = true)
 (h : ∀ g, g = W.heap.size → ∀ w1, w1.heap[g]? = some (.cells cs t (0, 0)) → Below W.heap.size W w1 → Kc (a.put o.dst (.slice (some ⟨g, 0, none⟩) n n)) w1) (hd : o.dst = some N := by exact rfl)
 (hrun : (execOp a.eval o).run P W = .ok (.value (.slice (some ⟨W.heap.size, 0, none⟩) n n)) (W.alloc (.cells cs t (0, 0))) := by first | (go_simp; done) | (go_simp; rfl)) : if Region.wanted o (yielded ops a.tmps) = true then Oper.wp P o a W Kc Q else Kc (a.put o.dst undef) W :=
 event_step hw hrun (h _ rfl _ (blk_new W _) (below_alloc (Below.refl _ _) _))
theorem store_first {P : Program} {ops : Array Oper} {rest : List Oper} {o : Oper} {a : Act} {Q : Exit → Act → World → Prop} {W : World} (t : TypeId) (p x : Tmp) (c0 c1 c2 c3 : Value) {g : Nat} {t' : TypeId} {o0 o1 o2 o3 o4 o5 o6 o7 : Value} (hb : W.heap[g]? = some (.cells #[o0, o1, o2, o3, o4, o5, o6, o7] t' (0, 0)))
  (h : ∀ w1, w1.heap[g]? = some (.cells #[c0, c1, c2, c3, o4, o5, o6, o7] t' (0, 0)) → Ch W w1 g (g + 1) → wpList P ops Q rest a w1)
  (hgd : o.guard = none := by exact rfl) (hN : o.dst = none := by exact rfl) (ho : o.op = .store t (.tmp p) (.tmp x) := by exact rfl) (haddr : a.eval (.tmp p) = .pointer (some ⟨g, 0, none⟩) := by exact rfl) (hx : a.eval (.tmp x) = .agg #[c0, c1, c2, c3] := by exact rfl)
  (ht : (P.info? t).map (·.size) = some 4 := by kernel_rfl) (h1 : ∀ q ∈ [c0, c1, c2, c3], q.oneCell' = true := by repeat (first | exact fun _ h => absurd h List.not_mem_nil | refine List.forall_mem_cons.2 ⟨rfl, ?_⟩)) :
  wpList P ops Q (o :: rest) a W := by
  refine wpList_plain hgd fun K hK => ?_
  have hrun := run_store_run (P := P) (o := 0) t (.agg #[c0, c1, c2, c3]) [c0, c1, c2, c3] hb rfl (by simpa using ht) (by simp) h1
  obtain ⟨cur', h3, h4, h5⟩ := setCells_row [c0, c1, c2, c3] 0 W #[o0, o1, o2, o3, o4, o5, o6, o7] hb (by simp)
  obtain ⟨s1, s2, s3, s4⟩ := setCells_same g [c0, c1, c2, c3] 0 W
  have hcur : cur' = #[c0, c1, c2, c3, o4, o5, o6, o7] := by apply Array.toList_inj.1; rw [h5]; rfl
  rw [hcur] at h3
  have hK2 := h _ h3 ⟨s1, s2, s3, by rw [s4]; exact Nat.le_refl _, fun k _ hk => setCells_far _ _ k (by omega)⟩
  unfold Oper.wp execOp
  simp only [ho, haddr, hx, Sem.run_bind, Sem.run_pure, Result.andThen_ok, hrun]
  show K (a.put o.dst undef) _
  rw [hN]
  exact hK a _ hK2
theorem row2_C {w : World} {g : Nat} {x y : S29} {A B : Option Addr} {ca cb : Nat} (hb : w.heap[g]? = some (.cells #[.int .i64 x.f0, .int .i64 x.f1, .string x.f2, .slice A x.f3.length ca, .int .i64 y.f0, .int .i64 y.f1, .string y.f2, .slice B y.f3.length cb] 29 (0, 0)))
  (ha : x.f3.length ≤ ca) (hA : k29.C w A x.f3.length x.f3) (hc : y.f3.length ≤ cb) (hB : k29.C w B y.f3.length y.f3) : k29.C w (some ⟨g, 0, none⟩) 2 [x, y] := by
  refine ⟨rfl, by decide, fun _ => ⟨_, rfl, fun j p hj => ?_⟩⟩
  match j, hj with
  | 0, hj =>
    obtain rfl : x = p := by simpa using hj
    refine ⟨_, rfl, k29_mk w x ha hA, fun i u hi => ?_⟩
    match i, hi with
    | 0, hi => obtain rfl := Option.some.inj hi; exact (blk_cell hb 0).trans rfl
    | 1, hi => obtain rfl := Option.some.inj hi; exact (blk_cell hb 1).trans rfl
    | 2, hi => obtain rfl := Option.some.inj hi; exact (blk_cell hb 2).trans rfl
    | 3, hi => obtain rfl := Option.some.inj hi; exact (blk_cell hb 3).trans rfl
    | n + 4, hi => simp at hi
  | 1, hj =>
    obtain rfl : y = p := by simpa using hj
    refine ⟨_, rfl, k29_mk w y hc hB, fun i u hi => ?_⟩
    match i, hi with
    | 0, hi => obtain rfl := Option.some.inj hi; exact (blk_cell hb 4).trans rfl
    | 1, hi => obtain rfl := Option.some.inj hi; exact (blk_cell hb 5).trans rfl
    | 2, hi => obtain rfl := Option.some.inj hi; exact (blk_cell hb 6).trans rfl
    | 3, hi => obtain rfl := Option.some.inj hi; exact (blk_cell hb 7).trans rfl
    | n + 4, hi => simp at hi
  | n + 2, hj => simp at hj
theorem row1_C {w : World} {g : Nat} {y : S29} {B : Option Addr} {cb : Nat} {o0 o1 o2 o3 : Value} (hb : w.heap[g]? = some (.cells #[o0, o1, o2, o3, .int .i64 y.f0, .int .i64 y.f1, .string y.f2, .slice B y.f3.length cb] 29 (0, 0)))
  (hc : y.f3.length ≤ cb) (hB : k29.C w B y.f3.length y.f3) : k29.C w (some ⟨g, 4, none⟩) 1 [y] := by
  refine ⟨rfl, by decide, fun _ => ⟨_, rfl, fun j p hj => ?_⟩⟩
  match j, hj with
  | 0, hj =>
    obtain rfl : y = p := by simpa using hj
    refine ⟨_, rfl, k29_mk w y hc hB, fun i u hi => ?_⟩
    match i, hi with
    | 0, hi => obtain rfl := Option.some.inj hi; exact (blk_cell hb 4).trans rfl
    | 1, hi => obtain rfl := Option.some.inj hi; exact (blk_cell hb 5).trans rfl
    | 2, hi => obtain rfl := Option.some.inj hi; exact (blk_cell hb 6).trans rfl
    | 3, hi => obtain rfl := Option.some.inj hi; exact (blk_cell hb 7).trans rfl
    | n + 4, hi => simp at hi
  | n + 1, hj => simp at hj
theorem F_of {α : Type} {d : Kd α} {w : World} {lo hi g : Nat} {A : Option Addr} {n : Nat} {xs : List α} {o : Obj} (hb : w.heap[g]? = some o) (hg : lo ≤ g ∧ g < hi) (h : ∀ w', w'.heap[g]? = some o → (∀ k, (lo ≤ k ∧ k < hi) → k < w.heap.size → w'.heap[k]? = w.heap[k]?) → d.C w' A n xs) : Kd.F d w (fun k => lo ≤ k ∧ k < hi) A n xs :=
 fun w' hW => h w' ((hW g hg (blk_lt hb)).trans hb) hW
theorem row2_F {w : World} {lo hi g : Nat} {x y : S29} {A B : Option Addr} {ca cb : Nat} (hb : w.heap[g]? = some (.cells #[.int .i64 x.f0, .int .i64 x.f1, .string x.f2, .slice A x.f3.length ca, .int .i64 y.f0, .int .i64 y.f1, .string y.f2, .slice B y.f3.length cb] 29 (0, 0))) (hg : lo ≤ g ∧ g < hi)
  (ha : x.f3.length ≤ ca) (hA : Kd.F k29 w (fun k => lo ≤ k ∧ k < hi) A x.f3.length x.f3) (hc : y.f3.length ≤ cb) (hB : Kd.F k29 w (fun k => lo ≤ k ∧ k < hi) B y.f3.length y.f3) : Kd.F k29 w (fun k => lo ≤ k ∧ k < hi) (some ⟨g, 0, none⟩) 2 [x, y] :=
 F_of hb hg (fun w' h1 h2 => row2_C h1 ha (hA w' h2) hc (hB w' h2))
theorem row1_F {w : World} {lo hi g : Nat} {y : S29} {B : Option Addr} {cb : Nat} {o0 o1 o2 o3 : Value} (hb : w.heap[g]? = some (.cells #[o0, o1, o2, o3, .int .i64 y.f0, .int .i64 y.f1, .string y.f2, .slice B y.f3.length cb] 29 (0, 0))) (hg : lo ≤ g ∧ g < hi)
  (hc : y.f3.length ≤ cb) (hB : Kd.F k29 w (fun k => lo ≤ k ∧ k < hi) B y.f3.length y.f3) : Kd.F k29 w (fun k => lo ≤ k ∧ k < hi) (some ⟨g, 4, none⟩) 1 [y] :=
 F_of hb hg (fun w' h1 h2 => row1_C h1 hc (hB w' h2))
theorem plain_F {α : Type} {enc : α → Value} {h1 : ∀ x, (enc x).oneCell' = true} {w : World} {lo hi g : Nat} {t : TypeId} {xs : List α} (n : Nat) (hb : w.heap[g]? = some (.cells (xs.map enc).toArray t (0, 0))) (hg : lo ≤ g ∧ g < hi) (hn : xs.length = n) (hm : n ≤ 9223372036854775807) : Kd.F (Kd.scalar enc h1) w (fun k => lo ≤ k ∧ k < hi) (some ⟨g, 0, none⟩) n xs :=
 F_of hb hg (fun w' h1 _ => ⟨hn, hm, fun _ => ⟨_, rfl, fun j p hj => ⟨[enc p], rfl, rfl, fun i u hi => by
  match i, hi with
  | 0, hi =>
    obtain rfl := Option.some.inj hi
    have := blk_cell h1 (j * 1)
    rw [show (Addr.add ⟨g, 0, none⟩ (j * (Kd.scalar enc _).sz + 0)) = ⟨g, j * 1, none⟩ by
      rcases Nat.eq_zero_or_pos j with h0 | h0
      · subst h0; rfl
      · simp [Addr.add, Kd.scalar, Nat.ne_of_gt h0]]
    rw [this]
    simp [hj]
  | n + 1, hi => simp at hi⟩⟩⟩)
end Go.Proofs.Ytcpnhlhigpgonaa.PFnPutIn
