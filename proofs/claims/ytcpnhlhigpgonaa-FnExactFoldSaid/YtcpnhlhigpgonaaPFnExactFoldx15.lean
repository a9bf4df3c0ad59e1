-- Laid by a program of this session; Lean checks every line.
import Derived.Test.YtcpnhlhigpgonaaPFnExactFoldx1
import Derived.Test.YtcpnhlhigpgonaaPFnExactFoldx2
import Derived.Test.YtcpnhlhigpgonaaPFnExactFoldx3
import Derived.Test.YtcpnhlhigpgonaaPFnExactFoldx4
import Derived.Test.YtcpnhlhigpgonaaPFnExactFoldx5
import Derived.Test.YtcpnhlhigpgonaaPFnExactFoldx6
import Derived.Test.YtcpnhlhigpgonaaPFnExactFoldx7
import Derived.Test.YtcpnhlhigpgonaaPFnExactFoldx8
import Derived.Test.YtcpnhlhigpgonaaPFnExactFoldx9
import Derived.Test.YtcpnhlhigpgonaaPFnExactFoldx10
import Derived.Test.YtcpnhlhigpgonaaPFnExactFoldx11
import Derived.Test.YtcpnhlhigpgonaaPFnExactFoldx12
import Derived.Test.YtcpnhlhigpgonaaPFnExactFoldx13
import Derived.Test.YtcpnhlhigpgonaaPFnExactFoldx14
import Derived.Test.YtcpnhlhigpgonaaVFnExactFold
import Derived.RowKit
namespace Go.Proofs.Ytcpnhlhigpgonaa.Chg
open Go.RowKit Go.Proofs.YtcpnhlhigpgonaaW.PrintWords Go.Proofs.YtcpnhlhigpgonaaW.PrintLast Go.Proofs.YtcpnhlhigpgonaaW.PrintMore
set_option linter.unusedVariables false
structure Ch (w w1 : World) (lo hi : Nat) : Prop where
  os : w1.os = w.os
  tape : w1.tape = w.tape
  output : w1.output = w.output
  size : w.heap.size ≤ w1.heap.size
  block : ∀ k, k < w.heap.size → k < lo ∨ hi ≤ k → w1.heap[k]? = w.heap[k]?
section
variable {w w0 w1 w2 : World} {lo hi lo' hi' : Nat}
theorem Ch.of_below (h : Below w.heap.size w w1) : Ch w w1 0 0 := ⟨h.os, h.tape, h.output, h.size, fun k hk _ => h.block k hk⟩
theorem Ch.below (h : Ch w w1 0 0) : Below w.heap.size w w1 := ⟨h.os, h.tape, h.output, h.size, fun k hk => h.block k hk (Or.inr (Nat.zero_le _))⟩
theorem Ch.drew (w : World) : Ch w w.drew 0 0 := Ch.of_below (below_drew1 (Below.refl _ _))
theorem Ch.trans (h : Ch w w1 lo hi) (k : Ch w1 w2 lo hi) : Ch w w2 lo hi :=
  ⟨k.os.trans h.os, k.tape.trans h.tape, k.output.trans h.output, Nat.le_trans h.size k.size, fun i hi ho => (k.block i (Nat.lt_of_lt_of_le hi h.size) ho).trans (h.block i hi ho)⟩
theorem Ch.mono (h : Ch w w1 lo hi) (h1 : hi ≤ lo ∨ (lo' ≤ lo ∧ hi ≤ hi')) : Ch w w1 lo' hi' :=
  ⟨h.os, h.tape, h.output, h.size, fun i hlt ho => h.block i hlt (by omega)⟩
theorem blk_ch {g : Nat} {o : Obj} (hc : Ch w w1 lo hi) (h : w.heap[g]? = some o) (hg : g < lo ∨ hi ≤ g) : w1.heap[g]? = some o :=
  (hc.block g (blk_lt h) hg).trans h
theorem below_ch (hb : Below w0.heap.size w0 w) (hc : Ch w w1 lo hi) (h : hi ≤ lo ∨ w0.heap.size ≤ lo) : Below w0.heap.size w0 w1 :=
  hb.trans ⟨hc.os, hc.tape, hc.output, hc.size, fun k hk => hc.block k (Nat.lt_of_lt_of_le hk hb.size) (by omega)⟩
end
section
variable {w w0 w1 : World} {lo hi lo' hi' : Nat} {α : Type} {d : Kd α} {e : Nat} {v : Value} {xs : List α} {ok : Nat → Prop}
end
section
variable {P : Program} {ops : Array Oper} {rest : List Oper} {o : Oper} {a : Act} {Q : Exit → Act → World → Prop} {W : World}
theorem store_struct (hgd : o.guard = none) (hN : o.dst = none) (t : TypeId) (p x : Operand) (ho : o.op = .store t p x) {g : Nat} {t' : TypeId} {old cs : Array Value}
    (haddr : a.eval p = .pointer (some ⟨g, 0, none⟩)) (hx : a.eval x = .agg cs) (hb : W.heap[g]? = some (.cells old t' (0, 0))) (ht : (P.info? t).map (·.size) = some cs.size) (hsz : old.size = cs.size)
    (h1 : ∀ q ∈ cs.toList, q.oneCell' = true)
    (h : ∀ w1, w1.heap[g]? = some (.cells cs t' (0, 0)) → Ch W w1 g (g + 1) → wpList P ops Q rest a w1) : wpList P ops Q (o :: rest) a W := by
  have hlen : cs.toList.length = cs.size := Array.length_toList
  refine wpList_plain hgd fun K hK => ?_
  have hrun := run_store_run (P := P) (o := 0) t (.agg cs) cs.toList hb rfl (by rw [hlen]; exact ht) (by rw [hlen]; omega) h1
  obtain ⟨cur', h3, h4, h5⟩ := setCells_row cs.toList 0 W old hb (by rw [hlen]; omega)
  obtain ⟨s1, s2, s3, s4⟩ := setCells_same g cs.toList 0 W
  have hcur : cur' = cs := by
    apply Array.toList_inj.1
    rw [h5, List.take_zero, List.nil_append, Nat.zero_add, hlen, List.drop_of_length_le (by rw [Array.length_toList]; omega), List.append_nil]
  rw [hcur] at h3
  have hK2 := h _ h3 ⟨s1, s2, s3, by rw [s4]; exact Nat.le_refl _, fun k _ hk => setCells_far _ _ k (by omega)⟩
  unfold Oper.wp execOp
  simp only [ho, haddr, hx, Sem.run_bind, Sem.run_pure, Result.andThen_ok, hrun]
  show K (a.put o.dst undef) _
  rw [hN]
  exact hK a _ hK2
theorem load_yields (ty : TypeId) (x : Operand) (ho : o.op = .load ty x) (g : Nat) (hx : a.eval x = .pointer (some ⟨g, 0, none⟩)) (t : TypeId) (cs : Array Value) (d : TypeDesc) (hg : W.heap[g]? = some (.cells cs t (0, 0)))
    (hu : P.underlying ty = some d) (hd : (match d with | .struct _ | .array _ _ => true | _ => false) = true) (hi : (P.info? ty).map (·.size) = some cs.size) :
    (execOp a.eval o).run P W = .ok (.value (.agg cs)) W := by
  unfold execOp
  simp only [ho, hx, Instr.loadAt, Instr.sureAddr, Sem.run_bind, Sem.run_pure, Result.andThen_ok, run_loadVar_row W g t ty cs (0, 0) d hg hu hd hi]
end
section
variable {w w0 w1 : World} {lo hi lo' hi' : Nat} {v0 v1 v6 v7 : Value} {l0 l1 l6 l7 : List Int}
end
end Go.Proofs.Ytcpnhlhigpgonaa.Chg

namespace Go.Proofs.Ytcpnhlhigpgonaa.PFnExactFold
open Go.RowKit Go.Proofs.YtcpnhlhigpgonaaW.PrintWords Go.Proofs.YtcpnhlhigpgonaaW.PrintLast Go.Proofs.YtcpnhlhigpgonaaW.PrintMore Go.Proofs.Ytcpnhlhigpgonaa.Chg
set_option linter.unusedVariables false
set_option linter.unusedSimpArgs false
attribute [local go_sem] max2_int min2_int max_two min_two max_three min_three max_four min_four
section
variable {w w0 w1 : World} {lo hi lo' hi' n : Nat}
theorem co_ (h : Below w.heap.size w w1) : Ch w w1 0 0 := Ch.of_below h
theorem bz_ {g : Nat} {o : Obj} (hc : Ch w w1 0 0) (h : Aside0 (w.heap[g]? = some o)) : Aside0 (w1.heap[g]? = some o) := ⟨blk_ch hc h.out (Or.inr (Nat.zero_le _))⟩
theorem bs_ {g : Nat} {o : Obj} (hc : Ch w w1 lo hi) (h : Aside0 (w.heap[g]? = some o)) (hg : g < lo ∨ hi ≤ g) : Aside0 (w1.heap[g]? = some o) := ⟨blk_ch hc h.out hg⟩
theorem hz_ (hc : Ch w w1 0 0) (hb : Aside0 (Below w0.heap.size w0 w)) : Aside0 (Below w0.heap.size w0 w1) := ⟨below_ch hb.out hc (Or.inl (Nat.le_refl _))⟩
theorem hs_ (hc : Ch w w1 lo hi) (hb : Aside0 (Below w0.heap.size w0 w)) (h : w0.heap.size ≤ lo) : Aside0 (Below w0.heap.size w0 w1) := ⟨below_ch hb.out hc (Or.inr h)⟩
theorem t_ (hc : Ch w w1 lo hi) (h : Aside0 (n ≤ w.heap.size)) : Aside0 (n ≤ w1.heap.size) := ⟨Nat.le_trans h.out hc.size⟩
end
theorem ss_ {P : Program} {ops : Array Oper} {rest : List Oper} {o : Oper} {a : Act} {Q : Exit → Act → World → Prop} {W : World} (t : TypeId) (p x : Tmp) (cs : Array Value) {g : Nat} {t' : TypeId} {old : Array Value} (hb : W.heap[g]? = some (.cells old t' (0, 0)))
  (h : ∀ w1, w1.heap[g]? = some (.cells cs t' (0, 0)) → Ch W w1 g (g + 1) → wpList P ops Q rest a w1)
  (hgd : o.guard = none := by exact rfl) (hN : o.dst = none := by exact rfl) (ho : o.op = .store t (.tmp p) (.tmp x) := by exact rfl) (haddr : a.eval (.tmp p) = .pointer (some ⟨g, 0, none⟩) := by exact rfl) (hx : a.eval (.tmp x) = .agg cs := by exact rfl)
  (ht : (P.info? t).map (·.size) = some cs.size := by kernel_rfl) (hsz : old.size = cs.size := by exact rfl) (h1 : ∀ q ∈ cs.toList, q.oneCell' = true := by repeat (first | exact fun _ h => absurd h List.not_mem_nil | refine List.forall_mem_cons.2 ⟨rfl, ?_⟩)) :
  wpList P ops Q (o :: rest) a W := store_struct hgd hN t (.tmp p) (.tmp x) ho haddr hx hb ht hsz h1 h
theorem ld_ {P : Program} {ops : Array Oper} {rest : List Oper} {o : Oper} {a : Act} {w : World} {Q : Exit → Act → World → Prop} (ty : TypeId) (N : Tmp) {g : Nat} {t : TypeId} {cs : Array Value} {d : TypeDesc} (hg : w.heap[g]? = some (.cells cs t (0, 0))) (hu : P.underlying ty = some d) (h : wpList P ops Q rest (a.put o.dst (.agg cs)) w)
  (hgd : o.guard = none := by exact rfl) (ho : o.op = .load ty (.tmp N) := by exact rfl) (hx : a.eval (.tmp N) = .pointer (some ⟨g, 0, none⟩) := by exact rfl) (hd : (match d with | .struct _ | .array _ _ => true | _ => false) = true := by exact rfl) (hi : (P.info? ty).map (·.size) = some cs.size := by kernel_rfl) :
  wpList P ops Q (o :: rest) a w := wpList_load_row hgd ty (.tmp N) ho g hx t cs (0, 0) d hg hu hd hi h
theorem S_at {W : World} {base : Nat} {ok : Nat → Prop} {g n cap : Nat} {xs : List S29} (h : Kd.S q29 29 W base ok (.slice (some ⟨g, 0, none⟩) n cap) xs) (i : Int) (h0 : 0 ≤ i) (h1 : i < n) :
    ∃ (oki : Nat → Prop) (v3 : Value), (W.cell? ⟨g, i.toNat * 4, none⟩ = some (.int .i64 (rd_T29 xs i).f0) ∧ W.cell? ⟨g, i.toNat * 4 + 1, none⟩ = some (.int .i64 (rd_T29 xs i).f1) ∧ W.cell? ⟨g, i.toNat * 4 + 2, none⟩ = some (.string (rd_T29 xs i).f2) ∧ W.cell? ⟨g, i.toNat * 4 + 3, none⟩ = some v3) ∧
    (W.frozen? ⟨g, i.toNat * 4, none⟩ = false ∧ W.frozen? ⟨g, i.toNat * 4 + 1, none⟩ = false ∧ W.frozen? ⟨g, i.toNat * 4 + 2, none⟩ = false ∧ W.frozen? ⟨g, i.toNat * 4 + 3, none⟩ = false) ∧ ok g ∧ base ≤ g ∧ (∀ k, oki k → ok k) ∧ Kd.S q29 29 W base oki v3 (rd_T29 xs i).f3 ∧
    (∀ (w1 : World) (l : List S29), (∀ k, ok k → ¬ oki k → k < W.heap.size → w1.heap[k]? = W.heap[k]?) → Kd.S q29 29 w1 base oki v3 l → Kd.S q29 29 w1 base ok (.slice (some ⟨g, 0, none⟩) n cap) (xs.set i.toNat ⟨(rd_T29 xs i).f0, (rd_T29 xs i).f1, (rd_T29 xs i).f2, l⟩)) ∧
    (∀ u : Int, Kd.S q29 29 (W.setCell ⟨g, i.toNat * 4, none⟩ (.int .i64 u)) base ok (.slice (some ⟨g, 0, none⟩) n cap) (xs.set i.toNat ⟨u, (rd_T29 xs i).f1, (rd_T29 xs i).f2, (rd_T29 xs i).f3⟩) ∧ W.grownBy (W.setCell ⟨g, i.toNat * 4, none⟩ (.int .i64 u)) (some g)) ∧
    (∀ u : Int, Kd.S q29 29 (W.setCell ⟨g, i.toNat * 4 + 1, none⟩ (.int .i64 u)) base ok (.slice (some ⟨g, 0, none⟩) n cap) (xs.set i.toNat ⟨(rd_T29 xs i).f0, u, (rd_T29 xs i).f2, (rd_T29 xs i).f3⟩) ∧ W.grownBy (W.setCell ⟨g, i.toNat * 4 + 1, none⟩ (.int .i64 u)) (some g)) ∧
    (∀ u : ByteArray, Kd.S q29 29 (W.setCell ⟨g, i.toNat * 4 + 2, none⟩ (.string u)) base ok (.slice (some ⟨g, 0, none⟩) n cap) (xs.set i.toNat ⟨(rd_T29 xs i).f0, (rd_T29 xs i).f1, u, (rd_T29 xs i).f3⟩) ∧ W.grownBy (W.setCell ⟨g, i.toNat * 4 + 2, none⟩ (.string u)) (some g)) := by
  obtain ⟨oki, c, hcl, hM, hcc, hfr, hoki, hH⟩ := Kd.S_elem h z29 i h0 h1
  obtain ⟨v3, rfl, g3⟩ := q29_openM hM
  have g3 : Kd.S q29 29 W base oki v3 (rd_T29 xs i).f3 := g3
  have far : ∀ {w1 : World}, W.grownBy w1 (some g) → Kd.S q29 29 w1 base oki v3 (rd_T29 xs i).f3 := fun hg => Kd.S_grown g3 hg (fun k hk e => (hoki k hk).2 (by injection e))
  refine ⟨oki, v3, ⟨hcc 0 _ rfl, hcc 1 _ rfl, hcc 2 _ rfl, hcc 3 _ rfl⟩, ⟨hfr 0, hfr 1, hfr 2, hfr 3⟩, (Kd.S_R h).1 g rfl, Kd.S_base h g rfl, fun k hk => (hoki k hk).1, g3, fun w1 l hm hl => ?_, fun u => ?_, fun u => ?_, fun u => ?_⟩
  · exact Kd.H_back (Kd.H_step hH hm) (q29_mkM w1 base oki (⟨(rd_T29 xs i).f0, (rd_T29 xs i).f1, (rd_T29 xs i).f2, l⟩ : S29) hl) (fun _ hk => hk)
  · obtain ⟨h2, h3⟩ := Kd.H_seg hH h0 h1 (seg := [.int .i64 u]) (j := 0) (show 0 + 1 ≤ 4 by decide) (fun q hq => by rw [List.mem_singleton.1 hq]; rfl)
    exact ⟨Kd.H_back h2 (q29_mkM _ base oki (⟨u, (rd_T29 xs i).f1, (rd_T29 xs i).f2, (rd_T29 xs i).f3⟩ : S29) (far h3)) (fun _ hk => hk), h3⟩
  · obtain ⟨h2, h3⟩ := Kd.H_seg hH h0 h1 (seg := [.int .i64 u]) (j := 1) (show 1 + 1 ≤ 4 by decide) (fun q hq => by rw [List.mem_singleton.1 hq]; rfl)
    exact ⟨Kd.H_back h2 (q29_mkM _ base oki (⟨(rd_T29 xs i).f0, u, (rd_T29 xs i).f2, (rd_T29 xs i).f3⟩ : S29) (far h3)) (fun _ hk => hk), h3⟩
  · obtain ⟨h2, h3⟩ := Kd.H_seg hH h0 h1 (seg := [.string u]) (j := 2) (show 2 + 1 ≤ 4 by decide) (fun q hq => by rw [List.mem_singleton.1 hq]; rfl)
    exact ⟨Kd.H_back h2 (q29_mkM _ base oki (⟨(rd_T29 xs i).f0, (rd_T29 xs i).f1, u, (rd_T29 xs i).f3⟩ : S29) (far h3)) (fun _ hk => hk), h3⟩
theorem rd_set29 (xs : List S29) (i : Int) (x : S29) (h0 : 0 ≤ i) (h1 : i < xs.length) : rd_T29 (xs.set i.toNat x) i = x := by
  have h : i.toNat < xs.length := by omega
  simp [rd_T29, List.getD_eq_getElem?_getD, h]
mutual
def laws_markExprS.l0 : Nat → List (S29) → Int → Int → Option (Int × (List (S29)))
 | 0, _, _, _ => none
 | k + 1, x0, x1, x5 => if x5 < (x0.length : Int) then (if 0 ≤ x5 then ((laws_markText.f k (wrap64 ((wrap64 (x1 + 1)) + 1))).bind fun t => ((laws_markExprS.f k (rd_T29 x0 x5).f3 (wrap64 ((wrap64 ((wrap64 (x1 + 1)) + 1)) + 1))).bind fun bt => (laws_markExprS.l0 k (x0.set (x5 : Int).toNat (⟨x1, wrap64 (x1 + 1), t, bt.2⟩ : S29)) bt.1 (wrap64 (x5 + 1))))) else (none)) else (some (x1, x0))
def laws_markExprS.f : Nat → List (S29) → Int → Option (Int × (List (S29)))
 | 0, _, _ => none
 | k + 1, l0, a1 => laws_markExprS.l0 k l0 a1 0
end
set_option maxHeartbeats 8000000 in
set_option maxRecDepth 100000 in
theorem laws_markExprS.calls (k : Nat) : ∀ (P0_ : Nat → Prop) (u9000_ : Value) (l0 : List (S29)) (a1 : Int) (r1 : Int) (r2 : List (S29)) (w0 w : World) (hB : Below w0.heap.size w0 w) (ho0 : Kd.S q29 29 w w0.heap.size P0_ u9000_ l0) (h : laws_markExprS.f k l0 a1 = some (r1, r2)),
    Calls Try.prog 38 #[u9000_, .int .i64 a1] w fun e w' => e = .returned (.int .i64 r1) ∧ Kd.S q29 29 w' w0.heap.size P0_ u9000_ r2 ∧ Below w0.heap.size w0 w' ∧ Kept w w' P0_ := by
  induction k using Nat.strongRecOn with
  | _ k ih =>
  intro P0_ u9000_ l0 a1 r1 r2 w0 w hB ho0 h
  cases k with
  | zero => exact absurd h (by simp [laws_markExprS.f])
  | succ k =>
  simp only [laws_markExprS.f] at h
  have HO0 := A_ ho0
  have HK := A_ (Kept.refl w P0_)
  have HB := A_ hB
  have H' := A_ h
  clear hB ho0 h
  obtain ⟨Ao9, co9, eo9⟩ := Kd.S_slice HO0.out
  subst eo9
  go_enter Try.func38, Try.ntmps38
  go_wp2
  go_loopg [1, 5] k (fun kq v1 v5 w' => ∃ (x0_1 : List (S29)) (x1_1 : Int) (x5_1 : Int), v1 = .int .i64 x1_1 ∧ v5 = .int .i64 x5_1 ∧ Aside0 (laws_markExprS.l0 kq x0_1 x1_1 x5_1 = some (r1, r2)) ∧ Aside0 (kq ≤ k) ∧ Aside0 (x0_1.length = l0.length) ∧ Aside0 (Kd.S q29 29 w' w0.heap.size P0_ (.slice Ao9 l0.length co9) x0_1) ∧ Aside0 (Kept w w' P0_) ∧ Aside0 (Below w0.heap.size w0 w'))
  case atStart => exact ⟨l0, a1, 0, rfl, rfl, H', ⟨Nat.le_refl _⟩, ⟨rfl⟩, HO0, HK, HB⟩
  case round =>
    clear H' HO0 HK HB
    obtain ⟨x0_1, x1_1, x5_1, rfl, rfl, HA, HK1, HL, HO_0, HK, HB⟩ := hrel
    cases gk with
    | zero => exact absurd HA.out (by simp [laws_markExprS.l0])
    | succ k1 =>
      have H := HA.out
      clear HA
      simp only [laws_markExprS.l0] at H
      by_cases c3 : x5_1 < (x0_1.length : Int)
      · rw [if_pos c3] at H
        by_cases c4 : 0 ≤ x5_1
        · rw [if_pos c4] at H
          have c3b0 : decide (x5_1 < (l0.length : Int)) = true := by rw [← HL.out]; exact decide_eq_true c3
          have p5 := eq_true c4
          have q5 := eq_true (show x5_1 < (l0.length : Int) by rw [← HL.out]; exact c3)
          have C3 := A_ c3
          have C4 := A_ c4
          clear c3 c4
          replace H := Option.bind_eq_some_iff.mp H
          obtain ⟨t, A70, H⟩ := H
          replace H := Option.bind_eq_some_iff.mp H
          obtain ⟨⟨b1, b2⟩, A80, H⟩ := H
          dsimp only at H
          have A7 := A_ A70
          have A8 := A_ A80
          have H' := A_ H
          clear A70 A80 H
          obtain ⟨go5, co5, eo5, gb5, gl5, cl5, HG5⟩ := Kd.S_form HO_0.out (by have := C3.out; have := C4.out; omega)
          (first | cases eo5 | (injection eo5 with ea_ en_ ec_; (first | subst ea_ | (injection ea_ with ea_; subst ea_)); subst ec_; clear en_))
          clear gb5 gl5 HG5 cl5
          obtain ⟨x, hx⟩ : ∃ q_, q_ = rd_T29 x0_1 x5_1 := ⟨_, rfl⟩
          obtain ⟨oki5, v5_3, ⟨hx5_0, hx5_1, hx5_2, hx5_3⟩, ⟨hf5_0, hf5_1, hf5_2, hf5_3⟩, hg5, gb5, -, -, -, HP5, -, -⟩ := S_at HO_0.out x5_1 C4.out (by rw [← HL.out]; exact C3.out)
          rw [← hx] at hx5_0 hx5_1 hx5_2 HP5
          have HPm := A_ (HP5 x1_1)
          have GG := A_ hg5
          have GB := A_ gb5
          clear HP5 hg5 gb5
          go_wp2_with (first
            | ((with_reducible refine gate_store (t := 3) (p := 16) rfl ?_); refine store_event (t := 3) (p := 16) (v := ?vo_w11) (w1 := (wr.setCell ⟨go5, (x5_1 : Int).toNat * 4, none⟩ (.int .i64 x1_1))) ?hg ?ho ?hn ?hr ?_; (case ho => rfl); (case hg => rfl); (case hn => rfl); (case hr => first | (go_simp; done) | (go_simp; rfl)); intro w11 hw; have hp_ := HPm.out; rw [← hw] at hp_; clear HPm; clear HO_0; have HO_0 := A_ hp_.1; have n2_ := A_ (Kept.of_grown (S := P0_) hp_.2 HK.out (fun k_ e_ => Or.inl (by injection e_ with e_; exact e_ ▸ GG.out))); clear HK; have HK := n2_; clear n2_; have n1_ : Aside0 (Below w0.heap.size w0 w11) := ⟨by rw [hw]; exact below_set HB.out GB.out⟩; clear HB; have HB := n1_; clear n1_ hp_ hw; obtain ⟨oki6, v6_3, ⟨hx6_0, hx6_1, hx6_2, hx6_3⟩, ⟨hf6_0, hf6_1, hf6_2, hf6_3⟩, -, -, -, -, -, -, HP6, -⟩ := S_at HO_0.out x5_1 C4.out (by rw [← HL.out]; exact C3.out); simp only [rd_set29 _ _ _ C4.out C3.out, List.set_set] at HP6; have HPm := A_ (HP6 (wrap64 (x1_1 + 1))); clear HP6)
            | ((with_reducible refine gate_store (t := 3) (p := 23) rfl ?_); refine store_event (t := 3) (p := 23) (v := ?vo_w13) (w1 := (w11.setCell ⟨go5, (x5_1 : Int).toNat * 4 + 1, none⟩ (.int .i64 (wrap64 (x1_1 + 1))))) ?hg ?ho ?hn ?hr ?_; (case ho => rfl); (case hg => rfl); (case hn => rfl); (case hr => first | (go_simp; done) | (go_simp; rfl)); intro w13 hw; have hp_ := HPm.out; rw [← hw] at hp_; clear HPm; clear HO_0; have HO_0 := A_ hp_.1; have n2_ := A_ (Kept.of_grown (S := P0_) hp_.2 HK.out (fun k_ e_ => Or.inl (by injection e_ with e_; exact e_ ▸ GG.out))); clear HK; have HK := n2_; clear n2_; have n1_ : Aside0 (Below w0.heap.size w0 w13) := ⟨by rw [hw]; exact below_set HB.out GB.out⟩; clear HB; have HB := n1_; clear n1_ hp_ hw)
            | ((with_reducible refine gate_callee (f := 55) rfl ?_); refine gL_ (some 29) Try.func55 #[.int .i64 (wrap64 ((wrap64 (x1_1 + 1)) + 1))] ?_; (with_reducible refine (laws_markText.calls k1 (wrap64 ((wrap64 (x1_1 + 1)) + 1)) t _ A7.out).mono ?_); rintro e w14 ⟨rfl, hb⟩; refine ⟨_, rfl, ?_⟩; have n0_ := A_ (Kd.S_below HO_0.out hb); have n1_ := A_ (Kept.below (S := P0_) HK.out hb); have n2_ := A_ (below_step HB.out hb); clear HO_0 HK HB; have HO_0 := n0_; have HK := n1_; have HB := n2_; clear n0_ n1_ n2_ hb; obtain ⟨oki8, v8_3, ⟨hx8_0, hx8_1, hx8_2, hx8_3⟩, ⟨hf8_0, hf8_1, hf8_2, hf8_3⟩, -, -, -, -, -, -, -, HP8⟩ := S_at HO_0.out x5_1 C4.out (by rw [← HL.out]; exact C3.out); simp only [rd_set29 _ _ _ C4.out C3.out, List.set_set] at HP8; have HPm := A_ (HP8 t); clear HP8)
            | ((with_reducible refine gate_store (t := 9) (p := 31) rfl ?_); refine store_event (t := 9) (p := 31) (v := ?vo_w16) (w1 := (w14.setCell ⟨go5, (x5_1 : Int).toNat * 4 + 2, none⟩ (.string t))) ?hg ?ho ?hn ?hr ?_; (case ho => rfl); (case hg => rfl); (case hn => rfl); (case hr => first | (go_simp; done) | (go_simp; rfl)); intro w16 hw; have hp_ := HPm.out; rw [← hw] at hp_; clear HPm; clear HO_0; have HO_0 := A_ hp_.1; have n2_ := A_ (Kept.of_grown (S := P0_) hp_.2 HK.out (fun k_ e_ => Or.inl (by injection e_ with e_; exact e_ ▸ GG.out))); clear HK; have HK := n2_; clear n2_; have n1_ : Aside0 (Below w0.heap.size w0 w16) := ⟨by rw [hw]; exact below_set HB.out GB.out⟩; clear HB; have HB := n1_; clear n1_ hp_ hw; obtain ⟨oki9, v9_3, ⟨hx9_0, hx9_1, hx9_2, hx9_3⟩, -, -, -, hok9, HS9, HP9, -, -, -⟩ := S_at HO_0.out x5_1 C4.out (by rw [← HL.out]; exact C3.out); simp only [rd_set29 _ _ _ C4.out C3.out, List.set_set] at HS9 HP9; have HS := A_ HS9; have HPm := A_ HP9; have HOK := A_ hok9; clear HS9 HP9 hok9)
            | ((with_reducible refine gate_callee (f := 38) rfl ?_); refine gL_ (some 40) Try.func38 #[v9_3, .int .i64 (wrap64 ((wrap64 ((wrap64 (x1_1 + 1)) + 1)) + 1))] ?_; (with_reducible refine (ih k1 (by have := HK1.out; omega) oki9 v9_3 x.f3 (wrap64 ((wrap64 ((wrap64 (x1_1 + 1)) + 1)) + 1)) b1 b2 w0 _ HB.out HS.out (by rw [hx]; exact A8.out)).mono ?_); rintro e w17 ⟨rfl, hs_, hb, hk_⟩; refine ⟨_, rfl, ?_⟩; have n0_ := A_ (HPm.out w17 b2 (fun k_ _ hn_ hlt_ => hk_.2 k_ hlt_ hn_) hs_); have n1_ := A_ (Kept.then_ HK.out hk_ (fun k_ h_ => Or.inl (HOK.out k_ h_))); clear HO_0 HK HB HPm HS; have HO_0 := n0_; have HK := n1_; have HB := A_ hb; clear n0_ n1_ hb hk_ hs_))
          go_roundg k1
          case measure => have := HK1.out; omega
          case rel => exact ⟨_, _, _, rfl, rfl, H', ⟨by have := HK1.out; omega⟩, ⟨(List.length_set).trans HL.out⟩, HO_0, HK, HB⟩
        · rw [if_neg c4] at H
          exact absurd H (by simp)
      · rw [if_neg c3] at H
        have c3b0 : decide (x5_1 < (l0.length : Int)) = false := by rw [← HL.out]; exact decide_eq_false c3
        clear c3
        simp only [Option.some.injEq, Prod.mk.injEq] at H
        obtain ⟨rfl, rfl⟩ := H
        go_wp2
        go_ret
        exact ⟨rfl, HO_0.out, HB.out, HK.out⟩
end Go.Proofs.Ytcpnhlhigpgonaa.PFnExactFold
