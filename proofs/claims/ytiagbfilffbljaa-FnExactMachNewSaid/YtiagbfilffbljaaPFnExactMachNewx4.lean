-- Laid by a program of this session (a changed copy of the kit's printer); Lean checks every line.
import Derived.Test.YtiagbfilffbljaaPFnExactMachNewx0
import Derived.Test.YtiagbfilffbljaaPFnExactMachNewx3
namespace Go.Proofs.Ytiagbfilffbljaa.PFnExactMachNew
open Go.RowKit Go.Proofs.YtiagbfilffbljaaW.PrintWords Go.Proofs.YtiagbfilffbljaaW.PrintLast Go.Proofs.YtiagbfilffbljaaW.PrintMore
attribute [local go_sem] max2_int min2_int max_two min_two max_three min_three max_four min_four   -- for this text's walks alone
set_option linter.unusedVariables false
set_option linter.unusedSimpArgs false

/-! ### impl_MachNew: function 29 -/
/-! ### A region that draws its order, walked by what holds whichever operations have come up -/
section
variable {P : Program} {ops : Array Oper} {Q : Exit → Act → World → Prop} {md : Region.Mode}
theorem cnt_set {l : Array Bool} {i : Nat} (h : l.getD i true = false) : (l.setIfInBounds i true).toList.count false + 1 = l.toList.count false := by
 have hi : i < l.size := by
  rcases Nat.lt_or_ge i l.size with h' | h'
  ·exact h'
  ·simp [Array.getElem?_eq_none h'] at h
 have hv : l.toList[i]'(by simpa using hi) = false := by simpa [hi] using h
 have hp : 0 < l.toList.count false := List.count_pos_iff.2 (hv ▸ List.getElem_mem _)
 rw [Array.toList_setIfInBounds, List.count_set (by simpa using hi), hv, if_pos (by decide : (false == false) = true), if_neg (by decide : ¬ (true == false) = true)]
 omega
/-- whichever operations l have come up: I holds of them, of the values and the world; each that may come up next keeps it. -/
theorem open_ {n : Nat} {σ : Type} (A : σ → Act) (I : Array Bool → σ → World → Prop) (hn : ops.size = n)
  (hb : ((List.range ops.size).all fun i => match ops[i]? with | some o => o.after.all fun e => !Region.binds md e || decide (e.on < i) | none => true) = true)
  (hs : ∀ (i : Nat) (oi : Oper) (l : Array Bool) (s : σ) (w : World), i < n → ops[i]? = some oi → l.size = n → l.getD i true = false → (∀ e ∈ oi.after, Region.binds md e = true → l.getD e.on false = true) → I l s w →
   ∀ K : Act → World → Prop, (∀ s' w', I (l.setIfInBounds i true) s' w' → K (A s') w') → if Region.wanted oi (yielded ops (A s).tmps) = true then Oper.wp P oi (A s) w K Q else K ((A s).put oi.dst undef) w)
  (he : ∀ s w, I (Array.replicate n true) s w → Q .normal (A s) w) :
  ∀ (fuel : Nat) (l : Array Bool) (s : σ) (w : World), l.size = n → l.toList.count false ≤ fuel → I l s w → wpAnyLast P md ops Q (fun _ => True) [] fuel l (A s) w := by
 have all : ∀ (l : Array Bool), l.size = n → Region.ready md ops l = [] → l = Array.replicate n true := by
  intro l hl hr
  have h1 : ∀ i, i < n → l.getD i true = true := by
   intro i
   induction i using Nat.strongRecOn with
   | _ i ih =>
    intro hi
    cases hv : l.getD i true with
    | true => rfl
    | false =>
     obtain ⟨oi, ho⟩ : ∃ oi, ops[i]? = some oi := ⟨_, Array.getElem?_eq_getElem (by omega)⟩
     have hm : i ∈ Region.ready md ops l := mem_ready.2 ⟨hv, oi, ho, fun e he hbe => by
      have h2 := List.all_eq_true.1 hb i (List.mem_range.2 (by omega))
      simp only [ho] at h2
      have h3 := Array.all_eq_true_iff_forall_mem.1 h2 e he
      simp only [hbe, Bool.not_true, Bool.false_or, decide_eq_true_eq] at h3
      have h4 := ih e.on h3 (by omega)
      have h5 : e.on < l.size := by omega
      simpa [h5] using h4⟩
     rw [hr] at hm
     cases hm
  apply Array.ext
  ·simpa using hl
  ·intro i h2 h3
   have h4 := h1 i (by omega)
   simpa [h2] using h4
 intro fuel
 induction fuel with
 | zero =>
  intro l s w hl hc hI
  have hr : Region.ready md ops l = [] := by
   rcases h : Region.ready md ops l with _ | ⟨i, r⟩
   ·rfl
   ·have hm : i ∈ Region.ready md ops l := h ▸ List.mem_cons_self
    have := cnt_set (mem_ready.1 hm).1
    omega
  exact ⟨hr, he s w (all l hl hr ▸ hI)⟩
 | succ fuel ih =>
  intro l s w hl hc hI
  refine ⟨fun hr => he s w (all l hl hr ▸ hI), fun i hi => ?_⟩
  obtain ⟨hun, oi, ho, hall⟩ := mem_ready.1 hi
  have hin : i < n := by have := (Array.getElem?_eq_some_iff.1 ho).1; omega
  refine wpOp_step ho (fun K hK => hs i oi l s w hin ho hl hun hall hI K (fun s' w' hI' => hK _ _ ⟨fun _ h => h, ih _ s' w' (by simpa using hl) ?_ hI'⟩))
  have := cnt_set hun
  omega
theorem open2_ {n : Nat} {σ : Type} {a : Act} {fuel : Nat} {l : Array Bool} {w : World} (ns : σ → List (Tmp × Value)) (I : Array Bool → σ → World → Prop) (hn : ops.size = n)
  (hb : ((List.range ops.size).all fun i => match ops[i]? with | some o => o.after.all fun e => !Region.binds md e || decide (e.on < i) | none => true) = true)
  (hs : ∀ (i : Nat) (oi : Oper) (l : Array Bool) (s : σ) (w : World), i < n → ops[i]? = some oi → l.size = n → l.getD i true = false → (∀ e ∈ oi.after, Region.binds md e = true → l.getD e.on false = true) → I l s w →
   ∀ K : Act → World → Prop, (∀ s' w', I (l.setIfInBounds i true) s' w' → K (putAll a (ns s')) w') → if Region.wanted oi (yielded ops (putAll a (ns s)).tmps) = true then Oper.wp P oi (putAll a (ns s)) w K Q else K ((putAll a (ns s)).put oi.dst undef) w)
  (he : ∀ s w, I (Array.replicate n true) s w → Q .normal (putAll a (ns s)) w)
  (s0 : σ) (ha : putAll a (ns s0) = a) (hl : l.size = n) (hc : l.toList.count false ≤ fuel) (h0 : I l s0 w) : wpAnyLast P md ops Q (fun _ => True) [] fuel l a w :=
 (show wpAnyLast P md ops Q (fun _ => True) [] fuel l (putAll a (ns s0)) w from open_ (fun s => putAll a (ns s)) I hn hb hs he fuel l s0 w hl hc h0) |> (fun h => by rw [ha] at h; exact h)
theorem gst {l : Array Bool} {i j n : Nat} (hl : l.size = n) (hi : i < n) : (l.setIfInBounds i true).getD j false = if i = j then true else l.getD j false := by
 by_cases e : i = j
 ·subst e
  rw [if_pos rfl]
  simp [hl, hi]
 ·rw [if_neg e]
  exact getD_set_ne false e
theorem gun {l : Array Bool} {i n : Nat} (hl : l.size = n) (hi : i < n) (h : l.getD i true = false) : l.getD i false = false := by
 have : i < l.size := by omega
 simpa [this] using h
theorem lit_ {oi : Oper} {a a1 : Act} {w : World} {K : Act → World → Prop} (e : a = a1) (h : if Region.wanted oi (yielded ops a1.tmps) = true then Oper.wp P oi a1 w K Q else K (a1.put oi.dst undef) w) :
  if Region.wanted oi (yielded ops a.tmps) = true then Oper.wp P oi a w K Q else K (a.put oi.dst undef) w := by
 subst e
 exact h
end
/-! ### copy into a row's cells from q on; rows that may have come up -/
theorem seg_ {α : Type} (L E : List α) {N q m : Nat} (hE : E.length = m) (hq : q + m ≤ N) (hL : N ≤ L.length) : (L.take q ++ E ++ L.drop (q + m)).take N = (L.take N).take q ++ (E ++ (L.take N).drop (q + m)) := by
 have hl : (L.take q ++ E).length = q + m := by simp only [List.length_append, List.length_take]; omega
 rw [List.take_append, hl, List.take_of_length_le (by omega), List.take_take, Nat.min_eq_left (by omega), List.drop_take, List.append_assoc]
section
open Kd
variable {P : Program} {ops : Array Oper} {rest : List Oper} {o : Oper} {a : Act} {Q : Exit → Act → World → Prop}
theorem copy_at {W : World} (base : Nat) (hgd : o.guard = none) (s x : Operand) (t t' e : TypeId)
  (ho : o.op = .call { callee := .builtin .copy, args := #[s, x], argTypes := #[t, t'] }) (ht : P.underlying t = some (.slice e)) (hinfo : (P.info? e).map (·.size) = some 1)
  {g n cap q m c l : Nat} {n' : Nat} (xs ys : List Int) (A : Option Addr) (ok : Nat → Prop) (hs : a.eval s = .slice (some ⟨g, q, none⟩) n' l) (hx : a.eval x = .slice A m c) (hn' : m ≤ n')
  (HO : (Kd.int .i64).R e W base ok (.slice (some ⟨g, 0, none⟩) n cap) xs) (HR : (Kd.int .i64).C W A m ys) (hfit : q + m ≤ n)
  (h : ∀ w1, (Kd.int .i64).R e w1 base ok (.slice (some ⟨g, 0, none⟩) n cap) (xs.take q ++ (ys ++ xs.drop (q + m))) → W.grownBy w1 (some g) → wpList P ops Q rest (a.put o.dst (.int .i64 (m : Int))) w1) :
  wpList P ops Q (o :: rest) a W := by
 have hR := reads_of_C (d := (0 : Int)) HR
 have hm : ys.length = m := hR.1
 have hown := own_of_R HO
 have hnx : n = xs.length := (R_reads' HO).1
 subst hnx
 have fin : ∀ w1, (Builtin.copy_ #[t, t'] o.type #[.slice (some ⟨g, q, none⟩) n' l, .slice A m c]).run P W = .ok (goInt (m : Int)) w1 → (Kd.int .i64).R e w1 base ok (.slice (some ⟨g, 0, none⟩) xs.length cap) (xs.take q ++ (ys ++ xs.drop (q + m))) → W.grownBy w1 (some g) → wpList P ops Q (o :: rest) a W := by
  intro w1 hr hrow hg
  refine wpList_plain hgd fun K hK => ?_
  unfold Oper.wp execOp
  simp only [ho, resolve, invoke, builtin, Sem.run_bind, Sem.run_pure, Result.andThen_ok, List.map_toArray, List.map_cons, List.map_nil, hs, hx, hr]
  exact hK _ _ (h w1 hrow hg)
 rcases Nat.eq_zero_or_pos m with h0 | hp
 ·subst h0
  obtain rfl : ys = [] := List.eq_nil_of_length_eq_zero hm
  refine fin W ?_ (by rw [List.nil_append, Nat.add_zero, List.take_append_drop]; exact HO) (World.grownBy.refl W _)
  exact run_copy_none W t t' o.type e _ A n' l 0 c ht hinfo (by simp)
 ·obtain ⟨ad, hA, hc⟩ := hR.2.2 hp
  rcases hown.2 with ⟨hv, hx0⟩ | ⟨g', cap', cur, hv, hb, hh, hnc, hcm, hcs, htake⟩
  ·simp at hv
  obtain ⟨rfl, rfl⟩ : g = g' ∧ cap = cap' := by simpa using hv
  have hsrc : ∀ j u, (encs (fun i => Value.int .i64 i) ys)[j]? = some u → W.cell? (ad.add j) = some u := by
   intro j u hu
   have hj : j < ys.length := by
    rcases Nat.lt_or_ge j ys.length with h | h
    ·exact h
    ·rw [List.getElem?_eq_none (by rw [encs_length]; exact h)] at hu
     cases hu
   rw [encs_get (d := (0 : Int)) _ j hj] at hu
   rw [hc j (by omega), ← hu]
  have hkl : (encs (fun i => Value.int .i64 i) ys).length = m := by rw [encs_length, hm]
  have hr := run_copy_cells (P := P) W t t' o.type e g q n' l ad m c (encs (fun i => Value.int .i64 i) ys) ht hinfo (by rw [hkl]; exact (Nat.min_eq_left hn').symm) hsrc
   (fun j hj => by rw [cell_of_row W g _ cur e (0, 0) hh]; simp; omega) (fun j _ => blk_frozen hh _) (by intro u hu; simp only [encs, List.mem_map] at hu; obtain ⟨q, _, rfl⟩ := hu; rfl)
  obtain ⟨cur', h3, h4, h5⟩ := setCells_row (encs (fun i => Value.int .i64 i) ys) q W cur hh (by rw [hkl]; omega)
  obtain ⟨s1, s2, s3, s4⟩ := setCells_same g (encs (fun i => Value.int .i64 i) ys) q W
  refine fin _ (by rw [hA, hr, hkl]) (R_of_own ?_ HO.1) ⟨s1, s2, s3, by rw [s4]; exact Nat.le_refl _, fun k _ hk => setCells_far _ _ k (fun he => hk (by rw [he]))⟩
  have hln : (xs.take q ++ (ys ++ xs.drop (q + m))).length = xs.length := by
   simp only [List.length_append, List.length_take, List.length_drop]
   omega
  rw [hln]
  refine ⟨by rw [encs_length, hln, Nat.mul_one], .inr ⟨g, cap, cur', rfl, hb, h3, hnc, hcm, by rw [h4, hcs], ?_⟩⟩
  rw [h5, hkl, encs_append, encs_append, Nat.mul_one]
  have htk : cur.toList.take xs.length = encs (fun i => Value.int .i64 i) xs := by rw [← htake, Nat.mul_one]
  have hd : encs (fun i => Value.int .i64 i) (xs.drop (q + m)) = (encs (fun i => Value.int .i64 i) xs).drop (q + m) := by simp [encs, List.map_drop]
  have hd2 : encs (fun i => Value.int .i64 i) (xs.take q) = (encs (fun i => Value.int .i64 i) xs).take q := by simp [encs, List.map_take]
  rw [hd, hd2, ← htk]
  exact seg_ _ _ hkl hfit (by have hcl : cur.toList.length = cur.size := Array.length_toList; omega)
end
section
open Kd
variable {P : Program} {ops : Array Oper} {a : Act} {Q : Exit → Act → World → Prop} {W : World}
theorem row_ptr {e base n : Nat} {ok : Nat → Prop} {v : Value} {xs : List Int} (h : (Kd.int .i64).R e W base ok v xs) (hn : xs.length = n) (hp : 0 < n) : ∃ g cap, v = .slice (some ⟨g, 0, none⟩) n cap ∧ base ≤ g ∧ n ≤ cap := by
 subst hn
 rcases (own_of_R h).2 with ⟨_, h0⟩ | ⟨g, cap, cur, hv, hb, hh, hnc, _⟩
 ·omega
 ·exact ⟨g, cap, hv, hb, hnc⟩
/-- a number stored into a row of one's own. -/
theorem store_row_step {oi : Oper} {K : Act → World → Prop} (hw : Region.wanted oi (yielded ops a.tmps) = true) (hN : oi.dst = none) (t : TypeId) (p x : Operand) (ho : oi.op = .store t p x) {e base n g j cap : Nat} {ok : Nat → Prop} {u : Int} {xs : List Int}
  (haddr : a.eval p = .pointer (some ⟨g, j, none⟩)) (hx : a.eval x = .int .i64 u) (ht : (P.info? t).map (·.size) = some 1) (HO : (Kd.int .i64).R e W base ok (.slice (some ⟨g, 0, none⟩) n cap) xs) (hj : j < n)
  (h : ∀ w1, (Kd.int .i64).R e w1 base ok (.slice (some ⟨g, 0, none⟩) n cap) (xs.set j u) → W.grownBy w1 (some g) → K a w1) : if Region.wanted oi (yielded ops a.tmps) = true then Oper.wp P oi a W K Q else K (a.put none undef) W := by
 have hnx : n = xs.length := (R_reads' HO).1
 subst hnx
 rcases (own_of_R HO).2 with ⟨hv, _⟩ | ⟨g', cap', cur, hv, hb, hh, hnc, hcm, hcs, _⟩
 ·simp at hv
 obtain ⟨rfl, rfl⟩ : g = g' ∧ cap = cap' := by simpa using hv
 have hrun := run_store_run (P := P) (o := j) t (.int .i64 u) [.int .i64 u] hh rfl ht (by simp; omega) (by intro q hq; rw [List.mem_singleton.1 hq]; rfl)
 obtain ⟨h1, h2⟩ := R_put HO (j : Int) u
 refine skip_ hw hN ?_ (h _ h1 h2)
 unfold execOp
 simp only [ho, haddr, hx, Sem.run_bind, Sem.run_pure, Result.andThen_ok, hrun]
 rfl
/-- a whole struct stored into its box. -/
theorem store_box_step {oi : Oper} {K : Act → World → Prop} (hw : Region.wanted oi (yielded ops a.tmps) = true) (hN : oi.dst = none) (t : TypeId) (p x : Operand) (ho : oi.op = .store t p x) {g : Nat} {t' : TypeId} {old cs : Array Value}
  (haddr : a.eval p = .pointer (some ⟨g, 0, none⟩)) (hx : a.eval x = .agg cs) (hb : W.heap[g]? = some (.cells old t' (0, 0))) (ht : (P.info? t).map (·.size) = some cs.size) (hsz : old.size = cs.size)
  (h1 : ∀ q ∈ cs.toList, q.oneCell' = true)
  (h : ∀ w1, w1.heap[g]? = some (.cells cs t' (0, 0)) → W.grownBy w1 (some g) → K a w1) : if Region.wanted oi (yielded ops a.tmps) = true then Oper.wp P oi a W K Q else K (a.put none undef) W := by
 have hlen : cs.toList.length = cs.size := Array.length_toList
 have hrun := run_store_run (P := P) (o := 0) t (.agg cs) cs.toList hb rfl (by rw [hlen]; exact ht) (by rw [hlen]; omega) h1
 obtain ⟨cur', h3, h4, h5⟩ := setCells_row cs.toList 0 W old hb (by rw [hlen]; omega)
 obtain ⟨s1, s2, s3, s4⟩ := setCells_same g cs.toList 0 W
 have hcur : cur' = cs := by
  apply Array.toList_inj.1
  rw [h5, List.take_zero, List.nil_append, Nat.zero_add, hlen, List.drop_of_length_le (by rw [Array.length_toList]; omega), List.append_nil]
 rw [hcur] at h3
 refine skip_ hw hN ?_ (h _ h3 ⟨s1, s2, s3, by rw [s4]; exact Nat.le_refl _, fun k _ hk => setCells_far _ _ k (fun e => hk (by rw [e]))⟩)
 unfold execOp
 simp only [ho, haddr, hx, Sem.run_bind, Sem.run_pure, Result.andThen_ok, hrun]
end
/-- v, if b, is a row of numbers made since n. -/
def RwB (b : Bool) (n : Nat) (w : World) (v : Value) (xs : List Int) : Prop := (∀ k, v.ownBlock = some k → k < w.heap.size) ∧ (b = true → (Kd.int .i64).R 3 w n (fun _ => True) v xs)
def Dj (u v : Value) : Prop := ∀ k, u.ownBlock = some k → v.ownBlock ≠ some k
section
variable {b : Bool} {n : Nat} {w w' : World} {u v : Value} {xs : List Int}
theorem RwB.un : RwB false n w (.tuple #[]) xs := ⟨fun k h => by simp [Value.ownBlock] at h, fun h => by cases h⟩
theorem RwB.keep (h : RwB b n w v xs) (hb : Below w.heap.size w w') : RwB b n w' v xs := ⟨fun k hk => Nat.lt_of_lt_of_le (h.1 k hk) hb.size, fun e => Kd.R_below (h.2 e) hb⟩
theorem RwB.grown {r : Option Nat} (h : RwB b n w v xs) (hg : w.grownBy w' r) (hd : ∀ k, v.ownBlock = some k → some k ≠ r) : RwB b n w' v xs :=
 ⟨fun k hk => Nat.lt_of_lt_of_le (h.1 k hk) hg.size, fun e => Kd.R_mono (Kd.R_step (w1 := w') (⟨fun k hk => hk, (h.2 e).2⟩ : (Kd.int .i64).R 3 w n (fun k => v.ownBlock = some k) v xs) (fun k hk hl => hg.block k hl (hd k hk))) (fun _ _ => trivial)⟩
theorem RwB.new (h : (Kd.int .i64).R 3 w' w.heap.size (fun _ => True) v xs) (hn : n ≤ w.heap.size) : RwB true n w' v xs := ⟨fun k hk => ((Kd.R_bound h).1 k hk).2.2.1, fun _ => Kd.R_lower h hn⟩
theorem Dj.new (h : (Kd.int .i64).R 3 w' w.heap.size (fun _ => True) v xs) (hu : ∀ k, u.ownBlock = some k → k < w.heap.size) : Dj v u ∧ Dj u v :=
 ⟨fun k hk e => absurd (hu k e) (Nat.not_lt.2 ((Kd.R_bound h).1 k hk).2.1), fun k hk e => absurd (hu k hk) (Nat.not_lt.2 ((Kd.R_bound h).1 k e).2.1)⟩
end
section
variable {e n g x : Nat} {w w' w0 : World} {u v : Value} {xs : List Int} {o : Obj}
theorem R_grown_ (h : (Kd.int .i64).R e w n (fun _ => True) v xs) (hg : w.grownBy w' (some g)) (hd : v.ownBlock ≠ some g) : (Kd.int .i64).R e w' n (fun _ => True) v xs :=
 Kd.R_mono (Kd.R_step (w1 := w') (⟨fun k hk => hk, h.2⟩ : (Kd.int .i64).R e w n (fun k => v.ownBlock = some k) v xs) (fun k hk hl => hg.block k hl (fun q => hd (hk.trans q)))) (fun _ _ => trivial)
theorem blk_grown_ (h : w.heap[x]? = some o) (hg : w.grownBy w' (some g)) (hd : x ≠ g) : w'.heap[x]? = some o := (hg.block x (blk_lt h) (fun q => hd (by injection q))).trans h
theorem bel_grown_ (h : Below w0.heap.size w0 w) (hg : w.grownBy w' (some g)) (hd : w0.heap.size ≤ g) : Below w0.heap.size w0 w' :=
 h.trans ⟨hg.os, hg.tape, hg.output, hg.size, fun k hk => hg.block k (Nat.lt_of_lt_of_le hk h.size) (fun q => by injection q with q; omega)⟩
end
section
variable {P : Program} {ops : Array Oper} {rest : List Oper} {o : Oper} {a : Act} {Q : Exit → Act → World → Prop} {W : World}
/-- the same in a plain region. -/
theorem store_box (hgd : o.guard = none) (hN : o.dst = none) (t : TypeId) (p x : Operand) (ho : o.op = .store t p x) {g : Nat} {t' : TypeId} {old cs : Array Value}
  (haddr : a.eval p = .pointer (some ⟨g, 0, none⟩)) (hx : a.eval x = .agg cs) (hb : W.heap[g]? = some (.cells old t' (0, 0))) (ht : (P.info? t).map (·.size) = some cs.size) (hsz : old.size = cs.size)
  (h1 : ∀ q ∈ cs.toList, q.oneCell' = true)
  (h : ∀ w1, w1.heap[g]? = some (.cells cs t' (0, 0)) → W.grownBy w1 (some g) → wpList P ops Q rest a w1) : wpList P ops Q (o :: rest) a W := by
 have hlen : cs.toList.length = cs.size := Array.length_toList
 refine wpList_plain hgd fun K hK => ?_
 have hrun := run_store_run (P := P) (o := 0) t (.agg cs) cs.toList hb rfl (by rw [hlen]; exact ht) (by rw [hlen]; omega) h1
 obtain ⟨cur', h3, h4, h5⟩ := setCells_row cs.toList 0 W old hb (by rw [hlen]; omega)
 obtain ⟨s1, s2, s3, s4⟩ := setCells_same g cs.toList 0 W
 have hcur : cur' = cs := by
  apply Array.toList_inj.1
  rw [h5, List.take_zero, List.nil_append, Nat.zero_add, hlen, List.drop_of_length_le (by rw [Array.length_toList]; omega), List.append_nil]
 rw [hcur] at h3
 have hK2 := h _ h3 ⟨s1, s2, s3, by rw [s4]; exact Nat.le_refl _, fun k _ hk => setCells_far _ _ k (fun e => hk (by rw [e]))⟩
 unfold Oper.wp execOp
 simp only [ho, haddr, hx, Sem.run_bind, Sem.run_pure, Result.andThen_ok, hrun]
 show K (a.put o.dst undef) _
 rw [hN]
 exact hK a _ hK2
end
structure MnI (l3 : List Int) (w0 : World) (b0 b1 b3 b4 b5 b6 : Bool) (x0 x1 x3 vb vp : Value) (g : Nat) (w : World) : Prop where
 bel : Below w0.heap.size w0 w
 r0 : RwB b0 w0.heap.size w x0 (List.replicate 256 0)
 r1 : RwB b1 w0.heap.size w x1 (List.replicate 8 0)
 r3 : RwB b3 w0.heap.size w x3 l3
 d01 : Dj x0 x1
 d03 : Dj x0 x3
 d13 : Dj x1 x3
 hb : b4 = true → b0 = true ∧ b1 = true ∧ b3 = true ∧ vb = .agg #[x0, x1, .bool false, .bool false, .bool false, .bool false, x3, .slice none 0 0, .int .i64 0]
 hs : b6 = true → b4 = true ∧ b5 = true
 hp : b5 = true → vp = .pointer (some ⟨g, 0, none⟩) ∧ w0.heap.size ≤ g ∧ w.heap[g]? = some (.cells (if b6 = true then #[x0, x1, .bool false, .bool false, .bool false, .bool false, x3, .slice none 0 0, .int .i64 0] else #[.slice none 0 0, .slice none 0 0, .bool false, .bool false, .bool false, .bool false, .slice none 0 0, .slice none 0 0, .int .i64 0]) 28 (0, 0)) ∧ x0.ownBlock ≠ some g ∧ x1.ownBlock ≠ some g ∧ x3.ownBlock ≠ some g
section
variable {g : Nat} {l3 : List Int} {w0 w w' : World} {b0 b1 b3 b4 b5 b6 : Bool} {x0 x1 x3 vb vp : Value}
theorem MnI.s0 {v : Value} (h : MnI l3 w0 false b1 b3 b4 b5 b6 x0 x1 x3 vb vp g w) (ho : (Kd.int .i64).R 3 w' w.heap.size (fun _ => True) v (List.replicate 256 0)) (hb : Below w.heap.size w w') : MnI l3 w0 true b1 b3 b4 b5 b6 v x1 x3 vb vp g w' := by
 have hs : b6 = false := by cases e : b6 with
  | false => rfl
  | true => exact absurd (h.hb (h.hs e).1).1 (by simp)
 subst hs
 exact ⟨below_step h.bel hb, RwB.new ho h.bel.size, h.r1.keep hb, h.r3.keep hb, (Dj.new ho h.r1.1).1, (Dj.new ho h.r3.1).1, h.d13, fun e => absurd (h.hb e).1 (by simp), (fun e => by cases e), (fun e => by
  obtain ⟨e1, e2, e3, e0_, e1_, e3_⟩ := h.hp e
  exact ⟨e1, e2, (hb.block g (blk_lt e3)).trans e3, fun e => absurd (blk_lt e3) (Nat.not_lt.2 ((Kd.R_bound ho).1 g e).2.1), e1_, e3_⟩)⟩
theorem MnI.s1 {v : Value} (h : MnI l3 w0 b0 false b3 b4 b5 b6 x0 x1 x3 vb vp g w) (ho : (Kd.int .i64).R 3 w' w.heap.size (fun _ => True) v (List.replicate 8 0)) (hb : Below w.heap.size w w') : MnI l3 w0 b0 true b3 b4 b5 b6 x0 v x3 vb vp g w' := by
 have hs : b6 = false := by cases e : b6 with
  | false => rfl
  | true => exact absurd (h.hb (h.hs e).1).2.1 (by simp)
 subst hs
 exact ⟨below_step h.bel hb, h.r0.keep hb, RwB.new ho h.bel.size, h.r3.keep hb, (Dj.new ho h.r0.1).2, h.d03, (Dj.new ho h.r3.1).1, fun e => absurd (h.hb e).2.1 (by simp), (fun e => by cases e), (fun e => by
  obtain ⟨e1, e2, e3, e0_, e1_, e3_⟩ := h.hp e
  exact ⟨e1, e2, (hb.block g (blk_lt e3)).trans e3, e0_, fun e => absurd (blk_lt e3) (Nat.not_lt.2 ((Kd.R_bound ho).1 g e).2.1), e3_⟩)⟩
theorem MnI.s3 {v : Value} (h : MnI l3 w0 b0 b1 false b4 b5 b6 x0 x1 x3 vb vp g w) (ho : (Kd.int .i64).R 3 w' w.heap.size (fun _ => True) v l3) (hb : Below w.heap.size w w') : MnI l3 w0 b0 b1 true b4 b5 b6 x0 x1 v vb vp g w' := by
 have hs : b6 = false := by cases e : b6 with
  | false => rfl
  | true => exact absurd (h.hb (h.hs e).1).2.2.1 (by simp)
 subst hs
 exact ⟨below_step h.bel hb, h.r0.keep hb, h.r1.keep hb, RwB.new ho h.bel.size, h.d01, (Dj.new ho h.r0.1).2, (Dj.new ho h.r1.1).2, fun e => absurd (h.hb e).2.2.1 (by simp), (fun e => by cases e), (fun e => by
  obtain ⟨e1, e2, e3, e0_, e1_, e3_⟩ := h.hp e
  exact ⟨e1, e2, (hb.block g (blk_lt e3)).trans e3, e0_, e1_, fun e => absurd (blk_lt e3) (Nat.not_lt.2 ((Kd.R_bound ho).1 g e).2.1)⟩)⟩
theorem MnI.sb (h : MnI l3 w0 b0 b1 b3 false b5 b6 x0 x1 x3 vb vp g w) (e0 : b0 = true) (e1 : b1 = true) (e3 : b3 = true) : MnI l3 w0 b0 b1 b3 true b5 b6 x0 x1 x3 (.agg #[x0, x1, .bool false, .bool false, .bool false, .bool false, x3, .slice none 0 0, .int .i64 0]) vp g w := by
 exact ⟨h.bel, h.r0, h.r1, h.r3, h.d01, h.d03, h.d13, fun _ => ⟨e0, e1, e3, rfl⟩, fun e => absurd (h.hs e).1 (by simp), h.hp⟩
theorem MnI.sa {g' : Nat} (h : MnI l3 w0 b0 b1 b3 b4 false b6 x0 x1 x3 vb vp g w) (hg : g' = w.heap.size) (hx : w'.heap[g']? = some (.cells #[.slice none 0 0, .slice none 0 0, .bool false, .bool false, .bool false, .bool false, .slice none 0 0, .slice none 0 0, .int .i64 0] 28 (0, 0))) (hb : Below w.heap.size w w') : MnI l3 w0 b0 b1 b3 b4 true b6 x0 x1 x3 vb (.pointer (some ⟨g', 0, none⟩)) g' w' := by
 have hs : b6 = false := by cases e : b6 with
  | false => rfl
  | true => exact absurd (h.hs e).2 (by simp)
 subst hs
 exact ⟨below_step h.bel hb, h.r0.keep hb, h.r1.keep hb, h.r3.keep hb, h.d01, h.d03, h.d13, h.hb, (fun e => by cases e), fun _ => ⟨rfl, hg ▸ h.bel.size, hx, fun e => absurd (h.r0.1 g' e) (by omega), fun e => absurd (h.r1.1 g' e) (by omega), fun e => absurd (h.r3.1 g' e) (by omega)⟩⟩
theorem MnI.ss (h : MnI l3 w0 b0 b1 b3 b4 b5 false x0 x1 x3 vb vp g w) (hx : w'.heap[g]? = some (.cells #[x0, x1, .bool false, .bool false, .bool false, .bool false, x3, .slice none 0 0, .int .i64 0] 28 (0, 0))) (hg : w.grownBy w' (some g)) (e4 : b4 = true) (e5 : b5 = true) : MnI l3 w0 b0 b1 b3 b4 b5 true x0 x1 x3 vb vp g w' := by
 obtain ⟨e1, e2, e3, e0_, e1_, e3_⟩ := h.hp e5
 exact ⟨h.bel.trans ⟨hg.os, hg.tape, hg.output, hg.size, fun k hk => hg.block k (Nat.lt_of_lt_of_le hk h.bel.size) (fun e => by injection e with e; omega)⟩, h.r0.grown hg (fun k hk e => e0_ (e ▸ hk)), h.r1.grown hg (fun k hk e => e1_ (e ▸ hk)), h.r3.grown hg (fun k hk e => e3_ (e ▸ hk)), h.d01, h.d03, h.d13, h.hb, fun _ => ⟨e4, e5⟩, fun _ => ⟨e1, e2, (by rw [if_pos rfl]; exact hx), e0_, e1_, e3_⟩⟩
end

/-! ### what a new machine's rows are -/
def newMem (l0 : List Int) (q : Nat) : List Int := (List.replicate 256 0).take q ++ (l0 ++ (List.replicate 256 0).drop (q + l0.length))
def newRegs (a2 : Int) : List Int := ((List.replicate 8 0).set 6 512).set 7 a2
def impl_MachNew.mk (l0 : List Int) (a1 a2 : Int) (l3 : List Int) : Option (List Int × List Int × Bool × Bool × Bool × Bool × List Int × List Int × Int) := if 0 ≤ wrap64 (Int.tdiv a1 2) ∧ wrap64 (Int.tdiv a1 2) + (l0.length : Int) ≤ 256 ∧ wrap64 (Int.tdiv a1 2) < 256 then (impl_copyInts.f l3).bind fun t => some (newMem l0 (wrap64 (Int.tdiv a1 2)).toNat, newRegs a2, false, false, false, false, t, [], 0) else none
theorem impl_MachNew.mk_some {l0 : List Int} {a1 a2 : Int} {l3 r1 r2 r7 r8 : List Int} {r3 r4 r5 r6 : Bool} {r9 : Int} (h : impl_MachNew.mk l0 a1 a2 l3 = some (r1, r2, r3, r4, r5, r6, r7, r8, r9)) :
  ∃ q : Nat, ∃ t, Aside0 (wrap64 (Int.tdiv a1 2) = (q : Int)) ∧ Aside0 (q + l0.length ≤ 256 ∧ q < 256) ∧ Aside0 (impl_copyInts.f l3 = some t) ∧ r1 = newMem l0 q ∧ r2 = newRegs a2 ∧ r3 = false ∧ r4 = false ∧ r5 = false ∧ r6 = false ∧ r7 = t ∧ r8 = [] ∧ r9 = 0 := by
 unfold impl_MachNew.mk at h
 by_cases c : 0 ≤ wrap64 (Int.tdiv a1 2) ∧ wrap64 (Int.tdiv a1 2) + (l0.length : Int) ≤ 256 ∧ wrap64 (Int.tdiv a1 2) < 256
 ·rw [if_pos c] at h
  obtain ⟨t, ht, h⟩ := Option.bind_eq_some_iff.mp h
  simp only [Option.some.injEq, Prod.mk.injEq] at h
  obtain ⟨rfl, rfl, rfl, rfl, rfl, rfl, rfl, rfl, rfl⟩ := h
  obtain ⟨q, hq⟩ := Int.eq_ofNat_of_zero_le c.1
  refine ⟨q, t, ⟨hq⟩, ⟨?_⟩, ⟨ht⟩, by rw [hq, Int.toNat_natCast], rfl, rfl, rfl, rfl, rfl, rfl, rfl, rfl⟩
  rw [hq] at c
  omega
 ·rw [if_neg c] at h
  cases h
def impl_MachNew.f (k : Nat) (l0 : List Int) (a1 : Int) (a2 : Int) (l3 : List Int) : Option (List Int × List Int × Bool × Bool × Bool × Bool × List Int × List Int × Int) := (impl_isAddr.f a1).bind fun t149 => (if t149 = true then (if (l0.length : Int) > (wrap64 (256 - (wrap64 (Int.tdiv a1 2)))) then (some (([] : List Int), ([] : List Int), false, false, false, false, ([] : List Int), ([] : List Int), 0)) else ((impl_wordsOk.f k l0).bind fun t150 => (if t150 = true then ((impl_wordsOk.f k l3).bind fun t151 => (if t151 = true then ((impl_isWord.f a2).bind fun t152 => (if t152 = true then (if (l3.length : Int) > 50 then (some (([] : List Int), ([] : List Int), false, false, false, false, ([] : List Int), ([] : List Int), 0)) else (impl_MachNew.mk l0 a1 a2 l3)) else (some (([] : List Int), ([] : List Int), false, false, false, false, ([] : List Int), ([] : List Int), 0)))) else (some (([] : List Int), ([] : List Int), false, false, false, false, ([] : List Int), ([] : List Int), 0)))) else (some (([] : List Int), ([] : List Int), false, false, false, false, ([] : List Int), ([] : List Int), 0))))) else (some (([] : List Int), ([] : List Int), false, false, false, false, ([] : List Int), ([] : List Int), 0)))
theorem impl_MachNew.mono : ∀ a0 a1 a2 a3 k, LeO (impl_MachNew.f k a0 a1 a2 a3) (impl_MachNew.f (k + 1) a0 a1 a2 a3) := by
 intro a0 a1 a2 a3 k
 unfold impl_MachNew.f
 repeat' first
   | (with_reducible exact impl_wordsOk.mono _ _)
   | (with_reducible exact LeO.refl _)
   | (with_reducible exact LeO.none _)
   | (with_reducible refine LeO.ite ?_ ?_)
   | (with_reducible refine LeO.bind ?_ (fun _ => ?_))
   | exact impl_wordsOk.mono _ _
   | exact LeO.none _
   | refine LeO.ite ?_ ?_
   | refine LeO.bind ?_ (fun _ => ?_)
set_option maxHeartbeats 8000000 in
set_option maxRecDepth 100000 in
theorem impl_MachNew.calls (k : Nat) (A0 : Option Addr) (c0 : Nat) (l0 : List Int) (a1 : Int) (a2 : Int) (A3 : Option Addr) (c3 : Nat) (l3 : List Int) (r1 : List Int) (r2 : List Int) (r3 : Bool) (r4 : Bool) (r5 : Bool) (r6 : Bool) (r7 : List Int) (r8 : List Int) (r9 : Int) (w : World) (hr0 : Kd.C (Kd.int .i64) w A0 l0.length l0) (hc0 : l0.length ≤ c0) (hr3 : Kd.C (Kd.int .i64) w A3 l3.length l3) (hc3 : l3.length ≤ c3) (h : impl_MachNew.f k l0 a1 a2 l3 = some (r1, r2, r3, r4, r5, r6, r7, r8, r9)) :
  Calls Try.prog 29 #[.slice A0 l0.length c0, .int .i64 a1, .int .i64 a2, .slice A3 l3.length c3] w fun e w' => ∃ v0_ v1_ v6_ v7_ : Value, e = .returned (.agg #[v0_, v1_, .bool r3, .bool r4, .bool r5, .bool r6, v6_, v7_, .int .i64 r9]) ∧ Kd.R (Kd.int .i64) 3 w' w.heap.size (fun k_ => some k_ ≠ (v1_ : Value).ownBlock ∧ some k_ ≠ (v6_ : Value).ownBlock ∧ some k_ ≠ (v7_ : Value).ownBlock) v0_ r1 ∧ Kd.R (Kd.int .i64) 3 w' w.heap.size (fun k_ => some k_ ≠ (v0_ : Value).ownBlock ∧ some k_ ≠ (v6_ : Value).ownBlock ∧ some k_ ≠ (v7_ : Value).ownBlock) v1_ r2 ∧ Kd.R (Kd.int .i64) 3 w' w.heap.size (fun k_ => some k_ ≠ (v0_ : Value).ownBlock ∧ some k_ ≠ (v1_ : Value).ownBlock ∧ some k_ ≠ (v7_ : Value).ownBlock) v6_ r7 ∧ Kd.R (Kd.int .i64) 3 w' w.heap.size (fun k_ => some k_ ≠ (v0_ : Value).ownBlock ∧ some k_ ≠ (v1_ : Value).ownBlock ∧ some k_ ≠ (v6_ : Value).ownBlock) v7_ r8 ∧ Below w.heap.size w w' := by
 have hu28 := Try.underlying28
 have HR0 := A_ hr0
 have HC0 := A_ hc0
 clear hr0 hc0
 have HR3 := A_ hr3
 have HC3 := A_ hc3
 clear hr3 hc3
 have HB := A_ (Below.refl w.heap.size w)
 have H : ((impl_isAddr.f a1).bind fun t149 => (if t149 = true then (if (l0.length : Int) > (wrap64 (256 - (wrap64 (Int.tdiv a1 2)))) then (some (([] : List Int), ([] : List Int), false, false, false, false, ([] : List Int), ([] : List Int), 0)) else ((impl_wordsOk.f k l0).bind fun t150 => (if t150 = true then ((impl_wordsOk.f k l3).bind fun t151 => (if t151 = true then ((impl_isWord.f a2).bind fun t152 => (if t152 = true then (if (l3.length : Int) > 50 then (some (([] : List Int), ([] : List Int), false, false, false, false, ([] : List Int), ([] : List Int), 0)) else (impl_MachNew.mk l0 a1 a2 l3)) else (some (([] : List Int), ([] : List Int), false, false, false, false, ([] : List Int), ([] : List Int), 0)))) else (some (([] : List Int), ([] : List Int), false, false, false, false, ([] : List Int), ([] : List Int), 0)))) else (some (([] : List Int), ([] : List Int), false, false, false, false, ([] : List Int), ([] : List Int), 0))))) else (some (([] : List Int), ([] : List Int), false, false, false, false, ([] : List Int), ([] : List Int), 0)))) = some (r1, r2, r3, r4, r5, r6, r7, r8, r9) := h
 clear h
 replace H := Option.bind_eq_some_iff.mp H
 obtain ⟨t149, A50, H⟩ := H
 try dsimp only at H
 have A5 := A_ A50
 clear A50
 by_cases c6 : t149 = true
 subst c6
 rw [if_pos rfl] at H
 by_cases c7 : (l0.length : Int) > (wrap64 (256 - (wrap64 (Int.tdiv a1 2))))
 rw [if_pos c7] at H
 have c7b0 : decide ((wrap64 (256 - (wrap64 (Int.tdiv a1 2)))) < (l0.length : Int)) = true := decide_eq_true c7
 clear c7
 simp only [Option.some.injEq, Prod.mk.injEq] at H
 obtain ⟨rfl, rfl, rfl, rfl, rfl, rfl, rfl, rfl, rfl⟩ := H
 rotate_left
 rw [if_neg c7] at H
 have c7b0 : decide ((wrap64 (256 - (wrap64 (Int.tdiv a1 2)))) < (l0.length : Int)) = false := decide_eq_false c7
 clear c7
 replace H := Option.bind_eq_some_iff.mp H
 obtain ⟨t150, A100, H⟩ := H
 try dsimp only at H
 have A10 := A_ A100
 clear A100
 by_cases c11 : t150 = true
 subst c11
 rw [if_pos rfl] at H
 replace H := Option.bind_eq_some_iff.mp H
 obtain ⟨t151, A120, H⟩ := H
 try dsimp only at H
 have A12 := A_ A120
 clear A120
 by_cases c13 : t151 = true
 subst c13
 rw [if_pos rfl] at H
 replace H := Option.bind_eq_some_iff.mp H
 obtain ⟨t152, A140, H⟩ := H
 try dsimp only at H
 have A14 := A_ A140
 clear A140
 by_cases c15 : t152 = true
 subst c15
 rw [if_pos rfl] at H
 by_cases c16 : (l3.length : Int) > 50
 rw [if_pos c16] at H
 have c16b0 : decide (50 < (l3.length : Int)) = true := decide_eq_true c16
 have c16b1 : decide (50 < l3.length) = true := decide_eq_true (by omega)
 clear c16
 simp only [Option.some.injEq, Prod.mk.injEq] at H
 obtain ⟨rfl, rfl, rfl, rfl, rfl, rfl, rfl, rfl, rfl⟩ := H
 rotate_left
 rw [if_neg c16] at H
 have c16b0 : decide (50 < (l3.length : Int)) = false := decide_eq_false c16
 have c16b1 : decide (50 < l3.length) = false := decide_eq_false (by omega)
 clear c16
 obtain ⟨q_, t_, hq0, hq1, hc_, rfl, rfl, rfl, rfl, rfl, rfl, rfl, rfl, rfl⟩ := impl_MachNew.mk_some H
 rotate_left
 replace c15 := Bool.eq_false_iff.mpr c15
 subst c15
 rw [if_neg (show ¬ (false = true) by decide)] at H
 simp only [Option.some.injEq, Prod.mk.injEq] at H
 obtain ⟨rfl, rfl, rfl, rfl, rfl, rfl, rfl, rfl, rfl⟩ := H
 rotate_left
 replace c13 := Bool.eq_false_iff.mpr c13
 subst c13
 rw [if_neg (show ¬ (false = true) by decide)] at H
 simp only [Option.some.injEq, Prod.mk.injEq] at H
 obtain ⟨rfl, rfl, rfl, rfl, rfl, rfl, rfl, rfl, rfl⟩ := H
 rotate_left
 replace c11 := Bool.eq_false_iff.mpr c11
 subst c11
 rw [if_neg (show ¬ (false = true) by decide)] at H
 simp only [Option.some.injEq, Prod.mk.injEq] at H
 obtain ⟨rfl, rfl, rfl, rfl, rfl, rfl, rfl, rfl, rfl⟩ := H
 rotate_left
 replace c6 := Bool.eq_false_iff.mpr c6
 subst c6
 rw [if_neg (show ¬ (false = true) by decide)] at H
 simp only [Option.some.injEq, Prod.mk.injEq] at H
 obtain ⟨rfl, rfl, rfl, rfl, rfl, rfl, rfl, rfl, rfl⟩ := H
 rotate_left
 all_goals go_enter Try.func29, Try.ntmps29
 all_goals go_wp2_with (first | ((with_reducible refine gate_dst (N := 8) rfl ?_); (try (refine gate_guard (by rfl) ?_; dsimp only)); refine box_event ?hg (N := 8) ?hd (cs := #[.slice none 0 0, .slice none 0 0, .bool false, .bool false, .bool false, .bool false, .slice none 0 0, .slice none 0 0, .int .i64 0]) (t := 28) ?hr ?_; (case hd => rfl); (case hg => rfl); (case hr => first | (go_simp; done) | (go_simp; rfl)); intro gb148 hg w8 hbox hb; have n0_ := A_ (below_step (bw_ HB.out) hb); have n1_ := A_ (hbox); have n2_ := A_ ((by rw [hg]; exact (below_size (bw_ HB.out)) : w.heap.size ≤ gb148)); have n3_ := n2_; clear HB; have HB := n0_; have BK148 := n1_; have GW148 := n2_; have GE148 := n3_; have GI148 := GeI.mk GE148.out; clear n0_ n1_ n2_ n3_; clear hb hbox hg) | ((with_reducible refine gate_callee (f := 58) rfl ?_); refine gL_ (some 11) Try.func58 #[.int .i64 a1] ?_; (with_reducible refine (impl_isAddr.calls a1 false _ A5.out).mono ?_); rintro e w' ⟨rfl, ⟨nd, rfl⟩⟩; refine ⟨_, rfl, ?_⟩; (try (rw [drewN_self w8]; generalize hq_ : World.drewN w8 _ = w8; have n0_ : Aside0 (w8.heap[gb148]? = some (.cells #[.slice none 0 0, .slice none 0 0, .bool false, .bool false, .bool false, .bool false, .slice none 0 0, .slice none 0 0, .int .i64 0] 28 (0, 0))) := ⟨by rw [← hq_]; exact (bk_ BK148.out)⟩; have n1_ : Aside0 (Below w.heap.size w w8) := ⟨by rw [← hq_]; exact (bw_ HB.out)⟩; clear BK148 HB hq_; have BK148 := n0_; have HB := n1_; clear n0_ n1_)); have y28_0 : w8.cell? ⟨gb148, 0, none⟩ = some (.slice none 0 0) := (blk_cell BK148.out 0).trans rfl; have y28_1 : w8.cell? ⟨gb148, 1, none⟩ = some (.slice none 0 0) := (blk_cell BK148.out 1).trans rfl; have y28_2 : w8.cell? ⟨gb148, 2, none⟩ = some (.bool false) := (blk_cell BK148.out 2).trans rfl; have y28_3 : w8.cell? ⟨gb148, 3, none⟩ = some (.bool false) := (blk_cell BK148.out 3).trans rfl; have y28_4 : w8.cell? ⟨gb148, 4, none⟩ = some (.bool false) := (blk_cell BK148.out 4).trans rfl; have y28_5 : w8.cell? ⟨gb148, 5, none⟩ = some (.bool false) := (blk_cell BK148.out 5).trans rfl; have y28_6 : w8.cell? ⟨gb148, 6, none⟩ = some (.slice none 0 0) := (blk_cell BK148.out 6).trans rfl; have y28_7 : w8.cell? ⟨gb148, 7, none⟩ = some (.slice none 0 0) := (blk_cell BK148.out 7).trans rfl; have y28_8 : w8.cell? ⟨gb148, 8, none⟩ = some (.int .i64 0) := (blk_cell BK148.out 8).trans rfl; have z28_0 := blk_frozen BK148.out 0; have z28_1 := blk_frozen BK148.out 1; have z28_2 := blk_frozen BK148.out 2; have z28_3 := blk_frozen BK148.out 3; have z28_4 := blk_frozen BK148.out 4; have z28_5 := blk_frozen BK148.out 5; have z28_6 := blk_frozen BK148.out 6; have z28_7 := blk_frozen BK148.out 7; have z28_8 := blk_frozen BK148.out 8) | ((with_reducible refine gate_callee (f := 58) rfl ?_); refine gL_ (some 11) Try.func58 #[.int .i64 a1] ?_; (with_reducible refine (impl_isAddr.calls a1 true _ A5.out).mono ?_); rintro e w' ⟨rfl, ⟨nd, rfl⟩⟩; refine ⟨_, rfl, ?_⟩; (try (rw [drewN_self w8]; generalize hq_ : World.drewN w8 _ = w8; have n0_ : Aside0 (w8.heap[gb148]? = some (.cells #[.slice none 0 0, .slice none 0 0, .bool false, .bool false, .bool false, .bool false, .slice none 0 0, .slice none 0 0, .int .i64 0] 28 (0, 0))) := ⟨by rw [← hq_]; exact (bk_ BK148.out)⟩; have n1_ : Aside0 (Below w.heap.size w w8) := ⟨by rw [← hq_]; exact (bw_ HB.out)⟩; clear BK148 HB hq_; have BK148 := n0_; have HB := n1_; clear n0_ n1_)); have y9_0 : w8.cell? ⟨gb148, 0, none⟩ = some (.slice none 0 0) := (blk_cell BK148.out 0).trans rfl; have y9_1 : w8.cell? ⟨gb148, 1, none⟩ = some (.slice none 0 0) := (blk_cell BK148.out 1).trans rfl; have y9_2 : w8.cell? ⟨gb148, 2, none⟩ = some (.bool false) := (blk_cell BK148.out 2).trans rfl; have y9_3 : w8.cell? ⟨gb148, 3, none⟩ = some (.bool false) := (blk_cell BK148.out 3).trans rfl; have y9_4 : w8.cell? ⟨gb148, 4, none⟩ = some (.bool false) := (blk_cell BK148.out 4).trans rfl; have y9_5 : w8.cell? ⟨gb148, 5, none⟩ = some (.bool false) := (blk_cell BK148.out 5).trans rfl; have y9_6 : w8.cell? ⟨gb148, 6, none⟩ = some (.slice none 0 0) := (blk_cell BK148.out 6).trans rfl; have y9_7 : w8.cell? ⟨gb148, 7, none⟩ = some (.slice none 0 0) := (blk_cell BK148.out 7).trans rfl; have y9_8 : w8.cell? ⟨gb148, 8, none⟩ = some (.int .i64 0) := (blk_cell BK148.out 8).trans rfl; have z9_0 := blk_frozen BK148.out 0; have z9_1 := blk_frozen BK148.out 1; have z9_2 := blk_frozen BK148.out 2; have z9_3 := blk_frozen BK148.out 3; have z9_4 := blk_frozen BK148.out 4; have z9_5 := blk_frozen BK148.out 5; have z9_6 := blk_frozen BK148.out 6; have z9_7 := blk_frozen BK148.out 7; have z9_8 := blk_frozen BK148.out 8) | ((with_reducible refine gate_callee (f := 58) rfl ?_); refine gL_ (some 11) Try.func58 #[.int .i64 a1] ?_; (with_reducible refine (impl_isAddr.calls a1 true _ A5.out).mono ?_); rintro e w' ⟨rfl, ⟨nd, rfl⟩⟩; refine ⟨_, rfl, ?_⟩; (try (rw [drewN_self w8]; generalize hq_ : World.drewN w8 _ = w8; have n0_ : Aside0 (w8.heap[gb148]? = some (.cells #[.slice none 0 0, .slice none 0 0, .bool false, .bool false, .bool false, .bool false, .slice none 0 0, .slice none 0 0, .int .i64 0] 28 (0, 0))) := ⟨by rw [← hq_]; exact (bk_ BK148.out)⟩; have n1_ : Aside0 (Below w.heap.size w w8) := ⟨by rw [← hq_]; exact (bw_ HB.out)⟩; clear BK148 HB hq_; have BK148 := n0_; have HB := n1_; clear n0_ n1_))) | (go_at_call 60; (with_reducible refine (impl_wordsOk.calls k _ _ l3 false _ ?side1 ?side2 A12.out).mono ?_); (case side1 => repeat (first | exact (Kd.C_below HR3.out HB.out) | (with_reducible refine Kd.C_alloc ?_ _) | (with_reducible refine Kd.C_drewN ?_ _) | (with_reducible refine Kd.C_drew ?_))); (case side2 => exact HC3.out); rintro e w' ⟨rfl, ⟨nd, rfl⟩⟩; (try (rw [drewN_self w8]; generalize hq_ : World.drewN w8 _ = w8; have n0_ : Aside0 (w8.heap[gb148]? = some (.cells #[.slice none 0 0, .slice none 0 0, .bool false, .bool false, .bool false, .bool false, .slice none 0 0, .slice none 0 0, .int .i64 0] 28 (0, 0))) := ⟨by rw [← hq_]; exact (bk_ BK148.out)⟩; have n1_ : Aside0 (Below w.heap.size w w8) := ⟨by rw [← hq_]; exact (bw_ HB.out)⟩; clear BK148 HB hq_; have BK148 := n0_; have HB := n1_; clear n0_ n1_)); have y24_0 : w8.cell? ⟨gb148, 0, none⟩ = some (.slice none 0 0) := (blk_cell BK148.out 0).trans rfl; have y24_1 : w8.cell? ⟨gb148, 1, none⟩ = some (.slice none 0 0) := (blk_cell BK148.out 1).trans rfl; have y24_2 : w8.cell? ⟨gb148, 2, none⟩ = some (.bool false) := (blk_cell BK148.out 2).trans rfl; have y24_3 : w8.cell? ⟨gb148, 3, none⟩ = some (.bool false) := (blk_cell BK148.out 3).trans rfl; have y24_4 : w8.cell? ⟨gb148, 4, none⟩ = some (.bool false) := (blk_cell BK148.out 4).trans rfl; have y24_5 : w8.cell? ⟨gb148, 5, none⟩ = some (.bool false) := (blk_cell BK148.out 5).trans rfl; have y24_6 : w8.cell? ⟨gb148, 6, none⟩ = some (.slice none 0 0) := (blk_cell BK148.out 6).trans rfl; have y24_7 : w8.cell? ⟨gb148, 7, none⟩ = some (.slice none 0 0) := (blk_cell BK148.out 7).trans rfl; have y24_8 : w8.cell? ⟨gb148, 8, none⟩ = some (.int .i64 0) := (blk_cell BK148.out 8).trans rfl; have z24_0 := blk_frozen BK148.out 0; have z24_1 := blk_frozen BK148.out 1; have z24_2 := blk_frozen BK148.out 2; have z24_3 := blk_frozen BK148.out 3; have z24_4 := blk_frozen BK148.out 4; have z24_5 := blk_frozen BK148.out 5; have z24_6 := blk_frozen BK148.out 6; have z24_7 := blk_frozen BK148.out 7; have z24_8 := blk_frozen BK148.out 8) | (go_at_call 60; (with_reducible refine (impl_wordsOk.calls k _ _ l0 false _ ?side1 ?side2 A10.out).mono ?_); (case side1 => repeat (first | exact (Kd.C_below HR0.out HB.out) | (with_reducible refine Kd.C_alloc ?_ _) | (with_reducible refine Kd.C_drewN ?_ _) | (with_reducible refine Kd.C_drew ?_))); (case side2 => exact HC0.out); rintro e w' ⟨rfl, ⟨nd, rfl⟩⟩; (try (rw [drewN_self w8]; generalize hq_ : World.drewN w8 _ = w8; have n0_ : Aside0 (w8.heap[gb148]? = some (.cells #[.slice none 0 0, .slice none 0 0, .bool false, .bool false, .bool false, .bool false, .slice none 0 0, .slice none 0 0, .int .i64 0] 28 (0, 0))) := ⟨by rw [← hq_]; exact (bk_ BK148.out)⟩; have n1_ : Aside0 (Below w.heap.size w w8) := ⟨by rw [← hq_]; exact (bw_ HB.out)⟩; clear BK148 HB hq_; have BK148 := n0_; have HB := n1_; clear n0_ n1_)); have y26_0 : w8.cell? ⟨gb148, 0, none⟩ = some (.slice none 0 0) := (blk_cell BK148.out 0).trans rfl; have y26_1 : w8.cell? ⟨gb148, 1, none⟩ = some (.slice none 0 0) := (blk_cell BK148.out 1).trans rfl; have y26_2 : w8.cell? ⟨gb148, 2, none⟩ = some (.bool false) := (blk_cell BK148.out 2).trans rfl; have y26_3 : w8.cell? ⟨gb148, 3, none⟩ = some (.bool false) := (blk_cell BK148.out 3).trans rfl; have y26_4 : w8.cell? ⟨gb148, 4, none⟩ = some (.bool false) := (blk_cell BK148.out 4).trans rfl; have y26_5 : w8.cell? ⟨gb148, 5, none⟩ = some (.bool false) := (blk_cell BK148.out 5).trans rfl; have y26_6 : w8.cell? ⟨gb148, 6, none⟩ = some (.slice none 0 0) := (blk_cell BK148.out 6).trans rfl; have y26_7 : w8.cell? ⟨gb148, 7, none⟩ = some (.slice none 0 0) := (blk_cell BK148.out 7).trans rfl; have y26_8 : w8.cell? ⟨gb148, 8, none⟩ = some (.int .i64 0) := (blk_cell BK148.out 8).trans rfl; have z26_0 := blk_frozen BK148.out 0; have z26_1 := blk_frozen BK148.out 1; have z26_2 := blk_frozen BK148.out 2; have z26_3 := blk_frozen BK148.out 3; have z26_4 := blk_frozen BK148.out 4; have z26_5 := blk_frozen BK148.out 5; have z26_6 := blk_frozen BK148.out 6; have z26_7 := blk_frozen BK148.out 7; have z26_8 := blk_frozen BK148.out 8) | (go_at_call 60; (with_reducible refine (impl_wordsOk.calls k _ _ l0 true _ ?side1 ?side2 A10.out).mono ?_); (case side1 => repeat (first | exact (Kd.C_below HR0.out HB.out) | (with_reducible refine Kd.C_alloc ?_ _) | (with_reducible refine Kd.C_drewN ?_ _) | (with_reducible refine Kd.C_drew ?_))); (case side2 => exact HC0.out); rintro e w' ⟨rfl, ⟨nd, rfl⟩⟩; (try (rw [drewN_self w8]; generalize hq_ : World.drewN w8 _ = w8; have n0_ : Aside0 (w8.heap[gb148]? = some (.cells #[.slice none 0 0, .slice none 0 0, .bool false, .bool false, .bool false, .bool false, .slice none 0 0, .slice none 0 0, .int .i64 0] 28 (0, 0))) := ⟨by rw [← hq_]; exact (bk_ BK148.out)⟩; have n1_ : Aside0 (Below w.heap.size w w8) := ⟨by rw [← hq_]; exact (bw_ HB.out)⟩; clear BK148 HB hq_; have BK148 := n0_; have HB := n1_; clear n0_ n1_))) | (go_at_call 60; (with_reducible refine (impl_wordsOk.calls k _ _ l3 true _ ?side1 ?side2 A12.out).mono ?_); (case side1 => repeat (first | exact (Kd.C_below HR3.out HB.out) | (with_reducible refine Kd.C_alloc ?_ _) | (with_reducible refine Kd.C_drewN ?_ _) | (with_reducible refine Kd.C_drew ?_))); (case side2 => exact HC3.out); rintro e w' ⟨rfl, ⟨nd, rfl⟩⟩; (try (rw [drewN_self w8]; generalize hq_ : World.drewN w8 _ = w8; have n0_ : Aside0 (w8.heap[gb148]? = some (.cells #[.slice none 0 0, .slice none 0 0, .bool false, .bool false, .bool false, .bool false, .slice none 0 0, .slice none 0 0, .int .i64 0] 28 (0, 0))) := ⟨by rw [← hq_]; exact (bk_ BK148.out)⟩; have n1_ : Aside0 (Below w.heap.size w w8) := ⟨by rw [← hq_]; exact (bw_ HB.out)⟩; clear BK148 HB hq_; have BK148 := n0_; have HB := n1_; clear n0_ n1_))) | (go_at_call 63; (with_reducible refine (impl_isWord.calls a2 false _ A14.out).mono ?_); rintro e w' ⟨rfl, ⟨nd, rfl⟩⟩; (try (rw [drewN_self w8]; generalize hq_ : World.drewN w8 _ = w8; have n0_ : Aside0 (w8.heap[gb148]? = some (.cells #[.slice none 0 0, .slice none 0 0, .bool false, .bool false, .bool false, .bool false, .slice none 0 0, .slice none 0 0, .int .i64 0] 28 (0, 0))) := ⟨by rw [← hq_]; exact (bk_ BK148.out)⟩; have n1_ : Aside0 (Below w.heap.size w w8) := ⟨by rw [← hq_]; exact (bw_ HB.out)⟩; clear BK148 HB hq_; have BK148 := n0_; have HB := n1_; clear n0_ n1_)); have y22_0 : w8.cell? ⟨gb148, 0, none⟩ = some (.slice none 0 0) := (blk_cell BK148.out 0).trans rfl; have y22_1 : w8.cell? ⟨gb148, 1, none⟩ = some (.slice none 0 0) := (blk_cell BK148.out 1).trans rfl; have y22_2 : w8.cell? ⟨gb148, 2, none⟩ = some (.bool false) := (blk_cell BK148.out 2).trans rfl; have y22_3 : w8.cell? ⟨gb148, 3, none⟩ = some (.bool false) := (blk_cell BK148.out 3).trans rfl; have y22_4 : w8.cell? ⟨gb148, 4, none⟩ = some (.bool false) := (blk_cell BK148.out 4).trans rfl; have y22_5 : w8.cell? ⟨gb148, 5, none⟩ = some (.bool false) := (blk_cell BK148.out 5).trans rfl; have y22_6 : w8.cell? ⟨gb148, 6, none⟩ = some (.slice none 0 0) := (blk_cell BK148.out 6).trans rfl; have y22_7 : w8.cell? ⟨gb148, 7, none⟩ = some (.slice none 0 0) := (blk_cell BK148.out 7).trans rfl; have y22_8 : w8.cell? ⟨gb148, 8, none⟩ = some (.int .i64 0) := (blk_cell BK148.out 8).trans rfl; have z22_0 := blk_frozen BK148.out 0; have z22_1 := blk_frozen BK148.out 1; have z22_2 := blk_frozen BK148.out 2; have z22_3 := blk_frozen BK148.out 3; have z22_4 := blk_frozen BK148.out 4; have z22_5 := blk_frozen BK148.out 5; have z22_6 := blk_frozen BK148.out 6; have z22_7 := blk_frozen BK148.out 7; have z22_8 := blk_frozen BK148.out 8) | (go_at_call 63; (with_reducible refine (impl_isWord.calls a2 true _ A14.out).mono ?_); rintro e w' ⟨rfl, ⟨nd, rfl⟩⟩; (try (rw [drewN_self w8]; generalize hq_ : World.drewN w8 _ = w8; have n0_ : Aside0 (w8.heap[gb148]? = some (.cells #[.slice none 0 0, .slice none 0 0, .bool false, .bool false, .bool false, .bool false, .slice none 0 0, .slice none 0 0, .int .i64 0] 28 (0, 0))) := ⟨by rw [← hq_]; exact (bk_ BK148.out)⟩; have n1_ : Aside0 (Below w.heap.size w w8) := ⟨by rw [← hq_]; exact (bw_ HB.out)⟩; clear BK148 HB hq_; have BK148 := n0_; have HB := n1_; clear n0_ n1_)); have y18_0 : w8.cell? ⟨gb148, 0, none⟩ = some (.slice none 0 0) := (blk_cell BK148.out 0).trans rfl; have y18_1 : w8.cell? ⟨gb148, 1, none⟩ = some (.slice none 0 0) := (blk_cell BK148.out 1).trans rfl; have y18_2 : w8.cell? ⟨gb148, 2, none⟩ = some (.bool false) := (blk_cell BK148.out 2).trans rfl; have y18_3 : w8.cell? ⟨gb148, 3, none⟩ = some (.bool false) := (blk_cell BK148.out 3).trans rfl; have y18_4 : w8.cell? ⟨gb148, 4, none⟩ = some (.bool false) := (blk_cell BK148.out 4).trans rfl; have y18_5 : w8.cell? ⟨gb148, 5, none⟩ = some (.bool false) := (blk_cell BK148.out 5).trans rfl; have y18_6 : w8.cell? ⟨gb148, 6, none⟩ = some (.slice none 0 0) := (blk_cell BK148.out 6).trans rfl; have y18_7 : w8.cell? ⟨gb148, 7, none⟩ = some (.slice none 0 0) := (blk_cell BK148.out 7).trans rfl; have y18_8 : w8.cell? ⟨gb148, 8, none⟩ = some (.int .i64 0) := (blk_cell BK148.out 8).trans rfl; have z18_0 := blk_frozen BK148.out 0; have z18_1 := blk_frozen BK148.out 1; have z18_2 := blk_frozen BK148.out 2; have z18_3 := blk_frozen BK148.out 3; have z18_4 := blk_frozen BK148.out 4; have z18_5 := blk_frozen BK148.out 5; have z18_6 := blk_frozen BK148.out 6; have z18_7 := blk_frozen BK148.out 7; have z18_8 := blk_frozen BK148.out 8))
 ·refine bodyPost_ret (results_cell_row rfl _ _ gb148 28 #[.slice none 0 0, .slice none 0 0, .bool false, .bool false, .bool false, .bool false, .slice none 0 0, .slice none 0 0, .int .i64 0] (0, 0) _ rfl ?hb_ Try.underlying28 rfl (by kernel_rfl)) rfl ?_
  (case hb_ => refine bk_ ?_; refine blk_put (cs := #[.slice none 0 0, .slice none 0 0, .bool false, .bool false, .bool false, .bool false, .slice none 0 0, .slice none 0 0, .int .i64 0]) ?_ 8 _ rfl; refine bk_ ?_; refine blk_put (cs := #[.slice none 0 0, .slice none 0 0, .bool false, .bool false, .bool false, .bool false, .slice none 0 0, .slice none 0 0, .int .i64 0]) ?_ 7 _ rfl; refine bk_ ?_; refine blk_put (cs := #[.slice none 0 0, .slice none 0 0, .bool false, .bool false, .bool false, .bool false, .slice none 0 0, .slice none 0 0, .int .i64 0]) ?_ 6 _ rfl; refine bk_ ?_; refine blk_put (cs := #[.slice none 0 0, .slice none 0 0, .bool false, .bool false, .bool false, .bool false, .slice none 0 0, .slice none 0 0, .int .i64 0]) ?_ 5 _ rfl; refine bk_ ?_; refine blk_put (cs := #[.slice none 0 0, .slice none 0 0, .bool false, .bool false, .bool false, .bool false, .slice none 0 0, .slice none 0 0, .int .i64 0]) ?_ 4 _ rfl; refine bk_ ?_; refine blk_put (cs := #[.slice none 0 0, .slice none 0 0, .bool false, .bool false, .bool false, .bool false, .slice none 0 0, .slice none 0 0, .int .i64 0]) ?_ 3 _ rfl; refine bk_ ?_; refine blk_put (cs := #[.slice none 0 0, .slice none 0 0, .bool false, .bool false, .bool false, .bool false, .slice none 0 0, .slice none 0 0, .int .i64 0]) ?_ 2 _ rfl; refine bk_ ?_; refine blk_put (cs := #[.slice none 0 0, .slice none 0 0, .bool false, .bool false, .bool false, .bool false, .slice none 0 0, .slice none 0 0, .int .i64 0]) ?_ 1 _ rfl; refine bk_ ?_; refine blk_put (cs := #[.slice none 0 0, .slice none 0 0, .bool false, .bool false, .bool false, .bool false, .slice none 0 0, .slice none 0 0, .int .i64 0]) ?_ 0 _ rfl; refine bk_ ?_; exact BK148.out)
  exact ⟨_, _, _, _, by first | rfl | (simp [errW_none, errW_some] <;> rfl) | (simp [*, errW_none, errW_some] <;> rfl), by first | exact Kd.R_nil _ _ _ _ _ | exact Kd.N_nil _ _ _ _ _ | exact Kd.V_nil _ _ _ _ _ | exact Kd.Q_nil _ _ _ _ _ | exact Kd.S_nil _ _ _ _ _, by first | exact Kd.R_nil _ _ _ _ _ | exact Kd.N_nil _ _ _ _ _ | exact Kd.V_nil _ _ _ _ _ | exact Kd.Q_nil _ _ _ _ _ | exact Kd.S_nil _ _ _ _ _, by first | exact Kd.R_nil _ _ _ _ _ | exact Kd.N_nil _ _ _ _ _ | exact Kd.V_nil _ _ _ _ _ | exact Kd.Q_nil _ _ _ _ _ | exact Kd.S_nil _ _ _ _ _, by first | exact Kd.R_nil _ _ _ _ _ | exact Kd.N_nil _ _ _ _ _ | exact Kd.V_nil _ _ _ _ _ | exact Kd.Q_nil _ _ _ _ _ | exact Kd.S_nil _ _ _ _ _, bw_ HB.out⟩
 ·refine bodyPost_ret (results_cell_row rfl _ _ gb148 28 #[.slice none 0 0, .slice none 0 0, .bool false, .bool false, .bool false, .bool false, .slice none 0 0, .slice none 0 0, .int .i64 0] (0, 0) _ rfl ?hb_ Try.underlying28 rfl (by kernel_rfl)) rfl ?_
  (case hb_ => refine bk_ ?_; refine blk_put (cs := #[.slice none 0 0, .slice none 0 0, .bool false, .bool false, .bool false, .bool false, .slice none 0 0, .slice none 0 0, .int .i64 0]) ?_ 8 _ rfl; refine bk_ ?_; refine blk_put (cs := #[.slice none 0 0, .slice none 0 0, .bool false, .bool false, .bool false, .bool false, .slice none 0 0, .slice none 0 0, .int .i64 0]) ?_ 7 _ rfl; refine bk_ ?_; refine blk_put (cs := #[.slice none 0 0, .slice none 0 0, .bool false, .bool false, .bool false, .bool false, .slice none 0 0, .slice none 0 0, .int .i64 0]) ?_ 6 _ rfl; refine bk_ ?_; refine blk_put (cs := #[.slice none 0 0, .slice none 0 0, .bool false, .bool false, .bool false, .bool false, .slice none 0 0, .slice none 0 0, .int .i64 0]) ?_ 5 _ rfl; refine bk_ ?_; refine blk_put (cs := #[.slice none 0 0, .slice none 0 0, .bool false, .bool false, .bool false, .bool false, .slice none 0 0, .slice none 0 0, .int .i64 0]) ?_ 4 _ rfl; refine bk_ ?_; refine blk_put (cs := #[.slice none 0 0, .slice none 0 0, .bool false, .bool false, .bool false, .bool false, .slice none 0 0, .slice none 0 0, .int .i64 0]) ?_ 3 _ rfl; refine bk_ ?_; refine blk_put (cs := #[.slice none 0 0, .slice none 0 0, .bool false, .bool false, .bool false, .bool false, .slice none 0 0, .slice none 0 0, .int .i64 0]) ?_ 2 _ rfl; refine bk_ ?_; refine blk_put (cs := #[.slice none 0 0, .slice none 0 0, .bool false, .bool false, .bool false, .bool false, .slice none 0 0, .slice none 0 0, .int .i64 0]) ?_ 1 _ rfl; refine bk_ ?_; refine blk_put (cs := #[.slice none 0 0, .slice none 0 0, .bool false, .bool false, .bool false, .bool false, .slice none 0 0, .slice none 0 0, .int .i64 0]) ?_ 0 _ rfl; refine bk_ ?_; exact BK148.out)
  exact ⟨_, _, _, _, by first | rfl | (simp [errW_none, errW_some] <;> rfl) | (simp [*, errW_none, errW_some] <;> rfl), by first | exact Kd.R_nil _ _ _ _ _ | exact Kd.N_nil _ _ _ _ _ | exact Kd.V_nil _ _ _ _ _ | exact Kd.Q_nil _ _ _ _ _ | exact Kd.S_nil _ _ _ _ _, by first | exact Kd.R_nil _ _ _ _ _ | exact Kd.N_nil _ _ _ _ _ | exact Kd.V_nil _ _ _ _ _ | exact Kd.Q_nil _ _ _ _ _ | exact Kd.S_nil _ _ _ _ _, by first | exact Kd.R_nil _ _ _ _ _ | exact Kd.N_nil _ _ _ _ _ | exact Kd.V_nil _ _ _ _ _ | exact Kd.Q_nil _ _ _ _ _ | exact Kd.S_nil _ _ _ _ _, by first | exact Kd.R_nil _ _ _ _ _ | exact Kd.N_nil _ _ _ _ _ | exact Kd.V_nil _ _ _ _ _ | exact Kd.Q_nil _ _ _ _ _ | exact Kd.S_nil _ _ _ _ _, bw_ HB.out⟩
 ·have n0_ := A_ (blk_drew BK148.out)
  have n1_ := A_ (below_drew1 HB.out)
  clear BK148 HB H
  have BK148 := n0_
  have HB := n1_
  clear n0_ n1_
  refine start_ (n := 7) (S := fun _ => True) (ds := []) #[false, false, false, false, false, false, false] (by kernel_rfl) rfl rfl trivial (fun _ => ?_)
  generalize World.drew _ = wd at BK148 HB ⊢
  refine pure_ (i := 2) (N := some 44) (v := ?_) (a' := ?_) #[false, false, true, false, false, false, false] rfl rfl (by kernel_rfl) (fun _ _ _ h => h) (Or.inl ⟨by rfl, ?_⟩) ?_ ?_
  rotate_left
  ·intro w'
   go_simp
   with_reducible rfl
  rotate_left
  ·simp only [Act.put, List.setIfInBounds_toArray, List.set_cons_zero, List.set_cons_succ]
   rfl
  refine open2_ (n := 7) (σ := Value × Value × Value × Value × Value × Nat) (fun s => [(42, s.1), (43, s.2.1), (45, s.2.2.1), (46, s.2.2.2.1), (9, s.2.2.2.2.1)])
   (fun l s w' => MnI r7 w (l.getD 0 false) (l.getD 1 false) (l.getD 3 false) (l.getD 4 false) (l.getD 5 false) (l.getD 6 false) s.1 s.2.1 s.2.2.1 s.2.2.2.1 s.2.2.2.2.1 s.2.2.2.2.2 w' ∧ (l.getD 2 false = true ∧ w'.heap[gb148]? = some (.cells #[.slice none 0 0, .slice none 0 0, .bool false, .bool false, .bool false, .bool false, .slice none 0 0, .slice none 0 0, .int .i64 0] 28 (0, 0)) ∧ (l.getD 5 false = true → gb148 ≠ s.2.2.2.2.2)))
   rfl (by kernel_rfl) ?step ?fin (undef, undef, undef, undef, undef, 0) ?act rfl (by decide)
   ⟨⟨HB.out, .un, .un, .un, fun k h => by simp [undef, Value.ownBlock] at h, fun k h => by simp [undef, Value.ownBlock] at h, fun k h => by simp [undef, Value.ownBlock] at h, (fun h => by cases h), (fun h => by cases h), (fun h => by cases h)⟩, rfl, BK148.out, (fun h => by cases h)⟩
  case act => simp only [putAll, Act.put, List.setIfInBounds_toArray, List.set_cons_zero, List.set_cons_succ]
  case step =>
   rintro i oi l ⟨x0, x1, x3, vb, vp, g⟩ w1 hi ho hl hun hd ⟨hI, h2, hG, hN⟩ K hK
   dsimp only at hI hN
   have hf := gun hl hi hun
   have e : ∀ j, (l.setIfInBounds i true).getD j false = if i = j then true else l.getD j false := fun j => gst hl hi
   obtain rfl | rfl | rfl | rfl | rfl | rfl | rfl : i = 0 ∨ i = 1 ∨ i = 2 ∨ i = 3 ∨ i = 4 ∨ i = 5 ∨ i = 6 := by omega
   all_goals (simp only [List.getElem?_toArray, List.getElem?_cons_zero, List.getElem?_cons_succ, Option.some.injEq] at ho; subst ho)
   ·rw [hf] at hI
    refine lit_ (a1 := ?_) ?_ ?_
    rotate_left
    ·simp only [putAll, Act.put, List.setIfInBounds_toArray, List.set_cons_zero, List.set_cons_succ]
     rfl
    refine Kd.R_make_step (Kd.int .i64) _ 3 (by rfl) (N := 42) rfl 22 _ _ rfl 256 rfl rfl Try.underlying22 (.int .i64 0) 8 info3 rfl (by decide) (by omega) 0 (ok := fun _ => True) (okp := fun _ => True) rfl (fun _ hk => hk) trivial (by omega) (by omega) (Below.refl _ _) (Nat.le_refl _) ?_
    intro v w2 ho hb _ _
    have hq := hK (v, x1, x3, vb, vp, g) w2 ⟨by rw [e, e, e, e, e, e]; exact hI.s0 ho hb, by rw [e]; exact h2, (hb.block _ (blk_lt hG)).trans hG, by rw [e]; exact hN⟩
    simp only [putAll, Act.put, List.setIfInBounds_toArray, List.set_cons_zero, List.set_cons_succ] at hq ⊢
    exact hq
   ·rw [hf] at hI
    refine lit_ (a1 := ?_) ?_ ?_
    rotate_left
    ·simp only [putAll, Act.put, List.setIfInBounds_toArray, List.set_cons_zero, List.set_cons_succ]
     rfl
    refine Kd.R_make_step (Kd.int .i64) _ 3 (by rfl) (N := 43) rfl 22 _ _ rfl 8 rfl rfl Try.underlying22 (.int .i64 0) 8 info3 rfl (by decide) (by omega) 0 (ok := fun _ => True) (okp := fun _ => True) rfl (fun _ hk => hk) trivial (by omega) (by omega) (Below.refl _ _) (Nat.le_refl _) ?_
    intro v w2 ho hb _ _
    have hq := hK (x0, v, x3, vb, vp, g) w2 ⟨by rw [e, e, e, e, e, e]; exact hI.s1 ho hb, by rw [e]; exact h2, (hb.block _ (blk_lt hG)).trans hG, by rw [e]; exact hN⟩
    simp only [putAll, Act.put, List.setIfInBounds_toArray, List.set_cons_zero, List.set_cons_succ] at hq ⊢
    exact hq
   ·rw [h2] at hf
    cases hf
   ·rw [hf] at hI
    refine lit_ (a1 := ?_) ?_ ?_
    rotate_left
    ·simp only [putAll, Act.put, List.setIfInBounds_toArray, List.set_cons_zero, List.set_cons_succ]
     rfl
    refine goes_ Try.func64 (by kernel_rfl) rfl #[.slice A3 l3.length c3] (by rfl) rfl rfl (by (try simp only [List.map_toArray, List.map_cons, List.map_nil]); first | done | rfl) ?_
    refine (impl_copyInts.calls A3 c3 l3 r7 _ (Kd.C_below HR3.out hI.bel) HC3.out hc_.out).mono ?_
    rintro e_ w2 ⟨v, rfl, ho, hb⟩
    refine ⟨_, rfl, ?_⟩
    have hq := hK (x0, x1, v, vb, vp, g) w2 ⟨by rw [e, e, e, e, e, e]; exact hI.s3 ho hb, by rw [e]; exact h2, (hb.block _ (blk_lt hG)).trans hG, by rw [e]; exact hN⟩
    simp only [putAll, Act.put, List.setIfInBounds_toArray, List.set_cons_zero, List.set_cons_succ] at hq ⊢
    exact hq
   ·rw [hf] at hI
    have hd0 := hd { on := 0, ground := .data } (by simp) rfl
    have hd1 := hd { on := 1, ground := .data } (by simp) rfl
    have hd3 := hd { on := 3, ground := .data } (by simp) rfl
    obtain ⟨ga, ca, rfl, _, _⟩ := row_ptr (hI.r0.2 hd0) (List.length_replicate (n := 256)) (by decide)
    obtain ⟨gb, cb, rfl, _, _⟩ := row_ptr (hI.r1.2 hd1) (List.length_replicate (n := 8)) (by decide)
    obtain ⟨Ac, cc, rfl⟩ := Kd.R_slice (hI.r3.2 hd3)
    refine lit_ (a1 := ?_) ?_ ?_
    rotate_left
    ·simp only [putAll, Act.put, List.setIfInBounds_toArray, List.set_cons_zero, List.set_cons_succ]
     rfl
    refine value_ (N := some 46) (by rfl) rfl (v := ?_) (w1 := w1) ?_ ?_
    rotate_left
    ·go_simp
     with_reducible rfl
    have hq := hK (.slice (some ⟨ga, 0, none⟩) 256 ca, .slice (some ⟨gb, 0, none⟩) 8 cb, .slice Ac r7.length cc, .agg #[.slice (some ⟨ga, 0, none⟩) 256 ca, .slice (some ⟨gb, 0, none⟩) 8 cb, .bool false, .bool false, .bool false, .bool false, .slice Ac r7.length cc, .slice none 0 0, .int .i64 0], vp, g) w1 ⟨by rw [e, e, e, e, e, e]; exact hI.sb hd0 hd1 hd3, by rw [e]; exact h2, hG, by rw [e]; exact hN⟩
    simp only [putAll, Act.put, List.setIfInBounds_toArray, List.set_cons_zero, List.set_cons_succ] at hq ⊢
    exact hq
   ·rw [hf] at hI
    refine lit_ (a1 := ?_) ?_ ?_
    rotate_left
    ·simp only [putAll, Act.put, List.setIfInBounds_toArray, List.set_cons_zero, List.set_cons_succ]
     rfl
    refine box_step ?hg (N := 9) ?hd (cs := #[.slice none 0 0, .slice none 0 0, .bool false, .bool false, .bool false, .bool false, .slice none 0 0, .slice none 0 0, .int .i64 0]) (t := 28) ?hr ?_
    case hd => rfl
    case hg => rfl
    case hr => first | (go_simp; done) | (go_simp; rfl)
    intro g' hg w2 hbox hb
    have hq := hK (x0, x1, x3, vb, _, g') w2 ⟨by rw [e, e, e, e, e, e]; exact hI.sa hg hbox hb, by rw [e]; exact h2, (hb.block _ (blk_lt hG)).trans hG, fun _ e_ => absurd (blk_lt hG) (by dsimp only at e_; omega)⟩
    simp only [putAll, Act.put, List.setIfInBounds_toArray, List.set_cons_zero, List.set_cons_succ] at hq ⊢
    exact hq
   ·rw [hf] at hI
    refine Aside0.out ?_
    have hd5 := hd { on := 5, ground := .data } (by simp) rfl
    have hd4 := hd { on := 4, ground := .data } (by simp) rfl
    obtain ⟨hd0, hd1, hd3, rfl⟩ := hI.hb hd4
    obtain ⟨ga, ca, rfl, _, _⟩ := row_ptr (hI.r0.2 hd0) (List.length_replicate (n := 256)) (by decide)
    obtain ⟨gb, cb, rfl, _, _⟩ := row_ptr (hI.r1.2 hd1) (List.length_replicate (n := 8)) (by decide)
    obtain ⟨Ac, cc, rfl⟩ := Kd.R_slice (hI.r3.2 hd3)
    obtain ⟨rfl, _, hx, _⟩ := hI.hp hd5
    replace hx : w1.heap[g]? = some (.cells #[.slice none 0 0, .slice none 0 0, .bool false, .bool false, .bool false, .bool false, .slice none 0 0, .slice none 0 0, .int .i64 0] 28 (0, 0)) := hx
    refine Aside0.mk ?_
    refine lit_ (a1 := ?_) ?_ ?_
    rotate_left
    ·simp only [putAll, Act.put, List.setIfInBounds_toArray, List.set_cons_zero, List.set_cons_succ]
     rfl
    refine store_box_step (by rfl) rfl 28 (.tmp 9) (.tmp 46) rfl (g := g) (cs := #[.slice (some ⟨ga, 0, none⟩) 256 ca, .slice (some ⟨gb, 0, none⟩) 8 cb, .bool false, .bool false, .bool false, .bool false, .slice Ac r7.length cc, .slice none 0 0, .int .i64 0]) (by rfl) (by rfl) hx (by kernel_rfl) rfl (by repeat (first | exact fun _ h => absurd h List.not_mem_nil | refine List.forall_mem_cons.2 ⟨rfl, ?_⟩)) ?_
    intro w2 hx2 hg2
    have hq := hK (.slice (some ⟨ga, 0, none⟩) 256 ca, .slice (some ⟨gb, 0, none⟩) 8 cb, .slice Ac r7.length cc, .agg #[.slice (some ⟨ga, 0, none⟩) 256 ca, .slice (some ⟨gb, 0, none⟩) 8 cb, .bool false, .bool false, .bool false, .bool false, .slice Ac r7.length cc, .slice none 0 0, .int .i64 0], .pointer (some ⟨g, 0, none⟩), g) w2 ⟨by rw [e, e, e, e, e, e]; exact hI.ss hx2 hg2 hd4 hd5, by rw [e]; exact h2, (hg2.block _ (blk_lt hG) (fun e_ => hN hd5 (by injection e_))).trans hG, by rw [e]; exact hN⟩
    simp only [putAll, Act.put, List.setIfInBounds_toArray, List.set_cons_zero, List.set_cons_succ] at hq ⊢
    exact hq
  case fin =>
   rintro ⟨x0, x1, x3, vb, vp, g⟩ w1 ⟨hI, -, hG, hN⟩
   refine Aside0.out ?_
   replace hI : MnI r7 w true true true true true true x0 x1 x3 vb vp g w1 := hI
   replace hN : gb148 ≠ g := hN rfl
   obtain ⟨_, _, _, rfl⟩ := hI.hb rfl
   obtain ⟨gm, cm, rfl, hgm, _⟩ := row_ptr (hI.r0.2 rfl) (List.length_replicate (n := 256)) (by decide)
   obtain ⟨gr, cr, rfl, hgr, _⟩ := row_ptr (hI.r1.2 rfl) (List.length_replicate (n := 8)) (by decide)
   obtain ⟨Ac, cc, rfl⟩ := Kd.R_slice (hI.r3.2 rfl)
   obtain ⟨rfl, hge, hx, hn0, hn1, hn3⟩ := hI.hp rfl
   replace hx : w1.heap[g]? = some (.cells #[.slice (some ⟨gm, 0, none⟩) 256 cm, .slice (some ⟨gr, 0, none⟩) 8 cr, .bool false, .bool false, .bool false, .bool false, .slice Ac r7.length cc, .slice none 0 0, .int .i64 0] 28 (0, 0)) := hx
   have M0 := A_ (hI.r0.2 rfl)
   have M1 := A_ (hI.r1.2 rfl)
   have M3 := A_ (hI.r3.2 rfl)
   have D01 := A_ (fun e => hI.d01 gm rfl (by rw [e]; rfl) : gm ≠ gr)
   have D03 := A_ (fun e => hI.d03 gm rfl e : (Value.slice Ac r7.length cc).ownBlock ≠ some gm)
   have D13 := A_ (fun e => hI.d13 gr rfl e : (Value.slice Ac r7.length cc).ownBlock ≠ some gr)
   have N0 := A_ (fun e => hn0 (by rw [e]; rfl) : gm ≠ g)
   have N1 := A_ (fun e => hn1 (by rw [e]; rfl) : gr ≠ g)
   have N3 := A_ hn3
   have E0 := A_ hgm
   have E1 := A_ hgr
   have Eg := A_ hge
   have NB := A_ hN
   have NG0 := A_ (fun e => by have h := ((Kd.R_bound M0.out).1 gm rfl).2.2.2; obtain ⟨q, hq, cs, hc⟩ := h; rw [← e, hG] at hc; injection hc with hc; injection hc with _ h2 _; rw [← h2] at hq; exact absurd hq (by decide) : gb148 ≠ gm)
   have NG3 := A_ (fun e => by have h := ((Kd.R_bound M3.out).1 gb148 e).2.2.2; obtain ⟨q, hq, cs, hc⟩ := h; rw [hG] at hc; injection hc with hc; injection hc with _ h2 _; rw [← h2] at hq; exact absurd hq (by decide) : (Value.slice Ac r7.length cc).ownBlock ≠ some gb148)
   have NG1 := A_ (fun e => by have h := ((Kd.R_bound M1.out).1 gr rfl).2.2.2; obtain ⟨q, hq, cs, hc⟩ := h; rw [← e, hG] at hc; injection hc with hc; injection hc with _ h2 _; rw [← h2] at hq; exact absurd hq (by decide) : gb148 ≠ gr)
   have HB := A_ hI.bel
   clear hI hgm hgr hge hn0 hn1 hn3 hN
   have BX := A_ hx
   have BG := A_ hG
   clear hx hG
   refine Aside0.mk ?_
   simp only [putAll, Act.put, List.setIfInBounds_toArray, List.set_cons_zero, List.set_cons_succ]
   have y_0 : w1.cell? ⟨g, 0, none⟩ = some (.slice (some ⟨gm, 0, none⟩) 256 cm) := (blk_cell BX.out 0).trans rfl
   have z_0 := blk_frozen BX.out 0
   have y_1 : w1.cell? ⟨g, 1, none⟩ = some (.slice (some ⟨gr, 0, none⟩) 8 cr) := (blk_cell BX.out 1).trans rfl
   have z_1 := blk_frozen BX.out 1
   have y_2 : w1.cell? ⟨g, 2, none⟩ = some (.bool false) := (blk_cell BX.out 2).trans rfl
   have z_2 := blk_frozen BX.out 2
   have y_3 : w1.cell? ⟨g, 3, none⟩ = some (.bool false) := (blk_cell BX.out 3).trans rfl
   have z_3 := blk_frozen BX.out 3
   have y_4 : w1.cell? ⟨g, 4, none⟩ = some (.bool false) := (blk_cell BX.out 4).trans rfl
   have z_4 := blk_frozen BX.out 4
   have y_5 : w1.cell? ⟨g, 5, none⟩ = some (.bool false) := (blk_cell BX.out 5).trans rfl
   have z_5 := blk_frozen BX.out 5
   have y_6 : w1.cell? ⟨g, 6, none⟩ = some (.slice Ac r7.length cc) := (blk_cell BX.out 6).trans rfl
   have z_6 := blk_frozen BX.out 6
   have y_7 : w1.cell? ⟨g, 7, none⟩ = some (.slice none 0 0) := (blk_cell BX.out 7).trans rfl
   have z_7 := blk_frozen BX.out 7
   have y_8 : w1.cell? ⟨g, 8, none⟩ = some (.int .i64 0) := (blk_cell BX.out 8).trans rfl
   have z_8 := blk_frozen BX.out 8
   have hq := hq0.out
   obtain ⟨hq3, hq4⟩ := hq1.out
   have hq5 : (q_ : Int) ≤ 256 := by omega
   have hq6 : q_ ≤ 256 := by omega
   have S1 := A_ (fun e => N1.out (by injection e) : (Value.slice (some ⟨gr, 0, none⟩) 8 cr).ownBlock ≠ some g)
   have S0 := A_ (fun e => D01.out (by injection e with e; exact e.symm) : (Value.slice (some ⟨gr, 0, none⟩) 8 cr).ownBlock ≠ some gm)
   go_wp2_with (first | ((with_reducible refine gate_dst (N := 53) rfl ?_); refine copy_at w.heap.size rfl (.tmp 51) (.tmp 52) 22 22 3 rfl Try.underlying22 (by kernel_rfl) (q := q_) (List.replicate 256 0) l0 A0 (fun _ => True) rfl rfl (by omega) M0.out (Kd.C_below HR0.out HB.out) (by omega) ?_; intro w2 hR hg; have n0_ := A_ hR; have n1_ := A_ (R_grown_ M1.out hg S0.out); have n3_ := A_ (R_grown_ M3.out hg D03.out); have n4_ := A_ (blk_grown_ BX.out hg (Ne.symm N0.out)); have n5_ := A_ (blk_grown_ BG.out hg NG0.out); have n6_ := A_ (bel_grown_ HB.out hg E0.out); clear M0 M1 M3 BX BG HB hR hg; have M0 := n0_; have M1 := n1_; have M3 := n3_; have BX := n4_; have BG := n5_; have HB := n6_; clear n0_ n1_ n3_ n4_ n5_ n6_))
   have n0_ := A_ (Kd.R_drew M0.out)
   have n1_ := A_ (Kd.R_drew M1.out)
   have n3_ := A_ (Kd.R_drew M3.out)
   have n4_ := A_ (blk_drew BX.out)
   have n5_ := A_ (blk_drew BG.out)
   have n6_ := A_ (below_drew1 HB.out)
   clear M0 M1 M3 BX BG HB
   have M0 := n0_
   have M1 := n1_
   have M3 := n3_
   have BX := n4_
   have BG := n5_
   have HB := n6_
   clear n0_ n1_ n3_ n4_ n5_ n6_
   refine start_ (n := 9) (S := fun w' => w'.heap[g]? = some (.cells #[.slice (some ⟨gm, 0, none⟩) 256 cm, .slice (some ⟨gr, 0, none⟩) 8 cr, .bool false, .bool false, .bool false, .bool false, .slice Ac r7.length cc, .slice none 0 0, .int .i64 0] 28 (0, 0))) (ds := []) #[false, false, false, false, false, false, false, false, false] (by kernel_rfl) rfl rfl BX.out (fun hHeld => ?_)
   generalize World.drew _ = w3 at M0 M1 M3 BX BG HB hHeld ⊢
   have T0 := A_ (fun e => D01.out (by injection e) : (Value.slice (some ⟨gm, 0, none⟩) 256 cm).ownBlock ≠ some gr)
   refine pure_ (i := 0) (N := some 54) (v := ?_) (a' := ?_) #[true, false, false, false, false, false, false, false, false] rfl rfl (by kernel_rfl) (fun _ _ _ h => h) (Or.inl ⟨by rfl, ?_⟩) ?_ ?_
   rotate_left
   ·intro w'
    go_simp
    with_reducible rfl
   rotate_left
   ·simp only [Act.put, List.setIfInBounds_toArray, List.set_cons_zero, List.set_cons_succ]
    rfl
   refine pure_ (i := 2) (N := some 56) (v := ?_) (a' := ?_) #[true, false, true, false, false, false, false, false, false] rfl rfl (by kernel_rfl) (fun _ _ _ h => h) (Or.inl ⟨by rfl, ?_⟩) ?_ ?_
   rotate_left
   ·intro w'
    go_simp
    with_reducible rfl
   rotate_left
   ·simp only [Act.put, List.setIfInBounds_toArray, List.set_cons_zero, List.set_cons_succ]
    rfl
   refine pure_ (i := 4) (N := some 58) (v := ?_) (a' := ?_) #[true, false, true, false, true, false, false, false, false] rfl rfl (by kernel_rfl) (fun _ _ _ h => h) (Or.inl ⟨by rfl, ?_⟩) ?_ ?_
   rotate_left
   ·intro w'
    go_simp
    with_reducible rfl
   rotate_left
   ·simp only [Act.put, List.setIfInBounds_toArray, List.set_cons_zero, List.set_cons_succ]
    rfl
   refine take_ (i := 1) (N := some 55) (v := .slice (some ⟨gr, 0, none⟩) 8 cr) (a' := ?_) #[true, true, true, false, true, false, false, false, false] rfl rfl (by kernel_rfl) (fun _ _ _ h => h) (Or.inl ⟨by rfl, ?_⟩) hHeld ?_ ?_
   ·rintro w' s0
    have y_ := (blk_cell s0 1).trans rfl
    have z_ := blk_frozen s0 1
    go_simp
   rotate_left
   ·simp only [Act.put, List.setIfInBounds_toArray, List.set_cons_zero, List.set_cons_succ]
    rfl
   refine take_ (i := 3) (N := some 57) (v := .slice (some ⟨gr, 0, none⟩) 8 cr) (a' := ?_) #[true, true, true, true, true, false, false, false, false] rfl rfl (by kernel_rfl) (fun _ _ _ h => h) (Or.inl ⟨by rfl, ?_⟩) hHeld ?_ ?_
   ·rintro w' s0
    have y_ := (blk_cell s0 1).trans rfl
    have z_ := blk_frozen s0 1
    go_simp
   rotate_left
   ·simp only [Act.put, List.setIfInBounds_toArray, List.set_cons_zero, List.set_cons_succ]
    rfl
   refine pure_ (i := 5) (N := some 59) (v := ?_) (a' := ?_) #[true, true, true, true, true, true, false, false, false] rfl rfl (by kernel_rfl) (fun _ _ _ h => h) (Or.inl ⟨by rfl, ?_⟩) ?_ ?_
   rotate_left
   ·intro w'
    go_simp
    with_reducible rfl
   rotate_left
   ·simp only [Act.put, List.setIfInBounds_toArray, List.set_cons_zero, List.set_cons_succ]
    rfl
   refine one_ (i := 6) (N := none) #[true, true, true, true, true, true, true, false, false] rfl rfl (by kernel_rfl) (by decide) (fun K hK => ?_)
   refine store_row_step (by rfl) rfl 3 (.tmp 59) (.const (.int .i64 512)) rfl (j := 6) (u := 512) (by rfl) (by rfl) (by kernel_rfl) M1.out (by decide) ?_
   intro w4 hR hg
   have n0_ := A_ (R_grown_ M0.out hg T0.out)
   have n3_ := A_ (R_grown_ M3.out hg D13.out)
   have n4_ := A_ (blk_grown_ BX.out hg (Ne.symm N1.out))
   have n5_ := A_ (blk_grown_ BG.out hg NG1.out)
   have n6_ := A_ (bel_grown_ HB.out hg E1.out)
   clear M0 M1 M3 BX BG HB hg
   have M0 := n0_
   have M1 := A_ hR
   have M3 := n3_
   have BX := n4_
   have BG := n5_
   have HB := n6_
   clear n0_ n3_ n4_ n5_ n6_ hR
   refine hK.out _ _ BX.out (fun hHeld => ?_)
   clear hK K
   refine pure_ (i := 7) (N := some 60) (v := ?_) (a' := ?_) #[true, true, true, true, true, true, true, true, false] rfl rfl (by kernel_rfl) (fun _ _ _ h => h) (Or.inl ⟨by rfl, ?_⟩) ?_ ?_
   rotate_left
   ·intro w'
    go_simp
    with_reducible rfl
   rotate_left
   ·simp only [Act.put, List.setIfInBounds_toArray, List.set_cons_zero, List.set_cons_succ]
    rfl
   refine one_ (i := 8) (N := none) #[true, true, true, true, true, true, true, true, true] rfl rfl (by kernel_rfl) (by decide) (fun K hK => ?_)
   refine store_row_step (by rfl) rfl 3 (.tmp 60) (.tmp 58) rfl (j := 7) (u := a2) (by rfl) (by rfl) (by kernel_rfl) M1.out (by decide) ?_
   intro w4 hR hg
   have n0_ := A_ (R_grown_ M0.out hg T0.out)
   have n3_ := A_ (R_grown_ M3.out hg D13.out)
   have n4_ := A_ (blk_grown_ BX.out hg (Ne.symm N1.out))
   have n5_ := A_ (blk_grown_ BG.out hg NG1.out)
   have n6_ := A_ (bel_grown_ HB.out hg E1.out)
   clear M0 M1 M3 BX BG HB hg
   have M0 := n0_
   have M1 := A_ hR
   have M3 := n3_
   have BX := n4_
   have BG := n5_
   have HB := n6_
   clear n0_ n3_ n4_ n5_ n6_ hR
   refine hK.out _ _ BX.out (fun hHeld => ?_)
   clear hK K
   refine done_ (by kernel_rfl) ?_
   go_wp2_with (first | ((with_reducible refine gate_ (.load 28 (.tmp 9)) rfl ?_); refine wpList_load_row rfl 28 (.tmp 9) rfl g rfl 28 _ _ _ BX.out Try.underlying28 rfl (by kernel_rfl) ?_) | ((with_reducible refine gate_ (.store 28 (.tmp 8) (.tmp 61)) rfl ?_); refine store_box rfl rfl 28 (.tmp 8) (.tmp 61) rfl (g := gb148) (cs := #[.slice (some ⟨gm, 0, none⟩) 256 cm, .slice (some ⟨gr, 0, none⟩) 8 cr, .bool false, .bool false, .bool false, .bool false, .slice Ac r7.length cc, .slice none 0 0, .int .i64 0]) rfl rfl BG.out (by kernel_rfl) rfl (by repeat (first | exact fun _ h => absurd h List.not_mem_nil | refine List.forall_mem_cons.2 ⟨rfl, ?_⟩)) ?_; intro w5 hx5 hg; have n0_ := A_ (R_grown_ M0.out hg (fun e => NG0.out (by injection e with e; exact e.symm))); have n1_ := A_ (R_grown_ M1.out hg (fun e => NG1.out (by injection e with e; exact e.symm))); have n3_ := A_ (R_grown_ M3.out hg NG3.out); have n6_ := A_ (bel_grown_ HB.out hg GE148.out); clear M0 M1 M3 BX BG HB hg; have M0 := n0_; have M1 := n1_; have M3 := n3_; have BG := A_ hx5; have HB := n6_; clear n0_ n1_ n3_ n6_ hx5))
   refine bodyPost_ret (results_cell_row rfl _ _ gb148 28 #[.slice (some ⟨gm, 0, none⟩) 256 cm, .slice (some ⟨gr, 0, none⟩) 8 cr, .bool false, .bool false, .bool false, .bool false, .slice Ac r7.length cc, .slice none 0 0, .int .i64 0] (0, 0) _ rfl BG.out Try.underlying28 rfl (by kernel_rfl)) rfl ?_
   have own0 : ∀ k, (Value.slice (some ⟨gm, 0, none⟩) 256 cm).ownBlock = some k → k = gm := fun k h => by injection h with h; exact h.symm
   have own1 : ∀ k, (Value.slice (some ⟨gr, 0, none⟩) 8 cr).ownBlock = some k → k = gr := fun k h => by injection h with h; exact h.symm
   have no7 : ∀ k, some k ≠ (Value.slice none 0 0).ownBlock := fun k h => by cases h
   exact ⟨_, _, _, _, rfl, ⟨fun k hk => by obtain rfl := own0 k hk; exact ⟨fun e => S0.out e.symm, fun e => D03.out e.symm, no7 _⟩, M0.out.2⟩,
    ⟨fun k hk => by obtain rfl := own1 k hk; exact ⟨fun e => T0.out e.symm, fun e => D13.out e.symm, no7 _⟩, M1.out.2⟩,
    ⟨fun k hk => ⟨fun e => D03.out (hk.trans e), fun e => D13.out (hk.trans e), no7 _⟩, M3.out.2⟩,
    Kd.R_nil _ _ _ _ _, HB.out⟩
 ·refine bodyPost_ret (results_cell_row rfl _ _ gb148 28 #[.slice none 0 0, .slice none 0 0, .bool false, .bool false, .bool false, .bool false, .slice none 0 0, .slice none 0 0, .int .i64 0] (0, 0) _ rfl ?hb_ Try.underlying28 rfl (by kernel_rfl)) rfl ?_
  (case hb_ => refine bk_ ?_; refine blk_put (cs := #[.slice none 0 0, .slice none 0 0, .bool false, .bool false, .bool false, .bool false, .slice none 0 0, .slice none 0 0, .int .i64 0]) ?_ 8 _ rfl; refine bk_ ?_; refine blk_put (cs := #[.slice none 0 0, .slice none 0 0, .bool false, .bool false, .bool false, .bool false, .slice none 0 0, .slice none 0 0, .int .i64 0]) ?_ 7 _ rfl; refine bk_ ?_; refine blk_put (cs := #[.slice none 0 0, .slice none 0 0, .bool false, .bool false, .bool false, .bool false, .slice none 0 0, .slice none 0 0, .int .i64 0]) ?_ 6 _ rfl; refine bk_ ?_; refine blk_put (cs := #[.slice none 0 0, .slice none 0 0, .bool false, .bool false, .bool false, .bool false, .slice none 0 0, .slice none 0 0, .int .i64 0]) ?_ 5 _ rfl; refine bk_ ?_; refine blk_put (cs := #[.slice none 0 0, .slice none 0 0, .bool false, .bool false, .bool false, .bool false, .slice none 0 0, .slice none 0 0, .int .i64 0]) ?_ 4 _ rfl; refine bk_ ?_; refine blk_put (cs := #[.slice none 0 0, .slice none 0 0, .bool false, .bool false, .bool false, .bool false, .slice none 0 0, .slice none 0 0, .int .i64 0]) ?_ 3 _ rfl; refine bk_ ?_; refine blk_put (cs := #[.slice none 0 0, .slice none 0 0, .bool false, .bool false, .bool false, .bool false, .slice none 0 0, .slice none 0 0, .int .i64 0]) ?_ 2 _ rfl; refine bk_ ?_; refine blk_put (cs := #[.slice none 0 0, .slice none 0 0, .bool false, .bool false, .bool false, .bool false, .slice none 0 0, .slice none 0 0, .int .i64 0]) ?_ 1 _ rfl; refine bk_ ?_; refine blk_put (cs := #[.slice none 0 0, .slice none 0 0, .bool false, .bool false, .bool false, .bool false, .slice none 0 0, .slice none 0 0, .int .i64 0]) ?_ 0 _ rfl; refine bk_ ?_; exact BK148.out)
  exact ⟨_, _, _, _, by first | rfl | (simp [errW_none, errW_some] <;> rfl) | (simp [*, errW_none, errW_some] <;> rfl), by first | exact Kd.R_nil _ _ _ _ _ | exact Kd.N_nil _ _ _ _ _ | exact Kd.V_nil _ _ _ _ _ | exact Kd.Q_nil _ _ _ _ _ | exact Kd.S_nil _ _ _ _ _, by first | exact Kd.R_nil _ _ _ _ _ | exact Kd.N_nil _ _ _ _ _ | exact Kd.V_nil _ _ _ _ _ | exact Kd.Q_nil _ _ _ _ _ | exact Kd.S_nil _ _ _ _ _, by first | exact Kd.R_nil _ _ _ _ _ | exact Kd.N_nil _ _ _ _ _ | exact Kd.V_nil _ _ _ _ _ | exact Kd.Q_nil _ _ _ _ _ | exact Kd.S_nil _ _ _ _ _, by first | exact Kd.R_nil _ _ _ _ _ | exact Kd.N_nil _ _ _ _ _ | exact Kd.V_nil _ _ _ _ _ | exact Kd.Q_nil _ _ _ _ _ | exact Kd.S_nil _ _ _ _ _, bw_ HB.out⟩
 ·refine bodyPost_ret (results_cell_row rfl _ _ gb148 28 #[.slice none 0 0, .slice none 0 0, .bool false, .bool false, .bool false, .bool false, .slice none 0 0, .slice none 0 0, .int .i64 0] (0, 0) _ rfl ?hb_ Try.underlying28 rfl (by kernel_rfl)) rfl ?_
  (case hb_ => refine bk_ ?_; refine blk_put (cs := #[.slice none 0 0, .slice none 0 0, .bool false, .bool false, .bool false, .bool false, .slice none 0 0, .slice none 0 0, .int .i64 0]) ?_ 8 _ rfl; refine bk_ ?_; refine blk_put (cs := #[.slice none 0 0, .slice none 0 0, .bool false, .bool false, .bool false, .bool false, .slice none 0 0, .slice none 0 0, .int .i64 0]) ?_ 7 _ rfl; refine bk_ ?_; refine blk_put (cs := #[.slice none 0 0, .slice none 0 0, .bool false, .bool false, .bool false, .bool false, .slice none 0 0, .slice none 0 0, .int .i64 0]) ?_ 6 _ rfl; refine bk_ ?_; refine blk_put (cs := #[.slice none 0 0, .slice none 0 0, .bool false, .bool false, .bool false, .bool false, .slice none 0 0, .slice none 0 0, .int .i64 0]) ?_ 5 _ rfl; refine bk_ ?_; refine blk_put (cs := #[.slice none 0 0, .slice none 0 0, .bool false, .bool false, .bool false, .bool false, .slice none 0 0, .slice none 0 0, .int .i64 0]) ?_ 4 _ rfl; refine bk_ ?_; refine blk_put (cs := #[.slice none 0 0, .slice none 0 0, .bool false, .bool false, .bool false, .bool false, .slice none 0 0, .slice none 0 0, .int .i64 0]) ?_ 3 _ rfl; refine bk_ ?_; refine blk_put (cs := #[.slice none 0 0, .slice none 0 0, .bool false, .bool false, .bool false, .bool false, .slice none 0 0, .slice none 0 0, .int .i64 0]) ?_ 2 _ rfl; refine bk_ ?_; refine blk_put (cs := #[.slice none 0 0, .slice none 0 0, .bool false, .bool false, .bool false, .bool false, .slice none 0 0, .slice none 0 0, .int .i64 0]) ?_ 1 _ rfl; refine bk_ ?_; refine blk_put (cs := #[.slice none 0 0, .slice none 0 0, .bool false, .bool false, .bool false, .bool false, .slice none 0 0, .slice none 0 0, .int .i64 0]) ?_ 0 _ rfl; refine bk_ ?_; exact BK148.out)
  exact ⟨_, _, _, _, by first | rfl | (simp [errW_none, errW_some] <;> rfl) | (simp [*, errW_none, errW_some] <;> rfl), by first | exact Kd.R_nil _ _ _ _ _ | exact Kd.N_nil _ _ _ _ _ | exact Kd.V_nil _ _ _ _ _ | exact Kd.Q_nil _ _ _ _ _ | exact Kd.S_nil _ _ _ _ _, by first | exact Kd.R_nil _ _ _ _ _ | exact Kd.N_nil _ _ _ _ _ | exact Kd.V_nil _ _ _ _ _ | exact Kd.Q_nil _ _ _ _ _ | exact Kd.S_nil _ _ _ _ _, by first | exact Kd.R_nil _ _ _ _ _ | exact Kd.N_nil _ _ _ _ _ | exact Kd.V_nil _ _ _ _ _ | exact Kd.Q_nil _ _ _ _ _ | exact Kd.S_nil _ _ _ _ _, by first | exact Kd.R_nil _ _ _ _ _ | exact Kd.N_nil _ _ _ _ _ | exact Kd.V_nil _ _ _ _ _ | exact Kd.Q_nil _ _ _ _ _ | exact Kd.S_nil _ _ _ _ _, bw_ HB.out⟩
 ·refine bodyPost_ret (results_cell_row rfl _ _ gb148 28 #[.slice none 0 0, .slice none 0 0, .bool false, .bool false, .bool false, .bool false, .slice none 0 0, .slice none 0 0, .int .i64 0] (0, 0) _ rfl ?hb_ Try.underlying28 rfl (by kernel_rfl)) rfl ?_
  (case hb_ => refine bk_ ?_; refine blk_put (cs := #[.slice none 0 0, .slice none 0 0, .bool false, .bool false, .bool false, .bool false, .slice none 0 0, .slice none 0 0, .int .i64 0]) ?_ 8 _ rfl; refine bk_ ?_; refine blk_put (cs := #[.slice none 0 0, .slice none 0 0, .bool false, .bool false, .bool false, .bool false, .slice none 0 0, .slice none 0 0, .int .i64 0]) ?_ 7 _ rfl; refine bk_ ?_; refine blk_put (cs := #[.slice none 0 0, .slice none 0 0, .bool false, .bool false, .bool false, .bool false, .slice none 0 0, .slice none 0 0, .int .i64 0]) ?_ 6 _ rfl; refine bk_ ?_; refine blk_put (cs := #[.slice none 0 0, .slice none 0 0, .bool false, .bool false, .bool false, .bool false, .slice none 0 0, .slice none 0 0, .int .i64 0]) ?_ 5 _ rfl; refine bk_ ?_; refine blk_put (cs := #[.slice none 0 0, .slice none 0 0, .bool false, .bool false, .bool false, .bool false, .slice none 0 0, .slice none 0 0, .int .i64 0]) ?_ 4 _ rfl; refine bk_ ?_; refine blk_put (cs := #[.slice none 0 0, .slice none 0 0, .bool false, .bool false, .bool false, .bool false, .slice none 0 0, .slice none 0 0, .int .i64 0]) ?_ 3 _ rfl; refine bk_ ?_; refine blk_put (cs := #[.slice none 0 0, .slice none 0 0, .bool false, .bool false, .bool false, .bool false, .slice none 0 0, .slice none 0 0, .int .i64 0]) ?_ 2 _ rfl; refine bk_ ?_; refine blk_put (cs := #[.slice none 0 0, .slice none 0 0, .bool false, .bool false, .bool false, .bool false, .slice none 0 0, .slice none 0 0, .int .i64 0]) ?_ 1 _ rfl; refine bk_ ?_; refine blk_put (cs := #[.slice none 0 0, .slice none 0 0, .bool false, .bool false, .bool false, .bool false, .slice none 0 0, .slice none 0 0, .int .i64 0]) ?_ 0 _ rfl; refine bk_ ?_; exact BK148.out)
  exact ⟨_, _, _, _, by first | rfl | (simp [errW_none, errW_some] <;> rfl) | (simp [*, errW_none, errW_some] <;> rfl), by first | exact Kd.R_nil _ _ _ _ _ | exact Kd.N_nil _ _ _ _ _ | exact Kd.V_nil _ _ _ _ _ | exact Kd.Q_nil _ _ _ _ _ | exact Kd.S_nil _ _ _ _ _, by first | exact Kd.R_nil _ _ _ _ _ | exact Kd.N_nil _ _ _ _ _ | exact Kd.V_nil _ _ _ _ _ | exact Kd.Q_nil _ _ _ _ _ | exact Kd.S_nil _ _ _ _ _, by first | exact Kd.R_nil _ _ _ _ _ | exact Kd.N_nil _ _ _ _ _ | exact Kd.V_nil _ _ _ _ _ | exact Kd.Q_nil _ _ _ _ _ | exact Kd.S_nil _ _ _ _ _, by first | exact Kd.R_nil _ _ _ _ _ | exact Kd.N_nil _ _ _ _ _ | exact Kd.V_nil _ _ _ _ _ | exact Kd.Q_nil _ _ _ _ _ | exact Kd.S_nil _ _ _ _ _, bw_ HB.out⟩
 ·refine bodyPost_ret (results_cell_row rfl _ _ gb148 28 #[.slice none 0 0, .slice none 0 0, .bool false, .bool false, .bool false, .bool false, .slice none 0 0, .slice none 0 0, .int .i64 0] (0, 0) _ rfl ?hb_ Try.underlying28 rfl (by kernel_rfl)) rfl ?_
  (case hb_ => refine bk_ ?_; refine blk_put (cs := #[.slice none 0 0, .slice none 0 0, .bool false, .bool false, .bool false, .bool false, .slice none 0 0, .slice none 0 0, .int .i64 0]) ?_ 8 _ rfl; refine bk_ ?_; refine blk_put (cs := #[.slice none 0 0, .slice none 0 0, .bool false, .bool false, .bool false, .bool false, .slice none 0 0, .slice none 0 0, .int .i64 0]) ?_ 7 _ rfl; refine bk_ ?_; refine blk_put (cs := #[.slice none 0 0, .slice none 0 0, .bool false, .bool false, .bool false, .bool false, .slice none 0 0, .slice none 0 0, .int .i64 0]) ?_ 6 _ rfl; refine bk_ ?_; refine blk_put (cs := #[.slice none 0 0, .slice none 0 0, .bool false, .bool false, .bool false, .bool false, .slice none 0 0, .slice none 0 0, .int .i64 0]) ?_ 5 _ rfl; refine bk_ ?_; refine blk_put (cs := #[.slice none 0 0, .slice none 0 0, .bool false, .bool false, .bool false, .bool false, .slice none 0 0, .slice none 0 0, .int .i64 0]) ?_ 4 _ rfl; refine bk_ ?_; refine blk_put (cs := #[.slice none 0 0, .slice none 0 0, .bool false, .bool false, .bool false, .bool false, .slice none 0 0, .slice none 0 0, .int .i64 0]) ?_ 3 _ rfl; refine bk_ ?_; refine blk_put (cs := #[.slice none 0 0, .slice none 0 0, .bool false, .bool false, .bool false, .bool false, .slice none 0 0, .slice none 0 0, .int .i64 0]) ?_ 2 _ rfl; refine bk_ ?_; refine blk_put (cs := #[.slice none 0 0, .slice none 0 0, .bool false, .bool false, .bool false, .bool false, .slice none 0 0, .slice none 0 0, .int .i64 0]) ?_ 1 _ rfl; refine bk_ ?_; refine blk_put (cs := #[.slice none 0 0, .slice none 0 0, .bool false, .bool false, .bool false, .bool false, .slice none 0 0, .slice none 0 0, .int .i64 0]) ?_ 0 _ rfl; refine bk_ ?_; exact BK148.out)
  exact ⟨_, _, _, _, by first | rfl | (simp [errW_none, errW_some] <;> rfl) | (simp [*, errW_none, errW_some] <;> rfl), by first | exact Kd.R_nil _ _ _ _ _ | exact Kd.N_nil _ _ _ _ _ | exact Kd.V_nil _ _ _ _ _ | exact Kd.Q_nil _ _ _ _ _ | exact Kd.S_nil _ _ _ _ _, by first | exact Kd.R_nil _ _ _ _ _ | exact Kd.N_nil _ _ _ _ _ | exact Kd.V_nil _ _ _ _ _ | exact Kd.Q_nil _ _ _ _ _ | exact Kd.S_nil _ _ _ _ _, by first | exact Kd.R_nil _ _ _ _ _ | exact Kd.N_nil _ _ _ _ _ | exact Kd.V_nil _ _ _ _ _ | exact Kd.Q_nil _ _ _ _ _ | exact Kd.S_nil _ _ _ _ _, by first | exact Kd.R_nil _ _ _ _ _ | exact Kd.N_nil _ _ _ _ _ | exact Kd.V_nil _ _ _ _ _ | exact Kd.Q_nil _ _ _ _ _ | exact Kd.S_nil _ _ _ _ _, bw_ HB.out⟩

/-! ### laws_markIntS: function 31 -/
def laws_markIntS.l0 : Nat → List Int → Int → Int → Option (Int × List Int)
 | 0, _, _, _ => none
 | k + 1, x0, x1, x5 => if x5 < (x0.length : Int) then (if 0 ≤ x5 then (laws_markIntS.l0 k (x0.set (x5 : Int).toNat x1) (wrap64 (x1 + 1)) (wrap64 (x5 + 1))) else (none)) else (some (x1, x0))
def laws_markIntS.f (k : Nat) (l0 : List Int) (a1 : Int) : Option (Int × List Int) := laws_markIntS.l0 k l0 a1 0
theorem laws_markIntS.mono_l : ∀ k, (∀ y0 y1 y2, LeO (laws_markIntS.l0 k y0 y1 y2) (laws_markIntS.l0 (k + 1) y0 y1 y2))
 | 0 => fun _ _ _ r h => by simp [laws_markIntS.l0] at h
 | k + 1 => by
  have ih0 := laws_markIntS.mono_l k
  ·intro y0 y1 y2
   unfold laws_markIntS.l0
   repeat' first
   | (with_reducible exact ih0 _ _ _)
   | (with_reducible exact LeO.refl _)
   | (with_reducible exact LeO.none _)
   | (with_reducible refine LeO.ite ?_ ?_)
   | (with_reducible refine LeO.bind ?_ (fun _ => ?_))
   | exact ih0 _ _ _
   | exact LeO.none _
   | refine LeO.ite ?_ ?_
   | refine LeO.bind ?_ (fun _ => ?_)
theorem laws_markIntS.mono : ∀ a0 a1 k, LeO (laws_markIntS.f k a0 a1) (laws_markIntS.f (k + 1) a0 a1) := by
 intro a0 a1 k
 have ih0 := laws_markIntS.mono_l k
 unfold laws_markIntS.f
 repeat' first
   | (with_reducible exact ih0 _ _ _)
   | (with_reducible exact LeO.refl _)
   | (with_reducible exact LeO.none _)
   | (with_reducible refine LeO.ite ?_ ?_)
   | (with_reducible refine LeO.bind ?_ (fun _ => ?_))
   | exact ih0 _ _ _
   | exact LeO.none _
   | refine LeO.ite ?_ ?_
   | refine LeO.bind ?_ (fun _ => ?_)
set_option maxHeartbeats 8000000 in
set_option maxRecDepth 100000 in
theorem laws_markIntS.calls (k : Nat) (P0_ : Nat → Prop) (u9000_ : Value) (l0 : List Int) (a1 : Int) (r1 : Int) (r2 : List Int) (w0 w : World) (hB : Below w0.heap.size w0 w) (ho0 : Kd.R (Kd.int .i64) 3 w w0.heap.size P0_ u9000_ l0) (h : laws_markIntS.f k l0 a1 = some (r1, r2)) :
  Calls Try.prog 31 #[u9000_, .int .i64 a1] w fun e w' => e = .returned (.int .i64 r1) ∧ Kd.R (Kd.int .i64) 3 w' w0.heap.size (fun k_ => (P0_ k_ ∨ w.heap.size ≤ k_)) u9000_ r2 ∧ Below w0.heap.size w0 w' ∧ Kept w w' (fun k_ => P0_ k_) := by
 have HO0 := A_ (show Kd.R (Kd.int .i64) 3 w w0.heap.size (fun k_ => (P0_ k_ ∨ w.heap.size ≤ k_)) u9000_ l0 from Kd.R_mono ho0 (fun k_ hk => (.inl hk)))
 have HK := A_ (Kept.refl w (fun k_ => P0_ k_))
 have HW0 := A_ hB.size
 have HB := A_ hB
 clear hB
 have H : (laws_markIntS.l0 k l0 a1 0) = some (r1, r2) := h
 clear h
 have H' := A_ H
 clear H
 go_enter Try.func31, Try.ntmps31
 go_wp2
 go_loopg [1, 5] k (fun kq v1 v5 w' => ∃ (x0_1 : List Int) (x1_1 : Int) (x5_1 : Int), v1 = .int .i64 x1_1 ∧ v5 = .int .i64 x5_1 ∧ Aside0 (laws_markIntS.l0 kq x0_1 x1_1 x5_1 = some (r1, r2)) ∧ Aside0 (kq ≤ k) ∧ Aside0 (Kd.R (Kd.int .i64) 3 w' w0.heap.size (fun k_ => (P0_ k_ ∨ w.heap.size ≤ k_)) u9000_ x0_1) ∧ Aside0 (Kept w w' (fun k_ => P0_ k_)) ∧ Aside0 (Below w0.heap.size w0 w'))
 case atStart => exact ⟨(l0), (a1), (0), (by first | rfl | (simp; done) | (simp [*]; done) | (simp [wrap64]; done)), (by first | rfl | (simp; done) | (simp [*]; done) | (simp [wrap64]; done)), H', ⟨Nat.le_refl _⟩, ⟨by (with_reducible repeat (first | apply Kd.R_alloc | apply Kd.R_drewN | apply Kd.R_drew)); exact HO0.out⟩, ⟨by repeat (first | (with_reducible first | exact HK.out | apply Kept.alloc | apply Kept.drewN | apply Kept.drew) | exact HK.out)⟩, ⟨bw_ HB.out⟩⟩
 case round =>
  clear H'
  try clear p2
  obtain ⟨x0_1, x1_1, x5_1, rfl, rfl, HA, HK1, HO_0, HK, HB⟩ := hrel
  cases gk with
  | zero => exact absurd HA.out (by simp [laws_markIntS.l0])
  | succ k1 =>
   have H := HA.out
   clear HA
   simp only [laws_markIntS.l0] at H
   by_cases c3 : x5_1 < (x0_1.length : Int)
   ·rw [if_pos c3] at H
    have c3b0 : decide (x5_1 < (x0_1.length : Int)) = true := decide_eq_true c3
    clear c3
    by_cases c4 : 0 ≤ x5_1
    ·rw [if_pos c4] at H
     have c4b0 : decide (0 ≤ x5_1) = true := decide_eq_true c4
     clear c4
     obtain ⟨y153, hy153⟩ : ∃ y_ : List Int, y_ = (x0_1.set (x5_1 : Int).toNat x1_1) := ⟨_, rfl⟩
     replace H : (laws_markIntS.l0 k1 y153 (wrap64 (x1_1 + 1)) (wrap64 (x5_1 + 1))) = some (r1, r2) := by first | (rw [hy153]; with_reducible exact H) | (have H2_ := (Option.bind_some _ _).symm.trans H; rw [hy153]; with_reducible exact H2_) | (have H2_ := (Option.bind_some _ _).symm.trans H; with_reducible exact H2_) | with_reducible exact H | (rw [hy153]; exact H) | exact H
     have Ny153 := A_ hy153
     clear hy153
     have H' := A_ H
     clear H
     obtain ⟨Ao6, co6, eo6⟩ := Kd.R_slice HO_0.out
     subst eo6
     have p5 : 0 ≤ (x5_1 : Int) := of_decide_eq_true (by first | (with_reducible assumption) | assumption)
     have q5 : (x5_1 : Int) < ((x0_1.length : Int) : Int) := of_decide_eq_true (by first | (with_reducible assumption) | assumption)
     obtain ⟨go5, co5, eo5, gb5, gl5, cl5, HG5⟩ := Kd.R_form HO_0.out (by omega)
     (first | cases eo5 | (injection eo5 with ea_ en_ ec_; (first | subst ea_ | (injection ea_ with ea_; subst ea_)); subst ec_; clear en_))
     have GB5 := A_ gb5
     have GG5 := A_ HG5
     clear gb5 gl5 HG5
     have HMgo5 := A_ (show (P0_ go5 ∨ w.heap.size ≤ go5) from (HO_0.out.1 _ rfl))
     obtain ⟨hx5_0, hf5_0⟩ := Kd.R_celln 0 HO_0.out (x5_1 : Int) p5 q5
     replace p5 := eq_true p5
     replace q5 := eq_true q5
     have HP7 := Kd.R_putg HO_0.out (x5_1 : Int) x1_1
     go_wp2_with (first | ((with_reducible refine gate_store (t := 3) (p := 15) rfl ?_); refine store_event (t := 3) (p := 15) (v := ?vo_w8) (w1 := (wr.setCell ⟨go5, (x5_1 : Int).toNat, none⟩ (.int .i64 x1_1))) ?hg ?ho ?hn ?hr ?_; (case ho => rfl); (case hg => rfl); (case hn => rfl); (case hr => first | (go_simp; done) | (go_simp; rfl)); intro w8 hw; have hg : wr.grownBy w8 (some go5) := (by rw [hw]; exact HP7.2); have hp_ : Kd.R (Kd.int .i64) 3 w8 w0.heap.size (fun k_ => (P0_ k_ ∨ w.heap.size ≤ k_)) (.slice (some ⟨go5, 0, none⟩) x0_1.length co6) y153 := (by rw [hw, Ny153.out]; exact HP7.1); clear HP7; have n0_ := A_ (hp_); have n1_ := A_ ((by rw [hw]; exact below_set (HB.out) GB5.out : Below w0.heap.size w0 w8)); have n2_ := A_ (Kept.of_grown (S := (fun k_ => P0_ k_)) hg (by repeat (first | (with_reducible first | exact HK.out | apply Kept.alloc | apply Kept.drewN | apply Kept.drew) | exact HK.out)) (fun k_ e_ => (HO_0.out.1 k_ e_))); clear HO_0; clear HB; clear HK; have HO_0 := n0_; have HB := n1_; have HK := n2_; clear n0_ n1_ n2_; clear hg hw hp_))
     go_roundg k1
     case measure => have := HK1.out; omega
     case rel => exact ⟨(y153), (wrap64 (x1_1 + 1)), (wrap64 (x5_1 + 1)), (by first | rfl | (simp; done) | (simp [*]; done) | (simp [wrap64]; done)), (by first | rfl | (simp; done) | (simp [*]; done) | (simp [wrap64]; done)), H', ⟨by have := HK1.out; omega⟩, ⟨by (with_reducible repeat (first | apply Kd.R_alloc | apply Kd.R_drewN | apply Kd.R_drew)); exact HO_0.out⟩, ⟨by repeat (first | (with_reducible first | exact HK.out | apply Kept.alloc | apply Kept.drewN | apply Kept.drew) | exact HK.out)⟩, ⟨bw_ HB.out⟩⟩
    ·rw [if_neg c4] at H
     exact absurd H (by simp)
   ·rw [if_neg c3] at H
    have c3b0 : decide (x5_1 < (x0_1.length : Int)) = false := decide_eq_false c3
    clear c3
    simp only [Option.some.injEq, Prod.mk.injEq] at H
    obtain ⟨rfl, rfl⟩ := H
    obtain ⟨Ao9, co9, eo9⟩ := Kd.R_slice HO_0.out
    subst eo9
    go_wp2
    go_ret
    exact rt_ ⟨by (with_reducible repeat (first | apply Kd.R_alloc | apply Kd.R_drewN | apply Kd.R_drew)); exact HO_0.out, bw_ HB.out, by repeat (first | (with_reducible first | exact HK.out | apply Kept.alloc | apply Kept.drewN | apply Kept.drew) | exact HK.out)⟩

/-! ### laws_markMach: function 32 -/
def laws_markMach.f (k : Nat) (l0_0 : List Int) (l0_1 : List Int) (a0_2 : Bool) (a0_3 : Bool) (a0_4 : Bool) (a0_5 : Bool) (l0_6 : List Int) (l0_7 : List Int) (a0_8 : Int) (a1 : Int) : Option (Int × List Int × List Int × List Int × List Int) := (laws_markIntS.f k l0_0 a1).bind fun bt155 => ((laws_markIntS.f k l0_1 bt155.1).bind fun bt157 => ((laws_markIntS.f k l0_6 bt157.1).bind fun bt159 => ((laws_markIntS.f k l0_7 bt159.1).bind fun bt161 => (some (bt161.1, bt155.2, bt157.2, bt159.2, bt161.2)))))
theorem laws_markMach.mono : ∀ a0 a1 a2 a3 a4 a5 a6 a7 a8 a9 k, LeO (laws_markMach.f k a0 a1 a2 a3 a4 a5 a6 a7 a8 a9) (laws_markMach.f (k + 1) a0 a1 a2 a3 a4 a5 a6 a7 a8 a9) := by
 intro a0 a1 a2 a3 a4 a5 a6 a7 a8 a9 k
 unfold laws_markMach.f
 repeat' first
   | (with_reducible exact laws_markIntS.mono _ _ _)
   | (with_reducible exact LeO.refl _)
   | (with_reducible exact LeO.none _)
   | (with_reducible refine LeO.ite ?_ ?_)
   | (with_reducible refine LeO.bind ?_ (fun _ => ?_))
   | exact laws_markIntS.mono _ _ _
   | exact LeO.none _
   | refine LeO.ite ?_ ?_
   | refine LeO.bind ?_ (fun _ => ?_)
set_option maxHeartbeats 8000000 in
set_option maxRecDepth 100000 in
theorem laws_markMach.calls (k : Nat) (P0_0_ : Nat → Prop) (u9000_ : Value) (l0_0 : List Int) (P0_1_ : Nat → Prop) (u9001_ : Value) (l0_1 : List Int) (a0_2 : Bool) (a0_3 : Bool) (a0_4 : Bool) (a0_5 : Bool) (P0_6_ : Nat → Prop) (u9002_ : Value) (l0_6 : List Int) (P0_7_ : Nat → Prop) (u9003_ : Value) (l0_7 : List Int) (a0_8 : Int) (a1 : Int) (r1 : Int) (r2 : List Int) (r3 : List Int) (r4 : List Int) (r5 : List Int) (w0 w : World) (hB : Below w0.heap.size w0 w) (ho0_0 : Kd.R (Kd.int .i64) 3 w w0.heap.size P0_0_ u9000_ l0_0) (hp0_0_0_1 : ∀ k_, P0_0_ k_ → ¬ P0_1_ k_) (hp0_0_0_6 : ∀ k_, P0_0_ k_ → ¬ P0_6_ k_) (hp0_0_0_7 : ∀ k_, P0_0_ k_ → ¬ P0_7_ k_) (ho0_1 : Kd.R (Kd.int .i64) 3 w w0.heap.size P0_1_ u9001_ l0_1) (hp0_1_0_0 : ∀ k_, P0_1_ k_ → ¬ P0_0_ k_) (hp0_1_0_6 : ∀ k_, P0_1_ k_ → ¬ P0_6_ k_) (hp0_1_0_7 : ∀ k_, P0_1_ k_ → ¬ P0_7_ k_) (ho0_6 : Kd.R (Kd.int .i64) 3 w w0.heap.size P0_6_ u9002_ l0_6) (hp0_6_0_0 : ∀ k_, P0_6_ k_ → ¬ P0_0_ k_) (hp0_6_0_1 : ∀ k_, P0_6_ k_ → ¬ P0_1_ k_) (hp0_6_0_7 : ∀ k_, P0_6_ k_ → ¬ P0_7_ k_) (ho0_7 : Kd.R (Kd.int .i64) 3 w w0.heap.size P0_7_ u9003_ l0_7) (hp0_7_0_0 : ∀ k_, P0_7_ k_ → ¬ P0_0_ k_) (hp0_7_0_1 : ∀ k_, P0_7_ k_ → ¬ P0_1_ k_) (hp0_7_0_6 : ∀ k_, P0_7_ k_ → ¬ P0_6_ k_) (h : laws_markMach.f k l0_0 l0_1 a0_2 a0_3 a0_4 a0_5 l0_6 l0_7 a0_8 a1 = some (r1, r2, r3, r4, r5)) :
  Calls Try.prog 32 #[.agg #[u9000_, u9001_, .bool a0_2, .bool a0_3, .bool a0_4, .bool a0_5, u9002_, u9003_, .int .i64 a0_8], .int .i64 a1] w fun e w' => e = .returned (.int .i64 r1) ∧ Kd.R (Kd.int .i64) 3 w' w0.heap.size (fun k_ => ((P0_0_ k_ ∨ P0_1_ k_ ∨ P0_6_ k_ ∨ P0_7_ k_) ∨ w.heap.size ≤ k_)) u9000_ r2 ∧ Kd.R (Kd.int .i64) 3 w' w0.heap.size (fun k_ => ((P0_0_ k_ ∨ P0_1_ k_ ∨ P0_6_ k_ ∨ P0_7_ k_) ∨ w.heap.size ≤ k_)) u9001_ r3 ∧ Kd.R (Kd.int .i64) 3 w' w0.heap.size (fun k_ => ((P0_0_ k_ ∨ P0_1_ k_ ∨ P0_6_ k_ ∨ P0_7_ k_) ∨ w.heap.size ≤ k_)) u9002_ r4 ∧ Kd.R (Kd.int .i64) 3 w' w0.heap.size (fun k_ => ((P0_0_ k_ ∨ P0_1_ k_ ∨ P0_6_ k_ ∨ P0_7_ k_) ∨ w.heap.size ≤ k_)) u9003_ r5 ∧ Below w0.heap.size w0 w' ∧ Kept w w' (fun k_ => P0_0_ k_ ∨ P0_1_ k_ ∨ P0_6_ k_ ∨ P0_7_ k_) := by
 have hu28 := Try.underlying28
 have HO0_0 := A_ (show Kd.R (Kd.int .i64) 3 w w0.heap.size (fun k_ => ((P0_0_ k_ ∨ P0_1_ k_ ∨ P0_6_ k_ ∨ P0_7_ k_) ∨ w.heap.size ≤ k_) ∧ some k_ ≠ (u9001_ : Value).ownBlock ∧ some k_ ≠ (u9002_ : Value).ownBlock ∧ some k_ ≠ (u9003_ : Value).ownBlock) u9000_ l0_0 from Kd.R_mono ho0_0 (fun k_ hk => ⟨(.inl (.inl hk)), fun e_ => hp0_0_0_1 k_ hk (ho0_1.1 k_ e_.symm), fun e_ => hp0_0_0_6 k_ hk (ho0_6.1 k_ e_.symm), fun e_ => hp0_0_0_7 k_ hk (ho0_7.1 k_ e_.symm)⟩))
 have HO0_1 := A_ (show Kd.R (Kd.int .i64) 3 w w0.heap.size (fun k_ => ((P0_0_ k_ ∨ P0_1_ k_ ∨ P0_6_ k_ ∨ P0_7_ k_) ∨ w.heap.size ≤ k_) ∧ some k_ ≠ (u9000_ : Value).ownBlock ∧ some k_ ≠ (u9002_ : Value).ownBlock ∧ some k_ ≠ (u9003_ : Value).ownBlock) u9001_ l0_1 from Kd.R_mono ho0_1 (fun k_ hk => ⟨(.inl (.inr (.inl hk))), fun e_ => hp0_1_0_0 k_ hk (ho0_0.1 k_ e_.symm), fun e_ => hp0_1_0_6 k_ hk (ho0_6.1 k_ e_.symm), fun e_ => hp0_1_0_7 k_ hk (ho0_7.1 k_ e_.symm)⟩))
 have HO0_6 := A_ (show Kd.R (Kd.int .i64) 3 w w0.heap.size (fun k_ => ((P0_0_ k_ ∨ P0_1_ k_ ∨ P0_6_ k_ ∨ P0_7_ k_) ∨ w.heap.size ≤ k_) ∧ some k_ ≠ (u9000_ : Value).ownBlock ∧ some k_ ≠ (u9001_ : Value).ownBlock ∧ some k_ ≠ (u9003_ : Value).ownBlock) u9002_ l0_6 from Kd.R_mono ho0_6 (fun k_ hk => ⟨(.inl (.inr (.inr (.inl hk)))), fun e_ => hp0_6_0_0 k_ hk (ho0_0.1 k_ e_.symm), fun e_ => hp0_6_0_1 k_ hk (ho0_1.1 k_ e_.symm), fun e_ => hp0_6_0_7 k_ hk (ho0_7.1 k_ e_.symm)⟩))
 have HO0_7 := A_ (show Kd.R (Kd.int .i64) 3 w w0.heap.size (fun k_ => ((P0_0_ k_ ∨ P0_1_ k_ ∨ P0_6_ k_ ∨ P0_7_ k_) ∨ w.heap.size ≤ k_) ∧ some k_ ≠ (u9000_ : Value).ownBlock ∧ some k_ ≠ (u9001_ : Value).ownBlock ∧ some k_ ≠ (u9002_ : Value).ownBlock) u9003_ l0_7 from Kd.R_mono ho0_7 (fun k_ hk => ⟨(.inl (.inr (.inr (.inr hk)))), fun e_ => hp0_7_0_0 k_ hk (ho0_0.1 k_ e_.symm), fun e_ => hp0_7_0_1 k_ hk (ho0_1.1 k_ e_.symm), fun e_ => hp0_7_0_6 k_ hk (ho0_6.1 k_ e_.symm)⟩))
 have HK := A_ (Kept.refl w (fun k_ => P0_0_ k_ ∨ P0_1_ k_ ∨ P0_6_ k_ ∨ P0_7_ k_))
 have HW0 := A_ hB.size
 have HB := A_ hB
 clear hB
 have H : ((laws_markIntS.f k l0_0 a1).bind fun bt155 => ((laws_markIntS.f k l0_1 bt155.1).bind fun bt157 => ((laws_markIntS.f k l0_6 bt157.1).bind fun bt159 => ((laws_markIntS.f k l0_7 bt159.1).bind fun bt161 => (some (bt161.1, bt155.2, bt157.2, bt159.2, bt161.2)))))) = some (r1, r2, r3, r4, r5) := h
 clear h
 replace H := Option.bind_eq_some_iff.mp H
 obtain ⟨⟨t155, t156⟩, A30, H⟩ := H
 try dsimp only at H
 have A3 := A_ A30
 clear A30
 replace H := Option.bind_eq_some_iff.mp H
 obtain ⟨⟨t157, t158⟩, A40, H⟩ := H
 try dsimp only at H
 have A4 := A_ A40
 clear A40
 replace H := Option.bind_eq_some_iff.mp H
 obtain ⟨⟨t159, t160⟩, A50, H⟩ := H
 try dsimp only at H
 have A5 := A_ A50
 clear A50
 replace H := Option.bind_eq_some_iff.mp H
 obtain ⟨⟨t161, t162⟩, A60, H⟩ := H
 try dsimp only at H
 have A6 := A_ A60
 clear A60
 simp only [Option.some.injEq, Prod.mk.injEq] at H
 obtain ⟨rfl, rfl, rfl, rfl, rfl⟩ := H
 obtain ⟨Ao7, co7, eo7⟩ := Kd.R_slice HO0_0.out
 subst eo7
 obtain ⟨Ao8, co8, eo8⟩ := Kd.R_slice HO0_1.out
 subst eo8
 obtain ⟨Ao9, co9, eo9⟩ := Kd.R_slice HO0_6.out
 subst eo9
 obtain ⟨Ao10, co10, eo10⟩ := Kd.R_slice HO0_7.out
 subst eo10
 go_enter Try.func32, Try.ntmps32
 go_wp2_with (first | ((with_reducible refine gate_dst (N := 2) rfl ?_); refine box_event ?hg (N := 2) ?hd (cs := #[.slice Ao7 l0_0.length co7, .slice Ao8 l0_1.length co8, .bool a0_2, .bool a0_3, .bool a0_4, .bool a0_5, .slice Ao9 l0_6.length co9, .slice Ao10 l0_7.length co10, .int .i64 a0_8]) (t := 28) ?hr ?_; (case hd => rfl); (case hg => rfl); (case hr => first | (go_simp; done) | (go_simp; rfl)); intro gb154 hg w11 hbox hb; have n0_ := A_ (Kd.R_below (by (with_reducible repeat (first | apply Kd.R_alloc | apply Kd.R_drewN | apply Kd.R_drew)); exact HO0_0.out) hb); have n1_ := A_ (Kd.R_below (by (with_reducible repeat (first | apply Kd.R_alloc | apply Kd.R_drewN | apply Kd.R_drew)); exact HO0_1.out) hb); have n2_ := A_ (Kd.R_below (by (with_reducible repeat (first | apply Kd.R_alloc | apply Kd.R_drewN | apply Kd.R_drew)); exact HO0_6.out) hb); have n3_ := A_ (Kd.R_below (by (with_reducible repeat (first | apply Kd.R_alloc | apply Kd.R_drewN | apply Kd.R_drew)); exact HO0_7.out) hb); have n4_ := A_ (Kept.below (S := (fun k_ => P0_0_ k_ ∨ P0_1_ k_ ∨ P0_6_ k_ ∨ P0_7_ k_)) (by repeat (first | (with_reducible first | exact HK.out | apply Kept.alloc | apply Kept.drewN | apply Kept.drew) | exact HK.out)) hb); have n5_ := A_ (below_step (bw_ HB.out) hb); have n6_ := A_ (hbox); have n7_ := A_ ((by rw [hg]; exact (by first | exact HK.out.1 | exact (show Kept w _ (fun k_ => P0_0_ k_ ∨ P0_1_ k_ ∨ P0_6_ k_ ∨ P0_7_ k_) from by repeat (first | (with_reducible first | exact HK.out | apply Kept.alloc | apply Kept.drewN | apply Kept.drew) | exact HK.out)).1) : w.heap.size ≤ gb154)); have n8_ := A_ ((by rw [hg]; exact (below_size (bw_ HB.out)) : w0.heap.size ≤ gb154)); clear HO0_0; clear HO0_1; clear HO0_6; clear HO0_7; clear HK; clear HB; have HO0_0 := n0_; have HO0_1 := n1_; have HO0_6 := n2_; have HO0_7 := n3_; have HK := n4_; have HB := n5_; have BK154 := n6_; have GW154 := n7_; have GE154 := n8_; have GI154 := GeI.mk GE154.out; clear n0_ n1_ n2_ n3_ n4_ n5_ n6_ n7_ n8_; clear hb hbox hg; have y12_0 : w11.cell? ⟨gb154, 0, none⟩ = some (.slice Ao7 l0_0.length co7) := (blk_cell BK154.out 0).trans rfl; have y12_1 : w11.cell? ⟨gb154, 1, none⟩ = some (.slice Ao8 l0_1.length co8) := (blk_cell BK154.out 1).trans rfl; have y12_2 : w11.cell? ⟨gb154, 2, none⟩ = some (.bool a0_2) := (blk_cell BK154.out 2).trans rfl; have y12_3 : w11.cell? ⟨gb154, 3, none⟩ = some (.bool a0_3) := (blk_cell BK154.out 3).trans rfl; have y12_4 : w11.cell? ⟨gb154, 4, none⟩ = some (.bool a0_4) := (blk_cell BK154.out 4).trans rfl; have y12_5 : w11.cell? ⟨gb154, 5, none⟩ = some (.bool a0_5) := (blk_cell BK154.out 5).trans rfl; have y12_6 : w11.cell? ⟨gb154, 6, none⟩ = some (.slice Ao9 l0_6.length co9) := (blk_cell BK154.out 6).trans rfl; have y12_7 : w11.cell? ⟨gb154, 7, none⟩ = some (.slice Ao10 l0_7.length co10) := (blk_cell BK154.out 7).trans rfl; have y12_8 : w11.cell? ⟨gb154, 8, none⟩ = some (.int .i64 a0_8) := (blk_cell BK154.out 8).trans rfl; have z12_0 := blk_frozen BK154.out 0; have z12_1 := blk_frozen BK154.out 1; have z12_2 := blk_frozen BK154.out 2; have z12_3 := blk_frozen BK154.out 3; have z12_4 := blk_frozen BK154.out 4; have z12_5 := blk_frozen BK154.out 5; have z12_6 := blk_frozen BK154.out 6; have z12_7 := blk_frozen BK154.out 7; have z12_8 := blk_frozen BK154.out 8) | ((with_reducible refine gate_callee (f := 31) rfl ?_); refine gL_ (some 8) Try.func31 #[.slice Ao7 l0_0.length co7, .int .i64 a1] ?_; (with_reducible refine (laws_markIntS.calls k (fun k_ => some k_ = (.slice Ao7 l0_0.length co7 : Value).ownBlock) (.slice Ao7 l0_0.length co7) l0_0 a1 t155 t156 w0 _ ?side1 ?side2 A3.out).mono ?_); (case side1 => exact bw_ HB.out); (case side2 => exact Kd.R_tight rfl HO0_0.out); rintro e w13 ⟨rfl, hy0, hb, hkp⟩; refine ⟨_, rfl, ?_⟩; have n0_ := A_ (Kd.R_reok rfl hy0 (fun k_ e_ => HO0_0.out.1 k_ e_)); have n1_ := A_ (Kd.R_mono (ok' := fun k_ => ((P0_0_ k_ ∨ P0_1_ k_ ∨ P0_6_ k_ ∨ P0_7_ k_) ∨ w.heap.size ≤ k_) ∧ some k_ ≠ (.slice Ao7 l0_0.length co7 : Value).ownBlock ∧ some k_ ≠ (.slice Ao9 l0_6.length co9 : Value).ownBlock ∧ some k_ ≠ (.slice Ao10 l0_7.length co10 : Value).ownBlock) (Kd.R_keptB (HO0_1.out) hkp (fun k_ hk_ hs_ => (hk_.2.1) hs_)) (fun k_ hk_ => ⟨hk_.1.1, hk_.1.2.1, hk_.1.2.2.1, hk_.1.2.2.2⟩)); have n2_ := A_ (Kd.R_mono (ok' := fun k_ => ((P0_0_ k_ ∨ P0_1_ k_ ∨ P0_6_ k_ ∨ P0_7_ k_) ∨ w.heap.size ≤ k_) ∧ some k_ ≠ (.slice Ao7 l0_0.length co7 : Value).ownBlock ∧ some k_ ≠ (.slice Ao8 l0_1.length co8 : Value).ownBlock ∧ some k_ ≠ (.slice Ao10 l0_7.length co10 : Value).ownBlock) (Kd.R_keptB (HO0_6.out) hkp (fun k_ hk_ hs_ => (hk_.2.1) hs_)) (fun k_ hk_ => ⟨hk_.1.1, hk_.1.2.1, hk_.1.2.2.1, hk_.1.2.2.2⟩)); have n3_ := A_ (Kd.R_mono (ok' := fun k_ => ((P0_0_ k_ ∨ P0_1_ k_ ∨ P0_6_ k_ ∨ P0_7_ k_) ∨ w.heap.size ≤ k_) ∧ some k_ ≠ (.slice Ao7 l0_0.length co7 : Value).ownBlock ∧ some k_ ≠ (.slice Ao8 l0_1.length co8 : Value).ownBlock ∧ some k_ ≠ (.slice Ao9 l0_6.length co9 : Value).ownBlock) (Kd.R_keptB (HO0_7.out) hkp (fun k_ hk_ hs_ => (hk_.2.1) hs_)) (fun k_ hk_ => ⟨hk_.1.1, hk_.1.2.1, hk_.1.2.2.1, hk_.1.2.2.2⟩)); have n4_ := A_ (blk_kept (bk_ BK154.out) hkp (fun hs_ => (fun e_ => (Kd.R_ne HO0_0.out BK154.out (by decide)) e_) hs_)); have n5_ := A_ (Kept.then_ (S := (fun k_ => P0_0_ k_ ∨ P0_1_ k_ ∨ P0_6_ k_ ∨ P0_7_ k_)) (by repeat (first | (with_reducible first | exact HK.out | apply Kept.alloc | apply Kept.drewN | apply Kept.drew | refine Kept.setCell ?_ (.inr GW154.out) _) | exact HK.out)) hkp (fun k_ hs_ => (fun e_ => (HO0_0.out.1 k_ e_.symm).1) hs_)); have n6_ := A_ (hb); clear HO0_0; clear HO0_1; clear HO0_6; clear HO0_7; clear BK154; clear HK; clear HB; have HO0_0 := n0_; have HO0_1 := n1_; have HO0_6 := n2_; have HO0_7 := n3_; have BK154 := n4_; have HK := n5_; have HB := n6_; clear n0_ n1_ n2_ n3_ n4_ n5_ n6_; (try clear hb); (try clear hkp); (try clear hy0); have y14_0 : w13.cell? ⟨gb154, 0, none⟩ = some (.slice Ao7 l0_0.length co7) := (blk_cell BK154.out 0).trans rfl; have y14_1 : w13.cell? ⟨gb154, 1, none⟩ = some (.slice Ao8 l0_1.length co8) := (blk_cell BK154.out 1).trans rfl; have y14_2 : w13.cell? ⟨gb154, 2, none⟩ = some (.bool a0_2) := (blk_cell BK154.out 2).trans rfl; have y14_3 : w13.cell? ⟨gb154, 3, none⟩ = some (.bool a0_3) := (blk_cell BK154.out 3).trans rfl; have y14_4 : w13.cell? ⟨gb154, 4, none⟩ = some (.bool a0_4) := (blk_cell BK154.out 4).trans rfl; have y14_5 : w13.cell? ⟨gb154, 5, none⟩ = some (.bool a0_5) := (blk_cell BK154.out 5).trans rfl; have y14_6 : w13.cell? ⟨gb154, 6, none⟩ = some (.slice Ao9 l0_6.length co9) := (blk_cell BK154.out 6).trans rfl; have y14_7 : w13.cell? ⟨gb154, 7, none⟩ = some (.slice Ao10 l0_7.length co10) := (blk_cell BK154.out 7).trans rfl; have y14_8 : w13.cell? ⟨gb154, 8, none⟩ = some (.int .i64 a0_8) := (blk_cell BK154.out 8).trans rfl; have z14_0 := blk_frozen BK154.out 0; have z14_1 := blk_frozen BK154.out 1; have z14_2 := blk_frozen BK154.out 2; have z14_3 := blk_frozen BK154.out 3; have z14_4 := blk_frozen BK154.out 4; have z14_5 := blk_frozen BK154.out 5; have z14_6 := blk_frozen BK154.out 6; have z14_7 := blk_frozen BK154.out 7; have z14_8 := blk_frozen BK154.out 8) | ((with_reducible refine gate_callee (f := 31) rfl ?_); refine gL_ (some 12) Try.func31 #[.slice Ao8 l0_1.length co8, .int .i64 t155] ?_; (with_reducible refine (laws_markIntS.calls k (fun k_ => some k_ = (.slice Ao8 l0_1.length co8 : Value).ownBlock) (.slice Ao8 l0_1.length co8) l0_1 t155 t157 t158 w0 _ ?side1 ?side2 A4.out).mono ?_); (case side1 => exact bw_ HB.out); (case side2 => exact Kd.R_tight rfl HO0_1.out); rintro e w15 ⟨rfl, hy0, hb, hkp⟩; refine ⟨_, rfl, ?_⟩; have n0_ := A_ (Kd.R_mono (ok' := fun k_ => ((P0_0_ k_ ∨ P0_1_ k_ ∨ P0_6_ k_ ∨ P0_7_ k_) ∨ w.heap.size ≤ k_) ∧ some k_ ≠ (.slice Ao8 l0_1.length co8 : Value).ownBlock ∧ some k_ ≠ (.slice Ao9 l0_6.length co9 : Value).ownBlock ∧ some k_ ≠ (.slice Ao10 l0_7.length co10 : Value).ownBlock) (Kd.R_keptB (HO0_0.out) hkp (fun k_ hk_ hs_ => (hk_.2.1) hs_)) (fun k_ hk_ => ⟨hk_.1.1, hk_.1.2.1, hk_.1.2.2.1, hk_.1.2.2.2⟩)); have n1_ := A_ (Kd.R_reok rfl hy0 (fun k_ e_ => HO0_1.out.1 k_ e_)); have n2_ := A_ (Kd.R_mono (ok' := fun k_ => ((P0_0_ k_ ∨ P0_1_ k_ ∨ P0_6_ k_ ∨ P0_7_ k_) ∨ w.heap.size ≤ k_) ∧ some k_ ≠ (.slice Ao7 l0_0.length co7 : Value).ownBlock ∧ some k_ ≠ (.slice Ao8 l0_1.length co8 : Value).ownBlock ∧ some k_ ≠ (.slice Ao10 l0_7.length co10 : Value).ownBlock) (Kd.R_keptB (HO0_6.out) hkp (fun k_ hk_ hs_ => (hk_.2.2.1) hs_)) (fun k_ hk_ => ⟨hk_.1.1, hk_.1.2.1, hk_.1.2.2.1, hk_.1.2.2.2⟩)); have n3_ := A_ (Kd.R_mono (ok' := fun k_ => ((P0_0_ k_ ∨ P0_1_ k_ ∨ P0_6_ k_ ∨ P0_7_ k_) ∨ w.heap.size ≤ k_) ∧ some k_ ≠ (.slice Ao7 l0_0.length co7 : Value).ownBlock ∧ some k_ ≠ (.slice Ao8 l0_1.length co8 : Value).ownBlock ∧ some k_ ≠ (.slice Ao9 l0_6.length co9 : Value).ownBlock) (Kd.R_keptB (HO0_7.out) hkp (fun k_ hk_ hs_ => (hk_.2.2.1) hs_)) (fun k_ hk_ => ⟨hk_.1.1, hk_.1.2.1, hk_.1.2.2.1, hk_.1.2.2.2⟩)); have n4_ := A_ (blk_kept (bk_ BK154.out) hkp (fun hs_ => (fun e_ => (Kd.R_ne HO0_1.out BK154.out (by decide)) e_) hs_)); have n5_ := A_ (Kept.then_ (S := (fun k_ => P0_0_ k_ ∨ P0_1_ k_ ∨ P0_6_ k_ ∨ P0_7_ k_)) (by repeat (first | (with_reducible first | exact HK.out | apply Kept.alloc | apply Kept.drewN | apply Kept.drew | refine Kept.setCell ?_ (.inr GW154.out) _) | exact HK.out)) hkp (fun k_ hs_ => (fun e_ => (HO0_1.out.1 k_ e_.symm).1) hs_)); have n6_ := A_ (hb); clear HO0_0; clear HO0_1; clear HO0_6; clear HO0_7; clear BK154; clear HK; clear HB; have HO0_0 := n0_; have HO0_1 := n1_; have HO0_6 := n2_; have HO0_7 := n3_; have BK154 := n4_; have HK := n5_; have HB := n6_; clear n0_ n1_ n2_ n3_ n4_ n5_ n6_; (try clear hb); (try clear hkp); (try clear hy0); have y16_0 : w15.cell? ⟨gb154, 0, none⟩ = some (.slice Ao7 l0_0.length co7) := (blk_cell BK154.out 0).trans rfl; have y16_1 : w15.cell? ⟨gb154, 1, none⟩ = some (.slice Ao8 l0_1.length co8) := (blk_cell BK154.out 1).trans rfl; have y16_2 : w15.cell? ⟨gb154, 2, none⟩ = some (.bool a0_2) := (blk_cell BK154.out 2).trans rfl; have y16_3 : w15.cell? ⟨gb154, 3, none⟩ = some (.bool a0_3) := (blk_cell BK154.out 3).trans rfl; have y16_4 : w15.cell? ⟨gb154, 4, none⟩ = some (.bool a0_4) := (blk_cell BK154.out 4).trans rfl; have y16_5 : w15.cell? ⟨gb154, 5, none⟩ = some (.bool a0_5) := (blk_cell BK154.out 5).trans rfl; have y16_6 : w15.cell? ⟨gb154, 6, none⟩ = some (.slice Ao9 l0_6.length co9) := (blk_cell BK154.out 6).trans rfl; have y16_7 : w15.cell? ⟨gb154, 7, none⟩ = some (.slice Ao10 l0_7.length co10) := (blk_cell BK154.out 7).trans rfl; have y16_8 : w15.cell? ⟨gb154, 8, none⟩ = some (.int .i64 a0_8) := (blk_cell BK154.out 8).trans rfl; have z16_0 := blk_frozen BK154.out 0; have z16_1 := blk_frozen BK154.out 1; have z16_2 := blk_frozen BK154.out 2; have z16_3 := blk_frozen BK154.out 3; have z16_4 := blk_frozen BK154.out 4; have z16_5 := blk_frozen BK154.out 5; have z16_6 := blk_frozen BK154.out 6; have z16_7 := blk_frozen BK154.out 7; have z16_8 := blk_frozen BK154.out 8) | ((with_reducible refine gate_callee (f := 31) rfl ?_); refine gL_ (some 16) Try.func31 #[.slice Ao9 l0_6.length co9, .int .i64 t157] ?_; (with_reducible refine (laws_markIntS.calls k (fun k_ => some k_ = (.slice Ao9 l0_6.length co9 : Value).ownBlock) (.slice Ao9 l0_6.length co9) l0_6 t157 t159 t160 w0 _ ?side1 ?side2 A5.out).mono ?_); (case side1 => exact bw_ HB.out); (case side2 => exact Kd.R_tight rfl HO0_6.out); rintro e w17 ⟨rfl, hy0, hb, hkp⟩; refine ⟨_, rfl, ?_⟩; have n0_ := A_ (Kd.R_mono (ok' := fun k_ => ((P0_0_ k_ ∨ P0_1_ k_ ∨ P0_6_ k_ ∨ P0_7_ k_) ∨ w.heap.size ≤ k_) ∧ some k_ ≠ (.slice Ao8 l0_1.length co8 : Value).ownBlock ∧ some k_ ≠ (.slice Ao9 l0_6.length co9 : Value).ownBlock ∧ some k_ ≠ (.slice Ao10 l0_7.length co10 : Value).ownBlock) (Kd.R_keptB (HO0_0.out) hkp (fun k_ hk_ hs_ => (hk_.2.2.1) hs_)) (fun k_ hk_ => ⟨hk_.1.1, hk_.1.2.1, hk_.1.2.2.1, hk_.1.2.2.2⟩)); have n1_ := A_ (Kd.R_mono (ok' := fun k_ => ((P0_0_ k_ ∨ P0_1_ k_ ∨ P0_6_ k_ ∨ P0_7_ k_) ∨ w.heap.size ≤ k_) ∧ some k_ ≠ (.slice Ao7 l0_0.length co7 : Value).ownBlock ∧ some k_ ≠ (.slice Ao9 l0_6.length co9 : Value).ownBlock ∧ some k_ ≠ (.slice Ao10 l0_7.length co10 : Value).ownBlock) (Kd.R_keptB (HO0_1.out) hkp (fun k_ hk_ hs_ => (hk_.2.2.1) hs_)) (fun k_ hk_ => ⟨hk_.1.1, hk_.1.2.1, hk_.1.2.2.1, hk_.1.2.2.2⟩)); have n2_ := A_ (Kd.R_reok rfl hy0 (fun k_ e_ => HO0_6.out.1 k_ e_)); have n3_ := A_ (Kd.R_mono (ok' := fun k_ => ((P0_0_ k_ ∨ P0_1_ k_ ∨ P0_6_ k_ ∨ P0_7_ k_) ∨ w.heap.size ≤ k_) ∧ some k_ ≠ (.slice Ao7 l0_0.length co7 : Value).ownBlock ∧ some k_ ≠ (.slice Ao8 l0_1.length co8 : Value).ownBlock ∧ some k_ ≠ (.slice Ao9 l0_6.length co9 : Value).ownBlock) (Kd.R_keptB (HO0_7.out) hkp (fun k_ hk_ hs_ => (hk_.2.2.2) hs_)) (fun k_ hk_ => ⟨hk_.1.1, hk_.1.2.1, hk_.1.2.2.1, hk_.1.2.2.2⟩)); have n4_ := A_ (blk_kept (bk_ BK154.out) hkp (fun hs_ => (fun e_ => (Kd.R_ne HO0_6.out BK154.out (by decide)) e_) hs_)); have n5_ := A_ (Kept.then_ (S := (fun k_ => P0_0_ k_ ∨ P0_1_ k_ ∨ P0_6_ k_ ∨ P0_7_ k_)) (by repeat (first | (with_reducible first | exact HK.out | apply Kept.alloc | apply Kept.drewN | apply Kept.drew | refine Kept.setCell ?_ (.inr GW154.out) _) | exact HK.out)) hkp (fun k_ hs_ => (fun e_ => (HO0_6.out.1 k_ e_.symm).1) hs_)); have n6_ := A_ (hb); clear HO0_0; clear HO0_1; clear HO0_6; clear HO0_7; clear BK154; clear HK; clear HB; have HO0_0 := n0_; have HO0_1 := n1_; have HO0_6 := n2_; have HO0_7 := n3_; have BK154 := n4_; have HK := n5_; have HB := n6_; clear n0_ n1_ n2_ n3_ n4_ n5_ n6_; (try clear hb); (try clear hkp); (try clear hy0); have y18_0 : w17.cell? ⟨gb154, 0, none⟩ = some (.slice Ao7 l0_0.length co7) := (blk_cell BK154.out 0).trans rfl; have y18_1 : w17.cell? ⟨gb154, 1, none⟩ = some (.slice Ao8 l0_1.length co8) := (blk_cell BK154.out 1).trans rfl; have y18_2 : w17.cell? ⟨gb154, 2, none⟩ = some (.bool a0_2) := (blk_cell BK154.out 2).trans rfl; have y18_3 : w17.cell? ⟨gb154, 3, none⟩ = some (.bool a0_3) := (blk_cell BK154.out 3).trans rfl; have y18_4 : w17.cell? ⟨gb154, 4, none⟩ = some (.bool a0_4) := (blk_cell BK154.out 4).trans rfl; have y18_5 : w17.cell? ⟨gb154, 5, none⟩ = some (.bool a0_5) := (blk_cell BK154.out 5).trans rfl; have y18_6 : w17.cell? ⟨gb154, 6, none⟩ = some (.slice Ao9 l0_6.length co9) := (blk_cell BK154.out 6).trans rfl; have y18_7 : w17.cell? ⟨gb154, 7, none⟩ = some (.slice Ao10 l0_7.length co10) := (blk_cell BK154.out 7).trans rfl; have y18_8 : w17.cell? ⟨gb154, 8, none⟩ = some (.int .i64 a0_8) := (blk_cell BK154.out 8).trans rfl; have z18_0 := blk_frozen BK154.out 0; have z18_1 := blk_frozen BK154.out 1; have z18_2 := blk_frozen BK154.out 2; have z18_3 := blk_frozen BK154.out 3; have z18_4 := blk_frozen BK154.out 4; have z18_5 := blk_frozen BK154.out 5; have z18_6 := blk_frozen BK154.out 6; have z18_7 := blk_frozen BK154.out 7; have z18_8 := blk_frozen BK154.out 8) | ((with_reducible refine gate_callee (f := 31) rfl ?_); refine gL_ (some 20) Try.func31 #[.slice Ao10 l0_7.length co10, .int .i64 t159] ?_; (with_reducible refine (laws_markIntS.calls k (fun k_ => some k_ = (.slice Ao10 l0_7.length co10 : Value).ownBlock) (.slice Ao10 l0_7.length co10) l0_7 t159 t161 t162 w0 _ ?side1 ?side2 A6.out).mono ?_); (case side1 => exact bw_ HB.out); (case side2 => exact Kd.R_tight rfl HO0_7.out); rintro e w19 ⟨rfl, hy0, hb, hkp⟩; refine ⟨_, rfl, ?_⟩; have n0_ := A_ (Kd.R_mono (ok' := fun k_ => ((P0_0_ k_ ∨ P0_1_ k_ ∨ P0_6_ k_ ∨ P0_7_ k_) ∨ w.heap.size ≤ k_) ∧ some k_ ≠ (.slice Ao8 l0_1.length co8 : Value).ownBlock ∧ some k_ ≠ (.slice Ao9 l0_6.length co9 : Value).ownBlock ∧ some k_ ≠ (.slice Ao10 l0_7.length co10 : Value).ownBlock) (Kd.R_keptB (HO0_0.out) hkp (fun k_ hk_ hs_ => (hk_.2.2.2) hs_)) (fun k_ hk_ => ⟨hk_.1.1, hk_.1.2.1, hk_.1.2.2.1, hk_.1.2.2.2⟩)); have n1_ := A_ (Kd.R_mono (ok' := fun k_ => ((P0_0_ k_ ∨ P0_1_ k_ ∨ P0_6_ k_ ∨ P0_7_ k_) ∨ w.heap.size ≤ k_) ∧ some k_ ≠ (.slice Ao7 l0_0.length co7 : Value).ownBlock ∧ some k_ ≠ (.slice Ao9 l0_6.length co9 : Value).ownBlock ∧ some k_ ≠ (.slice Ao10 l0_7.length co10 : Value).ownBlock) (Kd.R_keptB (HO0_1.out) hkp (fun k_ hk_ hs_ => (hk_.2.2.2) hs_)) (fun k_ hk_ => ⟨hk_.1.1, hk_.1.2.1, hk_.1.2.2.1, hk_.1.2.2.2⟩)); have n2_ := A_ (Kd.R_mono (ok' := fun k_ => ((P0_0_ k_ ∨ P0_1_ k_ ∨ P0_6_ k_ ∨ P0_7_ k_) ∨ w.heap.size ≤ k_) ∧ some k_ ≠ (.slice Ao7 l0_0.length co7 : Value).ownBlock ∧ some k_ ≠ (.slice Ao8 l0_1.length co8 : Value).ownBlock ∧ some k_ ≠ (.slice Ao10 l0_7.length co10 : Value).ownBlock) (Kd.R_keptB (HO0_6.out) hkp (fun k_ hk_ hs_ => (hk_.2.2.2) hs_)) (fun k_ hk_ => ⟨hk_.1.1, hk_.1.2.1, hk_.1.2.2.1, hk_.1.2.2.2⟩)); have n3_ := A_ (Kd.R_reok rfl hy0 (fun k_ e_ => HO0_7.out.1 k_ e_)); have n4_ := A_ (blk_kept (bk_ BK154.out) hkp (fun hs_ => (fun e_ => (Kd.R_ne HO0_7.out BK154.out (by decide)) e_) hs_)); have n5_ := A_ (Kept.then_ (S := (fun k_ => P0_0_ k_ ∨ P0_1_ k_ ∨ P0_6_ k_ ∨ P0_7_ k_)) (by repeat (first | (with_reducible first | exact HK.out | apply Kept.alloc | apply Kept.drewN | apply Kept.drew | refine Kept.setCell ?_ (.inr GW154.out) _) | exact HK.out)) hkp (fun k_ hs_ => (fun e_ => (HO0_7.out.1 k_ e_.symm).1) hs_)); have n6_ := A_ (hb); clear HO0_0; clear HO0_1; clear HO0_6; clear HO0_7; clear BK154; clear HK; clear HB; have HO0_0 := n0_; have HO0_1 := n1_; have HO0_6 := n2_; have HO0_7 := n3_; have BK154 := n4_; have HK := n5_; have HB := n6_; clear n0_ n1_ n2_ n3_ n4_ n5_ n6_; (try clear hb); (try clear hkp); (try clear hy0)))
 go_ret
 exact rt_ ⟨by (with_reducible repeat (first | apply Kd.R_alloc | apply Kd.R_drewN | apply Kd.R_drew)); exact Kd.R_mono HO0_0.out (fun _ hk => hk.1), by (with_reducible repeat (first | apply Kd.R_alloc | apply Kd.R_drewN | apply Kd.R_drew)); exact Kd.R_mono HO0_1.out (fun _ hk => hk.1), by (with_reducible repeat (first | apply Kd.R_alloc | apply Kd.R_drewN | apply Kd.R_drew)); exact Kd.R_mono HO0_6.out (fun _ hk => hk.1), by (with_reducible repeat (first | apply Kd.R_alloc | apply Kd.R_drewN | apply Kd.R_drew)); exact Kd.R_mono HO0_7.out (fun _ hk => hk.1), bw_ HB.out, by repeat (first | (with_reducible first | exact HK.out | apply Kept.alloc | apply Kept.drewN | apply Kept.drew | refine Kept.setCell ?_ (.inr GW154.out) _) | exact HK.out)⟩

end Go.Proofs.Ytiagbfilffbljaa.PFnExactMachNew
