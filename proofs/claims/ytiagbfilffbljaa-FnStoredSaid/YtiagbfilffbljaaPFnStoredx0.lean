-- Laid by a program of this session (a changed copy of the kit's printer); Lean checks every line.
import Derived.Test.YtiagbfilffbljaaProg
import Derived.Below
import Derived.Deep.Draws
import Derived.Deep.AppendLies
import Derived.Maps.AppendAt
import Derived.OwnWalk
import Derived.Laws.BytesArg
import Derived.Laws.MakeOwn
import Derived.Laws.OwnMore
import Derived.Deep.OwnRows
import Derived.Tactics
import Derived.Lib.ConvBytes
import Derived.Laws.Slices
import Derived.WalkKit
import Derived.KernelRfl
import Derived.RowKit3
import Derived.Deep.LoopGhost
import Derived.Deep.QuietTactic
import Derived.BigQuiet
import Derived.WideLaws
import Derived.Deep.DeepCutAuto
import Derived.Deep.CutBlock
import Derived.Deep.RegionHeld3
import Derived.Laws.Rows
import Derived.Lib.AppendStr
import Derived.ArgAppend
import Derived.Laws.IdiomCopy
import Derived.OrdersHeld
import Derived.Laws.BitsLemmas
import Derived.RowKit
import Derived.Test.YtiagbfilffbljaaVGFnStored
import Derived.Test.YtiagbfilffbljaaVFnStored
namespace Go.Proofs.Ytiagbfilffbljaa.PFnStored
open Go.RowKit Go.Proofs.YtiagbfilffbljaaW.PrintWords Go.Proofs.YtiagbfilffbljaaW.PrintLast Go.Proofs.YtiagbfilffbljaaW.PrintMore
attribute [local go_sem] max2_int min2_int max_two min_two max_three min_three max_four min_four   -- for this text's walks alone
set_option linter.unusedVariables false
set_option linter.unusedSimpArgs false



/-! ### A region that draws its order, walked by what holds whichever operations have come up -/
section
variable {P : Program} {ops : Array Oper} {Q : Exit → Act → World → Prop} {md : Region.Mode}
theorem cnt_set {l : Array Bool} {i : Nat} (h : l.getD i true = false) : (l.setIfInBounds i true).toList.count false + 1 = l.toList.count false := by
 have hi : i < l.size := by
  rcases Nat.lt_or_ge i l.size with h' | h'
  ·exact h'
  ·simp [Array.getElem?_eq_none h'] at h
 have hv : l.toList[i]'(by simpa using hi) = false := by simpa [hi] using h
 have hp : 0 < l.toList.count false := List.count_pos_iff.2 (hv ▸ List.getElem_mem _)
 rw [Array.toList_setIfInBounds, List.count_set (by simpa using hi), hv, if_pos (by decide : (false == false) = true), if_neg (by decide : ¬ (true == false) = true)]
 omega
theorem ready_all {n : Nat} (hn : ops.size = n) (hb : ((List.range ops.size).all fun i => match ops[i]? with | some o => o.after.all fun e => !Region.binds md e || decide (e.on < i) | none => true) = true) :
  ∀ (l : Array Bool), l.size = n → Region.ready md ops l = [] → l = Array.replicate n true := by
 intro l hl hr
 have h1 : ∀ i, i < n → l.getD i true = true := by
  intro i
  induction i using Nat.strongRecOn with
  | _ i ih =>
   intro hi
   cases hv : l.getD i true with
   | true => rfl
   | false =>
    obtain ⟨oi, ho⟩ : ∃ oi, ops[i]? = some oi := ⟨_, Array.getElem?_eq_getElem (by omega)⟩
    have hm : i ∈ Region.ready md ops l := mem_ready.2 ⟨hv, oi, ho, fun e he hbe => by
     have h2 := List.all_eq_true.1 hb i (List.mem_range.2 (by omega))
     simp only [ho] at h2
     have h3 := Array.all_eq_true_iff_forall_mem.1 h2 e he
     simp only [hbe, Bool.not_true, Bool.false_or, decide_eq_true_eq] at h3
     have h4 := ih e.on h3 (by omega)
     have h5 : e.on < l.size := by omega
     simpa [h5] using h4⟩
    rw [hr] at hm
    cases hm
 apply Array.ext
 ·simpa using hl
 ·intro i h2 h3
  have h4 := h1 i (by omega)
  simpa [h2] using h4
/-- whichever operations l have come up: I holds of them, of the values and the world; each that may come up next keeps it. -/
theorem open_ {n : Nat} {σ : Type} (A : σ → Act) (I : Array Bool → σ → World → Prop) (hn : ops.size = n)
  (hb : ((List.range ops.size).all fun i => match ops[i]? with | some o => o.after.all fun e => !Region.binds md e || decide (e.on < i) | none => true) = true)
  (hs : ∀ (i : Nat) (oi : Oper) (l : Array Bool) (s : σ) (w : World), i < n → ops[i]? = some oi → l.size = n → l.getD i true = false → (∀ e ∈ oi.after, Region.binds md e = true → l.getD e.on false = true) → I l s w →
   ∀ K : Act → World → Prop, (∀ s' w', I (l.setIfInBounds i true) s' w' → K (A s') w') → if Region.wanted oi (yielded ops (A s).tmps) = true then Oper.wp P oi (A s) w K Q else K ((A s).put oi.dst undef) w)
  (he : ∀ s w, I (Array.replicate n true) s w → Q .normal (A s) w) :
  ∀ (fuel : Nat) (l : Array Bool) (s : σ) (w : World), l.size = n → l.toList.count false ≤ fuel → I l s w → wpAnyLast P md ops Q (fun _ => True) [] fuel l (A s) w := by
 have all := ready_all hn hb
 intro fuel
 induction fuel with
 | zero =>
  intro l s w hl hc hI
  have hr : Region.ready md ops l = [] := by
   rcases h : Region.ready md ops l with _ | ⟨i, r⟩
   ·rfl
   ·have hm : i ∈ Region.ready md ops l := h ▸ List.mem_cons_self
    have := cnt_set (mem_ready.1 hm).1
    omega
  exact ⟨hr, he s w (all l hl hr ▸ hI)⟩
 | succ fuel ih =>
  intro l s w hl hc hI
  refine ⟨fun hr => he s w (all l hl hr ▸ hI), fun i hi => ?_⟩
  obtain ⟨hun, oi, ho, hall⟩ := mem_ready.1 hi
  have hin : i < n := by have := (Array.getElem?_eq_some_iff.1 ho).1; omega
  refine wpOp_step ho (fun K hK => hs i oi l s w hin ho hl hun hall hI K (fun s' w' hI' => hK _ _ ⟨fun _ h => h, ih _ s' w' (by simpa using hl) ?_ hI'⟩))
  have := cnt_set hun
  omega
theorem open2_ {n : Nat} {σ : Type} {a : Act} {fuel : Nat} {l : Array Bool} {w : World} (ns : σ → List (Tmp × Value)) (I : Array Bool → σ → World → Prop) (hn : ops.size = n)
  (hb : ((List.range ops.size).all fun i => match ops[i]? with | some o => o.after.all fun e => !Region.binds md e || decide (e.on < i) | none => true) = true)
  (hs : ∀ (i : Nat) (oi : Oper) (l : Array Bool) (s : σ) (w : World), i < n → ops[i]? = some oi → l.size = n → l.getD i true = false → (∀ e ∈ oi.after, Region.binds md e = true → l.getD e.on false = true) → I l s w →
   ∀ K : Act → World → Prop, (∀ s' w', I (l.setIfInBounds i true) s' w' → K (putAll a (ns s')) w') → if Region.wanted oi (yielded ops (putAll a (ns s)).tmps) = true then Oper.wp P oi (putAll a (ns s)) w K Q else K ((putAll a (ns s)).put oi.dst undef) w)
  (he : ∀ s w, I (Array.replicate n true) s w → Q .normal (putAll a (ns s)) w)
  (s0 : σ) (ha : putAll a (ns s0) = a) (hl : l.size = n) (hc : l.toList.count false ≤ fuel) (h0 : I l s0 w) : wpAnyLast P md ops Q (fun _ => True) [] fuel l a w :=
 (show wpAnyLast P md ops Q (fun _ => True) [] fuel l (putAll a (ns s0)) w from open_ (fun s => putAll a (ns s)) I hn hb hs he fuel l s0 w hl hc h0) |> (fun h => by rw [ha] at h; exact h)
theorem gst {l : Array Bool} {i j n : Nat} (hl : l.size = n) (hi : i < n) : (l.setIfInBounds i true).getD j false = if i = j then true else l.getD j false := by
 by_cases e : i = j
 ·subst e
  rw [if_pos rfl]
  simp [hl, hi]
 ·rw [if_neg e]
  exact getD_set_ne false e
theorem eq_of_getD {l l' : Array Bool} {n : Nat} (hl : l.size = n) (hl' : l'.size = n) (h : ∀ j, j < n → l.getD j false = l'.getD j false) : l = l' := by
 apply Array.ext
 ·omega
 ·intro i h1 h2
  have := h i (by omega)
  simpa [h1, h2] using this
theorem gun {l : Array Bool} {i n : Nat} (hl : l.size = n) (hi : i < n) (h : l.getD i true = false) : l.getD i false = false := by
 have : i < l.size := by omega
 simpa [this] using h
theorem lit_ {oi : Oper} {a a1 : Act} {w : World} {K : Act → World → Prop} (e : a = a1) (h : if Region.wanted oi (yielded ops a1.tmps) = true then Oper.wp P oi a1 w K Q else K (a1.put oi.dst undef) w) :
  if Region.wanted oi (yielded ops a.tmps) = true then Oper.wp P oi a w K Q else K (a.put oi.dst undef) w := by
 subst e
 exact h
theorem open3_ {n : Nat} {σ : Type} {a : Act} {w : World} {l : Array Bool} (stop : Array Bool) (ns : σ → List (Tmp × Value)) (I : Array Bool → σ → World → Prop) (hn : ops.size = n)
  (hb : ((List.range ops.size).all fun i => match ops[i]? with | some o => o.after.all fun e => !Region.binds md e || decide (e.on < i) | none => true) = true)
  (hs : ∀ (i : Nat) (oi : Oper) (l : Array Bool) (s : σ) (w : World), i < n → ops[i]? = some oi → l.size = n → l ≠ stop → l.getD i true = false → (∀ e ∈ oi.after, Region.binds md e = true → l.getD e.on false = true) → I l s w →
   ∀ K : Act → World → Prop, (∀ s' w', I (l.setIfInBounds i true) s' w' → K (putAll a (ns s')) w') → if Region.wanted oi (yielded ops (putAll a (ns s)).tmps) = true then Oper.wp P oi (putAll a (ns s)) w K Q else K ((putAll a (ns s)).put oi.dst undef) w)
  (hst : ∀ s w, I stop s w → wpAnyLast P md ops Q (fun _ => True) [] (stop.toList.count false) stop (putAll a (ns s)) w) (hne : ∀ s w, ¬ I (Array.replicate n true) s w)
  (s0 : σ) (ha : putAll a (ns s0) = a) (hl : l.size = n) (h0 : I l s0 w) : wpAnyLast P md ops Q (fun _ => True) [] (l.toList.count false) l a w := by
 have key : ∀ (fuel : Nat) (l : Array Bool) (s : σ) (w : World), l.size = n → l.toList.count false = fuel → I l s w → wpAnyLast P md ops Q (fun _ => True) [] fuel l (putAll a (ns s)) w := by
  intro fuel
  induction fuel with
  | zero =>
   intro l s w hl hc hI
   by_cases hstop : l = stop
   ·subst hstop; rw [← hc]; exact hst s w hI
   ·have e : l = Array.replicate n true := by
     apply Array.ext
     ·simpa using hl
     ·intro i h2 h3
      cases hv : l[i] with
      | true => simp
      | false => have := cnt_set (l := l) (i := i) (by simp [h2, hv]); omega
    exact absurd (e ▸ hI) (hne s w)
  | succ fuel ih =>
   intro l s w hl hc hI
   by_cases hstop : l = stop
   ·subst hstop; rw [← hc]; exact hst s w hI
   ·refine ⟨fun hr => ?_, fun i hi => ?_⟩
    ·exact absurd (ready_all hn hb l hl hr ▸ hI) (hne s w)
    ·obtain ⟨hun, oi, ho, hall⟩ := mem_ready.1 hi
     have hin : i < n := by have := (Array.getElem?_eq_some_iff.1 ho).1; omega
     refine wpOp_step ho (fun K hK => hs i oi l s w hin ho hl hstop hun hall hI K (fun s' w' hI' => hK _ _ ⟨fun _ h => h, ih _ s' w' (by simpa using hl) ?_ hI'⟩))
     have := cnt_set hun
     omega
 have h1 := key _ l s0 w hl rfl h0
 rw [ha] at h1
 exact h1
end
/-! ### copy into a row's cells from q on; rows that may have come up -/
theorem seg_ {α : Type} (L E : List α) {N q m : Nat} (hE : E.length = m) (hq : q + m ≤ N) (hL : N ≤ L.length) : (L.take q ++ E ++ L.drop (q + m)).take N = (L.take N).take q ++ (E ++ (L.take N).drop (q + m)) := by
 have hl : (L.take q ++ E).length = q + m := by simp only [List.length_append, List.length_take]; omega
 rw [List.take_append, hl, List.take_of_length_le (by omega), List.take_take, Nat.min_eq_left (by omega), List.drop_take, List.append_assoc]
section
open Kd
variable {P : Program} {ops : Array Oper} {rest : List Oper} {o : Oper} {a : Act} {Q : Exit → Act → World → Prop}
theorem copy_at {W : World} (base : Nat) (hgd : o.guard = none) (s x : Operand) (t t' e : TypeId)
  (ho : o.op = .call { callee := .builtin .copy, args := #[s, x], argTypes := #[t, t'] }) (ht : P.underlying t = some (.slice e)) (hinfo : (P.info? e).map (·.size) = some 1)
  {g n cap q m c l : Nat} {n' : Nat} (xs ys : List Int) (A : Option Addr) (ok : Nat → Prop) (hs : a.eval s = .slice (some ⟨g, q, none⟩) n' l) (hx : a.eval x = .slice A m c) (hn' : m ≤ n')
  (HO : (Kd.int .i64).R e W base ok (.slice (some ⟨g, 0, none⟩) n cap) xs) (HR : (Kd.int .i64).C W A m ys) (hfit : q + m ≤ n)
  (h : ∀ w1, (Kd.int .i64).R e w1 base ok (.slice (some ⟨g, 0, none⟩) n cap) (xs.take q ++ (ys ++ xs.drop (q + m))) → W.grownBy w1 (some g) → wpList P ops Q rest (a.put o.dst (.int .i64 (m : Int))) w1) :
  wpList P ops Q (o :: rest) a W := by
 have hR := reads_of_C (d := (0 : Int)) HR
 have hm : ys.length = m := hR.1
 have hown := own_of_R HO
 have hnx : n = xs.length := (R_reads' HO).1
 subst hnx
 have fin : ∀ w1, (Builtin.copy_ #[t, t'] o.type #[.slice (some ⟨g, q, none⟩) n' l, .slice A m c]).run P W = .ok (goInt (m : Int)) w1 → (Kd.int .i64).R e w1 base ok (.slice (some ⟨g, 0, none⟩) xs.length cap) (xs.take q ++ (ys ++ xs.drop (q + m))) → W.grownBy w1 (some g) → wpList P ops Q (o :: rest) a W := by
  intro w1 hr hrow hg
  refine wpList_plain hgd fun K hK => ?_
  unfold Oper.wp execOp
  simp only [ho, resolve, invoke, builtin, Sem.run_bind, Sem.run_pure, Result.andThen_ok, List.map_toArray, List.map_cons, List.map_nil, hs, hx, hr]
  exact hK _ _ (h w1 hrow hg)
 rcases Nat.eq_zero_or_pos m with h0 | hp
 ·subst h0
  obtain rfl : ys = [] := List.eq_nil_of_length_eq_zero hm
  refine fin W ?_ (by rw [List.nil_append, Nat.add_zero, List.take_append_drop]; exact HO) (World.grownBy.refl W _)
  exact run_copy_none W t t' o.type e _ A n' l 0 c ht hinfo (by simp)
 ·obtain ⟨ad, hA, hc⟩ := hR.2.2 hp
  rcases hown.2 with ⟨hv, hx0⟩ | ⟨g', cap', cur, hv, hb, hh, hnc, hcm, hcs, htake⟩
  ·simp at hv
  obtain ⟨rfl, rfl⟩ : g = g' ∧ cap = cap' := by simpa using hv
  have hsrc : ∀ j u, (encs (fun i => Value.int .i64 i) ys)[j]? = some u → W.cell? (ad.add j) = some u := by
   intro j u hu
   have hj : j < ys.length := by
    rcases Nat.lt_or_ge j ys.length with h | h
    ·exact h
    ·rw [List.getElem?_eq_none (by rw [encs_length]; exact h)] at hu
     cases hu
   rw [encs_get (d := (0 : Int)) _ j hj] at hu
   rw [hc j (by omega), ← hu]
  have hkl : (encs (fun i => Value.int .i64 i) ys).length = m := by rw [encs_length, hm]
  have hr := run_copy_cells (P := P) W t t' o.type e g q n' l ad m c (encs (fun i => Value.int .i64 i) ys) ht hinfo (by rw [hkl]; exact (Nat.min_eq_left hn').symm) hsrc
   (fun j hj => by rw [cell_of_row W g _ cur e (0, 0) hh]; simp; omega) (fun j _ => blk_frozen hh _) (by intro u hu; simp only [encs, List.mem_map] at hu; obtain ⟨q, _, rfl⟩ := hu; rfl)
  obtain ⟨cur', h3, h4, h5⟩ := setCells_row (encs (fun i => Value.int .i64 i) ys) q W cur hh (by rw [hkl]; omega)
  obtain ⟨s1, s2, s3, s4⟩ := setCells_same g (encs (fun i => Value.int .i64 i) ys) q W
  refine fin _ (by rw [hA, hr, hkl]) (R_of_own ?_ HO.1) ⟨s1, s2, s3, by rw [s4]; exact Nat.le_refl _, fun k _ hk => setCells_far _ _ k (fun he => hk (by rw [he]))⟩
  have hln : (xs.take q ++ (ys ++ xs.drop (q + m))).length = xs.length := by
   simp only [List.length_append, List.length_take, List.length_drop]
   omega
  rw [hln]
  refine ⟨by rw [encs_length, hln, Nat.mul_one], .inr ⟨g, cap, cur', rfl, hb, h3, hnc, hcm, by rw [h4, hcs], ?_⟩⟩
  rw [h5, hkl, encs_append, encs_append, Nat.mul_one]
  have htk : cur.toList.take xs.length = encs (fun i => Value.int .i64 i) xs := by rw [← htake, Nat.mul_one]
  have hd : encs (fun i => Value.int .i64 i) (xs.drop (q + m)) = (encs (fun i => Value.int .i64 i) xs).drop (q + m) := by simp [encs, List.map_drop]
  have hd2 : encs (fun i => Value.int .i64 i) (xs.take q) = (encs (fun i => Value.int .i64 i) xs).take q := by simp [encs, List.map_take]
  rw [hd, hd2, ← htk]
  exact seg_ _ _ hkl hfit (by have hcl : cur.toList.length = cur.size := Array.length_toList; omega)
end
section
open Kd
variable {P : Program} {ops : Array Oper} {a : Act} {Q : Exit → Act → World → Prop} {W : World}
theorem row_ptr {e base n : Nat} {ok : Nat → Prop} {v : Value} {xs : List Int} (h : (Kd.int .i64).R e W base ok v xs) (hn : xs.length = n) (hp : 0 < n) : ∃ g cap, v = .slice (some ⟨g, 0, none⟩) n cap ∧ base ≤ g ∧ n ≤ cap := by
 subst hn
 rcases (own_of_R h).2 with ⟨_, h0⟩ | ⟨g, cap, cur, hv, hb, hh, hnc, _⟩
 ·omega
 ·exact ⟨g, cap, hv, hb, hnc⟩
/-- a number stored into a row of one's own. -/
theorem store_row_step {oi : Oper} {K : Act → World → Prop} (hw : Region.wanted oi (yielded ops a.tmps) = true) (hN : oi.dst = none) (t : TypeId) (p x : Operand) (ho : oi.op = .store t p x) {e base n g j cap : Nat} {ok : Nat → Prop} {u : Int} {xs : List Int}
  (haddr : a.eval p = .pointer (some ⟨g, j, none⟩)) (hx : a.eval x = .int .i64 u) (ht : (P.info? t).map (·.size) = some 1) (HO : (Kd.int .i64).R e W base ok (.slice (some ⟨g, 0, none⟩) n cap) xs) (hj : j < n)
  (h : ∀ w1, (Kd.int .i64).R e w1 base ok (.slice (some ⟨g, 0, none⟩) n cap) (xs.set j u) → W.grownBy w1 (some g) → K a w1) : if Region.wanted oi (yielded ops a.tmps) = true then Oper.wp P oi a W K Q else K (a.put none undef) W := by
 have hnx : n = xs.length := (R_reads' HO).1
 subst hnx
 rcases (own_of_R HO).2 with ⟨hv, _⟩ | ⟨g', cap', cur, hv, hb, hh, hnc, hcm, hcs, _⟩
 ·simp at hv
 obtain ⟨rfl, rfl⟩ : g = g' ∧ cap = cap' := by simpa using hv
 have hrun := run_store_run (P := P) (o := j) t (.int .i64 u) [.int .i64 u] hh rfl ht (by simp; omega) (by intro q hq; rw [List.mem_singleton.1 hq]; rfl)
 obtain ⟨h1, h2⟩ := R_put HO (j : Int) u
 refine skip_ hw hN ?_ (h _ h1 h2)
 unfold execOp
 simp only [ho, haddr, hx, Sem.run_bind, Sem.run_pure, Result.andThen_ok, hrun]
 rfl
/-- a whole struct stored into its box. -/
theorem store_box_step {oi : Oper} {K : Act → World → Prop} (hw : Region.wanted oi (yielded ops a.tmps) = true) (hN : oi.dst = none) (t : TypeId) (p x : Operand) (ho : oi.op = .store t p x) {g : Nat} {t' : TypeId} {old cs : Array Value}
  (haddr : a.eval p = .pointer (some ⟨g, 0, none⟩)) (hx : a.eval x = .agg cs) (hb : W.heap[g]? = some (.cells old t' (0, 0))) (ht : (P.info? t).map (·.size) = some cs.size) (hsz : old.size = cs.size)
  (h1 : ∀ q ∈ cs.toList, q.oneCell' = true)
  (h : ∀ w1, w1.heap[g]? = some (.cells cs t' (0, 0)) → W.grownBy w1 (some g) → K a w1) : if Region.wanted oi (yielded ops a.tmps) = true then Oper.wp P oi a W K Q else K (a.put none undef) W := by
 have hlen : cs.toList.length = cs.size := Array.length_toList
 have hrun := run_store_run (P := P) (o := 0) t (.agg cs) cs.toList hb rfl (by rw [hlen]; exact ht) (by rw [hlen]; omega) h1
 obtain ⟨cur', h3, h4, h5⟩ := setCells_row cs.toList 0 W old hb (by rw [hlen]; omega)
 obtain ⟨s1, s2, s3, s4⟩ := setCells_same g cs.toList 0 W
 have hcur : cur' = cs := by
  apply Array.toList_inj.1
  rw [h5, List.take_zero, List.nil_append, Nat.zero_add, hlen, List.drop_of_length_le (by rw [Array.length_toList]; omega), List.append_nil]
 rw [hcur] at h3
 refine skip_ hw hN ?_ (h _ h3 ⟨s1, s2, s3, by rw [s4]; exact Nat.le_refl _, fun k _ hk => setCells_far _ _ k (fun e => hk (by rw [e]))⟩)
 unfold execOp
 simp only [ho, haddr, hx, Sem.run_bind, Sem.run_pure, Result.andThen_ok, hrun]
end
/-- v, if b, is a row of numbers made since n. -/
def RwB (b : Bool) (n : Nat) (w : World) (v : Value) (xs : List Int) : Prop := b = true → (Kd.int .i64).R 3 w n (fun _ => True) v xs
def Dj (b b' : Bool) (u v : Value) : Prop := b = true → b' = true → ∀ k, u.ownBlock = some k → v.ownBlock ≠ some k
section
variable {b b' : Bool} {n g : Nat} {w w' : World} {u v : Value} {xs ys : List Int}
theorem RwB.un : RwB false n w v xs := fun h => by cases h
theorem Dj.un : Dj false b' u v := fun h => by cases h
theorem Dj.un' : Dj b false u v := fun _ h => by cases h
theorem RwB.lt (h : RwB b n w v xs) (e : b = true) : ∀ k, v.ownBlock = some k → k < w.heap.size := fun k hk => ((Kd.R_bound (h e)).1 k hk).2.2.1
theorem RwB.keep (h : RwB b n w v xs) (hb : Below w.heap.size w w') : RwB b n w' v xs := fun e => Kd.R_below (h e) hb
theorem RwB.grown {r : Option Nat} (h : RwB b n w v xs) (hg : w.grownBy w' r) (hd : b = true → ∀ k, v.ownBlock = some k → some k ≠ r) : RwB b n w' v xs :=
 fun e => Kd.R_mono (Kd.R_step (w1 := w') (⟨fun k hk => hk, (h e).2⟩ : (Kd.int .i64).R 3 w n (fun k => v.ownBlock = some k) v xs) (fun k hk hl => hg.block k hl (hd e k hk))) (fun _ _ => trivial)
theorem RwB.new (h : (Kd.int .i64).R 3 w' w.heap.size (fun _ => True) v xs) (hn : n ≤ w.heap.size) : RwB true n w' v xs := fun _ => Kd.R_lower h hn
theorem Dj.new (h : (Kd.int .i64).R 3 w' w.heap.size (fun _ => True) v xs) (hu : RwB b n w u ys) : Dj true b v u ∧ Dj b true u v :=
 ⟨fun _ e k hk h1 => absurd (hu.lt e k h1) (Nat.not_lt.2 ((Kd.R_bound h).1 k hk).2.1), fun e _ k hk h1 => absurd (hu.lt e k hk) (Nat.not_lt.2 ((Kd.R_bound h).1 k h1).2.1)⟩
end
section
variable {e n g x : Nat} {w w' w0 : World} {u v : Value} {xs : List Int} {o : Obj}
theorem R_grown_ (h : (Kd.int .i64).R e w n (fun _ => True) v xs) (hg : w.grownBy w' (some g)) (hd : v.ownBlock ≠ some g) : (Kd.int .i64).R e w' n (fun _ => True) v xs :=
 Kd.R_mono (Kd.R_step (w1 := w') (⟨fun k hk => hk, h.2⟩ : (Kd.int .i64).R e w n (fun k => v.ownBlock = some k) v xs) (fun k hk hl => hg.block k hl (fun q => hd (hk.trans q)))) (fun _ _ => trivial)
theorem blk_grown_ (h : w.heap[x]? = some o) (hg : w.grownBy w' (some g)) (hd : x ≠ g) : w'.heap[x]? = some o := (hg.block x (blk_lt h) (fun q => hd (by injection q))).trans h
theorem bel_grown_ (h : Below w0.heap.size w0 w) (hg : w.grownBy w' (some g)) (hd : w0.heap.size ≤ g) : Below w0.heap.size w0 w' :=
 h.trans ⟨hg.os, hg.tape, hg.output, hg.size, fun k hk => hg.block k (Nat.lt_of_lt_of_le hk h.size) (fun q => by injection q with q; omega)⟩
end
section
variable {P : Program} {ops : Array Oper} {rest : List Oper} {o : Oper} {a : Act} {Q : Exit → Act → World → Prop} {W : World}
/-- the same in a plain region. -/
theorem store_box (hgd : o.guard = none) (hN : o.dst = none) (t : TypeId) (p x : Operand) (ho : o.op = .store t p x) {g : Nat} {t' : TypeId} {old cs : Array Value}
  (haddr : a.eval p = .pointer (some ⟨g, 0, none⟩)) (hx : a.eval x = .agg cs) (hb : W.heap[g]? = some (.cells old t' (0, 0))) (ht : (P.info? t).map (·.size) = some cs.size) (hsz : old.size = cs.size)
  (h1 : ∀ q ∈ cs.toList, q.oneCell' = true)
  (h : ∀ w1, w1.heap[g]? = some (.cells cs t' (0, 0)) → W.grownBy w1 (some g) → wpList P ops Q rest a w1) : wpList P ops Q (o :: rest) a W := by
 have hlen : cs.toList.length = cs.size := Array.length_toList
 refine wpList_plain hgd fun K hK => ?_
 have hrun := run_store_run (P := P) (o := 0) t (.agg cs) cs.toList hb rfl (by rw [hlen]; exact ht) (by rw [hlen]; omega) h1
 obtain ⟨cur', h3, h4, h5⟩ := setCells_row cs.toList 0 W old hb (by rw [hlen]; omega)
 obtain ⟨s1, s2, s3, s4⟩ := setCells_same g cs.toList 0 W
 have hcur : cur' = cs := by
  apply Array.toList_inj.1
  rw [h5, List.take_zero, List.nil_append, Nat.zero_add, hlen, List.drop_of_length_le (by rw [Array.length_toList]; omega), List.append_nil]
 rw [hcur] at h3
 have hK2 := h _ h3 ⟨s1, s2, s3, by rw [s4]; exact Nat.le_refl _, fun k _ hk => setCells_far _ _ k (fun e => hk (by rw [e]))⟩
 unfold Oper.wp execOp
 simp only [ho, haddr, hx, Sem.run_bind, Sem.run_pure, Result.andThen_ok, hrun]
 show K (a.put o.dst undef) _
 rw [hN]
 exact hK a _ hK2
end
/-- what a new world keeps of an elder one: its blocks. -/
class WExt (w : outParam World) (w' : World) : Prop where
 out : ∀ {g : Nat} {o : Obj}, w.heap[g]? = some o → w'.heap[g]? = some o
instance (priority := 1) (w : World) : WExt w w := ⟨fun h => h⟩
instance (w w' : World) (n : Nat) [h : WExt w w'] : WExt w (w'.drewN n) := ⟨fun k => blk_drewN (h.out k) n⟩
instance (w w' : World) [h : WExt w w'] : WExt w w'.drew := ⟨fun k => blk_drew (h.out k)⟩
instance (w w' : World) (o : Obj) [h : WExt w w'] : WExt w (w'.alloc o) := ⟨fun k => blk_alloc (h.out k) o⟩
/-- what holds below a world's size still holds in a later one. -/
class GeI (n g : Nat) : Prop where
 out : n ≤ g
class BlwI (w0 : World) (w : outParam World) (w' : World) : Prop where
 out : Below w0.heap.size w0 w → Below w0.heap.size w0 w'
instance (priority := 1) (w0 w : World) : BlwI w0 w w := ⟨fun h => h⟩
instance (w0 w w' : World) (n : Nat) [h : BlwI w0 w w'] : BlwI w0 w (w'.drewN n) := ⟨fun k => pw_below_drewN (h.out k) n⟩
instance (w0 w w' : World) [h : BlwI w0 w w'] : BlwI w0 w w'.drew := ⟨fun k => (h.out k).drew⟩
instance (w0 w w' : World) (o : Obj) [h : BlwI w0 w w'] : BlwI w0 w (w'.alloc o) := ⟨fun k => below_alloc (h.out k) o⟩
instance (w0 w w' : World) (g j : Nat) (v : Value) [h : BlwI w0 w w'] [e : GeI w0.heap.size g] : BlwI w0 w (w'.setCell ⟨g, j, none⟩ v) := ⟨fun k => (h.out k).setCell e.out _⟩
theorem bw_ {w0 w w' : World} [h : BlwI w0 w w'] (k : Below w0.heap.size w0 w) : Below w0.heap.size w0 w' := h.out k
theorem bk_ {w w' : World} {g : Nat} {o : Obj} [h : WExt w w'] (k : w.heap[g]? = some o) : w'.heap[g]? = some o := h.out k
/-- a block's eight cells, and that none is frozen. -/
theorem cz8_ {w : World} {g : Nat} {t : TypeId} {v0 v1 v2 v3 v4 v5 v6 v7 : Value} (h : w.heap[g]? = some (.cells #[v0, v1, v2, v3, v4, v5, v6, v7] t (0, 0))) :
  w.cell? ⟨g, 0, none⟩ = some v0 ∧ w.cell? ⟨g, 1, none⟩ = some v1 ∧ w.cell? ⟨g, 2, none⟩ = some v2 ∧ w.cell? ⟨g, 3, none⟩ = some v3 ∧ w.cell? ⟨g, 4, none⟩ = some v4 ∧ w.cell? ⟨g, 5, none⟩ = some v5 ∧ w.cell? ⟨g, 6, none⟩ = some v6 ∧ w.cell? ⟨g, 7, none⟩ = some v7 ∧
  w.frozen? ⟨g, 0, none⟩ = false ∧ w.frozen? ⟨g, 1, none⟩ = false ∧ w.frozen? ⟨g, 2, none⟩ = false ∧ w.frozen? ⟨g, 3, none⟩ = false ∧ w.frozen? ⟨g, 4, none⟩ = false ∧ w.frozen? ⟨g, 5, none⟩ = false ∧ w.frozen? ⟨g, 6, none⟩ = false ∧ w.frozen? ⟨g, 7, none⟩ = false :=
 ⟨(blk_cell h 0).trans rfl, (blk_cell h 1).trans rfl, (blk_cell h 2).trans rfl, (blk_cell h 3).trans rfl, (blk_cell h 4).trans rfl, (blk_cell h 5).trans rfl, (blk_cell h 6).trans rfl, (blk_cell h 7).trans rfl, blk_frozen h 0, blk_frozen h 1, blk_frozen h 2, blk_frozen h 3, blk_frozen h 4, blk_frozen h 5, blk_frozen h 6, blk_frozen h 7⟩
/-- a block's four cells, and that none is frozen. -/
theorem cz4_ {w : World} {g : Nat} {t : TypeId} {v0 v1 v2 v3 : Value} (h : w.heap[g]? = some (.cells #[v0, v1, v2, v3] t (0, 0))) :
  w.cell? ⟨g, 0, none⟩ = some v0 ∧ w.cell? ⟨g, 1, none⟩ = some v1 ∧ w.cell? ⟨g, 2, none⟩ = some v2 ∧ w.cell? ⟨g, 3, none⟩ = some v3 ∧
  w.frozen? ⟨g, 0, none⟩ = false ∧ w.frozen? ⟨g, 1, none⟩ = false ∧ w.frozen? ⟨g, 2, none⟩ = false ∧ w.frozen? ⟨g, 3, none⟩ = false :=
 ⟨(blk_cell h 0).trans rfl, (blk_cell h 1).trans rfl, (blk_cell h 2).trans rfl, (blk_cell h 3).trans rfl, blk_frozen h 0, blk_frozen h 1, blk_frozen h 2, blk_frozen h 3⟩
/-- a call of a listed function, its plain facts told by themselves. -/
theorem gL_ {P : Program} {ops : Array Oper} {Q : Exit → Act → World → Prop} {rest : List Oper} {oi : Oper} {a : Act} {w : World} (N : Option Tmp) {f : FuncId} {fn : Func} {as_ : Array Operand} {ts : Array TypeId} (hf : P.funcs[f]? = some fn) (args : Array Value)
  (h : Calls P f args w fun e w' => ∃ v, e = .returned v ∧ wpList P ops Q rest (a.put N v) w')
  (hd : oi.dst = N := by exact rfl) (hg : oi.guard = none := by exact rfl) (hname : (fn.name == "runtime.NumGoroutine") = false := by kernel_rfl) (hb : fn.body.isSome = true := by exact rfl)
  (hop : oi.op = .call { callee := .value (.func f), args := as_, argTypes := ts } := by exact rfl)
  (hargs : as_.map a.eval = args := by ((try simp only [List.map_toArray, List.map_cons, List.map_nil]); first | done | rfl | (simp only [List.length_drop, List.length_take]; rfl))) : wpList P ops Q (oi :: rest) a w :=
 goesL_ N hd hg hf hname hb args hop hargs h
theorem A_ {p : Prop} (h : p) : Aside0 p := Aside0.mk h
/-- a block's nine (eight) cells, for what a region holds. -/
theorem c9_ {w : World} {g : Nat} {t : TypeId} {v0 v1 v2 v3 v4 v5 v6 v7 v8 : Value} (h : Aside0 (w.heap[g]? = some (.cells #[v0, v1, v2, v3, v4, v5, v6, v7, v8] t (0, 0)))) :
 w.cell? ⟨g, 0, none⟩ = some v0 ∧ w.cell? ⟨g, 1, none⟩ = some v1 ∧ w.cell? ⟨g, 2, none⟩ = some v2 ∧ w.cell? ⟨g, 3, none⟩ = some v3 ∧ w.cell? ⟨g, 4, none⟩ = some v4 ∧ w.cell? ⟨g, 5, none⟩ = some v5 ∧ w.cell? ⟨g, 6, none⟩ = some v6 ∧ w.cell? ⟨g, 7, none⟩ = some v7 ∧ w.cell? ⟨g, 8, none⟩ = some v8 :=
 ⟨(blk_cell h.out 0).trans rfl, (blk_cell h.out 1).trans rfl, (blk_cell h.out 2).trans rfl, (blk_cell h.out 3).trans rfl, (blk_cell h.out 4).trans rfl, (blk_cell h.out 5).trans rfl, (blk_cell h.out 6).trans rfl, (blk_cell h.out 7).trans rfl, (blk_cell h.out 8).trans rfl⟩
theorem c8_ {w : World} {g : Nat} {t : TypeId} {v0 v1 v2 v3 v4 v5 v6 v7 : Value} (h : Aside0 (w.heap[g]? = some (.cells #[v0, v1, v2, v3, v4, v5, v6, v7] t (0, 0)))) :
 w.cell? ⟨g, 0, none⟩ = some v0 ∧ w.cell? ⟨g, 1, none⟩ = some v1 ∧ w.cell? ⟨g, 2, none⟩ = some v2 ∧ w.cell? ⟨g, 3, none⟩ = some v3 ∧ w.cell? ⟨g, 4, none⟩ = some v4 ∧ w.cell? ⟨g, 5, none⟩ = some v5 ∧ w.cell? ⟨g, 6, none⟩ = some v6 ∧ w.cell? ⟨g, 7, none⟩ = some v7 :=
 ⟨(blk_cell h.out 0).trans rfl, (blk_cell h.out 1).trans rfl, (blk_cell h.out 2).trans rfl, (blk_cell h.out 3).trans rfl, (blk_cell h.out 4).trans rfl, (blk_cell h.out 5).trans rfl, (blk_cell h.out 6).trans rfl, (blk_cell h.out 7).trans rfl⟩
theorem cf_ {w : World} {a b : Nat} {i j : Nat} {u v : Value} (h : Aside0 (a ≠ b)) (hc : w.cell? ⟨a, i, none⟩ = some v) : (w.setCell ⟨b, j, none⟩ u).cell? ⟨a, i, none⟩ = some v := (cell_far (p := ⟨b, j, none⟩) h.out u).trans hc
/-- Bools by their bits. -/
def bl_ : Nat → Nat → List Bool
 | 0, _ => []
 | n + 1, v => (v % 2 == 1) :: bl_ n (v / 2)
def bm_ (n v : Nat) : Array Bool := ⟨bl_ n v⟩
/-- a block's nine cells, and that none is frozen. -/
theorem cz9_ {w : World} {g : Nat} {t : TypeId} {v0 v1 v2 v3 v4 v5 v6 v7 v8 : Value} (h : w.heap[g]? = some (.cells #[v0, v1, v2, v3, v4, v5, v6, v7, v8] t (0, 0))) :
 w.cell? ⟨g, 0, none⟩ = some v0 ∧ w.cell? ⟨g, 1, none⟩ = some v1 ∧ w.cell? ⟨g, 2, none⟩ = some v2 ∧ w.cell? ⟨g, 3, none⟩ = some v3 ∧ w.cell? ⟨g, 4, none⟩ = some v4 ∧ w.cell? ⟨g, 5, none⟩ = some v5 ∧ w.cell? ⟨g, 6, none⟩ = some v6 ∧ w.cell? ⟨g, 7, none⟩ = some v7 ∧ w.cell? ⟨g, 8, none⟩ = some v8 ∧
 w.frozen? ⟨g, 0, none⟩ = false ∧ w.frozen? ⟨g, 1, none⟩ = false ∧ w.frozen? ⟨g, 2, none⟩ = false ∧ w.frozen? ⟨g, 3, none⟩ = false ∧ w.frozen? ⟨g, 4, none⟩ = false ∧ w.frozen? ⟨g, 5, none⟩ = false ∧ w.frozen? ⟨g, 6, none⟩ = false ∧ w.frozen? ⟨g, 7, none⟩ = false ∧ w.frozen? ⟨g, 8, none⟩ = false :=
 ⟨(blk_cell h 0).trans rfl, (blk_cell h 1).trans rfl, (blk_cell h 2).trans rfl, (blk_cell h 3).trans rfl, (blk_cell h 4).trans rfl, (blk_cell h 5).trans rfl, (blk_cell h 6).trans rfl, (blk_cell h 7).trans rfl, (blk_cell h 8).trans rfl, blk_frozen h 0, blk_frozen h 1, blk_frozen h 2, blk_frozen h 3, blk_frozen h 4, blk_frozen h 5, blk_frozen h 6, blk_frozen h 7, blk_frozen h 8⟩
/-- a row of one's own in a later world. -/
class KrI (w : outParam World) (w' : World) : Prop where
 out : ∀ {α : Type} {d : Kd α} {e base : Nat} {ok : Nat → Prop} {v : Value} {xs : List α}, Kd.R d e w base ok v xs → Kd.R d e w' base ok v xs
instance (priority := 1) (w : World) : KrI w w := ⟨fun h => h⟩
instance (w w' : World) (n : Nat) [h : KrI w w'] : KrI w (w'.drewN n) := ⟨fun k => Kd.R_drewN (h.out k) n⟩
instance (w w' : World) [h : KrI w w'] : KrI w w'.drew := ⟨fun k => Kd.R_drew (h.out k)⟩
instance (w w' : World) (o : Obj) [h : KrI w w'] : KrI w (w'.alloc o) := ⟨fun k => Kd.R_alloc (h.out k) o⟩
theorem kr_ {w w' : World} [h : KrI w w'] {α : Type} {d : Kd α} {e base : Nat} {ok : Nat → Prop} {v : Value} {xs : List α} (k : Kd.R d e w base ok v xs) : Kd.R d e w' base ok v xs := h.out k
/-- an operation that yields in every world, its plain facts told by themselves. -/
theorem pu_ {P : Program} {ops : Array Oper} {Q : Exit → Act → World → Prop} {md : Region.Mode} {S : World → Prop} {ds : List Nat} (i : Nat) (N : Option Tmp) {oi : Oper} {v : Value} {fuel : Nat} {l : Array Bool} {a : Act} {w : World} (l' : Array Bool) {a' : Act} (hc : anyB md ops l l' i = true)
 (h : wpAnyLast P md ops Q S ds fuel l' a' w) (hi : ops[i]? = some oi := by exact rfl) (hN : oi.dst = N := by exact rfl)
 (hy : Yields P ops oi v a := by (refine Or.inl ⟨by rfl, ?_⟩; intro w'; go_simp; with_reducible rfl)) (ha : a.put N v = a' := by (simp only [Act.put, List.setIfInBounds_toArray, List.set_cons_zero, List.set_cons_succ, i64_w, i32_w]; rfl)) (hQ : ∀ c a w, Q (.panic c) (a.put oi.dst v) w → Q (.panic c) a w := by exact fun _ _ _ h => h) :
 wpAnyLast P md ops Q S ds (fuel + 1) l a w := pure_ l' hi hN hc hQ hy ha h
/-- a world named anew. -/
theorem bq_ {w w1 : World} {n g : Nat} {o : Obj} (q : World.drewN w n = w1) (h : w.heap[g]? = some o) : w1.heap[g]? = some o := q ▸ blk_drewN h n
theorem wq_ {w0 w w1 : World} {n : Nat} (q : World.drewN w n = w1) (h : Below w0.heap.size w0 w) : Below w0.heap.size w0 w1 := q ▸ pw_below_drewN h n
theorem rq_ {w w1 : World} {n : Nat} (q : World.drewN w n = w1) {α : Type} {d : Kd α} {e base : Nat} {ok : Nat → Prop} {v : Value} {xs : List α} (h : Kd.R d e w base ok v xs) : Kd.R d e w1 base ok v xs := q ▸ Kd.R_drewN h n
/-- a variable in memory, its plain facts told by themselves. -/
theorem bx_ {P : Program} {ops : Array Oper} {Q : Exit → Act → World → Prop} {rest : List Oper} {o : Oper} {a : Act} {W : World} (N : Tmp) (cs : Array Value) (t : TypeId)
 (h : ∀ g, g = W.heap.size → ∀ w1, w1.heap[g]? = some (.cells cs t (0, 0)) → Below W.heap.size W w1 → wpList P ops Q rest (a.put o.dst (.pointer (some ⟨g, 0, none⟩))) w1) (hgd : o.guard = none := by exact rfl) (hd : o.dst = some N := by exact rfl)
 (hrun : (execOp a.eval o).run P W = .ok (.value (.pointer (some ⟨W.heap.size, 0, none⟩))) (W.alloc (.cells cs t (0, 0))) := by first | (go_simp; done) | (go_simp; rfl)) : wpList P ops Q (o :: rest) a W := box_event hgd hd hrun h
theorem bp9_ {w : World} {g : Nat} {t : TypeId} {u0 u1 u2 u3 u4 u5 u6 u7 u8 v0 v1 v2 v3 v4 v5 v6 v7 v8 : Value} (h : w.heap[g]? = some (.cells #[u0, u1, u2, u3, u4, u5, u6, u7, u8] t (0, 0))) : ((((((((((w.setCell ⟨g, 0, none⟩ v0).setCell ⟨g, 1, none⟩ v1).setCell ⟨g, 2, none⟩ v2).setCell ⟨g, 3, none⟩ v3).setCell ⟨g, 4, none⟩ v4).setCell ⟨g, 5, none⟩ v5).setCell ⟨g, 6, none⟩ v6).setCell ⟨g, 7, none⟩ v7).setCell ⟨g, 8, none⟩ v8)).heap[g]? = some (.cells #[v0, v1, v2, v3, v4, v5, v6, v7, v8] t (0, 0)) := by
 have h := blk_put (cs' := #[v0, u1, u2, u3, u4, u5, u6, u7, u8]) h 0 v0 rfl
 have h := blk_put (cs' := #[v0, v1, u2, u3, u4, u5, u6, u7, u8]) h 1 v1 rfl
 have h := blk_put (cs' := #[v0, v1, v2, u3, u4, u5, u6, u7, u8]) h 2 v2 rfl
 have h := blk_put (cs' := #[v0, v1, v2, v3, u4, u5, u6, u7, u8]) h 3 v3 rfl
 have h := blk_put (cs' := #[v0, v1, v2, v3, v4, u5, u6, u7, u8]) h 4 v4 rfl
 have h := blk_put (cs' := #[v0, v1, v2, v3, v4, v5, u6, u7, u8]) h 5 v5 rfl
 have h := blk_put (cs' := #[v0, v1, v2, v3, v4, v5, v6, u7, u8]) h 6 v6 rfl
 have h := blk_put (cs' := #[v0, v1, v2, v3, v4, v5, v6, v7, u8]) h 7 v7 rfl
 have h := blk_put (cs' := #[v0, v1, v2, v3, v4, v5, v6, v7, v8]) h 8 v8 rfl
 exact h
theorem bp8_ {w : World} {g : Nat} {t : TypeId} {u0 u1 u2 u3 u4 u5 u6 u7 v0 v1 v2 v3 v4 v5 v6 v7 : Value} (h : w.heap[g]? = some (.cells #[u0, u1, u2, u3, u4, u5, u6, u7] t (0, 0))) : (((((((((w.setCell ⟨g, 0, none⟩ v0).setCell ⟨g, 1, none⟩ v1).setCell ⟨g, 2, none⟩ v2).setCell ⟨g, 3, none⟩ v3).setCell ⟨g, 4, none⟩ v4).setCell ⟨g, 5, none⟩ v5).setCell ⟨g, 6, none⟩ v6).setCell ⟨g, 7, none⟩ v7)).heap[g]? = some (.cells #[v0, v1, v2, v3, v4, v5, v6, v7] t (0, 0)) := by
 have h := blk_put (cs' := #[v0, u1, u2, u3, u4, u5, u6, u7]) h 0 v0 rfl
 have h := blk_put (cs' := #[v0, v1, u2, u3, u4, u5, u6, u7]) h 1 v1 rfl
 have h := blk_put (cs' := #[v0, v1, v2, u3, u4, u5, u6, u7]) h 2 v2 rfl
 have h := blk_put (cs' := #[v0, v1, v2, v3, u4, u5, u6, u7]) h 3 v3 rfl
 have h := blk_put (cs' := #[v0, v1, v2, v3, v4, u5, u6, u7]) h 4 v4 rfl
 have h := blk_put (cs' := #[v0, v1, v2, v3, v4, v5, u6, u7]) h 5 v5 rfl
 have h := blk_put (cs' := #[v0, v1, v2, v3, v4, v5, v6, u7]) h 6 v6 rfl
 have h := blk_put (cs' := #[v0, v1, v2, v3, v4, v5, v6, v7]) h 7 v7 rfl
 exact h
theorem rf9_ {w : World} {g : Nat} {u0 u1 u2 u3 u4 u5 u6 u7 u8 : Value} {α : Type} {d : Kd α} {e base : Nat} {ok : Nat → Prop} {v : Value} {xs : List α} (h : Kd.R d e w base ok v xs) (hok : ∀ k, ok k → k ≠ g) : Kd.R d e (((((((((w.setCell ⟨g, 0, none⟩ u0).setCell ⟨g, 1, none⟩ u1).setCell ⟨g, 2, none⟩ u2).setCell ⟨g, 3, none⟩ u3).setCell ⟨g, 4, none⟩ u4).setCell ⟨g, 5, none⟩ u5).setCell ⟨g, 6, none⟩ u6).setCell ⟨g, 7, none⟩ u7).setCell ⟨g, 8, none⟩ u8) base ok v xs := (Kd.R_far (p := ⟨g, 8, none⟩) (Kd.R_far (p := ⟨g, 7, none⟩) (Kd.R_far (p := ⟨g, 6, none⟩) (Kd.R_far (p := ⟨g, 5, none⟩) (Kd.R_far (p := ⟨g, 4, none⟩) (Kd.R_far (p := ⟨g, 3, none⟩) (Kd.R_far (p := ⟨g, 2, none⟩) (Kd.R_far (p := ⟨g, 1, none⟩) (Kd.R_far (p := ⟨g, 0, none⟩) h hok u0) hok u1) hok u2) hok u3) hok u4) hok u5) hok u6) hok u7) hok u8)
theorem d50_ {p : Prop} (h : p := by rw [hg]; exact (keep_size (w := w) (g := g) (row := none) d0_)) : p := h
theorem d49_ {p : Prop} (h : p := by rw [hg]; exact (keep_size (w := w) (g := g) (row := none) d1_)) : p := h
theorem d48_ {p : Prop} (h : p := by rw [hg]; exact Nat.ne_of_lt (blk_lt (bk_ BK176.out))) : p := h
theorem d47_ {p : Prop} (h : p := by rw [hg]; exact Nat.ne_of_lt (blk_lt (bk_ BK655.out))) : p := h
theorem d46_ {p : Prop} (h : p := by rw [hg]; exact Nat.ne_of_lt (blk_lt (bk_ BK739.out))) : p := h
theorem d45_ {p : Prop} (h : p := by exact bk_ (bp9_ (bk_ BK562.out))) : p := h
theorem d44_ {p : Prop} (h : p := by rw [hg]; exact Nat.ne_of_lt (blk_lt (bk_ BK738.out))) : p := h
theorem d43_ {p : Prop} (h : p := by have h_ := (Kd.R_reads' HO.out).2.1; have h9_ := (Kd.R_reads' HO.out).1; omega) : p := h
theorem d42_ {p : Prop} (h : p := by rw [hg]; exact Nat.ne_of_lt (blk_lt (bk_ BK152.out))) : p := h
theorem d41_ {p : Prop} (h : p := by rw [hg]; exact Nat.ne_of_lt (blk_lt (bk_ BK654.out))) : p := h
theorem d40_ {p : Prop} (h : p := by rw [hg]; exact Nat.ne_of_lt (blk_lt (bk_ BK717.out))) : p := h
theorem d39_ {p : Prop} (h : p := by refine bk_ ?_; refine blk_far ?_ NB760_761.out _; refine bk_ ?_; refine blk_far ?_ NB760_761.out _; exact bk_ (bp9_ (bk_ BK760.out))) : p := h
theorem d38_ {p : Prop} (h : p := by simp only [putAll, Act.put, List.setIfInBounds_toArray, List.set_cons_zero, List.set_cons_succ]) : p := h
theorem d37_ {p : Prop} (h : p := by rw [hg]; exact Nat.ne_of_lt (blk_lt (bk_ BK175.out))) : p := h
theorem d36_ {p : Prop} (h : p := by rw [hg]; exact Nat.ne_of_lt (blk_lt (bk_ BK542.out))) : p := h
theorem d35_ {p : Prop} (h : p := by repeat (first | (with_reducible first | exact HI0.out | apply IsS102.alloc | apply IsS102.drewN | apply IsS102.drew | apply IsS102.set_1 | apply IsS102.set_2 | refine IsS102.far ?_ NB0_343.out _) | exact HI0.out)) : p := h
theorem d34_ {p : Prop} (h : p := by repeat (first | (with_reducible first | exact HK.out | apply KeepBut.set_ | apply keep_drewN | apply keep_drew | apply keep_alloc | refine keep_far ?_ GW343.out _ | refine keep_far ?_ GW356.out _) | exact HK.out)) : p := h
theorem d33_ {p : Prop} (h : p := by rw [hg]; exact (below_size (by repeat (first | (with_reducible first | exact HBW.out | apply below_alloc | apply pw_below_drewN | apply below_drew1) | exact HBW.out)))) : p := h
theorem d32_ {p : Prop} (h : p := by repeat (first | (with_reducible first | exact HK.out | apply KeepBut.set_ | apply keep_drewN | apply keep_drew | apply keep_alloc | refine keep_far ?_ GW361.out _) | exact HK.out)) : p := h
theorem d31_ {p : Prop} (h : p := by repeat (first | (with_reducible first | exact HK.out | apply KeepBut.set_ | apply keep_drewN | apply keep_drew | apply keep_alloc | refine keep_far ?_ GW603.out _) | exact HK.out)) : p := h
theorem d30_ {p : Prop} (h : p := by rw [hg]; exact (below_size (have := GeI.mk (IsS102.ge HI659.out); bw_ HB.out))) : p := h
theorem d29_ {p : Prop} (h : p := by repeat (first | (with_reducible first | exact HI0.out | apply IsS102.alloc | apply IsS102.drewN | apply IsS102.drew | apply IsS102.set_1 | apply IsS102.set_2 | refine IsS102.far ?_ NB0_423.out _) | exact HI0.out)) : p := h
theorem d28_ {p : Prop} (h : p := by repeat (first | (with_reducible first | exact HI0.out | apply IsS102.alloc | apply IsS102.drewN | apply IsS102.drew | apply IsS102.set_1 | apply IsS102.set_2 | refine IsS102.far ?_ NB0_361.out _ | refine IsS102.far ?_ NB0_365.out _) | exact HI0.out)) : p := h
theorem d27_ {p : Prop} (h : p := by repeat (first | exact fun _ h => absurd h List.not_mem_nil | refine List.forall_mem_cons.2 ⟨rfl, ?_⟩)) : p := h
theorem d26_ {p : Prop} (h : p := by refine bk_ ?_; refine blk_far ?_ NB717_761.out _; refine bk_ ?_; refine blk_far ?_ NB717_761.out _; refine bk_ ?_; refine blk_far ?_ NB717_760.out _; refine bk_ ?_; refine blk_far ?_ NB717_760.out _; refine bk_ ?_; refine blk_far ?_ NB717_760.out _; refine bk_ ?_; refine blk_far ?_ NB717_760.out _; refine bk_ ?_; refine blk_far ?_ NB717_760.out _; refine bk_ ?_; refine blk_far ?_ NB717_760.out _; refine bk_ ?_; refine blk_far ?_ NB717_760.out _; refine bk_ ?_; refine blk_far ?_ NB717_760.out _; refine bk_ ?_; refine blk_far ?_ NB717_760.out _; refine bk_ ?_; exact BK717.out) : p := h
theorem d25_ {p : Prop} (h : p := by refine bk_ ?_; refine blk_far ?_ NB738_761.out _; refine bk_ ?_; refine blk_far ?_ NB738_761.out _; refine bk_ ?_; refine blk_far ?_ NB738_760.out _; refine bk_ ?_; refine blk_far ?_ NB738_760.out _; refine bk_ ?_; refine blk_far ?_ NB738_760.out _; refine bk_ ?_; refine blk_far ?_ NB738_760.out _; refine bk_ ?_; refine blk_far ?_ NB738_760.out _; refine bk_ ?_; refine blk_far ?_ NB738_760.out _; refine bk_ ?_; refine blk_far ?_ NB738_760.out _; refine bk_ ?_; refine blk_far ?_ NB738_760.out _; refine bk_ ?_; refine blk_far ?_ NB738_760.out _; refine bk_ ?_; exact BK738.out) : p := h
theorem d24_ {p : Prop} (h : p := by refine bk_ ?_; refine blk_far ?_ NB739_761.out _; refine bk_ ?_; refine blk_far ?_ NB739_761.out _; refine bk_ ?_; refine blk_far ?_ NB739_760.out _; refine bk_ ?_; refine blk_far ?_ NB739_760.out _; refine bk_ ?_; refine blk_far ?_ NB739_760.out _; refine bk_ ?_; refine blk_far ?_ NB739_760.out _; refine bk_ ?_; refine blk_far ?_ NB739_760.out _; refine bk_ ?_; refine blk_far ?_ NB739_760.out _; refine bk_ ?_; refine blk_far ?_ NB739_760.out _; refine bk_ ?_; refine blk_far ?_ NB739_760.out _; refine bk_ ?_; refine blk_far ?_ NB739_760.out _; refine bk_ ?_; exact BK739.out) : p := h
theorem d23_ {p : Prop} (h : p := by repeat (first | (with_reducible first | exact HI0.out | apply IsS102.alloc | apply IsS102.drewN | apply IsS102.drew | apply IsS102.set_1 | apply IsS102.set_2 | refine IsS102.far ?_ NB0_423.out _ | refine IsS102.far ?_ NB0_458.out _) | exact HI0.out)) : p := h
theorem d22_ {p : Prop} (h : p := by repeat (first | (with_reducible first | exact HI0.out | apply IsS102.alloc | apply IsS102.drewN | apply IsS102.drew | apply IsS102.set_1 | apply IsS102.set_2 | refine IsS102.far ?_ NB0_603.out _ | refine IsS102.far ?_ NB0_614.out _) | exact HI0.out)) : p := h
theorem d21_ {p : Prop} (h : p := by repeat (first | (with_reducible first | exact HI0.out | apply IsS102.alloc | apply IsS102.drewN | apply IsS102.drew | apply IsS102.set_1 | apply IsS102.set_2 | refine IsS102.far ?_ NB0_542.out _) | exact HI0.out)) : p := h
theorem d20_ {p : Prop} (h : p := by refine bk_ ?_; refine blk_put (cs := #[.int .i64 t757, .int .i64 0]) ?_ 1 _ rfl; refine bk_ ?_; refine blk_put (cs := #[.int .i64 0, .int .i64 0]) ?_ 0 _ rfl; refine bk_ ?_; refine blk_far ?_ NB761_760.out _; refine bk_ ?_; refine blk_far ?_ NB761_760.out _; refine bk_ ?_; refine blk_far ?_ NB761_760.out _; refine bk_ ?_; refine blk_far ?_ NB761_760.out _; refine bk_ ?_; refine blk_far ?_ NB761_760.out _; refine bk_ ?_; refine blk_far ?_ NB761_760.out _; refine bk_ ?_; refine blk_far ?_ NB761_760.out _; refine bk_ ?_; refine blk_far ?_ NB761_760.out _; refine bk_ ?_; refine blk_far ?_ NB761_760.out _; refine bk_ ?_; exact BK761.out) : p := h
theorem d19_ {p : Prop} (h : p := by repeat (first | (with_reducible first | exact HK.out | apply KeepBut.set_ | apply keep_drewN | apply keep_drew | apply keep_alloc | refine keep_far ?_ GW343.out _) | exact HK.out)) : p := h
theorem d18_ {p : Prop} (h : p := by repeat (first | (with_reducible first | exact HI0.out | apply IsS102.alloc | apply IsS102.drewN | apply IsS102.drew | apply IsS102.set_1 | apply IsS102.set_2 | refine IsS102.far ?_ NB0_542.out _ | refine IsS102.far ?_ NB0_562.out _) | exact HI0.out)) : p := h
theorem d17_ {p : Prop} (h : p := by rw [hg]; exact Nat.ne_of_gt (IsS102.lt (show IsS102 w0 _ g s0_0 t560 t561 from by repeat (first | (with_reducible first | exact HI0.out | apply IsS102.alloc | apply IsS102.drewN | apply IsS102.drew | apply IsS102.set_1 | apply IsS102.set_2 | refine IsS102.far ?_ NB0_542.out _) | exact HI0.out)))) : p := h
theorem d16_ {p : Prop} (h : p := by rw [hg]; exact Nat.ne_of_lt (IsS102.lt (show IsS102 w0 _ g s0_0 t560 t561 from by repeat (first | (with_reducible first | exact HI0.out | apply IsS102.alloc | apply IsS102.drewN | apply IsS102.drew | apply IsS102.set_1 | apply IsS102.set_2 | refine IsS102.far ?_ NB0_542.out _) | exact HI0.out)))) : p := h
theorem d15_ {p : Prop} (h : p := by have := S.out; omega) : p := h
theorem d14_ {p : Prop} (h : p := by repeat (first | (with_reducible first | exact HK.out | apply KeepBut.set_ | apply keep_drewN | apply keep_drew | apply keep_alloc | refine keep_far ?_ GW361.out _ | refine keep_far ?_ GW365.out _) | exact HK.out)) : p := h
theorem d13_ {p : Prop} (h : p := by rw [hg]; exact Nat.ne_of_gt (IsS102.lt (show IsS102 w0 _ g s0_0 s0_1 s0_2 from by repeat (first | (with_reducible first | exact HI0.out | apply IsS102.alloc | apply IsS102.drewN | apply IsS102.drew | apply IsS102.set_1 | apply IsS102.set_2) | exact HI0.out)))) : p := h
theorem d12_ {p : Prop} (h : p := by rw [hg]; exact Nat.ne_of_lt (IsS102.lt (show IsS102 w0 _ g s0_0 s0_1 s0_2 from by repeat (first | (with_reducible first | exact HI0.out | apply IsS102.alloc | apply IsS102.drewN | apply IsS102.drew | apply IsS102.set_1 | apply IsS102.set_2) | exact HI0.out)))) : p := h
theorem d11_ {p : Prop} (h : p := by repeat (first | (with_reducible first | exact HI0.out | apply IsS102.alloc | apply IsS102.drewN | apply IsS102.drew | apply IsS102.set_1 | apply IsS102.set_2) | exact HI0.out)) : p := h
theorem d10_ {p : Prop} (h : p := by repeat (first | (with_reducible first | exact HK.out | apply KeepBut.set_ | apply keep_drewN | apply keep_drew | apply keep_alloc | refine keep_far ?_ GW423.out _) | exact HK.out)) : p := h
theorem d9_ {p : Prop} (h : p := by (try simp only [List.map_toArray, List.map_cons, List.map_nil]); first | done | rfl | (simp only [List.length_drop, List.length_take]; rfl)) : p := h
theorem d8_ {p : Prop} (h : p := by first | (with_reducible assumption) | assumption) : p := h
theorem d7_ {p : Prop} (h : p := by refine bk_ ?_; refine blk_far ?_ NB542_562.out _; refine bk_ ?_; refine blk_far ?_ NB542_562.out _; refine bk_ ?_; refine blk_far ?_ NB542_562.out _; refine bk_ ?_; refine blk_far ?_ NB542_562.out _; refine bk_ ?_; refine blk_far ?_ NB542_562.out _; refine bk_ ?_; refine blk_far ?_ NB542_562.out _; refine bk_ ?_; refine blk_far ?_ NB542_562.out _; refine bk_ ?_; refine blk_far ?_ NB542_562.out _; refine bk_ ?_; refine blk_far ?_ NB542_562.out _; refine bk_ ?_; exact BK542.out) : p := h
theorem d6_ {p : Prop} (h : p := by first | rfl | (simp; done) | (simp [*]; done) | (simp [wrap64]; done)) : p := h
theorem d5_ {p : Prop} (h : p := by rw [hg]; exact (below_size (bw_ HB.out))) : p := h
theorem d4_ {p : Prop} (h : p := by repeat (first | (with_reducible first | exact HK.out | apply KeepBut.set_ | apply keep_drewN | apply keep_drew | apply keep_alloc | refine keep_far ?_ GW603.out _ | refine keep_far ?_ GW614.out _) | exact HK.out)) : p := h
theorem d3_ {p : Prop} (h : p := by repeat (first | (with_reducible first | exact HK.out | apply KeepBut.set_ | apply keep_drewN | apply keep_drew | apply keep_alloc | refine keep_far ?_ GW423.out _ | refine keep_far ?_ GW458.out _) | exact HK.out)) : p := h
theorem d2_ {p : Prop} (h : p := by repeat (first | (with_reducible first | exact HK.out | apply KeepBut.set_ | apply keep_drewN | apply keep_drew | apply keep_alloc | refine keep_far ?_ GW542.out _ | refine keep_far ?_ GW562.out _) | exact HK.out)) : p := h
theorem d1_ {p : Prop} (h : p := by repeat (first | (with_reducible first | exact HK.out | apply KeepBut.set_ | apply keep_drewN | apply keep_drew | apply keep_alloc) | exact HK.out)) : p := h
theorem d0_ {p : Prop} (h : p := by repeat (first | (with_reducible first | exact HK.out | apply KeepBut.set_ | apply keep_drewN | apply keep_drew | apply keep_alloc | refine keep_far ?_ GW542.out _) | exact HK.out)) : p := h
/-- a leaf's answer told by itself, ahead of what is said of its world. -/
theorem rt_ {p q : Prop} (h : q) (k : p := by first | rfl | (simp [errW_none, errW_some] <;> rfl) | (simp [*, errW_none, errW_some] <;> rfl)) : p ∧ q := ⟨k, h⟩
def errW : Option Int → Value
 | none => .nilIface
 | some c => .iface 0 (.int .i64 c)
theorem errW_none : errW none = .nilIface := rfl
theorem errW_some (c : Int) : errW (some c) = .iface 0 (.int .i64 c) := rfl

theorem info3 : (Try.prog.info? 3).map (fun i => (i.zero, i.size, i.bytes)) = some (some (.int .i64 0), 1, 8) := by kernel_rfl
-- the values' own types

end Go.Proofs.Ytiagbfilffbljaa.PFnStored
