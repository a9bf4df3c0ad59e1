/- Proved: the law FnExactWorth, as a plain function, answers true for each term, rows of words and names; no further conditions. -/
import Derived.Test.YtcpnhlhigpgonaaPFnExactWorthx1
import Derived.Test.YtcpnhlhigpgonaaPFnExactWorthx2
import Derived.Test.YtcpnhlhigpgonaaPFnExactWorthx3
import Derived.Test.YtcpnhlhigpgonaaPFnExactWorthx4
import Derived.Test.YtcpnhlhigpgonaaPFnExactWorthx5
import Derived.Test.YtcpnhlhigpgonaaPFnExactWorthx6
import Derived.Test.YtcpnhlhigpgonaaPFnExactWorthx7
import Derived.Test.YtcpnhlhigpgonaaPFnExactWorthx8
import Derived.Test.YtcpnhlhigpgonaaPFnExactWorthx9
import Derived.Test.YtcpnhlhigpgonaaPFnExactWorthx10
import Derived.Test.YtcpnhlhigpgonaaVCFnExactWorth
namespace Go.Proofs.Ytcpnhlhigpgonaa.Pure
open Go.RowKit Go.Proofs.Ytcpnhlhigpgonaa.PFnExactWorth Go.Proofs.YtcpnhlhigpgonaaW.PrintWords Go.Proofs.YtcpnhlhigpgonaaW.PrintLast Go.Proofs.Ytcpnhlhigpgonaa.Common
set_option linter.unusedVariables false
set_option linter.unusedSimpArgs false
/-- a tree that comes in: its numbers are ints, its texts and rows are no longer than any. -/
inductive GoodT : S24 → Prop
  | mk (x : S24) (h0 : (Lit.int .i64 x.f0).wf = true) (h1 : (Lit.int .i64 x.f1).wf = true) (h2 : x.f2.size ≤ maxLen) (h3 : x.f3.length ≤ maxLen) (h : ∀ y ∈ x.f3, GoodT y) : GoodT x
/-- a tree that is no wider than the laws look at, and whose rows' lengths are told. -/
inductive SmallS : S24 → Prop
  | mk (x : S24) (h2 : x.f2.size ≤ 1048576) (h3 : x.f3.length ≤ 1048576) (h : ∀ y ∈ x.f3, SmallS y) : SmallS x
inductive Small : S29 → Prop
  | mk (x : S29) (h2 : x.f2.size ≤ 1048576) (h3 : x.f3.length ≤ 1048576) (h : ∀ y ∈ x.f3, Small y) : Small x
theorem rdE_in (l : List S24) (i : Nat) (h : i < l.length) : rd_T24 l (i : Int) ∈ l := by
  have : rd_T24 l (i : Int) = l[i] := by simp [rd_T24, List.getD_eq_getElem?_getD, h]
  rw [this]; exact List.getElem_mem h
theorem rdI_in (l : List S29) (i : Nat) (h : i < l.length) : rd_T29 l (i : Int) ∈ l := by
  have : rd_T29 l (i : Int) = l[i] := by simp [rd_T29, List.getD_eq_getElem?_getD, h]
  rw [this]; exact List.getElem_mem h
theorem rdI_at (l : List S29) (i : Nat) (h : i < l.length) : rd_T29 l (i : Int) = l[i] := by simp [rd_T29, List.getD_eq_getElem?_getD, h]
theorem Ev.none_step {α : Type} {g f : Nat → Option α} {r : α} (h : ∀ k, g (k + 1) = f k) (k : Ev f r) : Ev g r := Ev.step h k
/-- two results of one function are one. -/
theorem Ev.one {α : Type} {g : Nat → Option α} {r q : α} (h : Ev g r) (k : Ev g q) : r = q := by
  obtain ⟨K, h⟩ := h; obtain ⟨L, k⟩ := k
  have a := h (K + L) (by omega); have b := k (K + L) (by omega)
  rw [a] at b; exact Option.some.inj b
/-- what the size tells: below nothing it is too large; else it is small, and so is what is left. -/
def SzT (x : S24) : Prop := ∀ a : Int, 0 ≤ a → a ≤ 1048576 → ∃ r, Ev (fun k => laws_szExpr.f k x.f0 x.f1 x.f2 x.f3 a) r ∧ (r < 0 ∨ (0 ≤ r ∧ r ≤ a ∧ SmallS x))
theorem szExprS_l0 (l : List S24) (hl : l.length ≤ 1048576) (h : ∀ x ∈ l, SzT x) : ∀ (d i : Nat) (a : Int), l.length - i = d → i ≤ l.length → 0 ≤ a → a ≤ 1048576 →
    ∃ r, Ev (fun k => laws_szExprS.l0 k l a (i : Int)) r ∧ (r < 0 ∨ (0 ≤ r ∧ r ≤ a ∧ ∀ j, i ≤ j → ∀ hj : j < l.length, SmallS l[j])) := by
  intro d
  induction d with
  | zero =>
    intro i a hd hi h0 h1
    refine ⟨a, Ev.step (f := fun _ => some a) (fun k => ?_) (Ev.now a), .inr ⟨h0, by omega, fun j hj hj' => by omega⟩⟩
    simp only [laws_szExprS.l0]; rw [if_neg (by omega)]
  | succ d ih =>
    intro i a hd hi h0 h1
    have hlt : i < l.length := by omega
    have hx : rd_T24 l (i : Int) = l[i] := by simp [rd_T24, List.getD_eq_getElem?_getD, hlt]
    obtain ⟨r, hr, hc⟩ := h _ (rdE_in l i hlt) a h0 h1
    by_cases hn : r < 0
    · refine ⟨-1, ?_, .inl (by omega)⟩
      refine Ev.step (f := fun k => (laws_szExpr.f k (rd_T24 l (i : Int)).f0 (rd_T24 l (i : Int)).f1 (rd_T24 l (i : Int)).f2 (rd_T24 l (i : Int)).f3 a).bind fun t => if t < 0 then some (-1) else laws_szExprS.l0 k l t (wrap64 ((i : Int) + 1))) (fun k => ?_) (Ev.bind hr ?_)
      · simp only [laws_szExprS.l0]; rw [if_pos (by omega), if_pos (by omega)]
      · refine Ev.congr (f := fun _ => some (-1)) (fun k => ?_) (Ev.now _)
        rw [if_pos hn]
    · obtain ⟨p0, p1, p2⟩ := hc.resolve_left hn
      obtain ⟨q, hq, hqc⟩ := ih (i + 1) r (by omega) (by omega) p0 (by omega)
      refine ⟨q, ?_, ?_⟩
      · refine Ev.step (f := fun k => (laws_szExpr.f k (rd_T24 l (i : Int)).f0 (rd_T24 l (i : Int)).f1 (rd_T24 l (i : Int)).f2 (rd_T24 l (i : Int)).f3 a).bind fun t => if t < 0 then some (-1) else laws_szExprS.l0 k l t (wrap64 ((i : Int) + 1))) (fun k => ?_) (Ev.bind hr ?_)
        · simp only [laws_szExprS.l0]; rw [if_pos (by omega), if_pos (by omega)]
        · refine Ev.congr (f := fun k => laws_szExprS.l0 k l r ((i + 1 : Nat) : Int)) (fun k => ?_) hq
          rw [if_neg hn, w64 (x := (i : Int) + 1) (by omega) (by omega)]; rfl
      · rcases hqc with hq' | ⟨q0, q1, q2⟩
        · exact .inl hq'
        · refine .inr ⟨q0, by omega, fun j hj hj' => ?_⟩
          by_cases e : i = j
          · subst e; rw [← hx]; exact p2
          · exact q2 j (by omega) hj'
theorem szExpr_ok (x : S24) (g : GoodT x) : SzT x := by
  induction g with
  | mk x h0 h1 h2 h3 h ih =>
    intro a a0 a1
    have hm : maxLen = 9223372036854775807 := rfl
    have w1 : wrap64 (a - (x.f2.size : Int)) = a - x.f2.size := w64 (by omega) (by omega)
    by_cases c : a - (x.f2.size : Int) < 0
    · refine ⟨-1, Ev.step (f := fun _ => some (-1)) (fun k => ?_) (Ev.now _), .inl (by omega)⟩
      simp only [laws_szExpr.f, w1]; rw [if_pos c]
    have w2 : wrap64 (a - (x.f2.size : Int) - (x.f3.length : Int)) = a - x.f2.size - x.f3.length := w64 (by omega) (by omega)
    have st : ∀ (q : Int), Ev (fun k => laws_szExprS.f k x.f3 (a - x.f2.size)) q → Ev (fun k => laws_szExpr.f k x.f0 x.f1 x.f2 x.f3 a) (if q < 0 then -1 else q) := by
      intro q hq
      refine Ev.step (f := fun k => (laws_szExprS.f k x.f3 (a - x.f2.size)).bind fun t => if t < 0 then some (-1) else some t) (fun k => ?_) (Ev.bind hq ?_)
      · simp only [laws_szExpr.f, w1]; rw [if_neg c]
      · refine Ev.congr (f := fun _ => some (if q < 0 then -1 else q)) (fun k => ?_) (Ev.now _)
        by_cases e : q < 0
        · rw [if_pos e, if_pos e]
        · rw [if_neg e, if_neg e]
    by_cases c2 : a - (x.f2.size : Int) - (x.f3.length : Int) < 0
    · refine ⟨-1, ?_, .inl (by omega)⟩
      have := st (-1) (Ev.step (f := fun _ => some (-1)) (fun k => by simp only [laws_szExprS.f, w2]; rw [if_pos c2]) (Ev.now _))
      exact this
    · obtain ⟨r, hr, hc⟩ := szExprS_l0 x.f3 (by omega) ih x.f3.length 0 (a - x.f2.size - x.f3.length) (by omega) (by omega) (by omega) (by omega)
      have hs := st r (Ev.step (f := fun k => laws_szExprS.l0 k x.f3 (a - x.f2.size - x.f3.length) ((0 : Nat) : Int)) (fun k => by simp only [laws_szExprS.f, w2]; rw [if_neg c2]; rfl) hr)
      refine ⟨_, hs, ?_⟩
      rcases hc with hn | ⟨r0, r1, r2⟩
      · rw [if_pos hn]; exact .inl (by omega)
      · rw [if_neg (by omega)]
        refine .inr ⟨r0, by omega, SmallS.mk x (by omega) (by omega) (fun y hy => ?_)⟩
        obtain ⟨j, hj, e⟩ := List.getElem_of_mem hy
        rw [← e]; exact r2 j (by omega) hj
/-- the copy: there is one, it is small, and it is always the same. -/
def ToT (x : S24) : Prop := ∃ y : S29, Ev (fun k => laws_toExpr.f k x.f0 x.f1 x.f2 x.f3) (y.f0, y.f1, y.f2, y.f3) ∧ Small y
theorem toExprS_l0 (l : List S24) (hl : l.length ≤ 1048576) (h : ∀ x ∈ l, ToT x) : ∀ (d i : Nat) (z : List S29), l.length - i = d → i ≤ l.length → z.length = l.length → (∀ j, j < i → ∀ hj : j < z.length, Small z[j]) →
    ∃ r, Ev (fun k => laws_toExprS.l0 k l z (i : Int)) r ∧ r.length = l.length ∧ ∀ j, ∀ hj : j < r.length, Small r[j] := by
  intro d
  induction d with
  | zero =>
    intro i z hd hi hz hs
    refine ⟨z, Ev.step (f := fun _ => some z) (fun k => ?_) (Ev.now z), hz, fun j hj => hs j (by omega) hj⟩
    simp only [laws_toExprS.l0]; rw [if_neg (by omega)]
  | succ d ih =>
    intro i z hd hi hz hs
    have hlt : i < l.length := by omega
    obtain ⟨y, hy, sy⟩ := h _ (rdE_in l i hlt)
    obtain ⟨r, hr, hrl, hrs⟩ := ih (i + 1) (z.set i (⟨y.f0, y.f1, y.f2, y.f3⟩ : S29)) (by omega) (by omega) (by simpa using hz) (fun j hj hj' => by
      rw [List.getElem_set]
      split
      · have e : (⟨y.f0, y.f1, y.f2, y.f3⟩ : S29) = y := by cases y; rfl
        rw [e]; exact sy
      · exact hs j (by omega) (by simpa using hj'))
    refine ⟨r, ?_, hrl, hrs⟩
    refine Ev.step (f := fun k => (laws_toExpr.f k (rd_T24 l (i : Int)).f0 (rd_T24 l (i : Int)).f1 (rd_T24 l (i : Int)).f2 (rd_T24 l (i : Int)).f3).bind fun bt => if (i : Int) < (z.length : Int) then laws_toExprS.l0 k l (z.set (i : Int).toNat (⟨bt.1, bt.2.1, bt.2.2.1, bt.2.2.2⟩ : S29)) (wrap64 ((i : Int) + 1)) else none) (fun k => ?_) (Ev.bind hy ?_)
    · simp only [laws_toExprS.l0]; rw [if_pos (by omega), if_pos (by omega)]
    · refine Ev.congr (f := fun k => laws_toExprS.l0 k l (z.set i (⟨y.f0, y.f1, y.f2, y.f3⟩ : S29)) ((i + 1 : Nat) : Int)) (fun k => ?_) hr
      rw [if_pos (by omega), w64 (x := (i : Int) + 1) (by omega) (by omega)]; rfl
theorem toExpr_ok (x : S24) (g : SmallS x) : ToT x := by
  induction g with
  | mk x h2 h3 h ih =>
    obtain ⟨r, hr, hrl, hrs⟩ := toExprS_l0 x.f3 h3 ih x.f3.length 0 (List.replicate x.f3.length z29) (by omega) (by omega) (by simp) (fun j hj => by omega)
    refine ⟨⟨x.f0, x.f1, x.f2, r⟩, ?_, Small.mk _ h2 (by show r.length ≤ 1048576; omega) (fun y hy => ?_)⟩
    · refine Ev.step (f := fun k => (laws_toExprS.f k x.f3).bind fun t => some (x.f0, x.f1, x.f2, t)) (fun k => by simp only [laws_toExpr.f]) (Ev.bind (a := r) ?_ (Ev.now _))
      refine Ev.step (f := fun k => laws_toExprS.l0 k x.f3 (List.replicate x.f3.length z29) ((0 : Nat) : Int)) (fun k => ?_) hr
      simp only [laws_toExprS.f]; rw [if_pos (by omega), if_pos (by omega)]; rfl
    · obtain ⟨j, hj, e⟩ := List.getElem_of_mem hy
      rw [← e]; exact hrs j hj
/-- a small tree is as itself. -/
def EqT (x : S29) : Prop := Ev (fun k => laws_eqExpr.f k x.f0 x.f1 x.f2 x.f3 x.f0 x.f1 x.f2 x.f3) true
theorem eqExprS_l0 (l : List S29) (hl : l.length ≤ 1048576) (h : ∀ x ∈ l, EqT x) : ∀ (d i : Nat), l.length - i = d → i ≤ l.length → Ev (fun k => laws_eqExprS.l0 k l l (i : Int)) true := by
  intro d
  induction d with
  | zero =>
    intro i hd hi
    refine Ev.step (f := fun _ => some true) (fun k => ?_) (Ev.now _)
    simp only [laws_eqExprS.l0]; rw [if_neg (by omega)]
  | succ d ih =>
    intro i hd hi
    have hlt : i < l.length := by omega
    refine Ev.step (f := fun k => (laws_eqExpr.f k (rd_T29 l (i : Int)).f0 (rd_T29 l (i : Int)).f1 (rd_T29 l (i : Int)).f2 (rd_T29 l (i : Int)).f3 (rd_T29 l (i : Int)).f0 (rd_T29 l (i : Int)).f1 (rd_T29 l (i : Int)).f2 (rd_T29 l (i : Int)).f3).bind fun t => if t = true then laws_eqExprS.l0 k l l (wrap64 ((i : Int) + 1)) else some false) (fun k => ?_) (Ev.bind (h _ (rdI_in l i hlt)) ?_)
    · simp only [laws_eqExprS.l0]; rw [if_pos (by omega), if_pos (by omega), if_pos (by omega)]
    · refine Ev.congr (f := fun k => laws_eqExprS.l0 k l l ((i + 1 : Nat) : Int)) (fun k => ?_) (ih (i + 1) (by omega) (by omega))
      rw [if_pos rfl, w64 (x := (i : Int) + 1) (by omega) (by omega)]; rfl
theorem eqExpr_ok (x : S29) (g : Small x) : EqT x := by
  induction g with
  | mk x h2 h3 h ih =>
    refine Ev.step (f := fun k => (laws_eqExprS.f k x.f3 x.f3).bind fun t => if t = true then some true else some false) (fun k => ?_) (Ev.bind (a := true) ?_ (Ev.now _))
    · simp only [laws_eqExpr.f]; rw [if_pos trivial, if_pos trivial, if_pos trivial]
    · refine Ev.step (f := fun k => laws_eqExprS.l0 k x.f3 x.f3 ((0 : Nat) : Int)) (fun k => ?_) (eqExprS_l0 x.f3 h3 ih x.f3.length 0 (by omega) (by omega))
      simp only [laws_eqExprS.f]; rw [if_pos trivial]; rfl
theorem l1In_ok (a b c : Int) : spec_l1In.f a b c = some (decide (b ≤ a ∧ a ≤ c)) := by
  unfold spec_l1In.f
  by_cases h : a ≥ b
  · have h' : b ≤ a := h
    rw [if_pos h]; simp [h']
  · have h' : ¬ b ≤ a := h
    rw [if_neg h]; simp [h']
theorem within_ok (a b c : Int) : impl_within.f a b c = some (decide (b ≤ a ∧ a ≤ c)) := by
  unfold impl_within.f
  by_cases h : a ≥ b
  · have h' : b ≤ a := h
    rw [if_pos h]; simp [h']
  · have h' : ¬ b ≤ a := h
    rw [if_neg h]; simp [h']
theorem bal (s : ByteArray) : s.toList = s.data.toList := ByteArray.toList_eq s
theorem bal_length (s : ByteArray) : s.toList.length = s.size := by rw [bal, Array.length_toList]; rfl
theorem bt_b (s : ByteArray) (i : Int) : wrap64 (bt s i) = bt s i := by have := bt_range s i; exact w64 (by omega) (by omega)
/-- a loop that looks for the first place that is as asked. -/
theorem search_loop (n : Nat) (hn : n ≤ 4611686018427387904) (p : Nat → Prop) [DecidablePred p] (L : Nat → Int → Option Int)
    (hs : ∀ k (i : Nat), i < n → L (k + 1) (i : Int) = if p i then some (i : Int) else L k (wrap64 ((i : Int) + 1))) (he : ∀ k (i : Nat), ¬ i < n → L (k + 1) (i : Int) = some (-1)) :
    ∃ r : Int, Ev (fun k => L k 0) r ∧ -1 ≤ r ∧ r < n ∧ (0 ≤ r → p r.toNat) ∧ (∀ j : Nat, j < n → p j → 0 ≤ r ∧ r ≤ j) := by
  have H : ∀ (d i : Nat), n - i = d → i ≤ n → ∃ r : Int, Ev (fun k => L k (i : Int)) r ∧ -1 ≤ r ∧ r < n ∧ (0 ≤ r → p r.toNat) ∧ (∀ j : Nat, i ≤ j → j < n → p j → 0 ≤ r ∧ r ≤ j) := by
    intro d
    induction d with
    | zero =>
      intro i hd hi
      exact ⟨-1, Ev.step (f := fun _ => some (-1)) (fun k => he k i (by omega)) (Ev.now _), by omega, by omega, fun h => by omega, fun j h1 h2 => by omega⟩
    | succ d ih =>
      intro i hd hi
      by_cases hp : p i
      · exact ⟨i, Ev.step (f := fun _ => some (i : Int)) (fun k => by rw [hs k i (by omega), if_pos hp]) (Ev.now _), by omega, by omega, fun _ => by simpa using hp, fun j h1 h2 _ => by omega⟩
      · obtain ⟨r, hr, r0, r1, r2, r3⟩ := ih (i + 1) (by omega) (by omega)
        refine ⟨r, Ev.step (f := fun k => L k ((i + 1 : Nat) : Int)) (fun k => ?_) hr, r0, r1, r2, fun j h1 h2 h3 => ?_⟩
        · rw [hs k i (by omega), if_neg hp, w64 (by omega) (by omega)]; rfl
        · rcases Nat.eq_or_lt_of_le h1 with e | e
          · subst e; exact absurd h3 hp
          · exact r3 j e h2 h3
  obtain ⟨r, hr, r0, r1, r2, r3⟩ := H n 0 (by omega) (by omega)
  exact ⟨r, by simpa using hr, r0, r1, r2, fun j h1 h2 => r3 j (Nat.zero_le _) h1 h2⟩
theorem rdB (l : List ByteArray) (i : Nat) (h : i < l.length) : rdOf ByteArray.empty l (i : Int) = l[i] := by simp [rdOf, List.getD_eq_getElem?_getD, h]
/-- is a text among others? -/
def amongB (l : List ByteArray) (s : ByteArray) : Bool := l.any fun x => x.toList == s.toList
theorem l9At_ok (l : List ByteArray) (hl : l.length ≤ 1048576) (s : ByteArray) : ∃ r : Int, Ev (fun k => spec_l9At.f k l s) r ∧ -1 ≤ r ∧ r < l.length ∧ (0 ≤ r → ∀ h : r.toNat < l.length, l[r.toNat].toList = s.toList) ∧ (∀ j : Nat, ∀ h : j < l.length, l[j].toList = s.toList → 0 ≤ r ∧ r ≤ j) := by
  obtain ⟨r, hr, r0, r1, r2, r3⟩ := search_loop l.length (by omega) (fun i => ∃ h : i < l.length, l[i].toList = s.toList) (fun k i => spec_l9At.l0 k l s i) (fun k i hi => by
    simp only [spec_l9At.l0]; rw [if_pos (by omega), if_pos (by omega), rdB l i hi]
    by_cases e : l[i].toList = s.toList
    · rw [if_pos e, if_pos ⟨hi, e⟩]
    · rw [if_neg e, if_neg (fun h => e h.2)]) (fun k i hi => by simp only [spec_l9At.l0]; rw [if_neg (by omega)])
  exact ⟨r, hr, r0, r1, fun h _ => (r2 h).2, fun j hj e => r3 j hj ⟨hj, e⟩⟩
theorem placeIn_ok (l : List ByteArray) (hl : l.length ≤ 1048576) (s : ByteArray) : ∃ r : Int, Ev (fun k => impl_placeIn.f k l s) r ∧ -1 ≤ r ∧ r < l.length ∧ (0 ≤ r → ∀ h : r.toNat < l.length, l[r.toNat].toList = s.toList) ∧ (∀ j : Nat, ∀ h : j < l.length, l[j].toList = s.toList → 0 ≤ r ∧ r ≤ j) := by
  obtain ⟨r, hr, r0, r1, r2, r3⟩ := search_loop l.length (by omega) (fun i => ∃ h : i < l.length, l[i].toList = s.toList) (fun k i => impl_placeIn.l0 k s l (l.length : Int) i) (fun k i hi => by
    simp only [impl_placeIn.l0]; rw [if_pos (by omega), if_pos (by omega), if_pos (by omega), rdB l i hi]
    by_cases e : l[i].toList = s.toList
    · rw [if_pos e, if_pos ⟨hi, e⟩]
    · rw [if_neg e, if_neg (fun h => e h.2)]) (fun k i hi => by simp only [impl_placeIn.l0]; rw [if_neg (by omega)])
  exact ⟨r, hr, r0, r1, fun h _ => (r2 h).2, fun j hj e => r3 j hj ⟨hj, e⟩⟩
theorem among_iff (l : List ByteArray) (s : ByteArray) (r : Int) (h0 : -1 ≤ r) (h1 : r < l.length) (h2 : 0 ≤ r → ∀ h : r.toNat < l.length, l[r.toNat].toList = s.toList) (h3 : ∀ j : Nat, ∀ h : j < l.length, l[j].toList = s.toList → 0 ≤ r ∧ r ≤ j) : 0 ≤ r ↔ amongB l s = true := by
  unfold amongB
  rw [List.any_eq_true]
  constructor
  · intro h
    have hlt : r.toNat < l.length := by omega
    exact ⟨_, List.getElem_mem hlt, by rw [h2 h hlt]; exact beq_self_eq_true _⟩
  · rintro ⟨x, hx, e⟩
    obtain ⟨j, hj, rfl⟩ := List.getElem_of_mem hx
    exact (h3 j hj (by simpa using e)).1
def opW23 : List ByteArray := (impl_opWords.f).getD []
def regW8 : List ByteArray := (impl_regWords.f).getD []
theorem opW23_ok : impl_opWords.f = some opW23 := rfl
theorem regW8_ok : impl_regWords.f = some regW8 := rfl
theorem kept31_ok : spec_l9Kept.f = some (opW23 ++ regW8) := rfl
def keptB (s : ByteArray) : Bool := amongB (opW23 ++ regW8) s
theorem keptB_or (s : ByteArray) : keptB s = (amongB opW23 s || amongB regW8 s) := by unfold keptB amongB; rw [List.any_append]
theorem specKept_ok (s : ByteArray) : ∃ r : Int, Ev (fun k => spec_l9At.f k (opW23 ++ regW8) s) r ∧ (0 ≤ r ↔ keptB s = true) := by
  obtain ⟨r, hr, r0, r1, r2, r3⟩ := l9At_ok (opW23 ++ regW8) (by decide) s
  exact ⟨r, hr, among_iff _ _ _ r0 r1 r2 r3⟩
theorem isKept_ok (s : ByteArray) : Ev (fun k => impl_isKept.f k s) (keptB s) := by
  obtain ⟨r, hr, r0, r1, r2, r3⟩ := placeIn_ok opW23 (by decide) s
  obtain ⟨q, hq, q0, q1, q2, q3⟩ := placeIn_ok regW8 (by decide) s
  have e1 := among_iff _ _ _ r0 r1 r2 r3
  have e2 := among_iff _ _ _ q0 q1 q2 q3
  simp only [impl_isKept.f, opW23_ok, regW8_ok, Option.bind_some]
  refine Ev.bind hr ?_
  rw [keptB_or]
  by_cases h : r ≥ 0
  · refine Ev.congr (f := fun _ => some (amongB opW23 s || amongB regW8 s)) (fun k => ?_) (Ev.now _)
    rw [if_pos h, e1.1 h]; rfl
  · refine Ev.congr (f := fun k => (impl_placeIn.f k regW8 s).bind fun t => some (decide (t ≥ 0))) (fun k => by rw [if_neg h]) (Ev.bind hq ?_)
    have h1 : amongB opW23 s = false := by cases h' : amongB opW23 s with | false => rfl | true => exact absurd (e1.2 h') h
    have h2 : decide (q ≥ 0) = amongB regW8 s := by rw [Bool.eq_iff_iff, decide_eq_true_eq]; exact e2
    rw [h1, h2]; exact Ev.now _
/-- a letter; a digit -/
def smallP (c : Int) : Prop := 97 ≤ c ∧ c ≤ 122
def digitP (c : Int) : Prop := 48 ≤ c ∧ c ≤ 57
instance (c : Int) : Decidable (smallP c) := by unfold smallP; infer_instance
instance (c : Int) : Decidable (digitP c) := by unfold digitP; infer_instance
theorem l9Small_ok (s : ByteArray) (i : Int) : spec_l9Small.f (bt s i) = some (decide (smallP (bt s i))) := by unfold spec_l9Small.f; rw [bt_b, l1In_ok]; rfl
theorem l9Digit_ok (s : ByteArray) (i : Int) : spec_l9Digit.f (bt s i) = some (decide (digitP (bt s i))) := by unfold spec_l9Digit.f; rw [bt_b, l1In_ok]; rfl
theorem isLetter_ok (s : ByteArray) (i : Int) : impl_isLetter.f (bt s i) = some (decide (smallP (bt s i))) := by unfold impl_isLetter.f; rw [bt_b, within_ok]; rfl
theorem isPart_ok (s : ByteArray) (i : Int) : impl_isPart.f (bt s i) = some (decide (smallP (bt s i) ∨ digitP (bt s i))) := by
  unfold impl_isPart.f
  rw [isLetter_ok]; simp only [Option.bind_some]
  by_cases h : smallP (bt s i)
  · rw [if_pos (decide_eq_true h)]; simp [h]
  · rw [if_neg (by simpa using h), bt_b, within_ok]; simp [h, digitP]
/-- what is asked of the byte at j of a name -/
def goodAt (s : ByteArray) (j : Nat) : Prop := smallP (bt s j) ∨ (j ≠ 0 ∧ digitP (bt s j))
instance (s : ByteArray) (j : Nat) : Decidable (goodAt s j) := by unfold goodAt; infer_instance
def formB (s : ByteArray) : Bool := decide ((1 ≤ s.size ∧ s.size ≤ 6) ∧ ∀ j, j < s.size → goodAt s j)
theorem l9Form_ok (s : ByteArray) (hs : s.size ≤ 1048576) : Ev (fun k => spec_l9Form.f k s) (formB s) := by
  have H : ∀ (d i : Nat), s.size - i = d → i ≤ s.size → ∃ b : Bool, Ev (fun k => spec_l9Form.l0 k s (i : Int)) b ∧ (b = true ↔ ((1 ≤ s.size ∧ s.size ≤ 6) ∧ ∀ j, i ≤ j → j < s.size → goodAt s j)) := by
    intro d
    induction d with
    | zero =>
      intro i hd hi
      refine ⟨decide (1 ≤ (s.size : Int) ∧ (s.size : Int) ≤ 6), Ev.step (f := fun _ => some (decide (1 ≤ (s.size : Int) ∧ (s.size : Int) ≤ 6))) (fun k => ?_) (Ev.now _), ?_⟩
      · simp only [spec_l9Form.l0]; rw [if_neg (by omega), l1In_ok]; rfl
      · rw [decide_eq_true_eq]; constructor
        · intro h; exact ⟨by omega, fun j h1 h2 => by omega⟩
        · intro h; have := h.1; omega
    | succ d ih =>
      intro i hd hi
      have hlt : i < s.size := by omega
      obtain ⟨b, hb, hbi⟩ := ih (i + 1) (by omega) (by omega)
      have nxt : ∀ k, spec_l9Form.l0 k s (wrap64 ((i : Int) + 1)) = spec_l9Form.l0 k s ((i + 1 : Nat) : Int) := fun k => by rw [w64 (by omega) (by omega)]; rfl
      by_cases hg : goodAt s i
      · refine ⟨b, Ev.step (f := fun k => spec_l9Form.l0 k s ((i + 1 : Nat) : Int)) (fun k => ?_) hb, ?_⟩
        · simp only [spec_l9Form.l0, l9Small_ok, l9Digit_ok, Option.bind_some, nxt]
          rw [if_pos (by omega), if_pos (by omega)]
          rcases hg with h | ⟨h1, h2⟩
          · rw [if_pos (decide_eq_true h)]
          · by_cases h : smallP (bt s i)
            · rw [if_pos (decide_eq_true h)]
            · rw [if_neg (by simpa using h), if_neg (by omega), if_pos (decide_eq_true h2)]
        · rw [hbi]; constructor
          · intro h; refine ⟨h.1, fun j h1 h2 => ?_⟩
            rcases Nat.eq_or_lt_of_le h1 with e | e
            · subst e; exact hg
            · exact h.2 j e h2
          · intro h; exact ⟨h.1, fun j h1 h2 => h.2 j (by omega) h2⟩
      · refine ⟨false, Ev.step (f := fun _ => some false) (fun k => ?_) (Ev.now _), ?_⟩
        · simp only [spec_l9Form.l0, l9Small_ok, l9Digit_ok, Option.bind_some]
          rw [if_pos (by omega), if_pos (by omega)]
          have h1 : ¬ smallP (bt s i) := fun h => hg (.inl h)
          rw [if_neg (by simpa using h1)]
          by_cases h0 : i = 0
          · rw [if_pos (by omega)]
          · have h2 : ¬ digitP (bt s i) := fun h => hg (.inr ⟨h0, h⟩)
            rw [if_neg (by omega), if_neg (by simpa using h2)]
        · simp only [Bool.false_eq_true, false_iff]; intro h; exact hg (h.2 i (Nat.le_refl _) hlt)
  obtain ⟨b, hb, hbi⟩ := H s.size 0 (by omega) (by omega)
  have e : b = formB s := by
    unfold formB
    rw [Bool.eq_iff_iff, hbi, decide_eq_true_eq]
    exact ⟨fun h => ⟨h.1, fun j hj => h.2 j (Nat.zero_le _) hj⟩, fun h => ⟨h.1, fun j _ hj => h.2 j hj⟩⟩
  rw [← e]; unfold spec_l9Form.f; exact hb
/-- the letters and digits from a on end at e. -/
theorem runFrom_ok (s : ByteArray) (hs : s.size ≤ 1048576) (a : Nat) (ha : a ≤ s.size) : ∃ e : Nat, a ≤ e ∧ e ≤ s.size ∧ Ev (fun k => impl_runFrom.f k s (a : Int)) (s.extract a e) ∧ (∀ j, a ≤ j → j < e → smallP (bt s j) ∨ digitP (bt s j)) ∧ (e < s.size → ¬ (smallP (bt s e) ∨ digitP (bt s e))) := by
  have H : ∀ (d i : Nat), s.size - i = d → a ≤ i → i ≤ s.size → ∃ e : Nat, i ≤ e ∧ e ≤ s.size ∧ Ev (fun k => impl_runFrom.l0 k s (a : Int) (i : Int)) (s.extract a e) ∧ (∀ j, i ≤ j → j < e → smallP (bt s j) ∨ digitP (bt s j)) ∧ (e < s.size → ¬ (smallP (bt s e) ∨ digitP (bt s e))) := by
    intro d
    induction d with
    | zero =>
      intro i hd h0 hi
      refine ⟨i, Nat.le_refl _, hi, Ev.step (f := fun _ => some (s.extract a i)) (fun k => ?_) (Ev.now _), fun j h1 h2 => by omega, fun h => by omega⟩
      simp only [impl_runFrom.l0]; rw [if_neg (by omega), if_pos (by omega), if_pos (by omega), if_pos (by omega)]; rfl
    | succ d ih =>
      intro i hd h0 hi
      have hlt : i < s.size := by omega
      by_cases hp : smallP (bt s i) ∨ digitP (bt s i)
      · obtain ⟨e, e0, e1, he, e2, e3⟩ := ih (i + 1) (by omega) (by omega) (by omega)
        refine ⟨e, by omega, e1, Ev.step (f := fun k => impl_runFrom.l0 k s (a : Int) ((i + 1 : Nat) : Int)) (fun k => ?_) he, fun j h1 h2 => ?_, e3⟩
        · simp only [impl_runFrom.l0, isPart_ok, Option.bind_some]
          rw [if_pos (by omega), if_pos (by omega), if_pos (decide_eq_true hp), w64 (by omega) (by omega)]; rfl
        · rcases Nat.eq_or_lt_of_le h1 with e | e
          · subst e; exact hp
          · exact e2 j e h2
      · refine ⟨i, Nat.le_refl _, hi, Ev.step (f := fun _ => some (s.extract a i)) (fun k => ?_) (Ev.now _), fun j h1 h2 => by omega, fun _ => hp⟩
        simp only [impl_runFrom.l0, isPart_ok, Option.bind_some]
        rw [if_pos (by omega), if_pos (by omega), if_neg (by simpa using hp), if_pos (by omega), if_pos (by omega), if_pos (by omega)]; rfl
  obtain ⟨e, e0, e1, he, e2, e3⟩ := H (s.size - a) a rfl (Nat.le_refl _) ha
  exact ⟨e, e0, e1, by unfold impl_runFrom.f; exact he, e2, e3⟩
theorem extract_size (s : ByteArray) (a e : Nat) (h : e ≤ s.size) : (s.extract a e).size = e - a := by
  rw [ByteArray.size_extract]; omega
theorem extract_all (s : ByteArray) : s.extract 0 s.size = s := by
  apply ByteArray.ext; rw [ByteArray.data_extract]; show s.data.extract 0 s.data.size = s.data; exact Array.extract_size
theorem hasForm_ok (s : ByteArray) (hs : s.size ≤ 1048576) : Ev (fun k => impl_hasForm.f k s) (formB s) := by
  simp only [impl_hasForm.f, within_ok, isLetter_ok, Option.bind_some]
  by_cases h : 1 ≤ s.size ∧ s.size ≤ 6
  · obtain ⟨e, _, e1, he, e2, e3⟩ := runFrom_ok s hs 0 (Nat.zero_le _)
    by_cases h0 : smallP (bt s 0)
    · refine Ev.congr (f := fun k => (impl_runFrom.f k s 0).bind fun t => some (t.toList == s.toList)) (fun k => ?_) (Ev.bind (a := s.extract 0 e) he ?_)
      · rw [if_pos (decide_eq_true (by omega)), if_pos (by omega), if_pos (decide_eq_true h0)]
      · have : ((s.extract 0 e).toList == s.toList) = formB s := by
          unfold formB
          rw [Bool.eq_iff_iff, beq_iff_eq, decide_eq_true_eq]
          constructor
          · intro heq
            have hl := congrArg List.length heq
            rw [bal_length, bal_length, extract_size s 0 e e1] at hl
            refine ⟨h, fun j hj => ?_⟩
            by_cases hj0 : j = 0
            · subst hj0; exact .inl h0
            · rcases e2 j (Nat.zero_le _) (by omega) with q | q
              · exact .inl q
              · exact .inr ⟨hj0, q⟩
          · intro hf
            have : e = s.size := by
              rcases Nat.lt_or_ge e s.size with q | q
              · exact absurd (by rcases hf.2 e q with z | ⟨_, z⟩; exact .inl z; exact .inr z) (e3 q)
              · omega
            subst this; rw [extract_all]
        rw [this]; exact Ev.now _
    · refine Ev.congr (f := fun _ => some (formB s)) (fun k => ?_) (Ev.now _)
      have hf : formB s = false := by
        unfold formB; rw [decide_eq_false_iff_not]; intro hf
        rcases hf.2 0 (by omega) with q | ⟨q, _⟩
        · exact h0 q
        · exact q rfl
      rw [if_pos (decide_eq_true (by omega)), if_pos (by omega), if_neg (by simpa using h0), hf]
  · refine Ev.congr (f := fun _ => some (formB s)) (fun k => ?_) (Ev.now _)
    have hf : formB s = false := by unfold formB; rw [decide_eq_false_iff_not]; intro hf; exact h hf.1
    rw [if_neg (by simp; omega), hf]
def nameB (s : ByteArray) : Bool := formB s && !keptB s
theorem l9Name_ok (s : ByteArray) (hs : s.size ≤ 1048576) : Ev (fun k => spec_l9Name.f k s) (nameB s) := by
  simp only [spec_l9Name.f, kept31_ok, Option.bind_some]
  refine Ev.bind (l9Form_ok s hs) ?_
  unfold nameB
  cases formB s with
  | false => exact Ev.congr (f := fun _ => some false) (fun k => by rw [if_neg (by simp)]) (Ev.now _)
  | true =>
    obtain ⟨r, hr, hri⟩ := specKept_ok s
    refine Ev.congr (f := fun k => (spec_l9At.f k (opW23 ++ regW8) s).bind fun t => some (decide (t < 0))) (fun k => by rw [if_pos rfl]) (Ev.bind hr ?_)
    have : decide (r < 0) = (true && !keptB s) := by
      cases hk : keptB s with
      | true => have := hri.2 hk; simp; omega
      | false => have : ¬ 0 ≤ r := fun h => by rw [hri.1 h] at hk; simp at hk
                 simp; omega
    rw [this]; exact Ev.now _
theorem isName_ok (s : ByteArray) (hs : s.size ≤ 1048576) : Ev (fun k => impl_isName.f k s) (nameB s) := by
  simp only [impl_isName.f]
  refine Ev.bind (hasForm_ok s hs) ?_
  unfold nameB
  cases formB s with
  | false => exact Ev.congr (f := fun _ => some false) (fun k => by rw [if_neg (by simp)]) (Ev.now _)
  | true => exact Ev.congr (f := fun k => (impl_isKept.f k s).bind fun t => some (!t)) (fun k => by rw [if_pos rfl]) (Ev.bind (isKept_ok s) (Ev.now _))
/-- is a term's own part right? -/
def hereB (K N : Int) (nb ne : Bool) (n : Nat) : Bool :=
  if K = 1 then decide (0 ≤ N ∧ N ≤ 65535) && !ne && decide (n = 0)
  else if K = 2 ∨ K = 12 then decide (N = 0) && nb && decide (n = 0)
  else if K = 11 then decide (0 ≤ N ∧ N ≤ 9) && !ne && decide (n = 0)
  else if K = 3 then decide (N = 0) && !ne && decide (n = 0)
  else if K = 4 then decide (N = 0) && !ne && decide (n = 1)
  else if 5 ≤ K ∧ K ≤ 10 then decide (N = 0) && !ne && decide (n = 2)
  else false
theorem kcases (K : Int) : K = 1 ∨ K = 2 ∨ K = 3 ∨ K = 4 ∨ K = 5 ∨ K = 6 ∨ K = 7 ∨ K = 8 ∨ K = 9 ∨ K = 10 ∨ K = 11 ∨ K = 12 ∨ (K ≠ 1 ∧ K ≠ 2 ∧ K ≠ 3 ∧ K ≠ 4 ∧ K ≠ 5 ∧ K ≠ 6 ∧ K ≠ 7 ∧ K ≠ 8 ∧ K ≠ 9 ∧ K ≠ 10 ∧ K ≠ 11 ∧ K ≠ 12) := by omega
theorem l10Here_ok (K N : Int) (s : ByteArray) (l : List S29) (hs : s.size ≤ 1048576) : Ev (fun k => spec_l10Here.f k K N s l) (hereB K N (nameB s) (s.toList != []) l.length) := by
  obtain ⟨K1, h1⟩ := l9Name_ok s hs
  refine ⟨K1 + 4, fun k hk => ?_⟩
  obtain ⟨m, rfl⟩ : ∃ m, k = m + 3 := ⟨k - 3, by omega⟩
  simp only [spec_l10Here.f, spec_l10Here.j0, spec_l10Here.j1, spec_l10Here.j2, h1 (m + 1) (by omega), h1 m (by omega), l1In_ok, Option.bind_some]
  generalize nameB s = nb
  generalize (s.toList != []) = ne
  generalize l.length = n
  have e : ∀ q : Nat, ((n : Int) == (q : Int)) = decide (n = q) := fun q => by rw [Bool.eq_iff_iff]; simp; omega
  have e0 := e 0; have e1 := e 1; have e2 := e 2
  simp only [Int.natCast_zero, Int.natCast_one, Int.reduceNatCast] at e0 e1 e2
  simp only [Int.cast_ofNat_Int] at e0 e1 e2
  simp only [e0, e1, e2]
  rcases kcases K with rfl | rfl | rfl | rfl | rfl | rfl | rfl | rfl | rfl | rfl | rfl | rfl | ⟨g1, g2, g3, g4, g5, g6, g7, g8, g9, g10, g11, g12⟩
  all_goals first
    | (cases nb <;> cases ne <;> by_cases hN : N = 0 <;> simp [hereB, hN] <;> done)
    | (cases nb <;> cases ne <;> by_cases hN : 0 ≤ N ∧ N ≤ 65535 <;> simp [hereB, hN] <;> done)
    | (cases nb <;> cases ne <;> by_cases hN : 0 ≤ N ∧ N ≤ 9 <;> simp [hereB, hN] <;> done)
    | (have g : ¬ (5 ≤ K ∧ K ≤ 10) := by omega
       cases nb <;> cases ne <;> by_cases hN : N = 0 <;> simp [hereB, hN, g1, g2, g3, g4, g5, g6, g7, g8, g9, g10, g11, g12, g] <;> done)
def deepPlain (K : Int) (plain : Bool) : Bool := plain && (decide (K = 11) || decide (K = 12))
/-- spec: a node that is right asks for its parts. -/
theorem l10Ok_node (K N : Int) (s : ByteArray) (l : List S29) (hs : s.size ≤ 1048576) (d : Int) (plain r : Bool) (h : hereB K N (nameB s) (s.toList != []) l.length = true → deepPlain K plain = false → d ≤ 6 → Ev (fun k => spec_l10Ok.l0 k d plain 0 K N s l) r) :
    Ev (fun k => spec_l10Ok.f k K N s l d plain) (if (hereB K N (nameB s) (s.toList != []) l.length && !deepPlain K plain && decide (d ≤ 6)) = true then r else false) := by
  have no : Ev (fun k => spec_l10Ok.j0 k d plain true K N s l) false := Ev.step (f := fun _ => some false) (fun k => by simp only [spec_l10Ok.j0]; rw [if_pos trivial]) (Ev.now _)
  by_cases hd : d > 6
  · have e : decide (d ≤ 6) = false := decide_eq_false (by omega)
    rw [e, Bool.and_false, if_neg (by simp)]
    exact Ev.step (fun k => by simp only [spec_l10Ok.f]; rw [if_pos hd]) no
  have e : decide (d ≤ 6) = true := decide_eq_true (by omega)
  rw [e, Bool.and_true]
  refine Ev.step (fun k => by simp only [spec_l10Ok.f]; rw [if_neg hd]) (Ev.bind (l10Here_ok K N s l hs) ?_)
  cases hh : hereB K N (nameB s) (s.toList != []) l.length with
  | false => rw [Bool.false_and, if_neg (by simp)]; exact Ev.congr (fun k => by rw [if_neg (by simp)]) no
  | true =>
    rw [Bool.true_and]
    cases hp : deepPlain K plain with
    | true =>
      rw [if_neg (by simp)]
      have hp' := hp
      unfold deepPlain at hp'
      simp only [Bool.and_eq_true, Bool.or_eq_true, decide_eq_true_eq] at hp'
      refine Ev.congr (f := fun k => spec_l10Ok.j0 k d plain true K N s l) (fun k => ?_) no
      rw [if_pos rfl, if_pos hp'.1]
      rcases hp'.2 with h11 | h12
      · rw [if_pos h11]
      · rw [if_neg (by omega), h12]; rfl
    | false =>
      have yes : Ev (fun k => spec_l10Ok.j0 k d plain false K N s l) r := Ev.step (fun k => by simp only [spec_l10Ok.j0]; rw [if_neg (by simp)]) (h hh hp (by omega))
      rw [Bool.not_false, if_pos rfl]
      refine Ev.congr (f := fun k => spec_l10Ok.j0 k d plain false K N s l) (fun k => ?_) yes
      rw [if_pos rfl]
      unfold deepPlain at hp
      cases plain with
      | false => rw [if_neg (by simp)]
      | true =>
        simp only [Bool.true_and, Bool.or_eq_false_iff, decide_eq_false_iff_not] at hp
        rw [if_pos rfl, if_neg hp.1, beq_eq_false_iff_ne.2 hp.2]
set_option maxHeartbeats 4000000 in
theorem termOk_node (K N : Int) (s : ByteArray) (l : List S29) (hs : s.size ≤ 1048576) (d : Int) (plain r : Bool) (h : hereB K N (nameB s) (s.toList != []) l.length = true → deepPlain K plain = false → 1 ≤ d → Ev (fun k => impl_termOk.l0 k d plain l (l.length : Int) 0) r) :
    Ev (fun k => impl_termOk.f k K N s l d plain) (if (hereB K N (nameB s) (s.toList != []) l.length && !deepPlain K plain && decide (1 ≤ d)) = true then r else false) := by
  obtain ⟨K1, h1⟩ := isName_ok s hs
  obtain ⟨K2, h2⟩ : ∃ K2, ∀ k, K2 ≤ k → hereB K N (nameB s) (s.toList != []) l.length = true → deepPlain K plain = false → 1 ≤ d → impl_termOk.l0 k d plain l (l.length : Int) 0 = some r := by
    by_cases c : hereB K N (nameB s) (s.toList != []) l.length = true ∧ deepPlain K plain = false ∧ 1 ≤ d
    · obtain ⟨K2, h2⟩ := h c.1 c.2.1 c.2.2
      exact ⟨K2, fun k hk _ _ _ => h2 k hk⟩
    · exact ⟨0, fun k _ a b e => absurd ⟨a, b, e⟩ c⟩
  clear h
  have eb : (s.toList == ([] : List UInt8)) = !(s.toList != []) := by cases s.toList <;> rfl
  have J2 : ∀ k, K2 + 3 ≤ k → ∀ (p : Int) (ok : Bool), impl_termOk.j2 k d plain p ok K N s l = (if (ok && decide (1 ≤ d) && decide ((l.length : Int) = p)) = true then impl_termOk.l0 (k - 2) d plain l (l.length : Int) 0 else some false) := by
    intro k hk p ok
    obtain ⟨k, rfl⟩ : ∃ m, k = m + 2 := ⟨k - 2, by omega⟩
    simp only [impl_termOk.j2, impl_termOk.j3, Nat.add_sub_cancel]
    cases ok with
    | false => rw [if_neg (by simp), if_pos trivial, if_neg (by simp)]
    | true =>
      simp only [if_true, Bool.true_and]
      by_cases hd : d < 1
      · simp [hd, show ¬ 1 ≤ d by omega]
      · by_cases hp : (l.length : Int) = p
        · subst hp; simp [hd, show 1 ≤ d by omega]
        · simp [hd, hp]
  refine ⟨K1 + K2 + 8, fun k hk => ?_⟩
  obtain ⟨m, rfl⟩ : ∃ m, k = m + 3 := ⟨k - 3, by omega⟩
  have L0 : (hereB K N (nameB s) (s.toList != []) l.length && !deepPlain K plain && decide (1 ≤ d)) = true → impl_termOk.l0 m d plain l (l.length : Int) 0 = some r := fun h => by
    simp only [Bool.and_eq_true, Bool.not_eq_true', decide_eq_true_eq] at h
    exact h2 m (by omega) h.1.1 h.1.2 h.2
  have L1 : (hereB K N (nameB s) (s.toList != []) l.length && !deepPlain K plain && decide (1 ≤ d)) = true → impl_termOk.l0 (m - 1) d plain l (l.length : Int) 0 = some r := fun h => by
    simp only [Bool.and_eq_true, Bool.not_eq_true', decide_eq_true_eq] at h
    exact h2 (m - 1) (by omega) h.1.1 h.1.2 h.2
  have L2 : (hereB K N (nameB s) (s.toList != []) l.length && !deepPlain K plain && decide (1 ≤ d)) = true → impl_termOk.l0 (m - 2) d plain l (l.length : Int) 0 = some r := fun h => by
    simp only [Bool.and_eq_true, Bool.not_eq_true', decide_eq_true_eq] at h
    exact h2 (m - 2) (by omega) h.1.1 h.1.2 h.2
  have eL0 : m + 2 - 2 = m := by omega
  have eL1 : m + 1 - 2 = m - 1 := by omega
  simp only [impl_termOk.f, impl_termOk.j0, impl_termOk.j1, J2 m (by omega), J2 (m + 1) (by omega), J2 (m + 2) (by omega), h1 (m + 1) (by omega), impl_isWord.f, impl_isTwo.f, within_ok, Option.bind_some, eb, eL0, eL1]
  clear J2 h1 h2 eb eL0 eL1
  generalize impl_termOk.l0 m d plain l (l.length : Int) 0 = A0 at *
  generalize impl_termOk.l0 (m - 1) d plain l (l.length : Int) 0 = A1 at *
  generalize impl_termOk.l0 (m - 2) d plain l (l.length : Int) 0 = A2 at *
  generalize nameB s = nb at *
  generalize (s.toList != []) = ne at *
  generalize l.length = n at *
  clear hk hs
  have e0 : decide ((n : Int) = 0) = decide (n = 0) := by rw [Bool.eq_iff_iff]; simp
  have e1 : decide ((n : Int) = 1) = decide (n = 1) := by rw [Bool.eq_iff_iff]; simp; omega
  have e2 : decide ((n : Int) = 2) = decide (n = 2) := by rw [Bool.eq_iff_iff]; simp; omega
  simp only [e0, e1, e2]
  clear e0 e1 e2
  generalize decide (1 ≤ d) = dd at *
  simp only [hereB, deepPlain] at *
  rcases kcases K with rfl | rfl | rfl | rfl | rfl | rfl | rfl | rfl | rfl | rfl | rfl | rfl | ⟨g1, g2, g3, g4, g5, g6, g7, g8, g9, g10, g11, g12⟩
  · by_cases hN : 0 ≤ N ∧ N ≤ 65535
    · have e := decide_eq_true hN
      simp only [e] at *; clear e hN
      by_cases z0 : n = 0 <;> cases ne <;> cases dd <;> simp_all
    · have e := decide_eq_false hN
      simp only [e] at *; clear e hN
      simp
  · by_cases hN : N = 0 <;> by_cases z0 : n = 0 <;> cases nb <;> cases dd <;> simp_all
  · by_cases hN : N = 0 <;> by_cases z0 : n = 0 <;> cases ne <;> cases dd <;> simp_all
  · by_cases hN : N = 0 <;> by_cases z1 : n = 1 <;> cases ne <;> cases dd <;> simp_all
  · by_cases hN : N = 0 <;> by_cases z2 : n = 2 <;> cases ne <;> cases dd <;> simp_all
  · by_cases hN : N = 0 <;> by_cases z2 : n = 2 <;> cases ne <;> cases dd <;> simp_all
  · by_cases hN : N = 0 <;> by_cases z2 : n = 2 <;> cases ne <;> cases dd <;> simp_all
  · by_cases hN : N = 0 <;> by_cases z2 : n = 2 <;> cases ne <;> cases dd <;> simp_all
  · by_cases hN : N = 0 <;> by_cases z2 : n = 2 <;> cases ne <;> cases dd <;> simp_all
  · by_cases hN : N = 0 <;> by_cases z2 : n = 2 <;> cases ne <;> cases dd <;> simp_all
  · by_cases hN : 0 ≤ N ∧ N ≤ 9
    · have e := decide_eq_true hN
      simp only [e] at *; clear e hN
      by_cases z0 : n = 0 <;> cases ne <;> cases dd <;> cases plain <;> simp_all
    · have e := decide_eq_false hN
      simp only [e] at *; clear e hN
      cases plain <;> simp
  · by_cases hN : N = 0 <;> by_cases z0 : n = 0 <;> cases nb <;> cases dd <;> cases plain <;> simp_all
  · have g : ¬ (5 ≤ K ∧ K ≤ 10) := by omega
    simp [g1, g2, g3, g4, g5, g6, g7, g8, g9, g10, g11, g12, g]
/-- both find the same of a small term. -/
def OkT (x : S29) : Prop := ∀ d : Int, 0 ≤ d → d ≤ 6 → ∀ plain : Bool, ∃ b, Ev (fun k => spec_l10Ok.f k x.f0 x.f1 x.f2 x.f3 (7 - d) plain) b ∧ Ev (fun k => impl_termOk.f k x.f0 x.f1 x.f2 x.f3 d plain) b
theorem okExprS (x : S29) (hx : x.f3.length ≤ 1048576) (h : ∀ z ∈ x.f3, OkT z) (d : Int) (d0 : 1 ≤ d) (d6 : d ≤ 6) (plain : Bool) : ∀ (e i : Nat), x.f3.length - i = e → i ≤ x.f3.length →
    ∃ b, Ev (fun k => spec_l10Ok.l0 k (7 - d) plain (i : Int) x.f0 x.f1 x.f2 x.f3) b ∧ Ev (fun k => impl_termOk.l0 k d plain x.f3 (x.f3.length : Int) (i : Int)) b := by
  intro e
  induction e with
  | zero =>
    intro i he hi
    refine ⟨true, Ev.step (f := fun _ => some true) (fun k => ?_) (Ev.now _), Ev.step (f := fun _ => some true) (fun k => ?_) (Ev.now _)⟩
    · simp only [spec_l10Ok.l0]; rw [if_neg (by omega)]
    · simp only [impl_termOk.l0]; rw [if_neg (by omega)]
  | succ e ih =>
    intro i he hi
    have hlt : i < x.f3.length := by omega
    have w1 : wrap64 ((i : Int) + 1) = ((i + 1 : Nat) : Int) := by rw [w64 (by omega) (by omega)]; rfl
    have w2 : wrap64 (7 - d + 1) = 7 - (d - 1) := by rw [w64 (by omega) (by omega)]; omega
    have w3 : wrap64 (d - 1) = d - 1 := w64 (by omega) (by omega)
    obtain ⟨b, hs, hi'⟩ := h _ (rdI_in x.f3 i hlt) (d - 1) (by omega) (by omega) plain
    obtain ⟨c, cs, ci⟩ := ih (i + 1) (by omega) (by omega)
    refine ⟨if b = true then c else false, ?_, ?_⟩
    · refine Ev.step (f := fun k => (spec_l10Ok.f k (rd_T29 x.f3 (i : Int)).f0 (rd_T29 x.f3 (i : Int)).f1 (rd_T29 x.f3 (i : Int)).f2 (rd_T29 x.f3 (i : Int)).f3 (7 - (d - 1)) plain).bind fun t => if t = true then spec_l10Ok.l0 k (7 - d) plain ((i + 1 : Nat) : Int) x.f0 x.f1 x.f2 x.f3 else some false) (fun k => ?_) (Ev.bind hs ?_)
      · simp only [spec_l10Ok.l0, w1, w2]; rw [if_pos (by omega), if_pos (by omega)]
      · cases b with
        | true => exact Ev.congr (fun k => by rw [if_pos rfl]) cs
        | false => exact Ev.congr (f := fun _ => some false) (fun k => by rw [if_neg (by decide)]) (Ev.now _)
    · refine Ev.step (f := fun k => (impl_termOk.f k (rd_T29 x.f3 (i : Int)).f0 (rd_T29 x.f3 (i : Int)).f1 (rd_T29 x.f3 (i : Int)).f2 (rd_T29 x.f3 (i : Int)).f3 (d - 1) plain).bind fun t => if t = true then impl_termOk.l0 k d plain x.f3 (x.f3.length : Int) ((i + 1 : Nat) : Int) else some false) (fun k => ?_) (Ev.bind hi' ?_)
      · simp only [impl_termOk.l0, w1, w3]; rw [if_pos (by omega), if_pos (by omega), if_pos (by omega)]
      · cases b with
        | true => exact Ev.congr (fun k => by rw [if_pos rfl]) ci
        | false => exact Ev.congr (f := fun _ => some false) (fun k => by rw [if_neg (by decide)]) (Ev.now _)
theorem okExpr_ok (x : S29) (g : Small x) : OkT x := by
  induction g with
  | mk x h2 h3 h ih =>
    intro d d0 d6 plain
    by_cases hd : 1 ≤ d
    · obtain ⟨b, b1, b2⟩ := okExprS x h3 ih d hd d6 plain x.f3.length 0 (by omega) (by omega)
      have e1 := l10Ok_node x.f0 x.f1 x.f2 x.f3 h2 (7 - d) plain b (fun _ _ _ => by simpa using b1)
      have e2 := termOk_node x.f0 x.f1 x.f2 x.f3 h2 d plain b (fun _ _ _ => by simpa using b2)
      rw [decide_eq_true (show 7 - d ≤ 6 by omega)] at e1
      rw [decide_eq_true hd] at e2
      exact ⟨_, e1, e2⟩
    · have e1 := l10Ok_node x.f0 x.f1 x.f2 x.f3 h2 (7 - d) plain false (fun _ _ h => by omega)
      have e2 := termOk_node x.f0 x.f1 x.f2 x.f3 h2 d plain false (fun _ _ h => absurd h hd)
      rw [decide_eq_false (show ¬ 7 - d ≤ 6 by omega)] at e1
      rw [decide_eq_false hd] at e2
      exact ⟨_, e1, e2⟩
/-- a term that is right at each node. -/
inductive WellT : S29 → Prop
  | mk (x : S29) (h0 : hereB x.f0 x.f1 (nameB x.f2) (x.f2.toList != []) x.f3.length = true) (h : ∀ y ∈ x.f3, WellT y) : WellT x
theorem okS_parts (x : S29) (hx : x.f3.length ≤ 1048576) (h : ∀ z ∈ x.f3, OkT z) (d : Int) (d0 : 1 ≤ d) (d6 : d ≤ 6) (plain : Bool) : ∀ (e i : Nat), x.f3.length - i = e → i ≤ x.f3.length →
    Ev (fun k => spec_l10Ok.l0 k (7 - d) plain (i : Int) x.f0 x.f1 x.f2 x.f3) true → ∀ j, i ≤ j → ∀ hj : j < x.f3.length, Ev (fun k => spec_l10Ok.f k x.f3[j].f0 x.f3[j].f1 x.f3[j].f2 x.f3[j].f3 (7 - (d - 1)) plain) true := by
  intro e
  induction e with
  | zero => intro i he hi _ j h1 h2; omega
  | succ e ih =>
    intro i he hi ht j h1 h2
    have hlt : i < x.f3.length := by omega
    have w1 : wrap64 ((i : Int) + 1) = ((i + 1 : Nat) : Int) := by rw [w64 (by omega) (by omega)]; rfl
    have w2 : wrap64 (7 - d + 1) = 7 - (d - 1) := by rw [w64 (by omega) (by omega)]; omega
    obtain ⟨b, hs, _⟩ := h _ (rdI_in x.f3 i hlt) (d - 1) (by omega) (by omega) plain
    obtain ⟨c, cs, _⟩ := okExprS x hx h d d0 d6 plain e (i + 1) (by omega) (by omega)
    have hv : Ev (fun k => spec_l10Ok.l0 k (7 - d) plain (i : Int) x.f0 x.f1 x.f2 x.f3) (if b = true then c else false) := by
      refine Ev.step (f := fun k => (spec_l10Ok.f k (rd_T29 x.f3 (i : Int)).f0 (rd_T29 x.f3 (i : Int)).f1 (rd_T29 x.f3 (i : Int)).f2 (rd_T29 x.f3 (i : Int)).f3 (7 - (d - 1)) plain).bind fun t => if t = true then spec_l10Ok.l0 k (7 - d) plain ((i + 1 : Nat) : Int) x.f0 x.f1 x.f2 x.f3 else some false) (fun k => ?_) (Ev.bind hs ?_)
      · simp only [spec_l10Ok.l0, w1, w2]; rw [if_pos (by omega), if_pos (by omega)]
      · cases b with
        | true => exact Ev.congr (fun k => by rw [if_pos rfl]) cs
        | false => exact Ev.congr (f := fun _ => some false) (fun k => by rw [if_neg (by decide)]) (Ev.now _)
    have hb := Ev.one hv ht
    cases b with
    | false => simp at hb
    | true =>
      rw [if_pos rfl] at hb; subst hb
      by_cases g : i = j
      · subst g; rw [rdI_at x.f3 i hlt] at hs; exact hs
      · exact ih (i + 1) (by omega) (by omega) cs j (by omega) h2
theorem okExpr_well (x : S29) (g : Small x) : ∀ d : Int, 0 ≤ d → d ≤ 6 → ∀ plain : Bool, Ev (fun k => spec_l10Ok.f k x.f0 x.f1 x.f2 x.f3 (7 - d) plain) true → WellT x := by
  induction g with
  | mk x h2 h3 h ih =>
    intro d d0 d6 plain ht
    have hk : ∀ z ∈ x.f3, OkT z := fun z hz => okExpr_ok z (h z hz)
    by_cases hd : 1 ≤ d
    · obtain ⟨b, b1, b2⟩ := okExprS x h3 hk d hd d6 plain x.f3.length 0 (by omega) (by omega)
      have e1 := l10Ok_node x.f0 x.f1 x.f2 x.f3 h2 (7 - d) plain b (fun _ _ _ => by simpa using b1)
      have e2 := Ev.one e1 ht
      have e3 : (hereB x.f0 x.f1 (nameB x.f2) (x.f2.toList != []) x.f3.length && !deepPlain x.f0 plain && decide (7 - d ≤ 6)) = true := by
        by_cases q : (hereB x.f0 x.f1 (nameB x.f2) (x.f2.toList != []) x.f3.length && !deepPlain x.f0 plain && decide (7 - d ≤ 6)) = true
        · exact q
        · rw [if_neg q] at e2; cases e2
      rw [if_pos e3] at e2; subst e2
      refine WellT.mk x (by revert e3; cases hereB x.f0 x.f1 (nameB x.f2) (x.f2.toList != []) x.f3.length <;> simp) (fun y hy => ?_)
      obtain ⟨j, hj, rfl⟩ := List.getElem_of_mem hy
      exact ih _ hy (d - 1) (by omega) (by omega) plain (okS_parts x h3 hk d hd d6 plain x.f3.length 0 (by omega) (by omega) (by simpa using b1) j (by omega) hj)
    · have e1 := l10Ok_node x.f0 x.f1 x.f2 x.f3 h2 (7 - d) plain false (fun _ _ h => by omega)
      have e2 := Ev.one e1 ht
      simp at e2
theorem toStringS_ok (l : List ByteArray) (h : l.length ≤ 17592186044416) : Ev (fun k => laws_toStringS.f k l) l := by
  refine ⟨l.length + 1, fun k hk => ?_⟩
  simp only [laws_toStringS.f]
  rw [if_pos (by omega), if_pos (by omega)]
  exact copy_loop ByteArray.empty l (by omega) (fun k z i => laws_toStringS.l0 k l z i) (fun _ _ _ => rfl) k _ (by simp) (by omega)
theorem eqStringS_self (l : List ByteArray) (h : l.length ≤ 4611686018427387904) : Ev (fun k => laws_eqStringS.f k l l) true := by
  refine ⟨l.length + 1, fun k hk => ?_⟩
  simp only [laws_eqStringS.f]
  rw [if_pos trivial]
  obtain ⟨b, hb, hbi⟩ := all_loop (fun a b : ByteArray => a.toList = b.toList) ByteArray.empty l l rfl h (fun k i => laws_eqStringS.l0 k l l i) (fun _ _ => rfl) k (by omega)
  rw [hbi.2 (fun _ _ => rfl)] at hb
  exact hb
/-- what the size of texts tells: below nothing they are too wide. -/
theorem szStringS_l0 (l : List ByteArray) (hl : l.length ≤ 1048576) (hs : ∀ x ∈ l, x.size ≤ maxLen) : ∀ (d i : Nat) (a : Int), l.length - i = d → i ≤ l.length → 0 ≤ a → a ≤ 1048576 →
    ∃ r, Ev (fun k => laws_szStringS.l0 k l a (i : Int)) r ∧ (r < 0 ∨ (0 ≤ r ∧ r ≤ a ∧ ∀ j, i ≤ j → ∀ hj : j < l.length, l[j].size ≤ 1048576)) := by
  intro d
  induction d with
  | zero =>
    intro i a hd hi h0 h1
    refine ⟨a, Ev.step (f := fun _ => some a) (fun k => ?_) (Ev.now a), .inr ⟨h0, by omega, fun j hj hj' => by omega⟩⟩
    simp only [laws_szStringS.l0]; rw [if_neg (by omega)]
  | succ d ih =>
    intro i a hd hi h0 h1
    have hlt : i < l.length := by omega
    have hx := rdB l i hlt
    have hm : maxLen = 9223372036854775807 := rfl
    have hz := hs _ (List.getElem_mem hlt)
    have w1 : wrap64 (a - (l[i].size : Int)) = a - l[i].size := w64 (by omega) (by omega)
    by_cases c : a - (l[i].size : Int) < 0
    · refine ⟨-1, Ev.step (f := fun _ => some (-1)) (fun k => ?_) (Ev.now _), .inl (by omega)⟩
      simp only [laws_szStringS.l0, hx, w1]; rw [if_pos (by omega), if_pos (by omega), if_pos c]
    · obtain ⟨r, hr, hc⟩ := ih (i + 1) (a - l[i].size) (by omega) (by omega) (by omega) (by omega)
      refine ⟨r, Ev.step (f := fun k => laws_szStringS.l0 k l (a - l[i].size) ((i + 1 : Nat) : Int)) (fun k => ?_) hr, ?_⟩
      · simp only [laws_szStringS.l0, hx, w1]; rw [if_pos (by omega), if_pos (by omega), if_neg c, w64 (x := (i : Int) + 1) (by omega) (by omega)]; rfl
      · rcases hc with hn | ⟨q0, q1, q2⟩
        · exact .inl hn
        · refine .inr ⟨q0, by omega, fun j hj hj' => ?_⟩
          by_cases e : i = j
          · subst e; omega
          · exact q2 j (by omega) hj'
theorem szStringS_ok (l : List ByteArray) (hl : l.length ≤ maxLen) (hs : ∀ x ∈ l, x.size ≤ maxLen) (a : Int) (h0 : 0 ≤ a) (h1 : a ≤ 1048576) :
    ∃ r, Ev (fun k => laws_szStringS.f k l a) r ∧ (r < 0 ∨ (0 ≤ r ∧ r ≤ a ∧ l.length ≤ 1048576 ∧ ∀ x ∈ l, x.size ≤ 1048576)) := by
  have hm : maxLen = 9223372036854775807 := rfl
  have w1 : wrap64 (a - (l.length : Int)) = a - l.length := w64 (by omega) (by omega)
  by_cases c : a - (l.length : Int) < 0
  · refine ⟨-1, Ev.congr (f := fun _ => some (-1)) (fun k => ?_) (Ev.now _), .inl (by omega)⟩
    simp only [laws_szStringS.f, w1]; rw [if_pos c]
  · obtain ⟨r, hr, hc⟩ := szStringS_l0 l (by omega) hs l.length 0 (a - l.length) (by omega) (by omega) (by omega) (by omega)
    refine ⟨r, Ev.congr (f := fun k => laws_szStringS.l0 k l (a - l.length) ((0 : Nat) : Int)) (fun k => ?_) hr, ?_⟩
    · simp only [laws_szStringS.f, w1]; rw [if_neg c]; rfl
    · rcases hc with hn | ⟨q0, q1, q2⟩
      · exact .inl hn
      · refine .inr ⟨q0, by omega, by omega, fun x hx => ?_⟩
        obtain ⟨j, hj, e⟩ := List.getElem_of_mem hx
        rw [← e]; exact q2 j (by omega) hj
theorem toIntS_ok (l : List Int) (h : l.length ≤ 35184372088832) (k : Nat) (hk : l.length < k) : laws_toIntS.f k l = some l := by
  unfold laws_toIntS.f
  rw [if_pos (by omega), if_pos (by omega)]
  exact copy_loop 0 l (by omega) (fun k z i => laws_toIntS.l0 k l z i) (fun _ _ _ => rfl) k _ (by simp) hk
theorem eqIntS_ok (a b : List Int) (h : a.length ≤ 4611686018427387904) (k : Nat) (hk : a.length < k) : laws_eqIntS.f k a b = some (decide (a = b)) := by
  unfold laws_eqIntS.f
  by_cases e : (a.length : Int) = (b.length : Int)
  · rw [if_pos e]; exact eq_loop 0 a b (by omega) h (fun k x => laws_eqIntS.l0 k a b x) (fun _ _ => rfl) k hk
  · rw [if_neg e]; congr 1; symm; rw [decide_eq_false_iff_not]; intro h; subst h; exact e rfl
theorem eqIntS_self (a : List Int) (h : a.length ≤ 4611686018427387904) (k : Nat) (hk : a.length < k) : laws_eqIntS.f k a a = some true := by
  rw [eqIntS_ok a a h k hk]; simp
theorem Ev.yes {α : Type} {f g : Nat → Option α} {r : α} (h : Ev f r) : Ev (fun k => if true = true then f k else g k) r := Ev.congr (fun k => if_pos rfl) h
theorem two_same (K a b : Int) : impl_compute.f K a b = spec_l11Two.f K a b := rfl
theorem two_ok (K a b : Int) : ∃ r : Int × Bool, spec_l11Two.f K a b = some r ∧ (r.2 = false → r.1 = 0) := by
  unfold spec_l11Two.f
  simp only [spec_Wrap.f, Option.bind_some]
  repeat' split
  all_goals exact ⟨_, rfl, by simp⟩
def WorthT (l1 : List Int) (l2 : List ByteArray) (l3 : List Int) (x : S29) : Prop := ∃ n : Int, ∃ b : Bool, Ev (fun k => spec_l11Worth.f k x.f0 x.f1 x.f2 x.f3 l1 l2 l3) (n, b) ∧ Ev (fun k => impl_worth.f k x.f0 x.f1 x.f2 x.f3 l1 l2 l3) (if b = true then n else 0, b)
theorem worth_ok (l1 : List Int) (l2 : List ByteArray) (l3 : List Int) (h1 : l1.length ≤ 1048576) (h2 : l2.length ≤ 1048576) (h3 : l3.length ≤ 1048576) (x : S29) (g : WellT x) : WorthT l1 l2 l3 x := by
  induction g with
  | mk x hh hw ih =>
    obtain ⟨K, N, s, l⟩ := x
    simp only at hh hw ih
    unfold WorthT
    simp only
    have no : ∀ n : Int, Ev (fun k => spec_l11Worth.f k K N s l l1 l2 l3) (n, false) → Ev (fun k => impl_worth.f k K N s l l1 l2 l3) (0, false) → ∃ n : Int, ∃ b : Bool, Ev (fun k => spec_l11Worth.f k K N s l l1 l2 l3) (n, b) ∧ Ev (fun k => impl_worth.f k K N s l l1 l2 l3) (if b = true then n else 0, b) := fun n a b => ⟨n, false, a, by simpa using b⟩
    have yes : ∀ n : Int, Ev (fun k => spec_l11Worth.f k K N s l l1 l2 l3) (n, true) → Ev (fun k => impl_worth.f k K N s l l1 l2 l3) (n, true) → ∃ n : Int, ∃ b : Bool, Ev (fun k => spec_l11Worth.f k K N s l l1 l2 l3) (n, b) ∧ Ev (fun k => impl_worth.f k K N s l l1 l2 l3) (if b = true then n else 0, b) := fun n a b => ⟨n, true, a, by simpa using b⟩
    by_cases k1 : K = 1
    · subst k1
      exact yes N (Ev.step (f := fun _ => some (N, true)) (fun k => by simp only [spec_l11Worth.f]; rw [if_pos trivial]) (Ev.now _)) (Ev.step (f := fun _ => some (N, true)) (fun k => by simp only [impl_worth.f]; rw [if_pos trivial]) (Ev.now _))
    by_cases k11 : K = 11
    · subst k11
      have hN : 0 ≤ N := by
        simp only [hereB] at hh
        rw [if_neg (by decide), if_neg (by decide), if_pos trivial] at hh
        simp only [Bool.and_eq_true, decide_eq_true_eq] at hh
        exact hh.1.1.1
      by_cases c : N < (l1.length : Int)
      · refine yes (bits .and .i64 (rd l1 N) 65535) (Ev.step (f := fun _ => some (bits .and .i64 (rd l1 N) 65535, true)) (fun k => ?_) (Ev.now _)) (Ev.step (f := fun _ => some (bits .and .i64 (rd l1 N) 65535, true)) (fun k => ?_) (Ev.now _))
        · simp only [spec_l11Worth.f, spec_Wrap.f]; rw [if_neg k1, if_pos trivial, if_neg (by omega), if_pos hN, if_pos c]; rfl
        · simp only [impl_worth.f, impl_Wrap.f]; rw [if_neg k1, if_pos trivial, if_pos c, if_pos hN]; rfl
      · refine no 0 (Ev.step (f := fun _ => some (0, false)) (fun k => ?_) (Ev.now _)) (Ev.step (f := fun _ => some (0, false)) (fun k => ?_) (Ev.now _))
        · simp only [spec_l11Worth.f]; rw [if_neg k1, if_pos trivial, if_pos (by omega)]
        · simp only [impl_worth.f]; rw [if_neg k1, if_pos trivial, if_neg c]
    by_cases k12 : K = 12
    · subst k12
      obtain ⟨r, hr, r0, r1, r2, r3⟩ := l9At_ok l2 h2 s
      obtain ⟨q, hq, q0, q1, q2, q3⟩ := placeIn_ok l2 h2 s
      have e : q = r := by
        by_cases c : 0 ≤ r
        · have a := q3 r.toNat (by omega) (r2 c (by omega))
          have b := r3 q.toNat (by omega) (q2 a.1 (by omega))
          omega
        · by_cases c2 : 0 ≤ q
          · have b := r3 q.toNat (by omega) (q2 c2 (by omega)); omega
          · omega
      subst e
      have wl : wrap64 ((l3.length : Int) - 1) = l3.length - 1 := w64 (by omega) (by omega)
      by_cases c : 0 ≤ q ∧ q ≤ (l3.length : Int) - 1
      · refine yes (bits .and .i64 (rd l3 q) 65535) (Ev.step (fun k => by simp only [spec_l11Worth.f, spec_Wrap.f]; rw [if_neg k1, if_neg k11, if_pos trivial]) (Ev.bind hr ?_)) (Ev.step (fun k => by simp only [impl_worth.f, impl_Wrap.f, within_ok, wl, Option.bind_some]; rw [if_neg k1, if_neg k11, if_pos trivial]) (Ev.bind hq ?_))
        · refine Ev.congr (f := fun _ => some (bits .and .i64 (rd l3 q) 65535, true)) (fun k => ?_) (Ev.now _)
          rw [if_neg (by omega), if_neg (by omega), if_pos c.1, if_pos (by omega)]; rfl
        · refine Ev.congr (f := fun _ => some (bits .and .i64 (rd l3 q) 65535, true)) (fun k => ?_) (Ev.now _)
          rw [if_pos (decide_eq_true c), if_pos c.1, if_pos (by omega)]
      · refine no 0 (Ev.step (fun k => by simp only [spec_l11Worth.f, spec_Wrap.f]; rw [if_neg k1, if_neg k11, if_pos trivial]) (Ev.bind hr ?_)) (Ev.step (fun k => by simp only [impl_worth.f, impl_Wrap.f, within_ok, wl, Option.bind_some]; rw [if_neg k1, if_neg k11, if_pos trivial]) (Ev.bind hq ?_))
        · refine Ev.congr (f := fun _ => some (0, false)) (fun k => ?_) (Ev.now _)
          by_cases c2 : q < 0
          · rw [if_pos c2]
          · rw [if_neg c2, if_pos (by omega)]
        · refine Ev.congr (f := fun _ => some (0, false)) (fun k => ?_) (Ev.now _)
          rw [if_neg (by rw [decide_eq_true_eq]; exact c)]
    by_cases k3 : K = 3
    · subst k3
      refine no 0 (Ev.step (f := fun _ => some (0, false)) (fun k => ?_) (Ev.now _)) (Ev.step (f := fun _ => some (0, false)) (fun k => ?_) (Ev.now _))
      · simp only [spec_l11Worth.f]; rw [if_neg k1, if_neg k11, if_neg k12, if_pos trivial]
      · simp only [impl_worth.f]; rw [if_neg k1, if_neg k11, if_neg k12, if_neg (by decide), if_pos trivial]
    by_cases k2 : K = 2
    · subst k2
      refine no 0 (Ev.step (f := fun _ => some (0, false)) (fun k => ?_) (Ev.now _)) (Ev.step (f := fun _ => some (0, false)) (fun k => ?_) (Ev.now _))
      · simp only [spec_l11Worth.f]; rw [if_neg k1, if_neg k11, if_neg k12, if_neg k3, if_pos trivial]
      · simp only [impl_worth.f]; rw [if_neg k1, if_neg k11, if_neg k12, if_pos trivial]
    have hlen : (K = 4 ∧ l.length = 1) ∨ (K ≠ 4 ∧ l.length = 2) := by
      simp only [hereB] at hh
      rw [if_neg k1, if_neg (by omega), if_neg k11, if_neg k3] at hh
      by_cases k4 : K = 4
      · rw [if_pos k4] at hh; simp only [Bool.and_eq_true, decide_eq_true_eq] at hh; exact .inl ⟨k4, hh.2⟩
      · rw [if_neg k4] at hh
        by_cases k5 : 5 ≤ K ∧ K ≤ 10
        · rw [if_pos k5] at hh; simp only [Bool.and_eq_true, decide_eq_true_eq] at hh; exact .inr ⟨k4, hh.2⟩
        · rw [if_neg k5] at hh; cases hh
    have p0 : 0 < l.length := by omega
    obtain ⟨a, ab, hs, ai⟩ := ih _ (rdI_in l 0 p0)
    have ss : ∀ r, Ev (fun k => if K = 4 then ((spec_Wrap.f (wrap64 (-a))).bind fun t165 => (some (t165, ab))) else (if 1 < (l.length : Int) then ((spec_l11Worth.f k ((rd_T29 l 1).f0) ((rd_T29 l 1).f1) ((rd_T29 l 1).f2) ((rd_T29 l 1).f3) l1 l2 l3).bind fun bt167 => (if ab = true then (if bt167.2 = true then ((spec_l11Two.f K a bt167.1).bind fun bt169 => (some (bt169.1, bt169.2))) else (some (0, false))) else (some (0, false)))) else (none))) r → Ev (fun k => spec_l11Worth.f k K N s l l1 l2 l3) r := by
      intro r hr
      refine Ev.step (f := fun k => (spec_l11Worth.f k ((rd_T29 l 0).f0) ((rd_T29 l 0).f1) ((rd_T29 l 0).f2) ((rd_T29 l 0).f3) l1 l2 l3).bind fun bt163 => (if K = 4 then ((spec_Wrap.f (wrap64 (-bt163.1))).bind fun t165 => (some (t165, bt163.2))) else (if 1 < (l.length : Int) then ((spec_l11Worth.f k ((rd_T29 l 1).f0) ((rd_T29 l 1).f1) ((rd_T29 l 1).f2) ((rd_T29 l 1).f3) l1 l2 l3).bind fun bt167 => (if bt163.2 = true then (if bt167.2 = true then ((spec_l11Two.f K bt163.1 bt167.1).bind fun bt169 => (some (bt169.1, bt169.2))) else (some (0, false))) else (some (0, false)))) else (none)))) (fun k => by simp only [spec_l11Worth.f]; rw [if_neg k1, if_neg k11, if_neg k12, if_neg k3, if_neg k2, if_pos (by omega)]) (Ev.bind hs hr)
    have is : ∀ r, Ev (fun k => if ab = true then (if K = 4 then ((impl_Wrap.f (wrap64 (-(if ab = true then a else 0)))).bind fun t234 => (some (t234, true))) else (if 1 < (l.length : Int) then ((impl_worth.f k ((rd_T29 l 1).f0) ((rd_T29 l 1).f1) ((rd_T29 l 1).f2) ((rd_T29 l 1).f3) l1 l2 l3).bind fun bt236 => (if bt236.2 = true then ((impl_compute.f K (if ab = true then a else 0) bt236.1).bind fun bt238 => (some (bt238.1, bt238.2))) else (some (0, false)))) else (none))) else (some (0, false))) r → Ev (fun k => impl_worth.f k K N s l l1 l2 l3) r := by
      intro r hr
      refine Ev.step (f := fun k => (impl_worth.f k ((rd_T29 l 0).f0) ((rd_T29 l 0).f1) ((rd_T29 l 0).f2) ((rd_T29 l 0).f3) l1 l2 l3).bind fun bt232 => (if bt232.2 = true then (if K = 4 then ((impl_Wrap.f (wrap64 (-bt232.1))).bind fun t234 => (some (t234, true))) else (if 1 < (l.length : Int) then ((impl_worth.f k ((rd_T29 l 1).f0) ((rd_T29 l 1).f1) ((rd_T29 l 1).f2) ((rd_T29 l 1).f3) l1 l2 l3).bind fun bt236 => (if bt236.2 = true then ((impl_compute.f K bt232.1 bt236.1).bind fun bt238 => (some (bt238.1, bt238.2))) else (some (0, false)))) else (none))) else (some (0, false)))) (fun k => by simp only [impl_worth.f]; rw [if_neg k1, if_neg k11, if_neg k12, if_neg k2, if_neg k3, if_pos (by omega)]) (Ev.bind ai hr)
    rcases hlen with ⟨k4, _⟩ | ⟨k4, hl⟩
    · subst k4
      cases ab with
      | true => exact yes (bits .and .i64 (wrap64 (-a)) 65535) (ss _ (Ev.now _)) (is _ (Ev.now _))
      | false => exact no (bits .and .i64 (wrap64 (-a)) 65535) (ss _ (Ev.now _)) (is _ (Ev.now _))
    · obtain ⟨b, bb, bs, bi⟩ := ih _ (rdI_in l 1 (by omega))
      have s2 : ∀ r, Ev (fun k => if ab = true then (if bb = true then ((spec_l11Two.f K a b).bind fun bt169 => (some (bt169.1, bt169.2))) else (some (0, false))) else (some (0, false))) r → Ev (fun k => spec_l11Worth.f k K N s l l1 l2 l3) r := by
        intro r hr
        refine ss r (Ev.congr (f := fun k => (spec_l11Worth.f k ((rd_T29 l 1).f0) ((rd_T29 l 1).f1) ((rd_T29 l 1).f2) ((rd_T29 l 1).f3) l1 l2 l3).bind fun bt167 => (if ab = true then (if bt167.2 = true then ((spec_l11Two.f K a bt167.1).bind fun bt169 => (some (bt169.1, bt169.2))) else (some (0, false))) else (some (0, false)))) (fun k => by rw [if_neg k4, if_pos (by omega)]) (Ev.bind bs hr))
      have i2 : ab = true → ∀ r, Ev (fun k => if bb = true then ((spec_l11Two.f K a (if bb = true then b else 0)).bind fun bt238 => (some (bt238.1, bt238.2))) else (some (0, false))) r → Ev (fun k => impl_worth.f k K N s l l1 l2 l3) r := by
        intro e r hr
        subst e
        refine is r (Ev.congr (f := fun k => (impl_worth.f k ((rd_T29 l 1).f0) ((rd_T29 l 1).f1) ((rd_T29 l 1).f2) ((rd_T29 l 1).f3) l1 l2 l3).bind fun bt236 => (if bt236.2 = true then ((impl_compute.f K a bt236.1).bind fun bt238 => (some (bt238.1, bt238.2))) else (some (0, false)))) (fun k => by rw [if_pos rfl, if_neg k4, if_pos (by omega), if_pos rfl]) (Ev.bind bi ?_))
        simp only [two_same]
        exact hr
      cases ab with
      | false => exact no 0 (s2 _ (Ev.now _)) (is _ (Ev.now _))
      | true =>
        cases bb with
        | false => exact no 0 (s2 _ (Ev.now _)) (i2 rfl _ (Ev.now _))
        | true =>
          obtain ⟨r, hr, hz⟩ := two_ok K a b
          have e1 := s2 (r.1, r.2) (Ev.congr (f := fun _ => some (r.1, r.2)) (fun k => by rw [if_pos rfl, if_pos rfl, hr]; rfl) (Ev.now _))
          have e2 := i2 rfl (r.1, r.2) (Ev.congr (f := fun _ => some (r.1, r.2)) (fun k => by rw [if_pos rfl, if_pos rfl, hr]; rfl) (Ev.now _))
          refine ⟨r.1, r.2, e1, ?_⟩
          cases c : r.2 with
          | true => rw [c] at e2; simpa using e2
          | false => rw [c, hz c] at e2; simpa using e2
theorem FnExactWorth (x : S24) (l1 : List Int) (l2 : List ByteArray) (l3 : List Int) (gx : GoodT x) (_ : l1.length ≤ maxLen) (_ : ∀ y ∈ l1, (Lit.int .i64 y).wf = true) (m2 : l2.length ≤ maxLen) (n2 : ∀ y ∈ l2, y.size ≤ maxLen) (_ : l3.length ≤ maxLen) (_ : ∀ y ∈ l3, (Lit.int .i64 y).wf = true) : ∃ k, laws_FnExactWorth.f k x.f0 x.f1 x.f2 x.f3 l1 l2 l3 = some true := by
  refine Ev.rounds (g := fun k => laws_FnExactWorth.f k x.f0 x.f1 x.f2 x.f3 l1 l2 l3) ?_
  simp only [laws_FnExactWorth.f]
  by_cases c1 : (l1.length : Int) > 1048576
  · exact Ev.congr (f := fun _ => some true) (fun k => by rw [if_pos c1]) (Ev.now _)
  by_cases c3 : (l3.length : Int) > 1048576
  · exact Ev.congr (f := fun _ => some true) (fun k => by rw [if_neg c1, if_pos c3]) (Ev.now _)
  refine Ev.congr (fun k => by rw [if_neg c1, if_neg c3]) ?_
  obtain ⟨r, hr, hc⟩ := szExpr_ok x gx 1048576 (by omega) (by omega)
  refine Ev.bind hr ?_
  by_cases hn : r < 0
  · exact Ev.congr (f := fun _ => some true) (fun k => by rw [if_pos hn]) (Ev.now _)
  obtain ⟨r0, r1, sx⟩ := hc.resolve_left hn
  refine Ev.congr (fun k => by rw [if_neg hn]) ?_
  obtain ⟨r2, hr2, hc2⟩ := szStringS_ok l2 m2 n2 r r0 r1
  refine Ev.bind hr2 ?_
  by_cases hn2 : r2 < 0
  · exact Ev.congr (f := fun _ => some true) (fun k => by rw [if_pos hn2]) (Ev.now _)
  obtain ⟨_, _, s2, _⟩ := hc2.resolve_left hn2
  refine Ev.congr (fun k => by rw [if_neg hn2]) ?_
  obtain ⟨u, hu, su⟩ := toExpr_ok x sx
  have i1 : Ev (fun k => laws_toIntS.f k l1) l1 := ⟨l1.length + 1, fun k hk => toIntS_ok l1 (by omega) k (by omega)⟩
  have i3 : Ev (fun k => laws_toIntS.f k l3) l3 := ⟨l3.length + 1, fun k hk => toIntS_ok l3 (by omega) k (by omega)⟩
  have i2 := toStringS_ok l2 (by omega)
  have q1 : Ev (fun k => laws_eqIntS.f k l1 l1) true := ⟨l1.length + 1, fun k hk => eqIntS_self l1 (by omega) k (by omega)⟩
  have q3 : Ev (fun k => laws_eqIntS.f k l3 l3) true := ⟨l3.length + 1, fun k hk => eqIntS_self l3 (by omega) k (by omega)⟩
  have q2 := eqStringS_self l2 (by omega)
  obtain ⟨b, b1, b2⟩ := okExpr_ok u su 6 (by omega) (by omega) false
  obtain ⟨m, t, ws, wi⟩ : ∃ m : Int, ∃ t : Bool, Ev (fun k => spec_Worth.f k u.f0 u.f1 u.f2 u.f3 l1 l2 l3) (m, t) ∧ Ev (fun k => impl_Worth.f k u.f0 u.f1 u.f2 u.f3 l1 l2 l3) (m, t) := by
    have a1 : Ev (fun k => spec_ExprOk.f k u.f0 u.f1 u.f2 u.f3) b := Ev.bind b1 (Ev.now _)
    have a2 : Ev (fun k => impl_ExprOk.f k u.f0 u.f1 u.f2 u.f3) b := Ev.bind b2 (Ev.now _)
    simp only [spec_Worth.f, impl_Worth.f]
    cases b with
    | false => exact ⟨0, false, Ev.bind a1 (Ev.now _), Ev.bind a2 (Ev.now _)⟩
    | true =>
      obtain ⟨n, c, cs, ci⟩ := worth_ok l1 l2 l3 (by omega) (by omega) (by omega) u (okExpr_well u su 6 (by omega) (by omega) false b1)
      cases c with
      | true => exact ⟨n, true, Ev.bind a1 (Ev.yes (Ev.bind cs (Ev.now _))), Ev.bind a2 (Ev.yes (Ev.bind ci (Ev.now _)))⟩
      | false => exact ⟨0, false, Ev.bind a1 (Ev.yes (Ev.bind cs (Ev.now _))), Ev.bind a2 (Ev.yes (Ev.bind ci (Ev.now _)))⟩
  refine Ev.bind hu (Ev.bind i1 (Ev.bind i2 (Ev.bind i3 (Ev.bind ws (Ev.bind hu (Ev.bind i1 (Ev.bind i2 (Ev.bind i3 (Ev.bind wi ?_)))))))))
  refine Ev.congr (f := fun k => laws_FnExactWorth.j0 k l1 l2 l3 l1 l2 l3 false x.f0 x.f1 x.f2 x.f3 u.f0 u.f1 u.f2 u.f3) (fun k => ?_) ?_
  · rw [if_pos rfl]; simp
  · refine Ev.step (fun k => by simp only [laws_FnExactWorth.j0]; rw [if_neg (by simp)]) (Ev.bind hu (Ev.bind (eqExpr_ok u su) ?_))
    exact Ev.yes (Ev.bind i1 (Ev.bind q1 (Ev.yes (Ev.bind i2 (Ev.bind q2 (Ev.yes (Ev.bind i3 (Ev.bind q3 (Ev.yes (Ev.now _))))))))))

end Go.Proofs.Ytcpnhlhigpgonaa.Pure
