/- Proved: the law FnExactExprText, as a plain function, answers true at each term; no further conditions. -/
import Derived.Test.YtbemgfdaenepjaaDoorPFnExactExprTextx1
import Derived.Test.YtbemgfdaenepjaaDoorPFnExactExprTextx2
import Derived.Test.YtbemgfdaenepjaaDoorPFnExactExprTextx3
import Derived.Test.YtbemgfdaenepjaaDoorPFnExactExprTextx4
import Derived.Test.YtbemgfdaenepjaaDoorPFnExactExprTextx5
import Derived.Test.YtbemgfdaenepjaaDoorPFnExactExprTextx6
import Derived.Test.YtbemgfdaenepjaaDoorPFnExactExprTextx7
import Derived.Test.YtbemgfdaenepjaaDoorPFnExactExprTextx8
import Derived.Test.YtbemgfdaenepjaaDoorPFnExactExprTextx9
import Derived.Test.YtbemgfdaenepjaaDoorPFnExactExprTextx10
import Derived.Test.YtbemgfdaenepjaaDoorVCFnExactExprText
namespace Go.Proofs.YtbemgfdaenepjaaDoor.Pure
open Go.RowKit Go.Proofs.YtbemgfdaenepjaaDoor.PFnExactExprText Go.Proofs.YtbemgfdaenepjaaDoorW.PrintWords Go.Proofs.YtbemgfdaenepjaaDoorW.PrintLast Go.Proofs.YtbemgfdaenepjaaDoor.Common
set_option linter.unusedVariables false
set_option linter.unusedSimpArgs false
/-- a tree that comes in: its numbers are ints, its texts and rows are no longer than any. -/
inductive GoodT : S24 → Prop
  | mk (x : S24) (h0 : (Lit.int .i64 x.f0).wf = true) (h1 : (Lit.int .i64 x.f1).wf = true) (h2 : x.f2.size ≤ maxLen) (h3 : x.f3.length ≤ maxLen) (h : ∀ y ∈ x.f3, GoodT y) : GoodT x
/-- a tree that is no wider than the laws look at, and whose rows' lengths are told. -/
inductive SmallS : S24 → Prop
  | mk (x : S24) (h2 : x.f2.size ≤ 1048576) (h3 : x.f3.length ≤ 1048576) (h : ∀ y ∈ x.f3, SmallS y) : SmallS x
inductive Small : S29 → Prop
  | mk (x : S29) (h2 : x.f2.size ≤ 1048576) (h3 : x.f3.length ≤ 1048576) (h : ∀ y ∈ x.f3, Small y) : Small x
theorem rdE_in (l : List S24) (i : Nat) (h : i < l.length) : rd_T24 l (i : Int) ∈ l := by
  have : rd_T24 l (i : Int) = l[i] := by simp [rd_T24, List.getD_eq_getElem?_getD, h]
  rw [this]; exact List.getElem_mem h
theorem rdI_in (l : List S29) (i : Nat) (h : i < l.length) : rd_T29 l (i : Int) ∈ l := by
  have : rd_T29 l (i : Int) = l[i] := by simp [rd_T29, List.getD_eq_getElem?_getD, h]
  rw [this]; exact List.getElem_mem h
theorem rdI_at (l : List S29) (i : Nat) (h : i < l.length) : rd_T29 l (i : Int) = l[i] := by simp [rd_T29, List.getD_eq_getElem?_getD, h]
theorem Ev.none_step {α : Type} {g f : Nat → Option α} {r : α} (h : ∀ k, g (k + 1) = f k) (k : Ev f r) : Ev g r := Ev.step h k
/-- two results of one function are one. -/
theorem Ev.one {α : Type} {g : Nat → Option α} {r q : α} (h : Ev g r) (k : Ev g q) : r = q := by
  obtain ⟨K, h⟩ := h; obtain ⟨L, k⟩ := k
  have a := h (K + L) (by omega); have b := k (K + L) (by omega)
  rw [a] at b; exact Option.some.inj b
/-- what the size tells: below nothing it is too large; else it is small, and so is what is left. -/
def SzT (x : S24) : Prop := ∀ a : Int, 0 ≤ a → a ≤ 1048576 → ∃ r, Ev (fun k => laws_szExpr.f k x.f0 x.f1 x.f2 x.f3 a) r ∧ (r < 0 ∨ (0 ≤ r ∧ r ≤ a ∧ SmallS x))
theorem szExprS_l0 (l : List S24) (hl : l.length ≤ 1048576) (h : ∀ x ∈ l, SzT x) : ∀ (d i : Nat) (a : Int), l.length - i = d → i ≤ l.length → 0 ≤ a → a ≤ 1048576 →
    ∃ r, Ev (fun k => laws_szExprS.l0 k l a (i : Int)) r ∧ (r < 0 ∨ (0 ≤ r ∧ r ≤ a ∧ ∀ j, i ≤ j → ∀ hj : j < l.length, SmallS l[j])) := by
  intro d
  induction d with
  | zero =>
    intro i a hd hi h0 h1
    refine ⟨a, Ev.step (f := fun _ => some a) (fun k => ?_) (Ev.now a), .inr ⟨h0, by omega, fun j hj hj' => by omega⟩⟩
    simp only [laws_szExprS.l0]; rw [if_neg (by omega)]
  | succ d ih =>
    intro i a hd hi h0 h1
    have hlt : i < l.length := by omega
    have hx : rd_T24 l (i : Int) = l[i] := by simp [rd_T24, List.getD_eq_getElem?_getD, hlt]
    obtain ⟨r, hr, hc⟩ := h _ (rdE_in l i hlt) a h0 h1
    by_cases hn : r < 0
    · refine ⟨-1, ?_, .inl (by omega)⟩
      refine Ev.step (f := fun k => (laws_szExpr.f k (rd_T24 l (i : Int)).f0 (rd_T24 l (i : Int)).f1 (rd_T24 l (i : Int)).f2 (rd_T24 l (i : Int)).f3 a).bind fun t => if t < 0 then some (-1) else laws_szExprS.l0 k l t (wrap64 ((i : Int) + 1))) (fun k => ?_) (Ev.bind hr ?_)
      · simp only [laws_szExprS.l0]; rw [if_pos (by omega), if_pos (by omega)]
      · refine Ev.congr (f := fun _ => some (-1)) (fun k => ?_) (Ev.now _)
        rw [if_pos hn]
    · obtain ⟨p0, p1, p2⟩ := hc.resolve_left hn
      obtain ⟨q, hq, hqc⟩ := ih (i + 1) r (by omega) (by omega) p0 (by omega)
      refine ⟨q, ?_, ?_⟩
      · refine Ev.step (f := fun k => (laws_szExpr.f k (rd_T24 l (i : Int)).f0 (rd_T24 l (i : Int)).f1 (rd_T24 l (i : Int)).f2 (rd_T24 l (i : Int)).f3 a).bind fun t => if t < 0 then some (-1) else laws_szExprS.l0 k l t (wrap64 ((i : Int) + 1))) (fun k => ?_) (Ev.bind hr ?_)
        · simp only [laws_szExprS.l0]; rw [if_pos (by omega), if_pos (by omega)]
        · refine Ev.congr (f := fun k => laws_szExprS.l0 k l r ((i + 1 : Nat) : Int)) (fun k => ?_) hq
          rw [if_neg hn, w64 (x := (i : Int) + 1) (by omega) (by omega)]; rfl
      · rcases hqc with hq' | ⟨q0, q1, q2⟩
        · exact .inl hq'
        · refine .inr ⟨q0, by omega, fun j hj hj' => ?_⟩
          by_cases e : i = j
          · subst e; rw [← hx]; exact p2
          · exact q2 j (by omega) hj'
theorem szExpr_ok (x : S24) (g : GoodT x) : SzT x := by
  induction g with
  | mk x h0 h1 h2 h3 h ih =>
    intro a a0 a1
    have hm : maxLen = 9223372036854775807 := rfl
    have w1 : wrap64 (a - (x.f2.size : Int)) = a - x.f2.size := w64 (by omega) (by omega)
    by_cases c : a - (x.f2.size : Int) < 0
    · refine ⟨-1, Ev.step (f := fun _ => some (-1)) (fun k => ?_) (Ev.now _), .inl (by omega)⟩
      simp only [laws_szExpr.f, w1]; rw [if_pos c]
    have w2 : wrap64 (a - (x.f2.size : Int) - (x.f3.length : Int)) = a - x.f2.size - x.f3.length := w64 (by omega) (by omega)
    have st : ∀ (q : Int), Ev (fun k => laws_szExprS.f k x.f3 (a - x.f2.size)) q → Ev (fun k => laws_szExpr.f k x.f0 x.f1 x.f2 x.f3 a) (if q < 0 then -1 else q) := by
      intro q hq
      refine Ev.step (f := fun k => (laws_szExprS.f k x.f3 (a - x.f2.size)).bind fun t => if t < 0 then some (-1) else some t) (fun k => ?_) (Ev.bind hq ?_)
      · simp only [laws_szExpr.f, w1]; rw [if_neg c]
      · refine Ev.congr (f := fun _ => some (if q < 0 then -1 else q)) (fun k => ?_) (Ev.now _)
        by_cases e : q < 0
        · rw [if_pos e, if_pos e]
        · rw [if_neg e, if_neg e]
    by_cases c2 : a - (x.f2.size : Int) - (x.f3.length : Int) < 0
    · refine ⟨-1, ?_, .inl (by omega)⟩
      have := st (-1) (Ev.step (f := fun _ => some (-1)) (fun k => by simp only [laws_szExprS.f, w2]; rw [if_pos c2]) (Ev.now _))
      exact this
    · obtain ⟨r, hr, hc⟩ := szExprS_l0 x.f3 (by omega) ih x.f3.length 0 (a - x.f2.size - x.f3.length) (by omega) (by omega) (by omega) (by omega)
      have hs := st r (Ev.step (f := fun k => laws_szExprS.l0 k x.f3 (a - x.f2.size - x.f3.length) ((0 : Nat) : Int)) (fun k => by simp only [laws_szExprS.f, w2]; rw [if_neg c2]; rfl) hr)
      refine ⟨_, hs, ?_⟩
      rcases hc with hn | ⟨r0, r1, r2⟩
      · rw [if_pos hn]; exact .inl (by omega)
      · rw [if_neg (by omega)]
        refine .inr ⟨r0, by omega, SmallS.mk x (by omega) (by omega) (fun y hy => ?_)⟩
        obtain ⟨j, hj, e⟩ := List.getElem_of_mem hy
        rw [← e]; exact r2 j (by omega) hj
/-- the copy: there is one, it is small, and it is always the same. -/
def ToT (x : S24) : Prop := ∃ y : S29, Ev (fun k => laws_toExpr.f k x.f0 x.f1 x.f2 x.f3) (y.f0, y.f1, y.f2, y.f3) ∧ Small y
theorem toExprS_l0 (l : List S24) (hl : l.length ≤ 1048576) (h : ∀ x ∈ l, ToT x) : ∀ (d i : Nat) (z : List S29), l.length - i = d → i ≤ l.length → z.length = l.length → (∀ j, j < i → ∀ hj : j < z.length, Small z[j]) →
    ∃ r, Ev (fun k => laws_toExprS.l0 k l z (i : Int)) r ∧ r.length = l.length ∧ ∀ j, ∀ hj : j < r.length, Small r[j] := by
  intro d
  induction d with
  | zero =>
    intro i z hd hi hz hs
    refine ⟨z, Ev.step (f := fun _ => some z) (fun k => ?_) (Ev.now z), hz, fun j hj => hs j (by omega) hj⟩
    simp only [laws_toExprS.l0]; rw [if_neg (by omega)]
  | succ d ih =>
    intro i z hd hi hz hs
    have hlt : i < l.length := by omega
    obtain ⟨y, hy, sy⟩ := h _ (rdE_in l i hlt)
    obtain ⟨r, hr, hrl, hrs⟩ := ih (i + 1) (z.set i (⟨y.f0, y.f1, y.f2, y.f3⟩ : S29)) (by omega) (by omega) (by simpa using hz) (fun j hj hj' => by
      rw [List.getElem_set]
      split
      · have e : (⟨y.f0, y.f1, y.f2, y.f3⟩ : S29) = y := by cases y; rfl
        rw [e]; exact sy
      · exact hs j (by omega) (by simpa using hj'))
    refine ⟨r, ?_, hrl, hrs⟩
    refine Ev.step (f := fun k => (laws_toExpr.f k (rd_T24 l (i : Int)).f0 (rd_T24 l (i : Int)).f1 (rd_T24 l (i : Int)).f2 (rd_T24 l (i : Int)).f3).bind fun bt => if (i : Int) < (z.length : Int) then laws_toExprS.l0 k l (z.set (i : Int).toNat (⟨bt.1, bt.2.1, bt.2.2.1, bt.2.2.2⟩ : S29)) (wrap64 ((i : Int) + 1)) else none) (fun k => ?_) (Ev.bind hy ?_)
    · simp only [laws_toExprS.l0]; rw [if_pos (by omega), if_pos (by omega)]
    · refine Ev.congr (f := fun k => laws_toExprS.l0 k l (z.set i (⟨y.f0, y.f1, y.f2, y.f3⟩ : S29)) ((i + 1 : Nat) : Int)) (fun k => ?_) hr
      rw [if_pos (by omega), w64 (x := (i : Int) + 1) (by omega) (by omega)]; rfl
theorem toExpr_ok (x : S24) (g : SmallS x) : ToT x := by
  induction g with
  | mk x h2 h3 h ih =>
    obtain ⟨r, hr, hrl, hrs⟩ := toExprS_l0 x.f3 h3 ih x.f3.length 0 (List.replicate x.f3.length z29) (by omega) (by omega) (by simp) (fun j hj => by omega)
    refine ⟨⟨x.f0, x.f1, x.f2, r⟩, ?_, Small.mk _ h2 (by show r.length ≤ 1048576; omega) (fun y hy => ?_)⟩
    · refine Ev.step (f := fun k => (laws_toExprS.f k x.f3).bind fun t => some (x.f0, x.f1, x.f2, t)) (fun k => by simp only [laws_toExpr.f]) (Ev.bind (a := r) ?_ (Ev.now _))
      refine Ev.step (f := fun k => laws_toExprS.l0 k x.f3 (List.replicate x.f3.length z29) ((0 : Nat) : Int)) (fun k => ?_) hr
      simp only [laws_toExprS.f]; rw [if_pos (by omega), if_pos (by omega)]; rfl
    · obtain ⟨j, hj, e⟩ := List.getElem_of_mem hy
      rw [← e]; exact hrs j hj
/-- a small tree is as itself. -/
def EqT (x : S29) : Prop := Ev (fun k => laws_eqExpr.f k x.f0 x.f1 x.f2 x.f3 x.f0 x.f1 x.f2 x.f3) true
theorem eqExprS_l0 (l : List S29) (hl : l.length ≤ 1048576) (h : ∀ x ∈ l, EqT x) : ∀ (d i : Nat), l.length - i = d → i ≤ l.length → Ev (fun k => laws_eqExprS.l0 k l l (i : Int)) true := by
  intro d
  induction d with
  | zero =>
    intro i hd hi
    refine Ev.step (f := fun _ => some true) (fun k => ?_) (Ev.now _)
    simp only [laws_eqExprS.l0]; rw [if_neg (by omega)]
  | succ d ih =>
    intro i hd hi
    have hlt : i < l.length := by omega
    refine Ev.step (f := fun k => (laws_eqExpr.f k (rd_T29 l (i : Int)).f0 (rd_T29 l (i : Int)).f1 (rd_T29 l (i : Int)).f2 (rd_T29 l (i : Int)).f3 (rd_T29 l (i : Int)).f0 (rd_T29 l (i : Int)).f1 (rd_T29 l (i : Int)).f2 (rd_T29 l (i : Int)).f3).bind fun t => if t = true then laws_eqExprS.l0 k l l (wrap64 ((i : Int) + 1)) else some false) (fun k => ?_) (Ev.bind (h _ (rdI_in l i hlt)) ?_)
    · simp only [laws_eqExprS.l0]; rw [if_pos (by omega), if_pos (by omega), if_pos (by omega)]
    · refine Ev.congr (f := fun k => laws_eqExprS.l0 k l l ((i + 1 : Nat) : Int)) (fun k => ?_) (ih (i + 1) (by omega) (by omega))
      rw [if_pos rfl, w64 (x := (i : Int) + 1) (by omega) (by omega)]; rfl
theorem eqExpr_ok (x : S29) (g : Small x) : EqT x := by
  induction g with
  | mk x h2 h3 h ih =>
    refine Ev.step (f := fun k => (laws_eqExprS.f k x.f3 x.f3).bind fun t => if t = true then some true else some false) (fun k => ?_) (Ev.bind (a := true) ?_ (Ev.now _))
    · simp only [laws_eqExpr.f]; rw [if_pos trivial, if_pos trivial, if_pos trivial]
    · refine Ev.step (f := fun k => laws_eqExprS.l0 k x.f3 x.f3 ((0 : Nat) : Int)) (fun k => ?_) (eqExprS_l0 x.f3 h3 ih x.f3.length 0 (by omega) (by omega))
      simp only [laws_eqExprS.f]; rw [if_pos trivial]; rfl
theorem bal (s : ByteArray) : s.toList = s.data.toList := ByteArray.toList_eq s
theorem l1In_ok (a b c : Int) : spec_l1In.f a b c = some (decide (b ≤ a ∧ a ≤ c)) := by
  unfold spec_l1In.f
  by_cases h : a ≥ b
  · have h' : b ≤ a := h
    rw [if_pos h]; simp [h']
  · have h' : ¬ b ≤ a := h
    rw [if_neg h]; simp [h']
theorem within_ok (a b c : Int) : impl_within.f a b c = some (decide (b ≤ a ∧ a ≤ c)) := by
  unfold impl_within.f
  by_cases h : a ≥ b
  · have h' : b ≤ a := h
    rw [if_pos h]; simp [h']
  · have h' : ¬ b ≤ a := h
    rw [if_neg h]; simp [h']
theorem bal_length (s : ByteArray) : s.toList.length = s.size := by rw [bal, Array.length_toList]; rfl
theorem bt_b (s : ByteArray) (i : Int) : wrap64 (bt s i) = bt s i := by have := bt_range s i; exact w64 (by omega) (by omega)
/-- a loop that looks for the first place that is as asked. -/
theorem search_loop (n : Nat) (hn : n ≤ 4611686018427387904) (p : Nat → Prop) [DecidablePred p] (L : Nat → Int → Option Int)
    (hs : ∀ k (i : Nat), i < n → L (k + 1) (i : Int) = if p i then some (i : Int) else L k (wrap64 ((i : Int) + 1))) (he : ∀ k (i : Nat), ¬ i < n → L (k + 1) (i : Int) = some (-1)) :
    ∃ r : Int, Ev (fun k => L k 0) r ∧ -1 ≤ r ∧ r < n ∧ (0 ≤ r → p r.toNat) ∧ (∀ j : Nat, j < n → p j → 0 ≤ r ∧ r ≤ j) := by
  have H : ∀ (d i : Nat), n - i = d → i ≤ n → ∃ r : Int, Ev (fun k => L k (i : Int)) r ∧ -1 ≤ r ∧ r < n ∧ (0 ≤ r → p r.toNat) ∧ (∀ j : Nat, i ≤ j → j < n → p j → 0 ≤ r ∧ r ≤ j) := by
    intro d
    induction d with
    | zero =>
      intro i hd hi
      exact ⟨-1, Ev.step (f := fun _ => some (-1)) (fun k => he k i (by omega)) (Ev.now _), by omega, by omega, fun h => by omega, fun j h1 h2 => by omega⟩
    | succ d ih =>
      intro i hd hi
      by_cases hp : p i
      · exact ⟨i, Ev.step (f := fun _ => some (i : Int)) (fun k => by rw [hs k i (by omega), if_pos hp]) (Ev.now _), by omega, by omega, fun _ => by simpa using hp, fun j h1 h2 _ => by omega⟩
      · obtain ⟨r, hr, r0, r1, r2, r3⟩ := ih (i + 1) (by omega) (by omega)
        refine ⟨r, Ev.step (f := fun k => L k ((i + 1 : Nat) : Int)) (fun k => ?_) hr, r0, r1, r2, fun j h1 h2 h3 => ?_⟩
        · rw [hs k i (by omega), if_neg hp, w64 (by omega) (by omega)]; rfl
        · rcases Nat.eq_or_lt_of_le h1 with e | e
          · subst e; exact absurd h3 hp
          · exact r3 j e h2 h3
  obtain ⟨r, hr, r0, r1, r2, r3⟩ := H n 0 (by omega) (by omega)
  exact ⟨r, by simpa using hr, r0, r1, r2, fun j h1 h2 => r3 j (Nat.zero_le _) h1 h2⟩
theorem rdB (l : List ByteArray) (i : Nat) (h : i < l.length) : rdOf ByteArray.empty l (i : Int) = l[i] := by simp [rdOf, List.getD_eq_getElem?_getD, h]
/-- is a text among others? -/
def amongB (l : List ByteArray) (s : ByteArray) : Bool := l.any fun x => x.toList == s.toList
theorem l9At_ok (l : List ByteArray) (hl : l.length ≤ 1048576) (s : ByteArray) : ∃ r : Int, Ev (fun k => spec_l9At.f k l s) r ∧ -1 ≤ r ∧ r < l.length ∧ (0 ≤ r → ∀ h : r.toNat < l.length, l[r.toNat].toList = s.toList) ∧ (∀ j : Nat, ∀ h : j < l.length, l[j].toList = s.toList → 0 ≤ r ∧ r ≤ j) := by
  obtain ⟨r, hr, r0, r1, r2, r3⟩ := search_loop l.length (by omega) (fun i => ∃ h : i < l.length, l[i].toList = s.toList) (fun k i => spec_l9At.l0 k l s i) (fun k i hi => by
    simp only [spec_l9At.l0]; rw [if_pos (by omega), if_pos (by omega), rdB l i hi]
    by_cases e : l[i].toList = s.toList
    · rw [if_pos e, if_pos ⟨hi, e⟩]
    · rw [if_neg e, if_neg (fun h => e h.2)]) (fun k i hi => by simp only [spec_l9At.l0]; rw [if_neg (by omega)])
  exact ⟨r, hr, r0, r1, fun h _ => (r2 h).2, fun j hj e => r3 j hj ⟨hj, e⟩⟩
theorem placeIn_ok (l : List ByteArray) (hl : l.length ≤ 1048576) (s : ByteArray) : ∃ r : Int, Ev (fun k => impl_placeIn.f k l s) r ∧ -1 ≤ r ∧ r < l.length ∧ (0 ≤ r → ∀ h : r.toNat < l.length, l[r.toNat].toList = s.toList) ∧ (∀ j : Nat, ∀ h : j < l.length, l[j].toList = s.toList → 0 ≤ r ∧ r ≤ j) := by
  obtain ⟨r, hr, r0, r1, r2, r3⟩ := search_loop l.length (by omega) (fun i => ∃ h : i < l.length, l[i].toList = s.toList) (fun k i => impl_placeIn.l0 k s l (l.length : Int) i) (fun k i hi => by
    simp only [impl_placeIn.l0]; rw [if_pos (by omega), if_pos (by omega), if_pos (by omega), rdB l i hi]
    by_cases e : l[i].toList = s.toList
    · rw [if_pos e, if_pos ⟨hi, e⟩]
    · rw [if_neg e, if_neg (fun h => e h.2)]) (fun k i hi => by simp only [impl_placeIn.l0]; rw [if_neg (by omega)])
  exact ⟨r, hr, r0, r1, fun h _ => (r2 h).2, fun j hj e => r3 j hj ⟨hj, e⟩⟩
theorem among_iff (l : List ByteArray) (s : ByteArray) (r : Int) (h0 : -1 ≤ r) (h1 : r < l.length) (h2 : 0 ≤ r → ∀ h : r.toNat < l.length, l[r.toNat].toList = s.toList) (h3 : ∀ j : Nat, ∀ h : j < l.length, l[j].toList = s.toList → 0 ≤ r ∧ r ≤ j) : 0 ≤ r ↔ amongB l s = true := by
  unfold amongB
  rw [List.any_eq_true]
  constructor
  · intro h
    have hlt : r.toNat < l.length := by omega
    exact ⟨_, List.getElem_mem hlt, by rw [h2 h hlt]; exact beq_self_eq_true _⟩
  · rintro ⟨x, hx, e⟩
    obtain ⟨j, hj, rfl⟩ := List.getElem_of_mem hx
    exact (h3 j hj (by simpa using e)).1
def opW23 : List ByteArray := (impl_opWords.f).getD []
def regW8 : List ByteArray := (impl_regWords.f).getD []
theorem opW23_ok : impl_opWords.f = some opW23 := rfl
theorem regW8_ok : impl_regWords.f = some regW8 := rfl
theorem kept31_ok : spec_l9Kept.f = some (opW23 ++ regW8) := rfl
def keptB (s : ByteArray) : Bool := amongB (opW23 ++ regW8) s
theorem keptB_or (s : ByteArray) : keptB s = (amongB opW23 s || amongB regW8 s) := by unfold keptB amongB; rw [List.any_append]
theorem specKept_ok (s : ByteArray) : ∃ r : Int, Ev (fun k => spec_l9At.f k (opW23 ++ regW8) s) r ∧ (0 ≤ r ↔ keptB s = true) := by
  obtain ⟨r, hr, r0, r1, r2, r3⟩ := l9At_ok (opW23 ++ regW8) (by decide) s
  exact ⟨r, hr, among_iff _ _ _ r0 r1 r2 r3⟩
theorem isKept_ok (s : ByteArray) : Ev (fun k => impl_isKept.f k s) (keptB s) := by
  obtain ⟨r, hr, r0, r1, r2, r3⟩ := placeIn_ok opW23 (by decide) s
  obtain ⟨q, hq, q0, q1, q2, q3⟩ := placeIn_ok regW8 (by decide) s
  have e1 := among_iff _ _ _ r0 r1 r2 r3
  have e2 := among_iff _ _ _ q0 q1 q2 q3
  simp only [impl_isKept.f, opW23_ok, regW8_ok, Option.bind_some]
  refine Ev.bind hr ?_
  rw [keptB_or]
  by_cases h : r ≥ 0
  · refine Ev.congr (f := fun _ => some (amongB opW23 s || amongB regW8 s)) (fun k => ?_) (Ev.now _)
    rw [if_pos h, e1.1 h]; rfl
  · refine Ev.congr (f := fun k => (impl_placeIn.f k regW8 s).bind fun t => some (decide (t ≥ 0))) (fun k => by rw [if_neg h]) (Ev.bind hq ?_)
    have h1 : amongB opW23 s = false := by cases h' : amongB opW23 s with | false => rfl | true => exact absurd (e1.2 h') h
    have h2 : decide (q ≥ 0) = amongB regW8 s := by rw [Bool.eq_iff_iff, decide_eq_true_eq]; exact e2
    rw [h1, h2]; exact Ev.now _
/-- a letter; a digit -/
def smallP (c : Int) : Prop := 97 ≤ c ∧ c ≤ 122
def digitP (c : Int) : Prop := 48 ≤ c ∧ c ≤ 57
instance (c : Int) : Decidable (smallP c) := by unfold smallP; infer_instance
instance (c : Int) : Decidable (digitP c) := by unfold digitP; infer_instance
theorem l9Small_ok (s : ByteArray) (i : Int) : spec_l9Small.f (bt s i) = some (decide (smallP (bt s i))) := by unfold spec_l9Small.f; rw [bt_b, l1In_ok]; rfl
theorem l9Digit_ok (s : ByteArray) (i : Int) : spec_l9Digit.f (bt s i) = some (decide (digitP (bt s i))) := by unfold spec_l9Digit.f; rw [bt_b, l1In_ok]; rfl
theorem isLetter_ok (s : ByteArray) (i : Int) : impl_isLetter.f (bt s i) = some (decide (smallP (bt s i))) := by unfold impl_isLetter.f; rw [bt_b, within_ok]; rfl
theorem isPart_ok (s : ByteArray) (i : Int) : impl_isPart.f (bt s i) = some (decide (smallP (bt s i) ∨ digitP (bt s i))) := by
  unfold impl_isPart.f
  rw [isLetter_ok]; simp only [Option.bind_some]
  by_cases h : smallP (bt s i)
  · rw [if_pos (decide_eq_true h)]; simp [h]
  · rw [if_neg (by simpa using h), bt_b, within_ok]; simp [h, digitP]
/-- what is asked of the byte at j of a name -/
def goodAt (s : ByteArray) (j : Nat) : Prop := smallP (bt s j) ∨ (j ≠ 0 ∧ digitP (bt s j))
instance (s : ByteArray) (j : Nat) : Decidable (goodAt s j) := by unfold goodAt; infer_instance
def formB (s : ByteArray) : Bool := decide ((1 ≤ s.size ∧ s.size ≤ 6) ∧ ∀ j, j < s.size → goodAt s j)
theorem l9Form_ok (s : ByteArray) (hs : s.size ≤ 1048576) : Ev (fun k => spec_l9Form.f k s) (formB s) := by
  have H : ∀ (d i : Nat), s.size - i = d → i ≤ s.size → ∃ b : Bool, Ev (fun k => spec_l9Form.l0 k s (i : Int)) b ∧ (b = true ↔ ((1 ≤ s.size ∧ s.size ≤ 6) ∧ ∀ j, i ≤ j → j < s.size → goodAt s j)) := by
    intro d
    induction d with
    | zero =>
      intro i hd hi
      refine ⟨decide (1 ≤ (s.size : Int) ∧ (s.size : Int) ≤ 6), Ev.step (f := fun _ => some (decide (1 ≤ (s.size : Int) ∧ (s.size : Int) ≤ 6))) (fun k => ?_) (Ev.now _), ?_⟩
      · simp only [spec_l9Form.l0]; rw [if_neg (by omega), l1In_ok]; rfl
      · rw [decide_eq_true_eq]; constructor
        · intro h; exact ⟨by omega, fun j h1 h2 => by omega⟩
        · intro h; have := h.1; omega
    | succ d ih =>
      intro i hd hi
      have hlt : i < s.size := by omega
      obtain ⟨b, hb, hbi⟩ := ih (i + 1) (by omega) (by omega)
      have nxt : ∀ k, spec_l9Form.l0 k s (wrap64 ((i : Int) + 1)) = spec_l9Form.l0 k s ((i + 1 : Nat) : Int) := fun k => by rw [w64 (by omega) (by omega)]; rfl
      by_cases hg : goodAt s i
      · refine ⟨b, Ev.step (f := fun k => spec_l9Form.l0 k s ((i + 1 : Nat) : Int)) (fun k => ?_) hb, ?_⟩
        · simp only [spec_l9Form.l0, l9Small_ok, l9Digit_ok, Option.bind_some, nxt]
          rw [if_pos (by omega), if_pos (by omega)]
          rcases hg with h | ⟨h1, h2⟩
          · rw [if_pos (decide_eq_true h)]
          · by_cases h : smallP (bt s i)
            · rw [if_pos (decide_eq_true h)]
            · rw [if_neg (by simpa using h), if_neg (by omega), if_pos (decide_eq_true h2)]
        · rw [hbi]; constructor
          · intro h; refine ⟨h.1, fun j h1 h2 => ?_⟩
            rcases Nat.eq_or_lt_of_le h1 with e | e
            · subst e; exact hg
            · exact h.2 j e h2
          · intro h; exact ⟨h.1, fun j h1 h2 => h.2 j (by omega) h2⟩
      · refine ⟨false, Ev.step (f := fun _ => some false) (fun k => ?_) (Ev.now _), ?_⟩
        · simp only [spec_l9Form.l0, l9Small_ok, l9Digit_ok, Option.bind_some]
          rw [if_pos (by omega), if_pos (by omega)]
          have h1 : ¬ smallP (bt s i) := fun h => hg (.inl h)
          rw [if_neg (by simpa using h1)]
          by_cases h0 : i = 0
          · rw [if_pos (by omega)]
          · have h2 : ¬ digitP (bt s i) := fun h => hg (.inr ⟨h0, h⟩)
            rw [if_neg (by omega), if_neg (by simpa using h2)]
        · simp only [Bool.false_eq_true, false_iff]; intro h; exact hg (h.2 i (Nat.le_refl _) hlt)
  obtain ⟨b, hb, hbi⟩ := H s.size 0 (by omega) (by omega)
  have e : b = formB s := by
    unfold formB
    rw [Bool.eq_iff_iff, hbi, decide_eq_true_eq]
    exact ⟨fun h => ⟨h.1, fun j hj => h.2 j (Nat.zero_le _) hj⟩, fun h => ⟨h.1, fun j _ hj => h.2 j hj⟩⟩
  rw [← e]; unfold spec_l9Form.f; exact hb
/-- the letters and digits from a on end at e. -/
theorem runFrom_ok (s : ByteArray) (hs : s.size ≤ 1048576) (a : Nat) (ha : a ≤ s.size) : ∃ e : Nat, a ≤ e ∧ e ≤ s.size ∧ Ev (fun k => impl_runFrom.f k s (a : Int)) (s.extract a e) ∧ (∀ j, a ≤ j → j < e → smallP (bt s j) ∨ digitP (bt s j)) ∧ (e < s.size → ¬ (smallP (bt s e) ∨ digitP (bt s e))) := by
  have H : ∀ (d i : Nat), s.size - i = d → a ≤ i → i ≤ s.size → ∃ e : Nat, i ≤ e ∧ e ≤ s.size ∧ Ev (fun k => impl_runFrom.l0 k s (a : Int) (i : Int)) (s.extract a e) ∧ (∀ j, i ≤ j → j < e → smallP (bt s j) ∨ digitP (bt s j)) ∧ (e < s.size → ¬ (smallP (bt s e) ∨ digitP (bt s e))) := by
    intro d
    induction d with
    | zero =>
      intro i hd h0 hi
      refine ⟨i, Nat.le_refl _, hi, Ev.step (f := fun _ => some (s.extract a i)) (fun k => ?_) (Ev.now _), fun j h1 h2 => by omega, fun h => by omega⟩
      simp only [impl_runFrom.l0]; rw [if_neg (by omega), if_pos (by omega), if_pos (by omega), if_pos (by omega)]; rfl
    | succ d ih =>
      intro i hd h0 hi
      have hlt : i < s.size := by omega
      by_cases hp : smallP (bt s i) ∨ digitP (bt s i)
      · obtain ⟨e, e0, e1, he, e2, e3⟩ := ih (i + 1) (by omega) (by omega) (by omega)
        refine ⟨e, by omega, e1, Ev.step (f := fun k => impl_runFrom.l0 k s (a : Int) ((i + 1 : Nat) : Int)) (fun k => ?_) he, fun j h1 h2 => ?_, e3⟩
        · simp only [impl_runFrom.l0, isPart_ok, Option.bind_some]
          rw [if_pos (by omega), if_pos (by omega), if_pos (decide_eq_true hp), w64 (by omega) (by omega)]; rfl
        · rcases Nat.eq_or_lt_of_le h1 with e | e
          · subst e; exact hp
          · exact e2 j e h2
      · refine ⟨i, Nat.le_refl _, hi, Ev.step (f := fun _ => some (s.extract a i)) (fun k => ?_) (Ev.now _), fun j h1 h2 => by omega, fun _ => hp⟩
        simp only [impl_runFrom.l0, isPart_ok, Option.bind_some]
        rw [if_pos (by omega), if_pos (by omega), if_neg (by simpa using hp), if_pos (by omega), if_pos (by omega), if_pos (by omega)]; rfl
  obtain ⟨e, e0, e1, he, e2, e3⟩ := H (s.size - a) a rfl (Nat.le_refl _) ha
  exact ⟨e, e0, e1, by unfold impl_runFrom.f; exact he, e2, e3⟩
theorem extract_size (s : ByteArray) (a e : Nat) (h : e ≤ s.size) : (s.extract a e).size = e - a := by
  rw [ByteArray.size_extract]; omega
theorem extract_all (s : ByteArray) : s.extract 0 s.size = s := by
  apply ByteArray.ext; rw [ByteArray.data_extract]; show s.data.extract 0 s.data.size = s.data; exact Array.extract_size
theorem hasForm_ok (s : ByteArray) (hs : s.size ≤ 1048576) : Ev (fun k => impl_hasForm.f k s) (formB s) := by
  simp only [impl_hasForm.f, within_ok, isLetter_ok, Option.bind_some]
  by_cases h : 1 ≤ s.size ∧ s.size ≤ 6
  · obtain ⟨e, _, e1, he, e2, e3⟩ := runFrom_ok s hs 0 (Nat.zero_le _)
    by_cases h0 : smallP (bt s 0)
    · refine Ev.congr (f := fun k => (impl_runFrom.f k s 0).bind fun t => some (t.toList == s.toList)) (fun k => ?_) (Ev.bind (a := s.extract 0 e) he ?_)
      · rw [if_pos (decide_eq_true (by omega)), if_pos (by omega), if_pos (decide_eq_true h0)]
      · have : ((s.extract 0 e).toList == s.toList) = formB s := by
          unfold formB
          rw [Bool.eq_iff_iff, beq_iff_eq, decide_eq_true_eq]
          constructor
          · intro heq
            have hl := congrArg List.length heq
            rw [bal_length, bal_length, extract_size s 0 e e1] at hl
            refine ⟨h, fun j hj => ?_⟩
            by_cases hj0 : j = 0
            · subst hj0; exact .inl h0
            · rcases e2 j (Nat.zero_le _) (by omega) with q | q
              · exact .inl q
              · exact .inr ⟨hj0, q⟩
          · intro hf
            have : e = s.size := by
              rcases Nat.lt_or_ge e s.size with q | q
              · exact absurd (by rcases hf.2 e q with z | ⟨_, z⟩; exact .inl z; exact .inr z) (e3 q)
              · omega
            subst this; rw [extract_all]
        rw [this]; exact Ev.now _
    · refine Ev.congr (f := fun _ => some (formB s)) (fun k => ?_) (Ev.now _)
      have hf : formB s = false := by
        unfold formB; rw [decide_eq_false_iff_not]; intro hf
        rcases hf.2 0 (by omega) with q | ⟨q, _⟩
        · exact h0 q
        · exact q rfl
      rw [if_pos (decide_eq_true (by omega)), if_pos (by omega), if_neg (by simpa using h0), hf]
  · refine Ev.congr (f := fun _ => some (formB s)) (fun k => ?_) (Ev.now _)
    have hf : formB s = false := by unfold formB; rw [decide_eq_false_iff_not]; intro hf; exact h hf.1
    rw [if_neg (by simp; omega), hf]
def nameB (s : ByteArray) : Bool := formB s && !keptB s
theorem l9Name_ok (s : ByteArray) (hs : s.size ≤ 1048576) : Ev (fun k => spec_l9Name.f k s) (nameB s) := by
  simp only [spec_l9Name.f, kept31_ok, Option.bind_some]
  refine Ev.bind (l9Form_ok s hs) ?_
  unfold nameB
  cases formB s with
  | false => exact Ev.congr (f := fun _ => some false) (fun k => by rw [if_neg (by simp)]) (Ev.now _)
  | true =>
    obtain ⟨r, hr, hri⟩ := specKept_ok s
    refine Ev.congr (f := fun k => (spec_l9At.f k (opW23 ++ regW8) s).bind fun t => some (decide (t < 0))) (fun k => by rw [if_pos rfl]) (Ev.bind hr ?_)
    have : decide (r < 0) = (true && !keptB s) := by
      cases hk : keptB s with
      | true => have := hri.2 hk; simp; omega
      | false => have : ¬ 0 ≤ r := fun h => by rw [hri.1 h] at hk; simp at hk
                 simp; omega
    rw [this]; exact Ev.now _
theorem isName_ok (s : ByteArray) (hs : s.size ≤ 1048576) : Ev (fun k => impl_isName.f k s) (nameB s) := by
  simp only [impl_isName.f]
  refine Ev.bind (hasForm_ok s hs) ?_
  unfold nameB
  cases formB s with
  | false => exact Ev.congr (f := fun _ => some false) (fun k => by rw [if_neg (by simp)]) (Ev.now _)
  | true => exact Ev.congr (f := fun k => (impl_isKept.f k s).bind fun t => some (!t)) (fun k => by rw [if_pos rfl]) (Ev.bind (isKept_ok s) (Ev.now _))
/-- is a term's own part right? -/
def hereB (K N : Int) (nb ne : Bool) (n : Nat) : Bool :=
  if K = 1 then decide (0 ≤ N ∧ N ≤ 65535) && !ne && decide (n = 0)
  else if K = 2 ∨ K = 12 then decide (N = 0) && nb && decide (n = 0)
  else if K = 11 then decide (0 ≤ N ∧ N ≤ 9) && !ne && decide (n = 0)
  else if K = 3 then decide (N = 0) && !ne && decide (n = 0)
  else if K = 4 then decide (N = 0) && !ne && decide (n = 1)
  else if 5 ≤ K ∧ K ≤ 10 then decide (N = 0) && !ne && decide (n = 2)
  else false
theorem kcases (K : Int) : K = 1 ∨ K = 2 ∨ K = 3 ∨ K = 4 ∨ K = 5 ∨ K = 6 ∨ K = 7 ∨ K = 8 ∨ K = 9 ∨ K = 10 ∨ K = 11 ∨ K = 12 ∨ (K ≠ 1 ∧ K ≠ 2 ∧ K ≠ 3 ∧ K ≠ 4 ∧ K ≠ 5 ∧ K ≠ 6 ∧ K ≠ 7 ∧ K ≠ 8 ∧ K ≠ 9 ∧ K ≠ 10 ∧ K ≠ 11 ∧ K ≠ 12) := by omega
theorem l10Here_ok (K N : Int) (s : ByteArray) (l : List S29) (hs : s.size ≤ 1048576) : Ev (fun k => spec_l10Here.f k K N s l) (hereB K N (nameB s) (s.toList != []) l.length) := by
  obtain ⟨K1, h1⟩ := l9Name_ok s hs
  refine ⟨K1 + 4, fun k hk => ?_⟩
  obtain ⟨m, rfl⟩ : ∃ m, k = m + 3 := ⟨k - 3, by omega⟩
  simp only [spec_l10Here.f, spec_l10Here.j0, spec_l10Here.j1, spec_l10Here.j2, h1 (m + 1) (by omega), h1 m (by omega), l1In_ok, Option.bind_some]
  generalize nameB s = nb
  generalize (s.toList != []) = ne
  generalize l.length = n
  have e : ∀ q : Nat, ((n : Int) == (q : Int)) = decide (n = q) := fun q => by rw [Bool.eq_iff_iff]; simp; omega
  have e0 := e 0; have e1 := e 1; have e2 := e 2
  simp only [Int.natCast_zero, Int.natCast_one, Int.reduceNatCast] at e0 e1 e2
  simp only [Int.cast_ofNat_Int] at e0 e1 e2
  simp only [e0, e1, e2]
  rcases kcases K with rfl | rfl | rfl | rfl | rfl | rfl | rfl | rfl | rfl | rfl | rfl | rfl | ⟨g1, g2, g3, g4, g5, g6, g7, g8, g9, g10, g11, g12⟩
  all_goals first
    | (cases nb <;> cases ne <;> by_cases hN : N = 0 <;> simp [hereB, hN] <;> done)
    | (cases nb <;> cases ne <;> by_cases hN : 0 ≤ N ∧ N ≤ 65535 <;> simp [hereB, hN] <;> done)
    | (cases nb <;> cases ne <;> by_cases hN : 0 ≤ N ∧ N ≤ 9 <;> simp [hereB, hN] <;> done)
    | (have g : ¬ (5 ≤ K ∧ K ≤ 10) := by omega
       cases nb <;> cases ne <;> by_cases hN : N = 0 <;> simp [hereB, hN, g1, g2, g3, g4, g5, g6, g7, g8, g9, g10, g11, g12, g] <;> done)
def deepPlain (K : Int) (plain : Bool) : Bool := plain && (decide (K = 11) || decide (K = 12))
/-- spec: a node that is right asks for its parts. -/
theorem l10Ok_node (K N : Int) (s : ByteArray) (l : List S29) (hs : s.size ≤ 1048576) (d : Int) (plain r : Bool) (h : hereB K N (nameB s) (s.toList != []) l.length = true → deepPlain K plain = false → d ≤ 6 → Ev (fun k => spec_l10Ok.l0 k d plain 0 K N s l) r) :
    Ev (fun k => spec_l10Ok.f k K N s l d plain) (if (hereB K N (nameB s) (s.toList != []) l.length && !deepPlain K plain && decide (d ≤ 6)) = true then r else false) := by
  have no : Ev (fun k => spec_l10Ok.j0 k d plain true K N s l) false := Ev.step (f := fun _ => some false) (fun k => by simp only [spec_l10Ok.j0]; rw [if_pos trivial]) (Ev.now _)
  by_cases hd : d > 6
  · have e : decide (d ≤ 6) = false := decide_eq_false (by omega)
    rw [e, Bool.and_false, if_neg (by simp)]
    exact Ev.step (fun k => by simp only [spec_l10Ok.f]; rw [if_pos hd]) no
  have e : decide (d ≤ 6) = true := decide_eq_true (by omega)
  rw [e, Bool.and_true]
  refine Ev.step (fun k => by simp only [spec_l10Ok.f]; rw [if_neg hd]) (Ev.bind (l10Here_ok K N s l hs) ?_)
  cases hh : hereB K N (nameB s) (s.toList != []) l.length with
  | false => rw [Bool.false_and, if_neg (by simp)]; exact Ev.congr (fun k => by rw [if_neg (by simp)]) no
  | true =>
    rw [Bool.true_and]
    cases hp : deepPlain K plain with
    | true =>
      rw [if_neg (by simp)]
      have hp' := hp
      unfold deepPlain at hp'
      simp only [Bool.and_eq_true, Bool.or_eq_true, decide_eq_true_eq] at hp'
      refine Ev.congr (f := fun k => spec_l10Ok.j0 k d plain true K N s l) (fun k => ?_) no
      rw [if_pos rfl, if_pos hp'.1]
      rcases hp'.2 with h11 | h12
      · rw [if_pos h11]
      · rw [if_neg (by omega), h12]; rfl
    | false =>
      have yes : Ev (fun k => spec_l10Ok.j0 k d plain false K N s l) r := Ev.step (fun k => by simp only [spec_l10Ok.j0]; rw [if_neg (by simp)]) (h hh hp (by omega))
      rw [Bool.not_false, if_pos rfl]
      refine Ev.congr (f := fun k => spec_l10Ok.j0 k d plain false K N s l) (fun k => ?_) yes
      rw [if_pos rfl]
      unfold deepPlain at hp
      cases plain with
      | false => rw [if_neg (by simp)]
      | true =>
        simp only [Bool.true_and, Bool.or_eq_false_iff, decide_eq_false_iff_not] at hp
        rw [if_pos rfl, if_neg hp.1, beq_eq_false_iff_ne.2 hp.2]
set_option maxHeartbeats 4000000 in
theorem termOk_node (K N : Int) (s : ByteArray) (l : List S29) (hs : s.size ≤ 1048576) (d : Int) (plain r : Bool) (h : hereB K N (nameB s) (s.toList != []) l.length = true → deepPlain K plain = false → 1 ≤ d → Ev (fun k => impl_termOk.l0 k d plain l (l.length : Int) 0) r) :
    Ev (fun k => impl_termOk.f k K N s l d plain) (if (hereB K N (nameB s) (s.toList != []) l.length && !deepPlain K plain && decide (1 ≤ d)) = true then r else false) := by
  obtain ⟨K1, h1⟩ := isName_ok s hs
  obtain ⟨K2, h2⟩ : ∃ K2, ∀ k, K2 ≤ k → hereB K N (nameB s) (s.toList != []) l.length = true → deepPlain K plain = false → 1 ≤ d → impl_termOk.l0 k d plain l (l.length : Int) 0 = some r := by
    by_cases c : hereB K N (nameB s) (s.toList != []) l.length = true ∧ deepPlain K plain = false ∧ 1 ≤ d
    · obtain ⟨K2, h2⟩ := h c.1 c.2.1 c.2.2
      exact ⟨K2, fun k hk _ _ _ => h2 k hk⟩
    · exact ⟨0, fun k _ a b e => absurd ⟨a, b, e⟩ c⟩
  clear h
  have eb : (s.toList == ([] : List UInt8)) = !(s.toList != []) := by cases s.toList <;> rfl
  have J2 : ∀ k, K2 + 3 ≤ k → ∀ (p : Int) (ok : Bool), impl_termOk.j2 k d plain p ok K N s l = (if (ok && decide (1 ≤ d) && decide ((l.length : Int) = p)) = true then impl_termOk.l0 (k - 2) d plain l (l.length : Int) 0 else some false) := by
    intro k hk p ok
    obtain ⟨k, rfl⟩ : ∃ m, k = m + 2 := ⟨k - 2, by omega⟩
    simp only [impl_termOk.j2, impl_termOk.j3, Nat.add_sub_cancel]
    cases ok with
    | false => rw [if_neg (by simp), if_pos trivial, if_neg (by simp)]
    | true =>
      simp only [if_true, Bool.true_and]
      by_cases hd : d < 1
      · simp [hd, show ¬ 1 ≤ d by omega]
      · by_cases hp : (l.length : Int) = p
        · subst hp; simp [hd, show 1 ≤ d by omega]
        · simp [hd, hp]
  refine ⟨K1 + K2 + 8, fun k hk => ?_⟩
  obtain ⟨m, rfl⟩ : ∃ m, k = m + 3 := ⟨k - 3, by omega⟩
  have L0 : (hereB K N (nameB s) (s.toList != []) l.length && !deepPlain K plain && decide (1 ≤ d)) = true → impl_termOk.l0 m d plain l (l.length : Int) 0 = some r := fun h => by
    simp only [Bool.and_eq_true, Bool.not_eq_true', decide_eq_true_eq] at h
    exact h2 m (by omega) h.1.1 h.1.2 h.2
  have L1 : (hereB K N (nameB s) (s.toList != []) l.length && !deepPlain K plain && decide (1 ≤ d)) = true → impl_termOk.l0 (m - 1) d plain l (l.length : Int) 0 = some r := fun h => by
    simp only [Bool.and_eq_true, Bool.not_eq_true', decide_eq_true_eq] at h
    exact h2 (m - 1) (by omega) h.1.1 h.1.2 h.2
  have L2 : (hereB K N (nameB s) (s.toList != []) l.length && !deepPlain K plain && decide (1 ≤ d)) = true → impl_termOk.l0 (m - 2) d plain l (l.length : Int) 0 = some r := fun h => by
    simp only [Bool.and_eq_true, Bool.not_eq_true', decide_eq_true_eq] at h
    exact h2 (m - 2) (by omega) h.1.1 h.1.2 h.2
  have eL0 : m + 2 - 2 = m := by omega
  have eL1 : m + 1 - 2 = m - 1 := by omega
  simp only [impl_termOk.f, impl_termOk.j0, impl_termOk.j1, J2 m (by omega), J2 (m + 1) (by omega), J2 (m + 2) (by omega), h1 (m + 1) (by omega), impl_isWord.f, impl_isTwo.f, within_ok, Option.bind_some, eb, eL0, eL1]
  clear J2 h1 h2 eb eL0 eL1
  generalize impl_termOk.l0 m d plain l (l.length : Int) 0 = A0 at *
  generalize impl_termOk.l0 (m - 1) d plain l (l.length : Int) 0 = A1 at *
  generalize impl_termOk.l0 (m - 2) d plain l (l.length : Int) 0 = A2 at *
  generalize nameB s = nb at *
  generalize (s.toList != []) = ne at *
  generalize l.length = n at *
  clear hk hs
  have e0 : decide ((n : Int) = 0) = decide (n = 0) := by rw [Bool.eq_iff_iff]; simp
  have e1 : decide ((n : Int) = 1) = decide (n = 1) := by rw [Bool.eq_iff_iff]; simp; omega
  have e2 : decide ((n : Int) = 2) = decide (n = 2) := by rw [Bool.eq_iff_iff]; simp; omega
  simp only [e0, e1, e2]
  clear e0 e1 e2
  generalize decide (1 ≤ d) = dd at *
  simp only [hereB, deepPlain] at *
  rcases kcases K with rfl | rfl | rfl | rfl | rfl | rfl | rfl | rfl | rfl | rfl | rfl | rfl | ⟨g1, g2, g3, g4, g5, g6, g7, g8, g9, g10, g11, g12⟩
  · by_cases hN : 0 ≤ N ∧ N ≤ 65535
    · have e := decide_eq_true hN
      simp only [e] at *; clear e hN
      by_cases z0 : n = 0 <;> cases ne <;> cases dd <;> simp_all
    · have e := decide_eq_false hN
      simp only [e] at *; clear e hN
      simp
  · by_cases hN : N = 0 <;> by_cases z0 : n = 0 <;> cases nb <;> cases dd <;> simp_all
  · by_cases hN : N = 0 <;> by_cases z0 : n = 0 <;> cases ne <;> cases dd <;> simp_all
  · by_cases hN : N = 0 <;> by_cases z1 : n = 1 <;> cases ne <;> cases dd <;> simp_all
  · by_cases hN : N = 0 <;> by_cases z2 : n = 2 <;> cases ne <;> cases dd <;> simp_all
  · by_cases hN : N = 0 <;> by_cases z2 : n = 2 <;> cases ne <;> cases dd <;> simp_all
  · by_cases hN : N = 0 <;> by_cases z2 : n = 2 <;> cases ne <;> cases dd <;> simp_all
  · by_cases hN : N = 0 <;> by_cases z2 : n = 2 <;> cases ne <;> cases dd <;> simp_all
  · by_cases hN : N = 0 <;> by_cases z2 : n = 2 <;> cases ne <;> cases dd <;> simp_all
  · by_cases hN : N = 0 <;> by_cases z2 : n = 2 <;> cases ne <;> cases dd <;> simp_all
  · by_cases hN : 0 ≤ N ∧ N ≤ 9
    · have e := decide_eq_true hN
      simp only [e] at *; clear e hN
      by_cases z0 : n = 0 <;> cases ne <;> cases dd <;> cases plain <;> simp_all
    · have e := decide_eq_false hN
      simp only [e] at *; clear e hN
      cases plain <;> simp
  · by_cases hN : N = 0 <;> by_cases z0 : n = 0 <;> cases nb <;> cases dd <;> cases plain <;> simp_all
  · have g : ¬ (5 ≤ K ∧ K ≤ 10) := by omega
    simp [g1, g2, g3, g4, g5, g6, g7, g8, g9, g10, g11, g12, g]
/-- both find the same of a small term. -/
def OkT (x : S29) : Prop := ∀ d : Int, 0 ≤ d → d ≤ 6 → ∀ plain : Bool, ∃ b, Ev (fun k => spec_l10Ok.f k x.f0 x.f1 x.f2 x.f3 (7 - d) plain) b ∧ Ev (fun k => impl_termOk.f k x.f0 x.f1 x.f2 x.f3 d plain) b
theorem okExprS (x : S29) (hx : x.f3.length ≤ 1048576) (h : ∀ z ∈ x.f3, OkT z) (d : Int) (d0 : 1 ≤ d) (d6 : d ≤ 6) (plain : Bool) : ∀ (e i : Nat), x.f3.length - i = e → i ≤ x.f3.length →
    ∃ b, Ev (fun k => spec_l10Ok.l0 k (7 - d) plain (i : Int) x.f0 x.f1 x.f2 x.f3) b ∧ Ev (fun k => impl_termOk.l0 k d plain x.f3 (x.f3.length : Int) (i : Int)) b := by
  intro e
  induction e with
  | zero =>
    intro i he hi
    refine ⟨true, Ev.step (f := fun _ => some true) (fun k => ?_) (Ev.now _), Ev.step (f := fun _ => some true) (fun k => ?_) (Ev.now _)⟩
    · simp only [spec_l10Ok.l0]; rw [if_neg (by omega)]
    · simp only [impl_termOk.l0]; rw [if_neg (by omega)]
  | succ e ih =>
    intro i he hi
    have hlt : i < x.f3.length := by omega
    have w1 : wrap64 ((i : Int) + 1) = ((i + 1 : Nat) : Int) := by rw [w64 (by omega) (by omega)]; rfl
    have w2 : wrap64 (7 - d + 1) = 7 - (d - 1) := by rw [w64 (by omega) (by omega)]; omega
    have w3 : wrap64 (d - 1) = d - 1 := w64 (by omega) (by omega)
    obtain ⟨b, hs, hi'⟩ := h _ (rdI_in x.f3 i hlt) (d - 1) (by omega) (by omega) plain
    obtain ⟨c, cs, ci⟩ := ih (i + 1) (by omega) (by omega)
    refine ⟨if b = true then c else false, ?_, ?_⟩
    · refine Ev.step (f := fun k => (spec_l10Ok.f k (rd_T29 x.f3 (i : Int)).f0 (rd_T29 x.f3 (i : Int)).f1 (rd_T29 x.f3 (i : Int)).f2 (rd_T29 x.f3 (i : Int)).f3 (7 - (d - 1)) plain).bind fun t => if t = true then spec_l10Ok.l0 k (7 - d) plain ((i + 1 : Nat) : Int) x.f0 x.f1 x.f2 x.f3 else some false) (fun k => ?_) (Ev.bind hs ?_)
      · simp only [spec_l10Ok.l0, w1, w2]; rw [if_pos (by omega), if_pos (by omega)]
      · cases b with
        | true => exact Ev.congr (fun k => by rw [if_pos rfl]) cs
        | false => exact Ev.congr (f := fun _ => some false) (fun k => by rw [if_neg (by decide)]) (Ev.now _)
    · refine Ev.step (f := fun k => (impl_termOk.f k (rd_T29 x.f3 (i : Int)).f0 (rd_T29 x.f3 (i : Int)).f1 (rd_T29 x.f3 (i : Int)).f2 (rd_T29 x.f3 (i : Int)).f3 (d - 1) plain).bind fun t => if t = true then impl_termOk.l0 k d plain x.f3 (x.f3.length : Int) ((i + 1 : Nat) : Int) else some false) (fun k => ?_) (Ev.bind hi' ?_)
      · simp only [impl_termOk.l0, w1, w3]; rw [if_pos (by omega), if_pos (by omega), if_pos (by omega)]
      · cases b with
        | true => exact Ev.congr (fun k => by rw [if_pos rfl]) ci
        | false => exact Ev.congr (f := fun _ => some false) (fun k => by rw [if_neg (by decide)]) (Ev.now _)
theorem okExpr_ok (x : S29) (g : Small x) : OkT x := by
  induction g with
  | mk x h2 h3 h ih =>
    intro d d0 d6 plain
    by_cases hd : 1 ≤ d
    · obtain ⟨b, b1, b2⟩ := okExprS x h3 ih d hd d6 plain x.f3.length 0 (by omega) (by omega)
      have e1 := l10Ok_node x.f0 x.f1 x.f2 x.f3 h2 (7 - d) plain b (fun _ _ _ => by simpa using b1)
      have e2 := termOk_node x.f0 x.f1 x.f2 x.f3 h2 d plain b (fun _ _ _ => by simpa using b2)
      rw [decide_eq_true (show 7 - d ≤ 6 by omega)] at e1
      rw [decide_eq_true hd] at e2
      exact ⟨_, e1, e2⟩
    · have e1 := l10Ok_node x.f0 x.f1 x.f2 x.f3 h2 (7 - d) plain false (fun _ _ h => by omega)
      have e2 := termOk_node x.f0 x.f1 x.f2 x.f3 h2 d plain false (fun _ _ h => absurd h hd)
      rw [decide_eq_false (show ¬ 7 - d ≤ 6 by omega)] at e1
      rw [decide_eq_false hd] at e2
      exact ⟨_, e1, e2⟩
theorem dg8_mod (v : Nat) : dg8 (v % 8) = dg8 v := by unfold dg8; rw [Nat.mod_mod]
theorem one_digit (v : Nat) : strOfNums [(wrap64 (48 + bits .and .i64 (v : Int) 7)) % 256] = ⟨#[dg8 v]⟩ := by
  rw [and7, w64 (by omega) (by omega)]
  unfold strOfNums dg8
  have e : ((48 + (v : Int) % 8) % 256).toNat = 48 + v % 8 := by omega
  simp [e]
theorem specOct_loop : ∀ (m x : Nat) (x3 : ByteArray), x < 8 ^ (m + 1) → x3.size + m ≤ 100 → ∃ r, Ev (fun k => spec_Oct.l0 k (x : Int) x3) r ∧ r.data.toList = (if x < 8 then [] else octF m (x / 8)) ++ x3.data.toList := by
  intro m
  induction m with
  | zero =>
    intro x x3 hx hs
    have h8 : x < 8 := by simpa using hx
    refine ⟨x3, Ev.step (f := fun _ => some x3) (fun k => ?_) (Ev.now _), by rw [if_pos h8]; rfl⟩
    rw [spec_Oct.l0.eq_def]; simp only []; rw [if_neg (by omega)]
  | succ m ih =>
    intro x x3 hx hs
    by_cases h8 : x < 8
    · refine ⟨x3, Ev.step (f := fun _ => some x3) (fun k => ?_) (Ev.now _), by rw [if_pos h8]; rfl⟩
      rw [spec_Oct.l0.eq_def]; simp only []; rw [if_neg (by omega)]
    · have hz : (⟨#[dg8 (x / 8)]⟩ : ByteArray).size = 1 := rfl
      have hlt : x / 8 < 8 ^ (m + 1) := by rw [Nat.pow_succ] at hx; omega
      obtain ⟨r, hr, ht⟩ := ih (x / 8) ((⟨#[dg8 (x / 8)]⟩ : ByteArray) ++ x3) hlt (by rw [ByteArray.size_append, hz]; omega)
      have ex : ((x : Int) / 8) = ((x / 8 : Nat) : Int) := by omega
      refine ⟨r, Ev.step (f := fun k => spec_Oct.l0 k ((x / 8 : Nat) : Int) ((⟨#[dg8 (x / 8)]⟩ : ByteArray) ++ x3)) (fun k => ?_) hr, ?_⟩
      · rw [spec_Oct.l0.eq_def]
        simp only [ex, one_digit, Option.bind_some, hz]
        rw [if_pos (by omega), if_pos (by omega)]
      · rw [ht, if_neg h8, octF]
        by_cases h9 : x / 8 < 8
        · rw [if_pos h9, if_pos h9]; simp
        · rw [if_neg h9, if_neg h9, dg8_mod]; simp
theorem octF_len : ∀ m v, (octF m v).length ≤ m := by
  intro m
  induction m with
  | zero => intro v; simp [octF]
  | succ m ih =>
    intro v
    rw [octF]
    split
    · simp
    · simp only [List.length_append, List.length_cons, List.length_nil]; have := ih (v / 8); omega
/-- both make the digits of a word. -/
theorem specOct_ok (n : Int) : ∃ r, Ev (fun k => spec_Oct.f k n) r ∧ r.data.toList = octF 6 (n % 65536).toNat := by
  obtain ⟨t, ht⟩ : ∃ t : Nat, n % 65536 = t := ⟨(n % 65536).toNat, by omega⟩
  have hlt : t < 65536 := by omega
  rw [ht]
  obtain ⟨r, hr, h2⟩ := specOct_loop 5 t (⟨#[dg8 t]⟩ : ByteArray) (by omega) (by simp [ByteArray.size])
  refine ⟨r, ?_, ?_⟩
  · simp only [spec_Oct.f, spec_Wrap.f, and65535, Option.bind_some, ht, one_digit]
    exact hr
  · rw [h2, Int.toNat_natCast, show octF 6 t = if t < 8 then [dg8 t] else octF 5 (t / 8) ++ [dg8 (t % 8)] from rfl]
    by_cases h8 : t < 8
    · rw [if_pos h8, if_pos h8]; rfl
    · rw [if_neg h8, if_neg h8, dg8_mod]
theorem implOct_ok (n : Int) : ∃ r, impl_Oct.f n = some r ∧ r.data.toList = octF 6 (n % 65536).toNat := by
  refine ⟨⟨(octF 6 (n % 65536).toNat).toArray⟩, ?_, rfl⟩
  simp only [impl_Oct.f, impl_Wrap.f, and65535, Option.bind_some, strconv_FormatInt_76.f]
  rw [if_pos ⟨trivial, by omega, by omega⟩]
  rfl
theorem rd45 (l : List S45) (i : Nat) (h : i < l.length) : rd_T45 l (i : Int) = l[i] := by simp [rd_T45, List.getD_eq_getElem?_getD, h]
theorem join_step (r : List (List UInt8)) (i : Nat) (y : List UInt8) (h : r[i]? = some y) (sep : List UInt8) : Lib.join (r.take (i + 1)) sep = if i = 0 then y else Lib.join (r.take i) sep ++ sep ++ y := by
  cases r with
  | nil => simp at h
  | cons x t =>
    cases i with
    | zero => simp at h; subst h; simp [Lib.join_one]
    | succ i =>
      have h2 : t[i]? = some y := by simpa using h
      rw [if_neg (by omega), List.take_succ_cons, List.take_succ_cons, Lib.join_cons, Lib.join_cons, Lib.joinTail_take_succ sep t i y h2]
      simp [List.append_assoc]
def ttext (t : S45) : List UInt8 := if t.f0 = 2 then octF 6 (t.f1 % 65536).toNat else t.f2.data.toList
theorem ttext_len (t : S45) (h : t.f2.size ≤ 1048576) : (ttext t).length ≤ 1048576 := by
  unfold ttext
  split
  · have := octF_len 6 (t.f1 % 65536).toNat; omega
  · rw [Array.length_toList]; exact h
theorem specLine_loop (l : List S45) (hl : l.length ≤ 1048576) (hs : ∀ t ∈ l, t.f2.size ≤ 1048576) : ∀ (d i : Nat) (x3 : ByteArray), l.length - i = d → i ≤ l.length → x3.data.toList = Lib.join ((l.map ttext).take i) [32] → x3.size ≤ i * 1048577 →
    ∃ r, Ev (fun k => spec_LineOf.l0 k l x3 (i : Int)) r ∧ r.data.toList = Lib.join (l.map ttext) [32] ∧ r.size ≤ 1048576 * 1048577 := by
  intro d
  induction d with
  | zero =>
    intro i x3 hd hi hx hz
    have e : i = l.length := by omega
    refine ⟨x3, Ev.step (f := fun _ => some x3) (fun k => ?_) (Ev.now _), by rw [hx, List.take_of_length_le (by simp; omega)], Nat.le_trans hz (Nat.mul_le_mul_right _ (by omega))⟩
    rw [spec_LineOf.l0.eq_def]; simp only []; rw [if_neg (by omega)]
  | succ d ih =>
    intro i x3 hd hi hx hz
    have hlt : i < l.length := by omega
    have hr := rd45 l i hlt
    have hq := hs _ (List.getElem_mem hlt)
    have h1 : (⟨#[32]⟩ : ByteArray).size = 1 := rfl
    have g1 : (i : Int) < (l.length : Int) := by omega
    have g2 : 0 ≤ (i : Int) := by omega
    have w2 : wrap64 ((i : Int) + 1) = ((i + 1 : Nat) : Int) := by rw [w64 (by omega) (by omega)]; rfl
    have hz2 : x3.size ≤ 1048576 * 1048577 := Nat.le_trans hz (Nat.mul_le_mul_right _ (by omega))
    have hj := join_step (l.map ttext) i (ttext l[i]) (by simp [hlt]) [32]
    -- the token's own text
    obtain ⟨q, q1, q2, q3⟩ : ∃ q : ByteArray, (∀ (F : Nat → ByteArray → Option ByteArray) (r : ByteArray), Ev (fun k => F k q) r → Ev (fun k => if l[i].f0 = 2 then (spec_Oct.f k l[i].f1).bind (F k) else F k l[i].f2) r) ∧ q.data.toList = ttext l[i] ∧ q.size ≤ 1048576 := by
      by_cases c : l[i].f0 = 2
      · obtain ⟨q, e1, e2⟩ := specOct_ok l[i].f1
        refine ⟨q, fun F r h => Ev.congr (fun k => by rw [if_pos c]) (Ev.bind e1 h), by rw [e2, ttext, if_pos c], ?_⟩
        have := octF_len 6 (l[i].f1 % 65536).toNat
        rw [← e2, Array.length_toList] at this
        exact Nat.le_trans this (by omega)
      · exact ⟨l[i].f2, fun F r h => Ev.congr (fun k => by rw [if_neg c]) h, by rw [ttext, if_neg c], hq⟩
    by_cases c0 : i = 0
    · subst c0
      have e3 : (x3 ++ q).data.toList = Lib.join ((l.map ttext).take (0 + 1)) [32] := by
        rw [hj, if_pos rfl]; simp [hx, Lib.join_nil, q2]
      obtain ⟨r, r1, r2, r3⟩ := ih 1 (x3 ++ q) (by omega) (by omega) e3 (by rw [ByteArray.size_append]; omega)
      refine ⟨r, ?_, r2, r3⟩
      have st := q1 (fun k t => if x3.size + t.size ≤ 9223372036854775807 then spec_LineOf.l0 k l (x3 ++ t) ((1 : Nat) : Int) else none) r (Ev.congr (fun k => by rw [if_pos (by omega)]) r1)
      refine Ev.step (fun k => ?_) st
      rw [spec_LineOf.l0.eq_def]; simp only [hr, w2]
      rw [if_pos g1, if_neg (by omega), if_pos g2]
    · have e3 : ((x3 ++ (⟨#[32]⟩ : ByteArray)) ++ q).data.toList = Lib.join ((l.map ttext).take (i + 1)) [32] := by
        rw [hj, if_neg c0]; simp [hx, q2]
      obtain ⟨r, r1, r2, r3⟩ := ih (i + 1) ((x3 ++ (⟨#[32]⟩ : ByteArray)) ++ q) (by omega) (by omega) e3 (by rw [ByteArray.size_append, ByteArray.size_append, h1]; omega)
      refine ⟨r, ?_, r2, r3⟩
      have hsz : (x3 ++ (⟨#[32]⟩ : ByteArray)).size = x3.size + 1 := by rw [ByteArray.size_append, h1]
      have st := q1 (fun k t => if (x3 ++ (⟨#[32]⟩ : ByteArray)).size + t.size ≤ 9223372036854775807 then spec_LineOf.l0 k l ((x3 ++ (⟨#[32]⟩ : ByteArray)) ++ t) ((i + 1 : Nat) : Int) else none) r (Ev.congr (fun k => by rw [if_pos (by omega)]) r1)
      refine Ev.step (fun k => ?_) st
      rw [spec_LineOf.l0.eq_def]; simp only [hr, w2]
      rw [if_pos g1, if_pos (by omega), if_pos (by omega), if_pos g2]
theorem implLine_loop (l : List S45) (hl : l.length ≤ 1048576) (hj : (Lib.join (l.map ttext) [32]).length ≤ 140737488355328) : ∀ (d i : Nat) (x3 : List ByteArray), l.length - i = d → i ≤ l.length → x3.map (·.data.toList) = (l.map ttext).take i →
    ∃ r, Ev (fun k => impl_LineOf.l0 k x3 l (l.length : Int) (i : Int)) r ∧ r.data.toList = Lib.join (l.map ttext) [32] := by
  intro d
  induction d with
  | zero =>
    intro i x3 hd hi hx
    have e : x3.map (·.data.toList) = l.map ttext := by rw [hx, List.take_of_length_le (by simp; omega)]
    have hlen : x3.length = l.length := by have := congrArg List.length e; simpa using this
    refine ⟨⟨(Lib.join (l.map ttext) [32]).toArray⟩, Ev.step (f := fun _ => some ⟨(Lib.join (l.map ttext) [32]).toArray⟩) (fun k => ?_) (Ev.now _), rfl⟩
    rw [impl_LineOf.l0.eq_def]; simp only [strings_Join.f, e]
    rw [if_neg (by omega)]
    have hc : (Lib.join (l.map ttext) ((⟨#[32]⟩ : ByteArray)).data.toList).length ≤ 140737488355328 ∧ x3.length ≤ 140737488355328 := ⟨hj, by omega⟩
    rw [if_pos hc]; rfl
  | succ d ih =>
    intro i x3 hd hi hx
    have hlt : i < l.length := by omega
    have hr := rd45 l i hlt
    have hlen : x3.length = i := by have := congrArg List.length hx; simp at this; omega
    have g1 : (i : Int) < (l.length : Int) := by omega
    have g2 : 0 ≤ (i : Int) := by omega
    have w2 : wrap64 ((i : Int) + 1) = ((i + 1 : Nat) : Int) := by rw [w64 (by omega) (by omega)]; rfl
    obtain ⟨q, q1, q2⟩ : ∃ q : ByteArray, (if l[i].f0 = 2 then impl_Oct.f l[i].f1 else some l[i].f2) = some q ∧ q.data.toList = ttext l[i] := by
      by_cases c : l[i].f0 = 2
      · obtain ⟨q, e1, e2⟩ := implOct_ok l[i].f1
        exact ⟨q, by rw [if_pos c]; exact e1, by rw [e2, ttext, if_pos c]⟩
      · exact ⟨l[i].f2, if_neg c, by rw [ttext, if_neg c]⟩
    obtain ⟨r, r1, r2⟩ := ih (i + 1) (x3 ++ [q]) (by omega) (by omega) (by
      rw [List.map_append, hx, List.take_add_one, List.getElem?_map, List.getElem?_eq_getElem hlt]; simp [q2])
    refine ⟨r, Ev.step (f := fun k => impl_LineOf.l0 k (x3 ++ [q]) l (l.length : Int) ((i + 1 : Nat) : Int)) (fun k => ?_) r1, r2⟩
    rw [impl_LineOf.l0.eq_def]; simp only [hr, w2]
    rw [if_pos g1, if_pos g2, if_pos g1]
    by_cases c : l[i].f0 = 2
    · rw [if_pos c] at q1 ⊢
      rw [q1, Option.bind_some, if_pos (by omega)]
    · rw [if_neg c] at q1 ⊢
      rw [Option.some.inj q1, if_pos (by omega)]
/-- a term that is right and plain at each node, so deep at most. -/
inductive PlainT : Nat → S29 → Prop
  | mk (d : Nat) (x : S29) (h0 : hereB x.f0 x.f1 (nameB x.f2) (x.f2.toList != []) x.f3.length = true) (hp : deepPlain x.f0 true = false) (h : ∀ y ∈ x.f3, PlainT d y) : PlainT (d + 1) x
theorem okP_parts (x : S29) (hx : x.f3.length ≤ 1048576) (h : ∀ z ∈ x.f3, OkT z) (d : Int) (d0 : 1 ≤ d) (d6 : d ≤ 6) (plain : Bool) : ∀ (e i : Nat), x.f3.length - i = e → i ≤ x.f3.length →
    Ev (fun k => spec_l10Ok.l0 k (7 - d) plain (i : Int) x.f0 x.f1 x.f2 x.f3) true → ∀ j, i ≤ j → ∀ hj : j < x.f3.length, Ev (fun k => spec_l10Ok.f k x.f3[j].f0 x.f3[j].f1 x.f3[j].f2 x.f3[j].f3 (7 - (d - 1)) plain) true := by
  intro e
  induction e with
  | zero => intro i he hi _ j h1 h2; omega
  | succ e ih =>
    intro i he hi ht j h1 h2
    have hlt : i < x.f3.length := by omega
    have w1 : wrap64 ((i : Int) + 1) = ((i + 1 : Nat) : Int) := by rw [w64 (by omega) (by omega)]; rfl
    have w2 : wrap64 (7 - d + 1) = 7 - (d - 1) := by rw [w64 (by omega) (by omega)]; omega
    obtain ⟨b, hs, _⟩ := h _ (rdI_in x.f3 i hlt) (d - 1) (by omega) (by omega) plain
    obtain ⟨c, cs, _⟩ := okExprS x hx h d d0 d6 plain e (i + 1) (by omega) (by omega)
    have hv : Ev (fun k => spec_l10Ok.l0 k (7 - d) plain (i : Int) x.f0 x.f1 x.f2 x.f3) (if b = true then c else false) := by
      refine Ev.step (f := fun k => (spec_l10Ok.f k (rd_T29 x.f3 (i : Int)).f0 (rd_T29 x.f3 (i : Int)).f1 (rd_T29 x.f3 (i : Int)).f2 (rd_T29 x.f3 (i : Int)).f3 (7 - (d - 1)) plain).bind fun t => if t = true then spec_l10Ok.l0 k (7 - d) plain ((i + 1 : Nat) : Int) x.f0 x.f1 x.f2 x.f3 else some false) (fun k => ?_) (Ev.bind hs ?_)
      · simp only [spec_l10Ok.l0, w1, w2]; rw [if_pos (by omega), if_pos (by omega)]
      · cases b with
        | true => exact Ev.congr (fun k => by rw [if_pos rfl]) cs
        | false => exact Ev.congr (f := fun _ => some false) (fun k => by rw [if_neg (by decide)]) (Ev.now _)
    have hb := Ev.one hv ht
    cases b with
    | false => simp at hb
    | true =>
      rw [if_pos rfl] at hb; subst hb
      by_cases g : i = j
      · subst g; rw [rdI_at x.f3 i hlt] at hs; exact hs
      · exact ih (i + 1) (by omega) (by omega) cs j (by omega) h2
theorem okExpr_plain (x : S29) (g : Small x) : ∀ d : Nat, d ≤ 6 → Ev (fun k => spec_l10Ok.f k x.f0 x.f1 x.f2 x.f3 (7 - (d : Int)) true) true → PlainT d x := by
  induction g with
  | mk x h2 h3 h ih =>
    intro d d6 ht
    have hk : ∀ z ∈ x.f3, OkT z := fun z hz => okExpr_ok z (h z hz)
    cases d with
    | zero =>
      have e1 := l10Ok_node x.f0 x.f1 x.f2 x.f3 h2 (7 - ((0 : Nat) : Int)) true false (fun _ _ h => by omega)
      have e2 := Ev.one e1 ht
      simp at e2
    | succ d =>
      obtain ⟨b, b1, b2⟩ := okExprS x h3 hk ((d + 1 : Nat) : Int) (by omega) (by omega) true x.f3.length 0 (by omega) (by omega)
      have e1 := l10Ok_node x.f0 x.f1 x.f2 x.f3 h2 (7 - ((d + 1 : Nat) : Int)) true b (fun _ _ _ => by simpa using b1)
      have e2 := Ev.one e1 ht
      have e3 : (hereB x.f0 x.f1 (nameB x.f2) (x.f2.toList != []) x.f3.length && !deepPlain x.f0 true && decide (7 - ((d + 1 : Nat) : Int) ≤ 6)) = true := by
        by_cases q : (hereB x.f0 x.f1 (nameB x.f2) (x.f2.toList != []) x.f3.length && !deepPlain x.f0 true && decide (7 - ((d + 1 : Nat) : Int) ≤ 6)) = true
        · exact q
        · rw [if_neg q] at e2; cases e2
      rw [if_pos e3] at e2; subst e2
      have e4 := (Bool.and_eq_true _ _ ▸ e3).1
      refine PlainT.mk d x (by revert e4; cases hereB x.f0 x.f1 (nameB x.f2) (x.f2.toList != []) x.f3.length <;> simp) (by revert e4; cases deepPlain x.f0 true <;> simp) (fun y hy => ?_)
      obtain ⟨j, hj, rfl⟩ := List.getElem_of_mem hy
      refine ih _ hy d (by omega) ?_
      have := okP_parts x h3 hk ((d + 1 : Nat) : Int) (by omega) (by omega) true x.f3.length 0 (by omega) (by omega) (by simpa using b1) j (by omega) hj
      have e5 : (7 : Int) - (((d + 1 : Nat) : Int) - 1) = 7 - (d : Int) := by omega
      rw [e5] at this
      exact this
/-- both find the same tokens of a term that is plain; they are few and short. -/
def TokT (d : Nat) (x : S29) : Prop := ∃ r : List S45, Ev (fun k => spec_l10Tokens.f k x.f0 x.f1 x.f2 x.f3) r ∧ Ev (fun k => impl_exprTokens.f k x.f0 x.f1 x.f2 x.f3) r ∧ r.length + 4 ≤ 4 * 2 ^ d ∧ ∀ t ∈ r, t.f2.size ≤ 1048576
theorem signs_ok (K : Int) (h : 5 ≤ K ∧ K ≤ 10) : ∃ s : ByteArray, spec_l10Sign.f K = some s ∧ (⟨#[43, 45, 42, 47, 38, 124]⟩ : ByteArray).extract ((K - 5 : Int)).toNat ((K - 5 + 1 : Int)).toNat = s ∧ s.size ≤ 1048576 := by
  rcases (by omega : K = 5 ∨ K = 6 ∨ K = 7 ∨ K = 8 ∨ K = 9 ∨ K = 10) with rfl | rfl | rfl | rfl | rfl | rfl
  all_goals exact ⟨_, rfl, rfl, by decide⟩
theorem tokens_plain (x : S29) (g : Small x) : ∀ d : Nat, d ≤ 6 → PlainT d x → TokT d x := by
  induction g with
  | mk x h2 h3 h ih =>
    intro d d6 hp
    cases hp with
    | mk d x h0 hpl hy =>
    have p2 : 2 ^ (d + 1) = 2 * 2 ^ d := by rw [Nat.pow_succ]; omega
    have p1 : 1 ≤ 2 ^ d := Nat.one_le_two_pow
    have p5 : 2 ^ d ≤ 2 ^ 5 := Nat.pow_le_pow_right (by decide) (by omega)
    have p6 : (2 : Nat) ^ 5 = 32 := by decide
    have one : ∀ t : S45, t.f2.size ≤ 1048576 → Ev (fun k => spec_l10Tokens.f k x.f0 x.f1 x.f2 x.f3) [t] → Ev (fun k => impl_exprTokens.f k x.f0 x.f1 x.f2 x.f3) [t] → TokT (d + 1) x := fun t ht a b => ⟨[t], a, b, by rw [p2]; simp only [List.length_singleton]; omega, fun y hy => by rw [List.mem_singleton.1 hy]; exact ht⟩
    by_cases k1 : x.f0 = 1
    · refine one ⟨2, x.f1, (⟨#[]⟩ : ByteArray)⟩ (by show (0 : Nat) ≤ _; omega) (Ev.step (f := fun _ => some [_]) (fun k => ?_) (Ev.now _)) (Ev.step (f := fun _ => some [_]) (fun k => ?_) (Ev.now _))
      · rw [spec_l10Tokens.f]; rw [if_pos k1]
      · rw [impl_exprTokens.f]; rw [if_pos k1]
    by_cases k2 : x.f0 = 2
    · refine one ⟨1, 0, x.f2⟩ h2 (Ev.step (f := fun _ => some [_]) (fun k => ?_) (Ev.now _)) (Ev.step (f := fun _ => some [_]) (fun k => ?_) (Ev.now _))
      · rw [spec_l10Tokens.f]; rw [if_neg k1, if_pos k2]
      · rw [impl_exprTokens.f]; rw [if_neg k1, if_pos k2]
    by_cases k3 : x.f0 = 3
    · refine one ⟨4, 0, (⟨#[46]⟩ : ByteArray)⟩ (by decide) (Ev.step (f := fun _ => some [_]) (fun k => ?_) (Ev.now _)) (Ev.step (f := fun _ => some [_]) (fun k => ?_) (Ev.now _))
      · rw [spec_l10Tokens.f]; rw [if_neg k1, if_neg k2, if_pos k3]; rfl
      · rw [impl_exprTokens.f]; rw [if_neg k1, if_neg k2, if_pos k3]; rfl
    have h0' := h0
    simp only [hereB] at h0'
    unfold deepPlain at hpl
    simp only [Bool.true_and, Bool.or_eq_false_iff, decide_eq_false_iff_not] at hpl
    rw [if_neg k1, if_neg (by omega), if_neg hpl.1, if_neg k3] at h0'
    by_cases k4 : x.f0 = 4
    · rw [if_pos k4] at h0'
      simp only [Bool.and_eq_true, decide_eq_true_eq] at h0'
      have hl : x.f3.length = 1 := h0'.2
      have hm := rdI_in x.f3 0 (by omega)
      obtain ⟨a, ha, ai, al, az⟩ := ih _ hm d (by omega) (hy _ hm)
      refine ⟨(⟨4, 0, (⟨#[45]⟩ : ByteArray)⟩ : S45) :: a, ?_, ?_, by rw [p2, List.length_cons]; omega, fun t ht => ?_⟩
      · refine Ev.step (f := fun k => (spec_l10Tokens.f k ((rd_T29 x.f3 0).f0) ((rd_T29 x.f3 0).f1) ((rd_T29 x.f3 0).f2) ((rd_T29 x.f3 0).f3)).bind fun t165 => if [(⟨4, 0, (⟨#[45]⟩ : ByteArray)⟩ : S45)].length + t165.length < 4398046511104 then (some ([(⟨4, 0, (⟨#[45]⟩ : ByteArray)⟩ : S45)] ++ t165)) else none) (fun k => ?_) (Ev.bind ha ?_)
        · rw [spec_l10Tokens.f]; rw [if_neg k1, if_neg k2, if_neg k3, if_pos k4]; simp only [spec_l10Mark.f, Option.bind_some]; rw [if_pos (by omega)]
        · refine Ev.congr (f := fun _ => some _) (fun k => ?_) (Ev.now _)
          rw [if_pos (by simp only [List.length_singleton]; omega)]; rfl
      · refine Ev.step (f := fun k => (impl_exprTokens.f k ((rd_T29 x.f3 0).f0) ((rd_T29 x.f3 0).f1) ((rd_T29 x.f3 0).f2) ((rd_T29 x.f3 0).f3)).bind fun t165 => if [(⟨4, 0, (⟨#[45]⟩ : ByteArray)⟩ : S45)].length + t165.length < 4398046511104 then (some ([(⟨4, 0, (⟨#[45]⟩ : ByteArray)⟩ : S45)] ++ t165)) else none) (fun k => ?_) (Ev.bind ai ?_)
        · rw [impl_exprTokens.f]; rw [if_neg k1, if_neg k2, if_neg k3, if_pos k4]; simp only [impl_mark.f, Option.bind_some]; rw [if_pos (by omega)]
        · refine Ev.congr (f := fun _ => some _) (fun k => ?_) (Ev.now _)
          rw [if_pos (by simp only [List.length_singleton]; omega)]; rfl
      · rcases List.mem_cons.1 ht with e | e
        · subst e; decide
        · exact az t e
    · rw [if_neg k4] at h0'
      by_cases k5 : 5 ≤ x.f0 ∧ x.f0 ≤ 10
      rotate_left
      · rw [if_neg k5] at h0'; cases h0'
      rw [if_pos k5] at h0'
      simp only [Bool.and_eq_true, decide_eq_true_eq] at h0'
      have hl : x.f3.length = 2 := h0'.2
      have hm := rdI_in x.f3 0 (by omega)
      have hm1 := rdI_in x.f3 1 (by omega)
      obtain ⟨a, ha, ai, al, az⟩ := ih _ hm d (by omega) (hy _ hm)
      obtain ⟨b, bs, bi, bl, bz⟩ := ih _ hm1 d (by omega) (hy _ hm1)
      obtain ⟨s, s1, s2, s3⟩ := signs_ok x.f0 k5
      have w1 : wrap64 (x.f0 - 5) = x.f0 - 5 := w64 (by omega) (by omega)
      have w2 : wrap64 (x.f0 - 5 + 1) = x.f0 - 5 + 1 := w64 (by omega) (by omega)
      refine ⟨(([(⟨4, 0, (⟨#[60]⟩ : ByteArray)⟩ : S45)] ++ a) ++ [(⟨4, 0, s⟩ : S45)] ++ b) ++ [(⟨4, 0, (⟨#[62]⟩ : ByteArray)⟩ : S45)], ?_, ?_, by rw [p2]; simp only [List.length_append, List.length_singleton]; omega, fun t ht => ?_⟩
      · have hA : ([(⟨4, 0, (⟨#[60]⟩ : ByteArray)⟩ : S45)] : List S45).length + a.length < 4398046511104 := by simp only [List.length_singleton]; omega
        have hB : ([(⟨4, 0, (⟨#[60]⟩ : ByteArray)⟩ : S45)] ++ a).length < 4398046511104 := by simp only [List.length_append, List.length_singleton]; omega
        have hC : (([(⟨4, 0, (⟨#[60]⟩ : ByteArray)⟩ : S45)] ++ a) ++ [(⟨4, 0, s⟩ : S45)]).length + b.length < 4398046511104 := by simp only [List.length_append, List.length_singleton]; omega
        have hD : ((([(⟨4, 0, (⟨#[60]⟩ : ByteArray)⟩ : S45)] ++ a) ++ [(⟨4, 0, s⟩ : S45)]) ++ b).length < 4398046511104 := by simp only [List.length_append, List.length_singleton]; omega
        obtain ⟨K1, e1⟩ := ha; obtain ⟨K2, e2⟩ := bs
        refine ⟨K1 + K2 + 1, fun k hk => ?_⟩
        obtain ⟨k, rfl⟩ : ∃ m, k = m + 1 := ⟨k - 1, by omega⟩
        have f1 := e1 k (by omega); have f2 := e2 k (by omega)
        simp only [Int.natCast_zero, Int.natCast_one, Int.cast_ofNat_Int] at f1 f2
        simp only []
        rw [spec_l10Tokens.f]; rw [if_neg k1, if_neg k2, if_neg k3, if_neg k4]
        simp only [spec_l10Mark.f, Option.bind_some]
        rw [if_pos (by omega), f1, Option.bind_some, if_pos hA, s1, Option.bind_some, if_pos hB, if_pos (by omega), f2, Option.bind_some, if_pos hC, if_pos hD]
      · have hA : ([(⟨4, 0, (⟨#[60]⟩ : ByteArray)⟩ : S45)] : List S45).length + a.length < 4398046511104 := by simp only [List.length_singleton]; omega
        have hB : ([(⟨4, 0, (⟨#[60]⟩ : ByteArray)⟩ : S45)] ++ a).length < 4398046511104 := by simp only [List.length_append, List.length_singleton]; omega
        have hC : (([(⟨4, 0, (⟨#[60]⟩ : ByteArray)⟩ : S45)] ++ a) ++ [(⟨4, 0, s⟩ : S45)]).length + b.length < 4398046511104 := by simp only [List.length_append, List.length_singleton]; omega
        have hD : ((([(⟨4, 0, (⟨#[60]⟩ : ByteArray)⟩ : S45)] ++ a) ++ [(⟨4, 0, s⟩ : S45)]) ++ b).length < 4398046511104 := by simp only [List.length_append, List.length_singleton]; omega
        obtain ⟨K1, e1⟩ := ai; obtain ⟨K2, e2⟩ := bi
        refine ⟨K1 + K2 + 1, fun k hk => ?_⟩
        obtain ⟨k, rfl⟩ : ∃ m, k = m + 1 := ⟨k - 1, by omega⟩
        have f1 := e1 k (by omega); have f2 := e2 k (by omega)
        simp only [Int.natCast_zero, Int.natCast_one, Int.cast_ofNat_Int] at f1 f2
        simp only []
        rw [impl_exprTokens.f]; rw [if_neg k1, if_neg k2, if_neg k3, if_neg k4]
        simp only [impl_mark.f, Option.bind_some, w1, w2, s2]
        rw [if_pos (by omega), f1, Option.bind_some, if_pos hA, if_pos (by omega), if_pos (by omega), if_pos (by omega), if_pos hB, if_pos (by omega), f2, Option.bind_some, if_pos hC, if_pos hD]
      · simp only [List.mem_append, List.mem_singleton] at ht
        rcases ht with ((((e | e) | e) | e) | e)
        · subst e; decide
        · exact az t e
        · subst e; exact s3
        · exact bz t e
        · subst e; decide
theorem FnExactExprText (x : S24) (gx : GoodT x) : ∃ k, laws_FnExactExprText.f k x.f0 x.f1 x.f2 x.f3 = some true := by
  refine Ev.rounds (g := fun k => laws_FnExactExprText.f k x.f0 x.f1 x.f2 x.f3) ?_
  simp only [laws_FnExactExprText.f]
  obtain ⟨r, hr, hc⟩ := szExpr_ok x gx 1048576 (by omega) (by omega)
  refine Ev.bind hr ?_
  by_cases hn : r < 0
  · exact Ev.congr (f := fun _ => some true) (fun k => by rw [if_pos hn]) (Ev.now _)
  obtain ⟨r0, r1, sx⟩ := hc.resolve_left hn
  refine Ev.congr (fun k => by rw [if_neg hn]) ?_
  obtain ⟨u, hu, su⟩ := toExpr_ok x sx
  obtain ⟨b, b1, b2⟩ := okExpr_ok u su 6 (by omega) (by omega) true
  have a1 : Ev (fun k => spec_PlainOk.f k u.f0 u.f1 u.f2 u.f3) b := Ev.bind b1 (Ev.now _)
  have a2 : Ev (fun k => impl_PlainOk.f k u.f0 u.f1 u.f2 u.f3) b := Ev.bind b2 (Ev.now _)
  obtain ⟨s, t, hs, ht, e⟩ : ∃ s t : ByteArray, Ev (fun k => spec_ExprText.f k u.f0 u.f1 u.f2 u.f3) s ∧ Ev (fun k => impl_ExprText.f k u.f0 u.f1 u.f2 u.f3) t ∧ t.toList = s.toList := by
    cases b with
    | false =>
      refine ⟨(⟨#[]⟩ : ByteArray), (⟨#[]⟩ : ByteArray), Ev.bind a1 ?_, Ev.bind a2 ?_, rfl⟩
      · exact Ev.congr (f := fun _ => some (⟨#[]⟩ : ByteArray)) (fun k => by rw [if_neg (by simp)]) (Ev.now _)
      · exact Ev.congr (f := fun _ => some (⟨#[]⟩ : ByteArray)) (fun k => by rw [if_neg (by simp)]) (Ev.now _)
    | true =>
      have hp := okExpr_plain u su 6 (by omega) b1
      obtain ⟨l, ls, li, ll, lz⟩ := tokens_plain u su 6 (by omega) hp
      have m1 : l.length ≤ 1048576 := by
        have : (4 : Nat) * 2 ^ 6 = 256 := by decide
        omega
      obtain ⟨p, p1, p2, p3⟩ := specLine_loop l m1 lz l.length 0 (⟨#[]⟩ : ByteArray) (by omega) (by omega) rfl (by simp [ByteArray.size])
      obtain ⟨q, q1, q2⟩ := implLine_loop l m1 (by rw [← p2, Array.length_toList]; exact Nat.le_trans p3 (by omega)) l.length 0 [] (by omega) (by omega) rfl
      have s1 : Ev (fun k => spec_LineOf.f k l) p := by simp only [spec_LineOf.f]; exact p1
      have s2 : Ev (fun k => impl_LineOf.f k l) q := by simp only [impl_LineOf.f]; exact q1
      refine ⟨p, q, Ev.bind a1 ?_, Ev.bind a2 ?_, by rw [bal, bal, p2, q2]⟩
      · exact Ev.congr (f := fun k => (spec_l10Tokens.f k u.f0 u.f1 u.f2 u.f3).bind fun t206 => ((spec_LineOf.f k t206).bind fun t209 => (some t209))) (fun k => by rw [if_pos rfl]) (Ev.bind ls (Ev.bind s1 (Ev.now _)))
      · exact Ev.congr (f := fun k => (impl_exprTokens.f k u.f0 u.f1 u.f2 u.f3).bind fun t206 => ((impl_LineOf.f k t206).bind fun t209 => (some t209))) (fun k => by rw [if_pos rfl]) (Ev.bind li (Ev.bind s2 (Ev.now _)))
  refine Ev.bind hu (Ev.bind hs (Ev.bind hu (Ev.bind ht ?_)))
  refine Ev.congr (fun k => by rw [if_pos e]) ?_
  refine Ev.bind hu (Ev.bind (eqExpr_ok u su) ?_)
  exact Ev.congr (f := fun _ => some true) (fun k => by rw [if_pos rfl]) (Ev.now _)

end Go.Proofs.YtbemgfdaenepjaaDoor.Pure
