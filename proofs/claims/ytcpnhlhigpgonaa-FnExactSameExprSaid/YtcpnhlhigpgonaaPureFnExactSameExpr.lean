/- Proved: the law FnExactSameExpr, as a plain function, answers true at each two terms; no further conditions. -/
import Derived.Test.YtcpnhlhigpgonaaPFnExactSameExprx1
import Derived.Test.YtcpnhlhigpgonaaPFnExactSameExprx2
import Derived.Test.YtcpnhlhigpgonaaPFnExactSameExprx3
import Derived.Test.YtcpnhlhigpgonaaPFnExactSameExprx4
import Derived.Test.YtcpnhlhigpgonaaPFnExactSameExprx5
import Derived.Test.YtcpnhlhigpgonaaPFnExactSameExprx6
import Derived.Test.YtcpnhlhigpgonaaCommon
namespace Go.Proofs.Ytcpnhlhigpgonaa.Pure
open Go.RowKit Go.Proofs.Ytcpnhlhigpgonaa.PFnExactSameExpr Go.Proofs.YtcpnhlhigpgonaaW.PrintWords Go.Proofs.YtcpnhlhigpgonaaW.PrintLast Go.Proofs.Ytcpnhlhigpgonaa.Common
set_option linter.unusedVariables false
set_option linter.unusedSimpArgs false
/-- a tree that comes in: its numbers are ints, its texts and rows are no longer than any. -/
inductive GoodT : S24 → Prop
  | mk (x : S24) (h0 : (Lit.int .i64 x.f0).wf = true) (h1 : (Lit.int .i64 x.f1).wf = true) (h2 : x.f2.size ≤ maxLen) (h3 : x.f3.length ≤ maxLen) (h : ∀ y ∈ x.f3, GoodT y) : GoodT x
/-- a tree that is no wider than the laws look at, and whose rows' lengths are told. -/
inductive SmallS : S24 → Prop
  | mk (x : S24) (h2 : x.f2.size ≤ 1048576) (h3 : x.f3.length ≤ 1048576) (h : ∀ y ∈ x.f3, SmallS y) : SmallS x
inductive Small : S29 → Prop
  | mk (x : S29) (h2 : x.f2.size ≤ 1048576) (h3 : x.f3.length ≤ 1048576) (h : ∀ y ∈ x.f3, Small y) : Small x
theorem rdE_in (l : List S24) (i : Nat) (h : i < l.length) : rd_T24 l (i : Int) ∈ l := by
  have : rd_T24 l (i : Int) = l[i] := by simp [rd_T24, List.getD_eq_getElem?_getD, h]
  rw [this]; exact List.getElem_mem h
theorem rdI_in (l : List S29) (i : Nat) (h : i < l.length) : rd_T29 l (i : Int) ∈ l := by
  have : rd_T29 l (i : Int) = l[i] := by simp [rd_T29, List.getD_eq_getElem?_getD, h]
  rw [this]; exact List.getElem_mem h
theorem rdI_at (l : List S29) (i : Nat) (h : i < l.length) : rd_T29 l (i : Int) = l[i] := by simp [rd_T29, List.getD_eq_getElem?_getD, h]
theorem Ev.none_step {α : Type} {g f : Nat → Option α} {r : α} (h : ∀ k, g (k + 1) = f k) (k : Ev f r) : Ev g r := Ev.step h k
/-- two results of one function are one. -/
theorem Ev.one {α : Type} {g : Nat → Option α} {r q : α} (h : Ev g r) (k : Ev g q) : r = q := by
  obtain ⟨K, h⟩ := h; obtain ⟨L, k⟩ := k
  have a := h (K + L) (by omega); have b := k (K + L) (by omega)
  rw [a] at b; exact Option.some.inj b
/-- what the size tells: below nothing it is too large; else it is small, and so is what is left. -/
def SzT (x : S24) : Prop := ∀ a : Int, 0 ≤ a → a ≤ 1048576 → ∃ r, Ev (fun k => laws_szExpr.f k x.f0 x.f1 x.f2 x.f3 a) r ∧ (r < 0 ∨ (0 ≤ r ∧ r ≤ a ∧ SmallS x))
theorem szExprS_l0 (l : List S24) (hl : l.length ≤ 1048576) (h : ∀ x ∈ l, SzT x) : ∀ (d i : Nat) (a : Int), l.length - i = d → i ≤ l.length → 0 ≤ a → a ≤ 1048576 →
    ∃ r, Ev (fun k => laws_szExprS.l0 k l a (i : Int)) r ∧ (r < 0 ∨ (0 ≤ r ∧ r ≤ a ∧ ∀ j, i ≤ j → ∀ hj : j < l.length, SmallS l[j])) := by
  intro d
  induction d with
  | zero =>
    intro i a hd hi h0 h1
    refine ⟨a, Ev.step (f := fun _ => some a) (fun k => ?_) (Ev.now a), .inr ⟨h0, by omega, fun j hj hj' => by omega⟩⟩
    simp only [laws_szExprS.l0]; rw [if_neg (by omega)]
  | succ d ih =>
    intro i a hd hi h0 h1
    have hlt : i < l.length := by omega
    have hx : rd_T24 l (i : Int) = l[i] := by simp [rd_T24, List.getD_eq_getElem?_getD, hlt]
    obtain ⟨r, hr, hc⟩ := h _ (rdE_in l i hlt) a h0 h1
    by_cases hn : r < 0
    · refine ⟨-1, ?_, .inl (by omega)⟩
      refine Ev.step (f := fun k => (laws_szExpr.f k (rd_T24 l (i : Int)).f0 (rd_T24 l (i : Int)).f1 (rd_T24 l (i : Int)).f2 (rd_T24 l (i : Int)).f3 a).bind fun t => if t < 0 then some (-1) else laws_szExprS.l0 k l t (wrap64 ((i : Int) + 1))) (fun k => ?_) (Ev.bind hr ?_)
      · simp only [laws_szExprS.l0]; rw [if_pos (by omega), if_pos (by omega)]
      · refine Ev.congr (f := fun _ => some (-1)) (fun k => ?_) (Ev.now _)
        rw [if_pos hn]
    · obtain ⟨p0, p1, p2⟩ := hc.resolve_left hn
      obtain ⟨q, hq, hqc⟩ := ih (i + 1) r (by omega) (by omega) p0 (by omega)
      refine ⟨q, ?_, ?_⟩
      · refine Ev.step (f := fun k => (laws_szExpr.f k (rd_T24 l (i : Int)).f0 (rd_T24 l (i : Int)).f1 (rd_T24 l (i : Int)).f2 (rd_T24 l (i : Int)).f3 a).bind fun t => if t < 0 then some (-1) else laws_szExprS.l0 k l t (wrap64 ((i : Int) + 1))) (fun k => ?_) (Ev.bind hr ?_)
        · simp only [laws_szExprS.l0]; rw [if_pos (by omega), if_pos (by omega)]
        · refine Ev.congr (f := fun k => laws_szExprS.l0 k l r ((i + 1 : Nat) : Int)) (fun k => ?_) hq
          rw [if_neg hn, w64 (x := (i : Int) + 1) (by omega) (by omega)]; rfl
      · rcases hqc with hq' | ⟨q0, q1, q2⟩
        · exact .inl hq'
        · refine .inr ⟨q0, by omega, fun j hj hj' => ?_⟩
          by_cases e : i = j
          · subst e; rw [← hx]; exact p2
          · exact q2 j (by omega) hj'
theorem szExpr_ok (x : S24) (g : GoodT x) : SzT x := by
  induction g with
  | mk x h0 h1 h2 h3 h ih =>
    intro a a0 a1
    have hm : maxLen = 9223372036854775807 := rfl
    have w1 : wrap64 (a - (x.f2.size : Int)) = a - x.f2.size := w64 (by omega) (by omega)
    by_cases c : a - (x.f2.size : Int) < 0
    · refine ⟨-1, Ev.step (f := fun _ => some (-1)) (fun k => ?_) (Ev.now _), .inl (by omega)⟩
      simp only [laws_szExpr.f, w1]; rw [if_pos c]
    have w2 : wrap64 (a - (x.f2.size : Int) - (x.f3.length : Int)) = a - x.f2.size - x.f3.length := w64 (by omega) (by omega)
    have st : ∀ (q : Int), Ev (fun k => laws_szExprS.f k x.f3 (a - x.f2.size)) q → Ev (fun k => laws_szExpr.f k x.f0 x.f1 x.f2 x.f3 a) (if q < 0 then -1 else q) := by
      intro q hq
      refine Ev.step (f := fun k => (laws_szExprS.f k x.f3 (a - x.f2.size)).bind fun t => if t < 0 then some (-1) else some t) (fun k => ?_) (Ev.bind hq ?_)
      · simp only [laws_szExpr.f, w1]; rw [if_neg c]
      · refine Ev.congr (f := fun _ => some (if q < 0 then -1 else q)) (fun k => ?_) (Ev.now _)
        by_cases e : q < 0
        · rw [if_pos e, if_pos e]
        · rw [if_neg e, if_neg e]
    by_cases c2 : a - (x.f2.size : Int) - (x.f3.length : Int) < 0
    · refine ⟨-1, ?_, .inl (by omega)⟩
      have := st (-1) (Ev.step (f := fun _ => some (-1)) (fun k => by simp only [laws_szExprS.f, w2]; rw [if_pos c2]) (Ev.now _))
      exact this
    · obtain ⟨r, hr, hc⟩ := szExprS_l0 x.f3 (by omega) ih x.f3.length 0 (a - x.f2.size - x.f3.length) (by omega) (by omega) (by omega) (by omega)
      have hs := st r (Ev.step (f := fun k => laws_szExprS.l0 k x.f3 (a - x.f2.size - x.f3.length) ((0 : Nat) : Int)) (fun k => by simp only [laws_szExprS.f, w2]; rw [if_neg c2]; rfl) hr)
      refine ⟨_, hs, ?_⟩
      rcases hc with hn | ⟨r0, r1, r2⟩
      · rw [if_pos hn]; exact .inl (by omega)
      · rw [if_neg (by omega)]
        refine .inr ⟨r0, by omega, SmallS.mk x (by omega) (by omega) (fun y hy => ?_)⟩
        obtain ⟨j, hj, e⟩ := List.getElem_of_mem hy
        rw [← e]; exact r2 j (by omega) hj
/-- the copy: there is one, it is small, and it is always the same. -/
def ToT (x : S24) : Prop := ∃ y : S29, Ev (fun k => laws_toExpr.f k x.f0 x.f1 x.f2 x.f3) (y.f0, y.f1, y.f2, y.f3) ∧ Small y
theorem toExprS_l0 (l : List S24) (hl : l.length ≤ 1048576) (h : ∀ x ∈ l, ToT x) : ∀ (d i : Nat) (z : List S29), l.length - i = d → i ≤ l.length → z.length = l.length → (∀ j, j < i → ∀ hj : j < z.length, Small z[j]) →
    ∃ r, Ev (fun k => laws_toExprS.l0 k l z (i : Int)) r ∧ r.length = l.length ∧ ∀ j, ∀ hj : j < r.length, Small r[j] := by
  intro d
  induction d with
  | zero =>
    intro i z hd hi hz hs
    refine ⟨z, Ev.step (f := fun _ => some z) (fun k => ?_) (Ev.now z), hz, fun j hj => hs j (by omega) hj⟩
    simp only [laws_toExprS.l0]; rw [if_neg (by omega)]
  | succ d ih =>
    intro i z hd hi hz hs
    have hlt : i < l.length := by omega
    obtain ⟨y, hy, sy⟩ := h _ (rdE_in l i hlt)
    obtain ⟨r, hr, hrl, hrs⟩ := ih (i + 1) (z.set i (⟨y.f0, y.f1, y.f2, y.f3⟩ : S29)) (by omega) (by omega) (by simpa using hz) (fun j hj hj' => by
      rw [List.getElem_set]
      split
      · have e : (⟨y.f0, y.f1, y.f2, y.f3⟩ : S29) = y := by cases y; rfl
        rw [e]; exact sy
      · exact hs j (by omega) (by simpa using hj'))
    refine ⟨r, ?_, hrl, hrs⟩
    refine Ev.step (f := fun k => (laws_toExpr.f k (rd_T24 l (i : Int)).f0 (rd_T24 l (i : Int)).f1 (rd_T24 l (i : Int)).f2 (rd_T24 l (i : Int)).f3).bind fun bt => if (i : Int) < (z.length : Int) then laws_toExprS.l0 k l (z.set (i : Int).toNat (⟨bt.1, bt.2.1, bt.2.2.1, bt.2.2.2⟩ : S29)) (wrap64 ((i : Int) + 1)) else none) (fun k => ?_) (Ev.bind hy ?_)
    · simp only [laws_toExprS.l0]; rw [if_pos (by omega), if_pos (by omega)]
    · refine Ev.congr (f := fun k => laws_toExprS.l0 k l (z.set i (⟨y.f0, y.f1, y.f2, y.f3⟩ : S29)) ((i + 1 : Nat) : Int)) (fun k => ?_) hr
      rw [if_pos (by omega), w64 (x := (i : Int) + 1) (by omega) (by omega)]; rfl
theorem toExpr_ok (x : S24) (g : SmallS x) : ToT x := by
  induction g with
  | mk x h2 h3 h ih =>
    obtain ⟨r, hr, hrl, hrs⟩ := toExprS_l0 x.f3 h3 ih x.f3.length 0 (List.replicate x.f3.length z29) (by omega) (by omega) (by simp) (fun j hj => by omega)
    refine ⟨⟨x.f0, x.f1, x.f2, r⟩, ?_, Small.mk _ h2 (by show r.length ≤ 1048576; omega) (fun y hy => ?_)⟩
    · refine Ev.step (f := fun k => (laws_toExprS.f k x.f3).bind fun t => some (x.f0, x.f1, x.f2, t)) (fun k => by simp only [laws_toExpr.f]) (Ev.bind (a := r) ?_ (Ev.now _))
      refine Ev.step (f := fun k => laws_toExprS.l0 k x.f3 (List.replicate x.f3.length z29) ((0 : Nat) : Int)) (fun k => ?_) hr
      simp only [laws_toExprS.f]; rw [if_pos (by omega), if_pos (by omega)]; rfl
    · obtain ⟨j, hj, e⟩ := List.getElem_of_mem hy
      rw [← e]; exact hrs j hj
/-- a small tree is as itself. -/
def EqT (x : S29) : Prop := Ev (fun k => laws_eqExpr.f k x.f0 x.f1 x.f2 x.f3 x.f0 x.f1 x.f2 x.f3) true
theorem eqExprS_l0 (l : List S29) (hl : l.length ≤ 1048576) (h : ∀ x ∈ l, EqT x) : ∀ (d i : Nat), l.length - i = d → i ≤ l.length → Ev (fun k => laws_eqExprS.l0 k l l (i : Int)) true := by
  intro d
  induction d with
  | zero =>
    intro i hd hi
    refine Ev.step (f := fun _ => some true) (fun k => ?_) (Ev.now _)
    simp only [laws_eqExprS.l0]; rw [if_neg (by omega)]
  | succ d ih =>
    intro i hd hi
    have hlt : i < l.length := by omega
    refine Ev.step (f := fun k => (laws_eqExpr.f k (rd_T29 l (i : Int)).f0 (rd_T29 l (i : Int)).f1 (rd_T29 l (i : Int)).f2 (rd_T29 l (i : Int)).f3 (rd_T29 l (i : Int)).f0 (rd_T29 l (i : Int)).f1 (rd_T29 l (i : Int)).f2 (rd_T29 l (i : Int)).f3).bind fun t => if t = true then laws_eqExprS.l0 k l l (wrap64 ((i : Int) + 1)) else some false) (fun k => ?_) (Ev.bind (h _ (rdI_in l i hlt)) ?_)
    · simp only [laws_eqExprS.l0]; rw [if_pos (by omega), if_pos (by omega), if_pos (by omega)]
    · refine Ev.congr (f := fun k => laws_eqExprS.l0 k l l ((i + 1 : Nat) : Int)) (fun k => ?_) (ih (i + 1) (by omega) (by omega))
      rw [if_pos rfl, w64 (x := (i : Int) + 1) (by omega) (by omega)]; rfl
theorem eqExpr_ok (x : S29) (g : Small x) : EqT x := by
  induction g with
  | mk x h2 h3 h ih =>
    refine Ev.step (f := fun k => (laws_eqExprS.f k x.f3 x.f3).bind fun t => if t = true then some true else some false) (fun k => ?_) (Ev.bind (a := true) ?_ (Ev.now _))
    · simp only [laws_eqExpr.f]; rw [if_pos trivial, if_pos trivial, if_pos trivial]
    · refine Ev.step (f := fun k => laws_eqExprS.l0 k x.f3 x.f3 ((0 : Nat) : Int)) (fun k => ?_) (eqExprS_l0 x.f3 h3 ih x.f3.length 0 (by omega) (by omega))
      simp only [laws_eqExprS.f]; rw [if_pos trivial]; rfl
def SameT (x : S29) : Prop := ∀ y : S29, Small y → ∃ b, Ev (fun k => spec_SameExpr.f k x.f0 x.f1 x.f2 x.f3 y.f0 y.f1 y.f2 y.f3) b ∧ Ev (fun k => impl_SameExpr.f k x.f0 x.f1 x.f2 x.f3 y.f0 y.f1 y.f2 y.f3) b
theorem same_l0 (x y : S29) (hx : x.f3.length ≤ 1048576) (hl : x.f3.length = y.f3.length) (h : ∀ z ∈ x.f3, SameT z) (hy : ∀ z ∈ y.f3, Small z) : ∀ (d i : Nat), x.f3.length - i = d → i ≤ x.f3.length →
    ∃ b, Ev (fun k => spec_SameExpr.l0 k (i : Int) x.f0 x.f1 x.f2 x.f3 y.f0 y.f1 y.f2 y.f3) b ∧ Ev (fun k => impl_SameExpr.l0 k x.f3 (x.f3.length : Int) (i : Int) y.f0 y.f1 y.f2 y.f3) b := by
  intro d
  induction d with
  | zero =>
    intro i hd hi
    refine ⟨true, Ev.step (f := fun _ => some true) (fun k => ?_) (Ev.now _), Ev.step (f := fun _ => some true) (fun k => ?_) (Ev.now _)⟩
    · simp only [spec_SameExpr.l0]; rw [if_neg (by omega)]
    · simp only [impl_SameExpr.l0]; rw [if_neg (by omega)]
  | succ d ih =>
    intro i hd hi
    have hlt : i < x.f3.length := by omega
    have w1 : wrap64 ((i : Int) + 1) = ((i + 1 : Nat) : Int) := by rw [w64 (by omega) (by omega)]; rfl
    obtain ⟨b, hs, hi'⟩ := h _ (rdI_in x.f3 i hlt) _ (hy _ (rdI_in y.f3 i (by omega)))
    obtain ⟨c, cs, ci⟩ := ih (i + 1) (by omega) (by omega)
    refine ⟨if b = true then c else false, ?_, ?_⟩
    · refine Ev.step (f := fun k => (spec_SameExpr.f k (rd_T29 x.f3 (i : Int)).f0 (rd_T29 x.f3 (i : Int)).f1 (rd_T29 x.f3 (i : Int)).f2 (rd_T29 x.f3 (i : Int)).f3 (rd_T29 y.f3 (i : Int)).f0 (rd_T29 y.f3 (i : Int)).f1 (rd_T29 y.f3 (i : Int)).f2 (rd_T29 y.f3 (i : Int)).f3).bind fun t => if t = true then spec_SameExpr.l0 k ((i + 1 : Nat) : Int) x.f0 x.f1 x.f2 x.f3 y.f0 y.f1 y.f2 y.f3 else some false) (fun k => ?_) (Ev.bind hs ?_)
      · simp only [spec_SameExpr.l0, w1]; rw [if_pos (by omega), if_pos (by omega), if_pos (by omega)]
      · cases b with
        | true => exact Ev.congr (fun k => by rw [if_pos rfl]) cs
        | false => exact Ev.congr (f := fun _ => some false) (fun k => by rw [if_neg (by decide)]) (Ev.now _)
    · refine Ev.step (f := fun k => (impl_SameExpr.f k (rd_T29 x.f3 (i : Int)).f0 (rd_T29 x.f3 (i : Int)).f1 (rd_T29 x.f3 (i : Int)).f2 (rd_T29 x.f3 (i : Int)).f3 (rd_T29 y.f3 (i : Int)).f0 (rd_T29 y.f3 (i : Int)).f1 (rd_T29 y.f3 (i : Int)).f2 (rd_T29 y.f3 (i : Int)).f3).bind fun t => if t = true then impl_SameExpr.l0 k x.f3 (x.f3.length : Int) ((i + 1 : Nat) : Int) y.f0 y.f1 y.f2 y.f3 else some false) (fun k => ?_) (Ev.bind hi' ?_)
      · simp only [impl_SameExpr.l0, w1]; rw [if_pos (by omega), if_pos (by omega), if_pos (by omega), if_pos (by omega)]
      · cases b with
        | true => exact Ev.congr (fun k => by rw [if_pos rfl]) ci
        | false => exact Ev.congr (f := fun _ => some false) (fun k => by rw [if_neg (by decide)]) (Ev.now _)
theorem same_ok (x : S29) (g : Small x) : SameT x := by
  induction g with
  | mk x h2 h3 h ih =>
    intro y gy
    have hy : ∀ z ∈ y.f3, Small z := by cases gy; assumption
    have no1 : Ev (fun k => spec_SameExpr.j0 k true x.f0 x.f1 x.f2 x.f3 y.f0 y.f1 y.f2 y.f3) false := Ev.step (f := fun _ => some false) (fun k => by simp only [spec_SameExpr.j0]; rw [if_pos trivial]) (Ev.now _)
    have no2 : Ev (fun k => impl_SameExpr.j0 k true x.f0 x.f1 x.f2 x.f3 y.f0 y.f1 y.f2 y.f3) false := Ev.step (f := fun _ => some false) (fun k => by simp only [impl_SameExpr.j0]; rw [if_pos trivial]) (Ev.now _)
    by_cases a : x.f0 = y.f0
    · by_cases b : x.f1 = y.f1
      · by_cases c : x.f2.toList = y.f2.toList
        · by_cases e : x.f3.length = y.f3.length
          · obtain ⟨q, q1, q2⟩ := same_l0 x y h3 e ih hy x.f3.length 0 (by omega) (by omega)
            have hb : ((x.f3.length : Int) != (y.f3.length : Int)) = false := by rw [e]; exact bne_self_eq_false _
            refine ⟨q, Ev.step (f := fun k => spec_SameExpr.j0 k false x.f0 x.f1 x.f2 x.f3 y.f0 y.f1 y.f2 y.f3) (fun k => ?_) (Ev.step (f := fun k => spec_SameExpr.l0 k ((0 : Nat) : Int) x.f0 x.f1 x.f2 x.f3 y.f0 y.f1 y.f2 y.f3) (fun k => ?_) q1), Ev.step (f := fun k => impl_SameExpr.j0 k false x.f0 x.f1 x.f2 x.f3 y.f0 y.f1 y.f2 y.f3) (fun k => ?_) (Ev.step (f := fun k => impl_SameExpr.l0 k x.f3 (x.f3.length : Int) ((0 : Nat) : Int) y.f0 y.f1 y.f2 y.f3) (fun k => ?_) q2)⟩
            · simp only [spec_SameExpr.f]; rw [if_pos a, if_pos b, if_pos c, hb]
            · simp only [spec_SameExpr.j0]; rw [if_neg (by decide)]; rfl
            · simp only [impl_SameExpr.f]; rw [if_pos a, if_pos b, if_pos c, hb]
            · simp only [impl_SameExpr.j0]; rw [if_neg (by decide)]; rfl
          · have hb : ((x.f3.length : Int) != (y.f3.length : Int)) = true := by rw [bne_iff_ne]; omega
            refine ⟨false, Ev.step (fun k => ?_) no1, Ev.step (fun k => ?_) no2⟩
            · simp only [spec_SameExpr.f]; rw [if_pos a, if_pos b, if_pos c, hb]
            · simp only [impl_SameExpr.f]; rw [if_pos a, if_pos b, if_pos c, hb]
        · refine ⟨false, Ev.step (fun k => ?_) no1, Ev.step (fun k => ?_) no2⟩
          · simp only [spec_SameExpr.f]; rw [if_pos a, if_pos b, if_neg c]
          · simp only [impl_SameExpr.f]; rw [if_pos a, if_pos b, if_neg c]
      · refine ⟨false, Ev.step (fun k => ?_) no1, Ev.step (fun k => ?_) no2⟩
        · simp only [spec_SameExpr.f]; rw [if_pos a, if_neg b]
        · simp only [impl_SameExpr.f]; rw [if_pos a, if_neg b]
    · refine ⟨false, Ev.step (fun k => ?_) no1, Ev.step (fun k => ?_) no2⟩
      · simp only [spec_SameExpr.f]; rw [if_neg a]
      · simp only [impl_SameExpr.f]; rw [if_neg a]
theorem FnExactSameExpr (x y : S24) (gx : GoodT x) (gy : GoodT y) : ∃ k, laws_FnExactSameExpr.f k x.f0 x.f1 x.f2 x.f3 y.f0 y.f1 y.f2 y.f3 = some true := by
  refine Ev.rounds (g := fun k => laws_FnExactSameExpr.f k x.f0 x.f1 x.f2 x.f3 y.f0 y.f1 y.f2 y.f3) ?_
  simp only [laws_FnExactSameExpr.f]
  obtain ⟨r, hr, hc⟩ := szExpr_ok x gx 1048576 (by omega) (by omega)
  refine Ev.bind hr ?_
  by_cases hn : r < 0
  · exact Ev.congr (f := fun _ => some true) (fun k => by rw [if_pos hn]) (Ev.now _)
  obtain ⟨r0, r1, sx⟩ := hc.resolve_left hn
  refine Ev.congr (fun k => by rw [if_neg hn]) ?_
  obtain ⟨q, hq, qc⟩ := szExpr_ok y gy r r0 r1
  refine Ev.bind hq ?_
  by_cases qn : q < 0
  · exact Ev.congr (f := fun _ => some true) (fun k => by rw [if_pos qn]) (Ev.now _)
  obtain ⟨q0, q1, sy⟩ := qc.resolve_left qn
  refine Ev.congr (fun k => by rw [if_neg qn]) ?_
  obtain ⟨u, hu, su⟩ := toExpr_ok x sx
  obtain ⟨v, hv, sv⟩ := toExpr_ok y sy
  obtain ⟨b, b1, b2⟩ := same_ok u su v sv
  refine Ev.bind hu (Ev.bind hv (Ev.bind b1 (Ev.bind hu (Ev.bind hv (Ev.bind b2 ?_)))))
  refine Ev.congr (fun k => by rw [if_neg (by simp)]) ?_
  refine Ev.bind hu (Ev.bind (eqExpr_ok u su) ?_)
  refine Ev.congr (fun k => by rw [if_pos rfl]) ?_
  refine Ev.bind hv (Ev.bind (eqExpr_ok v sv) ?_)
  exact Ev.now _

end Go.Proofs.Ytcpnhlhigpgonaa.Pure
