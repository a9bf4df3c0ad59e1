/- Proved: what the plain functions of the law FnExactPut tell at all terms, names and values; no further conditions. -/
import Derived.Test.YtcpnhlhigpgonaaPFnExactPutx1
import Derived.Test.YtcpnhlhigpgonaaPFnExactPutx2
import Derived.Test.YtcpnhlhigpgonaaPFnExactPutx3
import Derived.Test.YtcpnhlhigpgonaaPFnExactPutx4
import Derived.Test.YtcpnhlhigpgonaaPFnExactPutx5
import Derived.Test.YtcpnhlhigpgonaaPFnExactPutx6
import Derived.Test.YtcpnhlhigpgonaaPFnExactPutx7
import Derived.Test.YtcpnhlhigpgonaaPFnExactPutx8
import Derived.Test.YtcpnhlhigpgonaaPFnExactPutx9
import Derived.Test.YtcpnhlhigpgonaaPFnExactPutx10
import Derived.Test.YtcpnhlhigpgonaaPFnExactPutx11
import Derived.Test.YtcpnhlhigpgonaaPFnExactPutx12
import Derived.Test.YtcpnhlhigpgonaaPFnExactPutx13
import Derived.Test.YtcpnhlhigpgonaaPFnExactPutx14
import Derived.Test.YtcpnhlhigpgonaaPFnExactPutx15
import Derived.Test.YtcpnhlhigpgonaaVCFnExactPut
namespace Go.Proofs.Ytcpnhlhigpgonaa.Pure
open Go.RowKit Go.Proofs.Ytcpnhlhigpgonaa.PFnExactPut Go.Proofs.YtcpnhlhigpgonaaW.PrintWords Go.Proofs.YtcpnhlhigpgonaaW.PrintLast Go.Proofs.Ytcpnhlhigpgonaa.Common
set_option linter.unusedVariables false
set_option linter.unusedSimpArgs false
theorem Ev.one {α : Type} {g : Nat → Option α} {r q : α} (h : Ev g r) (k : Ev g q) : r = q := by
  obtain ⟨K, h⟩ := h; obtain ⟨L, k⟩ := k
  have a := h (K + L) (by omega); have b := k (K + L) (by omega)
  rw [a] at b; exact Option.some.inj b
inductive Small : S29 → Prop
  | mk (x : S29) (h2 : x.f2.size ≤ 1048576) (h3 : x.f3.length ≤ 1048576) (h : ∀ y ∈ x.f3, Small y) : Small x
theorem rdI_in (l : List S29) (i : Nat) (h : i < l.length) : rd_T29 l (i : Int) ∈ l := by
  have : rd_T29 l (i : Int) = l[i] := by simp [rd_T29, List.getD_eq_getElem?_getD, h]
  rw [this]; exact List.getElem_mem h
theorem rdI_at (l : List S29) (i : Nat) (h : i < l.length) : rd_T29 l (i : Int) = l[i] := by simp [rd_T29, List.getD_eq_getElem?_getD, h]
inductive NodE : List S24 → Nat → Prop
  | nil : NodE [] 0
  | cons (x : S24) (l : List S24) (n m : Nat) (h : NodE x.f3 n) (g : NodE l m) : NodE (x :: l) (1 + n + m)
inductive NodI : List S29 → Nat → Prop
  | nil : NodI [] 0
  | cons (x : S29) (l : List S29) (n m : Nat) (h : NodI x.f3 n) (g : NodI l m) : NodI (x :: l) (1 + n + m)
theorem nod_copy : ∀ (l : List S24) (r : List S29), r.length = l.length → (∀ (j : Nat) (h1 : j < l.length) (h2 : j < r.length), ∀ n, NodE l[j].f3 n → NodI r[j].f3 n) → ∀ n, NodE l n → NodI r n
  | [], [], _, _, n, h => by cases h; exact .nil
  | [], y :: r, h, _, _, _ => by simp at h
  | x :: l, [], h, _, _, _ => by simp at h
  | x :: l, y :: r, h, H, n, g => by
    cases g with
    | cons _ _ n m a b => exact .cons y r n m (H 0 (by simp) (by simp) n a) (nod_copy l r (by simpa using h) (fun j h1 h2 => H (j + 1) (by simpa using h1) (by simpa using h2)) m b)
inductive GoodT : S24 → Prop
  | mk (x : S24) (h0 : (Lit.int .i64 x.f0).wf = true) (h1 : (Lit.int .i64 x.f1).wf = true) (h2 : x.f2.size ≤ maxLen) (h3 : x.f3.length ≤ maxLen) (h : ∀ y ∈ x.f3, GoodT y) : GoodT x
inductive SmallS : S24 → Prop
  | mk (x : S24) (h2 : x.f2.size ≤ 1048576) (h3 : x.f3.length ≤ 1048576) (h : ∀ y ∈ x.f3, SmallS y) : SmallS x
theorem rdE_in (l : List S24) (i : Nat) (h : i < l.length) : rd_T24 l (i : Int) ∈ l := by
  have : rd_T24 l (i : Int) = l[i] := by simp [rd_T24, List.getD_eq_getElem?_getD, h]
  rw [this]; exact List.getElem_mem h
def SzT (x : S24) : Prop := ∀ a : Int, 0 ≤ a → a ≤ 1048576 → ∃ r, Ev (fun k => laws_szExpr.f k x.f0 x.f1 x.f2 x.f3 a) r ∧ (r < 0 ∨ (0 ≤ r ∧ r ≤ a ∧ SmallS x ∧ ∃ n : Nat, NodE x.f3 n ∧ r + n ≤ a))
theorem szExprS_l0 (l : List S24) (hl : l.length ≤ 1048576) (h : ∀ x ∈ l, SzT x) : ∀ (d i : Nat) (a : Int), l.length - i = d → i ≤ l.length → 0 ≤ a → a ≤ 1048576 →
    ∃ r, Ev (fun k => laws_szExprS.l0 k l a (i : Int)) r ∧ (r < 0 ∨ (0 ≤ r ∧ r ≤ a ∧ (∀ j, i ≤ j → ∀ hj : j < l.length, SmallS l[j]) ∧ ∃ n : Nat, NodE (l.drop i) n ∧ r + n ≤ a + (l.length - i : Nat))) := by
  intro d
  induction d with
  | zero =>
    intro i a hd hi h0 h1
    refine ⟨a, Ev.step (f := fun _ => some a) (fun k => ?_) (Ev.now a), .inr ⟨h0, by omega, fun j hj hj' => by omega, 0, by rw [List.drop_of_length_le (by omega)]; exact .nil, by omega⟩⟩
    simp only [laws_szExprS.l0]; rw [if_neg (by omega)]
  | succ d ih =>
    intro i a hd hi h0 h1
    have hlt : i < l.length := by omega
    have hx : rd_T24 l (i : Int) = l[i] := by simp [rd_T24, List.getD_eq_getElem?_getD, hlt]
    obtain ⟨r, hr, hc⟩ := h _ (rdE_in l i hlt) a h0 h1
    by_cases hn : r < 0
    · refine ⟨-1, ?_, .inl (by omega)⟩
      refine Ev.step (f := fun k => (laws_szExpr.f k (rd_T24 l (i : Int)).f0 (rd_T24 l (i : Int)).f1 (rd_T24 l (i : Int)).f2 (rd_T24 l (i : Int)).f3 a).bind fun t => if t < 0 then some (-1) else laws_szExprS.l0 k l t (wrap64 ((i : Int) + 1))) (fun k => ?_) (Ev.bind hr ?_)
      · simp only [laws_szExprS.l0]; rw [if_pos (by omega), if_pos (by omega)]
      · refine Ev.congr (f := fun _ => some (-1)) (fun k => ?_) (Ev.now _)
        rw [if_pos hn]
    · obtain ⟨p0, p1, p2, n1, p3, p4⟩ := hc.resolve_left hn
      clear hc
      obtain ⟨q, hq, hqc⟩ := ih (i + 1) r (by omega) (by omega) p0 (by omega)
      refine ⟨q, ?_, ?_⟩
      · refine Ev.step (f := fun k => (laws_szExpr.f k (rd_T24 l (i : Int)).f0 (rd_T24 l (i : Int)).f1 (rd_T24 l (i : Int)).f2 (rd_T24 l (i : Int)).f3 a).bind fun t => if t < 0 then some (-1) else laws_szExprS.l0 k l t (wrap64 ((i : Int) + 1))) (fun k => ?_) (Ev.bind hr ?_)
        · simp only [laws_szExprS.l0]; rw [if_pos (by omega), if_pos (by omega)]
        · refine Ev.congr (f := fun k => laws_szExprS.l0 k l r ((i + 1 : Nat) : Int)) (fun k => ?_) hq
          rw [if_neg hn, w64 (x := (i : Int) + 1) (by omega) (by omega)]; rfl
      · rcases hqc with hq' | ⟨q0, q1, q2, n2, q3, q4⟩
        · exact .inl hq'
        · have hN : q + ((1 + n1 + n2 : Nat) : Int) ≤ a + ((l.length - i : Nat) : Int) := by clear hq hr h; omega
          refine .inr ⟨q0, by omega, fun j hj hj' => ?_, 1 + n1 + n2, ?_, hN⟩
          · by_cases e : i = j
            · subst e; rw [← hx]; exact p2
            · exact q2 j (by omega) hj'
          · rw [List.drop_eq_getElem_cons hlt]; rw [hx] at p3; exact .cons _ _ n1 n2 p3 q3
theorem szExpr_ok (x : S24) (g : GoodT x) : SzT x := by
  induction g with
  | mk x h0 h1 h2 h3 h ih =>
    intro a a0 a1
    have hm : maxLen = 9223372036854775807 := rfl
    have w1 : wrap64 (a - (x.f2.size : Int)) = a - x.f2.size := w64 (by omega) (by omega)
    by_cases c : a - (x.f2.size : Int) < 0
    · refine ⟨-1, Ev.step (f := fun _ => some (-1)) (fun k => ?_) (Ev.now _), .inl (by omega)⟩
      simp only [laws_szExpr.f, w1]; rw [if_pos c]
    have w2 : wrap64 (a - (x.f2.size : Int) - (x.f3.length : Int)) = a - x.f2.size - x.f3.length := w64 (by omega) (by omega)
    have st : ∀ (q : Int), Ev (fun k => laws_szExprS.f k x.f3 (a - x.f2.size)) q → Ev (fun k => laws_szExpr.f k x.f0 x.f1 x.f2 x.f3 a) (if q < 0 then -1 else q) := by
      intro q hq
      refine Ev.step (f := fun k => (laws_szExprS.f k x.f3 (a - x.f2.size)).bind fun t => if t < 0 then some (-1) else some t) (fun k => ?_) (Ev.bind hq ?_)
      · simp only [laws_szExpr.f, w1]; rw [if_neg c]
      · refine Ev.congr (f := fun _ => some (if q < 0 then -1 else q)) (fun k => ?_) (Ev.now _)
        by_cases e : q < 0
        · rw [if_pos e, if_pos e]
        · rw [if_neg e, if_neg e]
    by_cases c2 : a - (x.f2.size : Int) - (x.f3.length : Int) < 0
    · refine ⟨-1, ?_, .inl (by omega)⟩
      have := st (-1) (Ev.step (f := fun _ => some (-1)) (fun k => by simp only [laws_szExprS.f, w2]; rw [if_pos c2]) (Ev.now _))
      exact this
    · obtain ⟨r, hr, hc⟩ := szExprS_l0 x.f3 (by omega) ih x.f3.length 0 (a - x.f2.size - x.f3.length) (by omega) (by omega) (by omega) (by omega)
      have hs := st r (Ev.step (f := fun k => laws_szExprS.l0 k x.f3 (a - x.f2.size - x.f3.length) ((0 : Nat) : Int)) (fun k => by simp only [laws_szExprS.f, w2]; rw [if_neg c2]; rfl) hr)
      refine ⟨_, hs, ?_⟩
      rcases hc with hn | ⟨r0, r1, r2, n, r3, r4⟩
      · rw [if_pos hn]; exact .inl (by omega)
      · rw [if_neg (by omega)]
        refine .inr ⟨r0, by omega, SmallS.mk x (by omega) (by omega) (fun y hy => ?_), n, by simpa using r3, by omega⟩
        obtain ⟨j, hj, e⟩ := List.getElem_of_mem hy
        rw [← e]; exact r2 j (by omega) hj
def ToT (x : S24) : Prop := ∃ y : S29, Ev (fun k => laws_toExpr.f k x.f0 x.f1 x.f2 x.f3) (y.f0, y.f1, y.f2, y.f3) ∧ Small y ∧ ∀ n, NodE x.f3 n → NodI y.f3 n
theorem toExprS_l0 (l : List S24) (hl : l.length ≤ 1048576) (h : ∀ x ∈ l, ToT x) : ∀ (d i : Nat) (z : List S29), l.length - i = d → i ≤ l.length → z.length = l.length → (∀ j, j < i → ∀ (h1 : j < l.length) (hj : j < z.length), Small z[j] ∧ ∀ n, NodE l[j].f3 n → NodI z[j].f3 n) →
    ∃ r, Ev (fun k => laws_toExprS.l0 k l z (i : Int)) r ∧ r.length = l.length ∧ ∀ j, ∀ (h1 : j < l.length) (hj : j < r.length), Small r[j] ∧ ∀ n, NodE l[j].f3 n → NodI r[j].f3 n := by
  intro d
  induction d with
  | zero =>
    intro i z hd hi hz hs
    refine ⟨z, Ev.step (f := fun _ => some z) (fun k => ?_) (Ev.now z), hz, fun j h1 hj => hs j (by omega) h1 hj⟩
    simp only [laws_toExprS.l0]; rw [if_neg (by omega)]
  | succ d ih =>
    intro i z hd hi hz hs
    have hlt : i < l.length := by omega
    have hx : rd_T24 l (i : Int) = l[i] := by simp [rd_T24, List.getD_eq_getElem?_getD, hlt]
    obtain ⟨y, hy, sy, cy⟩ := h _ (rdE_in l i hlt)
    obtain ⟨r, hr, hrl, hrs⟩ := ih (i + 1) (z.set i (⟨y.f0, y.f1, y.f2, y.f3⟩ : S29)) (by omega) (by omega) (by simpa using hz) (fun j hj h1 hj' => by
      rw [List.getElem_set]
      split
      · rename_i ej; subst ej
        have e : (⟨y.f0, y.f1, y.f2, y.f3⟩ : S29) = y := by cases y; rfl
        rw [e]; rw [hx] at cy; exact ⟨sy, cy⟩
      · exact hs j (by omega) h1 (by simpa using hj'))
    refine ⟨r, ?_, hrl, hrs⟩
    refine Ev.step (f := fun k => (laws_toExpr.f k (rd_T24 l (i : Int)).f0 (rd_T24 l (i : Int)).f1 (rd_T24 l (i : Int)).f2 (rd_T24 l (i : Int)).f3).bind fun bt => if (i : Int) < (z.length : Int) then laws_toExprS.l0 k l (z.set (i : Int).toNat (⟨bt.1, bt.2.1, bt.2.2.1, bt.2.2.2⟩ : S29)) (wrap64 ((i : Int) + 1)) else none) (fun k => ?_) (Ev.bind hy ?_)
    · simp only [laws_toExprS.l0]; rw [if_pos (by omega), if_pos (by omega)]
    · refine Ev.congr (f := fun k => laws_toExprS.l0 k l (z.set i (⟨y.f0, y.f1, y.f2, y.f3⟩ : S29)) ((i + 1 : Nat) : Int)) (fun k => ?_) hr
      rw [if_pos (by omega), w64 (x := (i : Int) + 1) (by omega) (by omega)]; rfl
theorem toExpr_ok (x : S24) (g : SmallS x) : ToT x := by
  induction g with
  | mk x h2 h3 h ih =>
    obtain ⟨r, hr, hrl, hrs⟩ := toExprS_l0 x.f3 h3 ih x.f3.length 0 (List.replicate x.f3.length z29) (by omega) (by omega) (by simp) (fun j hj => by omega)
    refine ⟨⟨x.f0, x.f1, x.f2, r⟩, ?_, Small.mk _ h2 (by show r.length ≤ 1048576; omega) (fun y hy => ?_), nod_copy _ _ hrl (fun j a b => (hrs j a b).2)⟩
    · refine Ev.step (f := fun k => (laws_toExprS.f k x.f3).bind fun t => some (x.f0, x.f1, x.f2, t)) (fun k => by simp only [laws_toExpr.f]) (Ev.bind (a := r) ?_ (Ev.now _))
      refine Ev.step (f := fun k => laws_toExprS.l0 k x.f3 (List.replicate x.f3.length z29) ((0 : Nat) : Int)) (fun k => ?_) hr
      simp only [laws_toExprS.f]; rw [if_pos (by omega), if_pos (by omega)]; rfl
    · obtain ⟨j, hj, e⟩ := List.getElem_of_mem hy
      rw [← e]; exact (hrs j (by have h7 : j < r.length := hj; omega) hj).1
def EqT (x : S29) : Prop := Ev (fun k => laws_eqExpr.f k x.f0 x.f1 x.f2 x.f3 x.f0 x.f1 x.f2 x.f3) true
theorem eqExprS_l0 (l : List S29) (hl : l.length ≤ 1048576) (h : ∀ x ∈ l, EqT x) : ∀ (d i : Nat), l.length - i = d → i ≤ l.length → Ev (fun k => laws_eqExprS.l0 k l l (i : Int)) true := by
  intro d
  induction d with
  | zero =>
    intro i hd hi
    refine Ev.step (f := fun _ => some true) (fun k => ?_) (Ev.now _)
    simp only [laws_eqExprS.l0]; rw [if_neg (by omega)]
  | succ d ih =>
    intro i hd hi
    have hlt : i < l.length := by omega
    refine Ev.step (f := fun k => (laws_eqExpr.f k (rd_T29 l (i : Int)).f0 (rd_T29 l (i : Int)).f1 (rd_T29 l (i : Int)).f2 (rd_T29 l (i : Int)).f3 (rd_T29 l (i : Int)).f0 (rd_T29 l (i : Int)).f1 (rd_T29 l (i : Int)).f2 (rd_T29 l (i : Int)).f3).bind fun t => if t = true then laws_eqExprS.l0 k l l (wrap64 ((i : Int) + 1)) else some false) (fun k => ?_) (Ev.bind (h _ (rdI_in l i hlt)) ?_)
    · simp only [laws_eqExprS.l0]; rw [if_pos (by omega), if_pos (by omega), if_pos (by omega)]
    · refine Ev.congr (f := fun k => laws_eqExprS.l0 k l l ((i + 1 : Nat) : Int)) (fun k => ?_) (ih (i + 1) (by omega) (by omega))
      rw [if_pos rfl, w64 (x := (i : Int) + 1) (by omega) (by omega)]; rfl
theorem eqExpr_ok (x : S29) (g : Small x) : EqT x := by
  induction g with
  | mk x h2 h3 h ih =>
    refine Ev.step (f := fun k => (laws_eqExprS.f k x.f3 x.f3).bind fun t => if t = true then some true else some false) (fun k => ?_) (Ev.bind (a := true) ?_ (Ev.now _))
    · simp only [laws_eqExpr.f]; rw [if_pos trivial, if_pos trivial, if_pos trivial]
    · refine Ev.step (f := fun k => laws_eqExprS.l0 k x.f3 x.f3 ((0 : Nat) : Int)) (fun k => ?_) (eqExprS_l0 x.f3 h3 ih x.f3.length 0 (by omega) (by omega))
      simp only [laws_eqExprS.f]; rw [if_pos trivial]; rfl
theorem szExprS_ok (l : List S24) (hl : l.length ≤ maxLen) (g : ∀ x ∈ l, GoodT x) (a : Int) (h0 : 0 ≤ a) (h1 : a ≤ 1048576) :
    ∃ r, Ev (fun k => laws_szExprS.f k l a) r ∧ (r < 0 ∨ (0 ≤ r ∧ r ≤ a ∧ l.length ≤ 1048576 ∧ (∀ x ∈ l, SmallS x) ∧ ∃ n : Nat, NodE l n ∧ r + n ≤ a)) := by
  have hm : maxLen = 9223372036854775807 := rfl
  have w1 : wrap64 (a - (l.length : Int)) = a - l.length := w64 (by omega) (by omega)
  by_cases c : a - (l.length : Int) < 0
  · refine ⟨-1, Ev.step (f := fun _ => some (-1)) (fun k => ?_) (Ev.now _), .inl (by omega)⟩
    simp only [laws_szExprS.f, w1]; rw [if_pos c]
  · obtain ⟨r, hr, hc⟩ := szExprS_l0 l (by omega) (fun x hx => szExpr_ok x (g x hx)) l.length 0 (a - l.length) (by omega) (by omega) (by omega) (by omega)
    refine ⟨r, Ev.step (f := fun k => laws_szExprS.l0 k l (a - l.length) ((0 : Nat) : Int)) (fun k => ?_) hr, ?_⟩
    · simp only [laws_szExprS.f, w1]; rw [if_neg c]; rfl
    · rcases hc with hn | ⟨q0, q1, q2, n, q3, q4⟩
      · exact .inl hn
      · refine .inr ⟨q0, by omega, by omega, fun x hx => ?_, n, by simpa using q3, by omega⟩
        obtain ⟨j, hj, e⟩ := List.getElem_of_mem hx
        rw [← e]; exact q2 j (by omega) hj
theorem toExprS_ok (l : List S24) (hl : l.length ≤ 1048576) (g : ∀ x ∈ l, SmallS x) : ∃ r : List S29, Ev (fun k => laws_toExprS.f k l) r ∧ r.length = l.length ∧ (∀ y ∈ r, Small y) ∧ ∀ n, NodE l n → NodI r n := by
  obtain ⟨r, hr, hrl, hrs⟩ := toExprS_l0 l hl (fun x hx => toExpr_ok x (g x hx)) l.length 0 (List.replicate l.length z29) (by omega) (by omega) (by simp) (fun j hj => by omega)
  refine ⟨r, Ev.step (f := fun k => laws_toExprS.l0 k l (List.replicate l.length z29) ((0 : Nat) : Int)) (fun k => ?_) hr, hrl, fun y hy => ?_, nod_copy _ _ hrl (fun j a b => (hrs j a b).2)⟩
  · simp only [laws_toExprS.f]; rw [if_pos (by omega), if_pos (by omega)]; rfl
  · obtain ⟨j, hj, e⟩ := List.getElem_of_mem hy
    rw [← e]; exact (hrs j (by omega) hj).1
theorem eqExprS_ok (l : List S29) (hl : l.length ≤ 1048576) (g : ∀ x ∈ l, Small x) : Ev (fun k => laws_eqExprS.f k l l) true := by
  refine Ev.step (f := fun k => laws_eqExprS.l0 k l l ((0 : Nat) : Int)) (fun k => ?_) (eqExprS_l0 l hl (fun x hx => eqExpr_ok x (g x hx)) l.length 0 (by omega) (by omega))
  simp only [laws_eqExprS.f]; rw [if_pos trivial]; rfl
theorem bal (s : ByteArray) : s.toList = s.data.toList := ByteArray.toList_eq s
theorem bt_b (s : ByteArray) (i : Int) : wrap64 (bt s i) = bt s i := by have := bt_range s i; exact w64 (by omega) (by omega)
theorem l1In_ok (a b c : Int) : spec_l1In.f a b c = some (decide (b ≤ a ∧ a ≤ c)) := by
  unfold spec_l1In.f
  by_cases h : a ≥ b
  · have h' : b ≤ a := h
    rw [if_pos h]; simp [h']
  · have h' : ¬ b ≤ a := h
    rw [if_neg h]; simp [h']
theorem within_ok (a b c : Int) : impl_within.f a b c = some (decide (b ≤ a ∧ a ≤ c)) := by
  unfold impl_within.f
  by_cases h : a ≥ b
  · have h' : b ≤ a := h
    rw [if_pos h]; simp [h']
  · have h' : ¬ b ≤ a := h
    rw [if_neg h]; simp [h']
theorem bal_length (s : ByteArray) : s.toList.length = s.size := by rw [bal, Array.length_toList]; rfl
theorem search_loop (n : Nat) (hn : n ≤ 4611686018427387904) (p : Nat → Prop) [DecidablePred p] (L : Nat → Int → Option Int)
    (hs : ∀ k (i : Nat), i < n → L (k + 1) (i : Int) = if p i then some (i : Int) else L k (wrap64 ((i : Int) + 1))) (he : ∀ k (i : Nat), ¬ i < n → L (k + 1) (i : Int) = some (-1)) :
    ∃ r : Int, Ev (fun k => L k 0) r ∧ -1 ≤ r ∧ r < n ∧ (0 ≤ r → p r.toNat) ∧ (∀ j : Nat, j < n → p j → 0 ≤ r ∧ r ≤ j) := by
  have H : ∀ (d i : Nat), n - i = d → i ≤ n → ∃ r : Int, Ev (fun k => L k (i : Int)) r ∧ -1 ≤ r ∧ r < n ∧ (0 ≤ r → p r.toNat) ∧ (∀ j : Nat, i ≤ j → j < n → p j → 0 ≤ r ∧ r ≤ j) := by
    intro d
    induction d with
    | zero =>
      intro i hd hi
      exact ⟨-1, Ev.step (f := fun _ => some (-1)) (fun k => he k i (by omega)) (Ev.now _), by omega, by omega, fun h => by omega, fun j h1 h2 => by omega⟩
    | succ d ih =>
      intro i hd hi
      by_cases hp : p i
      · exact ⟨i, Ev.step (f := fun _ => some (i : Int)) (fun k => by rw [hs k i (by omega), if_pos hp]) (Ev.now _), by omega, by omega, fun _ => by simpa using hp, fun j h1 h2 _ => by omega⟩
      · obtain ⟨r, hr, r0, r1, r2, r3⟩ := ih (i + 1) (by omega) (by omega)
        refine ⟨r, Ev.step (f := fun k => L k ((i + 1 : Nat) : Int)) (fun k => ?_) hr, r0, r1, r2, fun j h1 h2 h3 => ?_⟩
        · rw [hs k i (by omega), if_neg hp, w64 (by omega) (by omega)]; rfl
        · rcases Nat.eq_or_lt_of_le h1 with e | e
          · subst e; exact absurd h3 hp
          · exact r3 j e h2 h3
  obtain ⟨r, hr, r0, r1, r2, r3⟩ := H n 0 (by omega) (by omega)
  exact ⟨r, by simpa using hr, r0, r1, r2, fun j h1 h2 => r3 j (Nat.zero_le _) h1 h2⟩
theorem rdB (l : List ByteArray) (i : Nat) (h : i < l.length) : rdOf ByteArray.empty l (i : Int) = l[i] := by simp [rdOf, List.getD_eq_getElem?_getD, h]
def amongB (l : List ByteArray) (s : ByteArray) : Bool := l.any fun x => x.toList == s.toList
theorem l9At_ok (l : List ByteArray) (hl : l.length ≤ 1048576) (s : ByteArray) : ∃ r : Int, Ev (fun k => spec_l9At.f k l s) r ∧ -1 ≤ r ∧ r < l.length ∧ (0 ≤ r → ∀ h : r.toNat < l.length, l[r.toNat].toList = s.toList) ∧ (∀ j : Nat, ∀ h : j < l.length, l[j].toList = s.toList → 0 ≤ r ∧ r ≤ j) := by
  obtain ⟨r, hr, r0, r1, r2, r3⟩ := search_loop l.length (by omega) (fun i => ∃ h : i < l.length, l[i].toList = s.toList) (fun k i => spec_l9At.l0 k l s i) (fun k i hi => by
    simp only [spec_l9At.l0]; rw [if_pos (by omega), if_pos (by omega), rdB l i hi]
    by_cases e : l[i].toList = s.toList
    · rw [if_pos e, if_pos ⟨hi, e⟩]
    · rw [if_neg e, if_neg (fun h => e h.2)]) (fun k i hi => by simp only [spec_l9At.l0]; rw [if_neg (by omega)])
  exact ⟨r, hr, r0, r1, fun h _ => (r2 h).2, fun j hj e => r3 j hj ⟨hj, e⟩⟩
theorem placeIn_ok (l : List ByteArray) (hl : l.length ≤ 1048576) (s : ByteArray) : ∃ r : Int, Ev (fun k => impl_placeIn.f k l s) r ∧ -1 ≤ r ∧ r < l.length ∧ (0 ≤ r → ∀ h : r.toNat < l.length, l[r.toNat].toList = s.toList) ∧ (∀ j : Nat, ∀ h : j < l.length, l[j].toList = s.toList → 0 ≤ r ∧ r ≤ j) := by
  obtain ⟨r, hr, r0, r1, r2, r3⟩ := search_loop l.length (by omega) (fun i => ∃ h : i < l.length, l[i].toList = s.toList) (fun k i => impl_placeIn.l0 k s l (l.length : Int) i) (fun k i hi => by
    simp only [impl_placeIn.l0]; rw [if_pos (by omega), if_pos (by omega), if_pos (by omega), rdB l i hi]
    by_cases e : l[i].toList = s.toList
    · rw [if_pos e, if_pos ⟨hi, e⟩]
    · rw [if_neg e, if_neg (fun h => e h.2)]) (fun k i hi => by simp only [impl_placeIn.l0]; rw [if_neg (by omega)])
  exact ⟨r, hr, r0, r1, fun h _ => (r2 h).2, fun j hj e => r3 j hj ⟨hj, e⟩⟩
theorem among_iff (l : List ByteArray) (s : ByteArray) (r : Int) (h0 : -1 ≤ r) (h1 : r < l.length) (h2 : 0 ≤ r → ∀ h : r.toNat < l.length, l[r.toNat].toList = s.toList) (h3 : ∀ j : Nat, ∀ h : j < l.length, l[j].toList = s.toList → 0 ≤ r ∧ r ≤ j) : 0 ≤ r ↔ amongB l s = true := by
  unfold amongB
  rw [List.any_eq_true]
  constructor
  · intro h
    have hlt : r.toNat < l.length := by omega
    exact ⟨_, List.getElem_mem hlt, by rw [h2 h hlt]; exact beq_self_eq_true _⟩
  · rintro ⟨x, hx, e⟩
    obtain ⟨j, hj, rfl⟩ := List.getElem_of_mem hx
    exact (h3 j hj (by simpa using e)).1
def opW23 : List ByteArray := (impl_opWords.f).getD []
def regW8 : List ByteArray := (impl_regWords.f).getD []
theorem opW23_ok : impl_opWords.f = some opW23 := rfl
theorem regW8_ok : impl_regWords.f = some regW8 := rfl
theorem kept31_ok : spec_l9Kept.f = some (opW23 ++ regW8) := rfl
def keptB (s : ByteArray) : Bool := amongB (opW23 ++ regW8) s
theorem keptB_or (s : ByteArray) : keptB s = (amongB opW23 s || amongB regW8 s) := by unfold keptB amongB; rw [List.any_append]
theorem specKept_ok (s : ByteArray) : ∃ r : Int, Ev (fun k => spec_l9At.f k (opW23 ++ regW8) s) r ∧ (0 ≤ r ↔ keptB s = true) := by
  obtain ⟨r, hr, r0, r1, r2, r3⟩ := l9At_ok (opW23 ++ regW8) (by decide) s
  exact ⟨r, hr, among_iff _ _ _ r0 r1 r2 r3⟩
theorem isKept_ok (s : ByteArray) : Ev (fun k => impl_isKept.f k s) (keptB s) := by
  obtain ⟨r, hr, r0, r1, r2, r3⟩ := placeIn_ok opW23 (by decide) s
  obtain ⟨q, hq, q0, q1, q2, q3⟩ := placeIn_ok regW8 (by decide) s
  have e1 := among_iff _ _ _ r0 r1 r2 r3
  have e2 := among_iff _ _ _ q0 q1 q2 q3
  simp only [impl_isKept.f, opW23_ok, regW8_ok, Option.bind_some]
  refine Ev.bind hr ?_
  rw [keptB_or]
  by_cases h : r ≥ 0
  · refine Ev.congr (f := fun _ => some (amongB opW23 s || amongB regW8 s)) (fun k => ?_) (Ev.now _)
    rw [if_pos h, e1.1 h]; rfl
  · refine Ev.congr (f := fun k => (impl_placeIn.f k regW8 s).bind fun t => some (decide (t ≥ 0))) (fun k => by rw [if_neg h]) (Ev.bind hq ?_)
    have h1 : amongB opW23 s = false := by cases h' : amongB opW23 s with | false => rfl | true => exact absurd (e1.2 h') h
    have h2 : decide (q ≥ 0) = amongB regW8 s := by rw [Bool.eq_iff_iff, decide_eq_true_eq]; exact e2
    rw [h1, h2]; exact Ev.now _
def smallP (c : Int) : Prop := 97 ≤ c ∧ c ≤ 122
def digitP (c : Int) : Prop := 48 ≤ c ∧ c ≤ 57
instance (c : Int) : Decidable (smallP c) := by unfold smallP; infer_instance
instance (c : Int) : Decidable (digitP c) := by unfold digitP; infer_instance
theorem l9Small_ok (s : ByteArray) (i : Int) : spec_l9Small.f (bt s i) = some (decide (smallP (bt s i))) := by unfold spec_l9Small.f; rw [bt_b, l1In_ok]; rfl
theorem l9Digit_ok (s : ByteArray) (i : Int) : spec_l9Digit.f (bt s i) = some (decide (digitP (bt s i))) := by unfold spec_l9Digit.f; rw [bt_b, l1In_ok]; rfl
theorem isLetter_ok (s : ByteArray) (i : Int) : impl_isLetter.f (bt s i) = some (decide (smallP (bt s i))) := by unfold impl_isLetter.f; rw [bt_b, within_ok]; rfl
theorem isPart_ok (s : ByteArray) (i : Int) : impl_isPart.f (bt s i) = some (decide (smallP (bt s i) ∨ digitP (bt s i))) := by
  unfold impl_isPart.f
  rw [isLetter_ok]; simp only [Option.bind_some]
  by_cases h : smallP (bt s i)
  · rw [if_pos (decide_eq_true h)]; simp [h]
  · rw [if_neg (by simpa using h), bt_b, within_ok]; simp [h, digitP]
def goodAt (s : ByteArray) (j : Nat) : Prop := smallP (bt s j) ∨ (j ≠ 0 ∧ digitP (bt s j))
instance (s : ByteArray) (j : Nat) : Decidable (goodAt s j) := by unfold goodAt; infer_instance
def formB (s : ByteArray) : Bool := decide ((1 ≤ s.size ∧ s.size ≤ 6) ∧ ∀ j, j < s.size → goodAt s j)
theorem l9Form_ok (s : ByteArray) (hs : s.size ≤ 1048576) : Ev (fun k => spec_l9Form.f k s) (formB s) := by
  have H : ∀ (d i : Nat), s.size - i = d → i ≤ s.size → ∃ b : Bool, Ev (fun k => spec_l9Form.l0 k s (i : Int)) b ∧ (b = true ↔ ((1 ≤ s.size ∧ s.size ≤ 6) ∧ ∀ j, i ≤ j → j < s.size → goodAt s j)) := by
    intro d
    induction d with
    | zero =>
      intro i hd hi
      refine ⟨decide (1 ≤ (s.size : Int) ∧ (s.size : Int) ≤ 6), Ev.step (f := fun _ => some (decide (1 ≤ (s.size : Int) ∧ (s.size : Int) ≤ 6))) (fun k => ?_) (Ev.now _), ?_⟩
      · simp only [spec_l9Form.l0]; rw [if_neg (by omega), l1In_ok]; rfl
      · rw [decide_eq_true_eq]; constructor
        · intro h; exact ⟨by omega, fun j h1 h2 => by omega⟩
        · intro h; have := h.1; omega
    | succ d ih =>
      intro i hd hi
      have hlt : i < s.size := by omega
      obtain ⟨b, hb, hbi⟩ := ih (i + 1) (by omega) (by omega)
      have nxt : ∀ k, spec_l9Form.l0 k s (wrap64 ((i : Int) + 1)) = spec_l9Form.l0 k s ((i + 1 : Nat) : Int) := fun k => by rw [w64 (by omega) (by omega)]; rfl
      by_cases hg : goodAt s i
      · refine ⟨b, Ev.step (f := fun k => spec_l9Form.l0 k s ((i + 1 : Nat) : Int)) (fun k => ?_) hb, ?_⟩
        · simp only [spec_l9Form.l0, l9Small_ok, l9Digit_ok, Option.bind_some, nxt]
          rw [if_pos (by omega), if_pos (by omega)]
          rcases hg with h | ⟨h1, h2⟩
          · rw [if_pos (decide_eq_true h)]
          · by_cases h : smallP (bt s i)
            · rw [if_pos (decide_eq_true h)]
            · rw [if_neg (by simpa using h), if_neg (by omega), if_pos (decide_eq_true h2)]
        · rw [hbi]; constructor
          · intro h; refine ⟨h.1, fun j h1 h2 => ?_⟩
            rcases Nat.eq_or_lt_of_le h1 with e | e
            · subst e; exact hg
            · exact h.2 j e h2
          · intro h; exact ⟨h.1, fun j h1 h2 => h.2 j (by omega) h2⟩
      · refine ⟨false, Ev.step (f := fun _ => some false) (fun k => ?_) (Ev.now _), ?_⟩
        · simp only [spec_l9Form.l0, l9Small_ok, l9Digit_ok, Option.bind_some]
          rw [if_pos (by omega), if_pos (by omega)]
          have h1 : ¬ smallP (bt s i) := fun h => hg (.inl h)
          rw [if_neg (by simpa using h1)]
          by_cases h0 : i = 0
          · rw [if_pos (by omega)]
          · have h2 : ¬ digitP (bt s i) := fun h => hg (.inr ⟨h0, h⟩)
            rw [if_neg (by omega), if_neg (by simpa using h2)]
        · simp only [Bool.false_eq_true, false_iff]; intro h; exact hg (h.2 i (Nat.le_refl _) hlt)
  obtain ⟨b, hb, hbi⟩ := H s.size 0 (by omega) (by omega)
  have e : b = formB s := by
    unfold formB
    rw [Bool.eq_iff_iff, hbi, decide_eq_true_eq]
    exact ⟨fun h => ⟨h.1, fun j hj => h.2 j (Nat.zero_le _) hj⟩, fun h => ⟨h.1, fun j _ hj => h.2 j hj⟩⟩
  rw [← e]; unfold spec_l9Form.f; exact hb
theorem runFrom_ok (s : ByteArray) (hs : s.size ≤ 1048576) (a : Nat) (ha : a ≤ s.size) : ∃ e : Nat, a ≤ e ∧ e ≤ s.size ∧ Ev (fun k => impl_runFrom.f k s (a : Int)) (s.extract a e) ∧ (∀ j, a ≤ j → j < e → smallP (bt s j) ∨ digitP (bt s j)) ∧ (e < s.size → ¬ (smallP (bt s e) ∨ digitP (bt s e))) := by
  have H : ∀ (d i : Nat), s.size - i = d → a ≤ i → i ≤ s.size → ∃ e : Nat, i ≤ e ∧ e ≤ s.size ∧ Ev (fun k => impl_runFrom.l0 k s (a : Int) (i : Int)) (s.extract a e) ∧ (∀ j, i ≤ j → j < e → smallP (bt s j) ∨ digitP (bt s j)) ∧ (e < s.size → ¬ (smallP (bt s e) ∨ digitP (bt s e))) := by
    intro d
    induction d with
    | zero =>
      intro i hd h0 hi
      refine ⟨i, Nat.le_refl _, hi, Ev.step (f := fun _ => some (s.extract a i)) (fun k => ?_) (Ev.now _), fun j h1 h2 => by omega, fun h => by omega⟩
      simp only [impl_runFrom.l0]; rw [if_neg (by omega), if_pos (by omega), if_pos (by omega), if_pos (by omega)]; rfl
    | succ d ih =>
      intro i hd h0 hi
      have hlt : i < s.size := by omega
      by_cases hp : smallP (bt s i) ∨ digitP (bt s i)
      · obtain ⟨e, e0, e1, he, e2, e3⟩ := ih (i + 1) (by omega) (by omega) (by omega)
        refine ⟨e, by omega, e1, Ev.step (f := fun k => impl_runFrom.l0 k s (a : Int) ((i + 1 : Nat) : Int)) (fun k => ?_) he, fun j h1 h2 => ?_, e3⟩
        · simp only [impl_runFrom.l0, isPart_ok, Option.bind_some]
          rw [if_pos (by omega), if_pos (by omega), if_pos (decide_eq_true hp), w64 (by omega) (by omega)]; rfl
        · rcases Nat.eq_or_lt_of_le h1 with e | e
          · subst e; exact hp
          · exact e2 j e h2
      · refine ⟨i, Nat.le_refl _, hi, Ev.step (f := fun _ => some (s.extract a i)) (fun k => ?_) (Ev.now _), fun j h1 h2 => by omega, fun _ => hp⟩
        simp only [impl_runFrom.l0, isPart_ok, Option.bind_some]
        rw [if_pos (by omega), if_pos (by omega), if_neg (by simpa using hp), if_pos (by omega), if_pos (by omega), if_pos (by omega)]; rfl
  obtain ⟨e, e0, e1, he, e2, e3⟩ := H (s.size - a) a rfl (Nat.le_refl _) ha
  exact ⟨e, e0, e1, by unfold impl_runFrom.f; exact he, e2, e3⟩
theorem extract_size (s : ByteArray) (a e : Nat) (h : e ≤ s.size) : (s.extract a e).size = e - a := by
  rw [ByteArray.size_extract]; omega
theorem extract_all (s : ByteArray) : s.extract 0 s.size = s := by
  apply ByteArray.ext; rw [ByteArray.data_extract]; show s.data.extract 0 s.data.size = s.data; exact Array.extract_size
theorem hasForm_ok (s : ByteArray) (hs : s.size ≤ 1048576) : Ev (fun k => impl_hasForm.f k s) (formB s) := by
  simp only [impl_hasForm.f, within_ok, isLetter_ok, Option.bind_some]
  by_cases h : 1 ≤ s.size ∧ s.size ≤ 6
  · obtain ⟨e, _, e1, he, e2, e3⟩ := runFrom_ok s hs 0 (Nat.zero_le _)
    by_cases h0 : smallP (bt s 0)
    · refine Ev.congr (f := fun k => (impl_runFrom.f k s 0).bind fun t => some (t.toList == s.toList)) (fun k => ?_) (Ev.bind (a := s.extract 0 e) he ?_)
      · rw [if_pos (decide_eq_true (by omega)), if_pos (by omega), if_pos (decide_eq_true h0)]
      · have : ((s.extract 0 e).toList == s.toList) = formB s := by
          unfold formB
          rw [Bool.eq_iff_iff, beq_iff_eq, decide_eq_true_eq]
          constructor
          · intro heq
            have hl := congrArg List.length heq
            rw [bal_length, bal_length, extract_size s 0 e e1] at hl
            refine ⟨h, fun j hj => ?_⟩
            by_cases hj0 : j = 0
            · subst hj0; exact .inl h0
            · rcases e2 j (Nat.zero_le _) (by omega) with q | q
              · exact .inl q
              · exact .inr ⟨hj0, q⟩
          · intro hf
            have : e = s.size := by
              rcases Nat.lt_or_ge e s.size with q | q
              · exact absurd (by rcases hf.2 e q with z | ⟨_, z⟩; exact .inl z; exact .inr z) (e3 q)
              · omega
            subst this; rw [extract_all]
        rw [this]; exact Ev.now _
    · refine Ev.congr (f := fun _ => some (formB s)) (fun k => ?_) (Ev.now _)
      have hf : formB s = false := by
        unfold formB; rw [decide_eq_false_iff_not]; intro hf
        rcases hf.2 0 (by omega) with q | ⟨q, _⟩
        · exact h0 q
        · exact q rfl
      rw [if_pos (decide_eq_true (by omega)), if_pos (by omega), if_neg (by simpa using h0), hf]
  · refine Ev.congr (f := fun _ => some (formB s)) (fun k => ?_) (Ev.now _)
    have hf : formB s = false := by unfold formB; rw [decide_eq_false_iff_not]; intro hf; exact h hf.1
    rw [if_neg (by simp; omega), hf]
def nameB (s : ByteArray) : Bool := formB s && !keptB s
theorem l9Name_ok (s : ByteArray) (hs : s.size ≤ 1048576) : Ev (fun k => spec_l9Name.f k s) (nameB s) := by
  simp only [spec_l9Name.f, kept31_ok, Option.bind_some]
  refine Ev.bind (l9Form_ok s hs) ?_
  unfold nameB
  cases formB s with
  | false => exact Ev.congr (f := fun _ => some false) (fun k => by rw [if_neg (by simp)]) (Ev.now _)
  | true =>
    obtain ⟨r, hr, hri⟩ := specKept_ok s
    refine Ev.congr (f := fun k => (spec_l9At.f k (opW23 ++ regW8) s).bind fun t => some (decide (t < 0))) (fun k => by rw [if_pos rfl]) (Ev.bind hr ?_)
    have : decide (r < 0) = (true && !keptB s) := by
      cases hk : keptB s with
      | true => have := hri.2 hk; simp; omega
      | false => have : ¬ 0 ≤ r := (fun h => by rw [hri.1 h] at hk; simp at hk); simp; omega
    rw [this]; exact Ev.now _
theorem toStringS_ok (l : List ByteArray) (h : l.length ≤ 17592186044416) : Ev (fun k => laws_toStringS.f k l) l := by
  refine ⟨l.length + 1, fun k hk => ?_⟩
  simp only [laws_toStringS.f]
  rw [if_pos (by omega), if_pos (by omega)]
  exact copy_loop ByteArray.empty l (by omega) (fun k z i => laws_toStringS.l0 k l z i) (fun _ _ _ => rfl) k _ (by simp) (by omega)
theorem eqStringS_self (l : List ByteArray) (h : l.length ≤ 4611686018427387904) : Ev (fun k => laws_eqStringS.f k l l) true := by
  refine ⟨l.length + 1, fun k hk => ?_⟩
  simp only [laws_eqStringS.f]
  rw [if_pos trivial]
  obtain ⟨b, hb, hbi⟩ := all_loop (fun a b : ByteArray => a.toList = b.toList) ByteArray.empty l l rfl h (fun k i => laws_eqStringS.l0 k l l i) (fun _ _ => rfl) k (by omega)
  rw [hbi.2 (fun _ _ => rfl)] at hb
  exact hb
theorem szStringS_l0 (l : List ByteArray) (hl : l.length ≤ 1048576) (hs : ∀ x ∈ l, x.size ≤ maxLen) : ∀ (d i : Nat) (a : Int), l.length - i = d → i ≤ l.length → 0 ≤ a → a ≤ 1048576 →
    ∃ r, Ev (fun k => laws_szStringS.l0 k l a (i : Int)) r ∧ (r < 0 ∨ (0 ≤ r ∧ r ≤ a ∧ ∀ j, i ≤ j → ∀ hj : j < l.length, l[j].size ≤ 1048576)) := by
  intro d
  induction d with
  | zero =>
    intro i a hd hi h0 h1
    refine ⟨a, Ev.step (f := fun _ => some a) (fun k => ?_) (Ev.now a), .inr ⟨h0, by omega, fun j hj hj' => by omega⟩⟩
    simp only [laws_szStringS.l0]; rw [if_neg (by omega)]
  | succ d ih =>
    intro i a hd hi h0 h1
    have hlt : i < l.length := by omega
    have hx := rdB l i hlt
    have hm : maxLen = 9223372036854775807 := rfl
    have hz := hs _ (List.getElem_mem hlt)
    have w1 : wrap64 (a - (l[i].size : Int)) = a - l[i].size := w64 (by omega) (by omega)
    by_cases c : a - (l[i].size : Int) < 0
    · refine ⟨-1, Ev.step (f := fun _ => some (-1)) (fun k => ?_) (Ev.now _), .inl (by omega)⟩
      simp only [laws_szStringS.l0, hx, w1]; rw [if_pos (by omega), if_pos (by omega), if_pos c]
    · obtain ⟨r, hr, hc⟩ := ih (i + 1) (a - l[i].size) (by omega) (by omega) (by omega) (by omega)
      refine ⟨r, Ev.step (f := fun k => laws_szStringS.l0 k l (a - l[i].size) ((i + 1 : Nat) : Int)) (fun k => ?_) hr, ?_⟩
      · simp only [laws_szStringS.l0, hx, w1]; rw [if_pos (by omega), if_pos (by omega), if_neg c, w64 (x := (i : Int) + 1) (by omega) (by omega)]; rfl
      · rcases hc with hn | ⟨q0, q1, q2⟩
        · exact .inl hn
        · refine .inr ⟨q0, by omega, fun j hj hj' => ?_⟩
          by_cases e : i = j
          · subst e; omega
          · exact q2 j (by omega) hj'
theorem szStringS_ok (l : List ByteArray) (hl : l.length ≤ maxLen) (hs : ∀ x ∈ l, x.size ≤ maxLen) (a : Int) (h0 : 0 ≤ a) (h1 : a ≤ 1048576) :
    ∃ r, Ev (fun k => laws_szStringS.f k l a) r ∧ (r < 0 ∨ (0 ≤ r ∧ r ≤ a ∧ l.length ≤ 1048576 ∧ ∀ x ∈ l, x.size ≤ 1048576)) := by
  have hm : maxLen = 9223372036854775807 := rfl
  have w1 : wrap64 (a - (l.length : Int)) = a - l.length := w64 (by omega) (by omega)
  by_cases c : a - (l.length : Int) < 0
  · refine ⟨-1, Ev.congr (f := fun _ => some (-1)) (fun k => ?_) (Ev.now _), .inl (by omega)⟩
    simp only [laws_szStringS.f, w1]; rw [if_pos c]
  · obtain ⟨r, hr, hc⟩ := szStringS_l0 l (by omega) hs l.length 0 (a - l.length) (by omega) (by omega) (by omega) (by omega)
    refine ⟨r, Ev.congr (f := fun k => laws_szStringS.l0 k l (a - l.length) ((0 : Nat) : Int)) (fun k => ?_) hr, ?_⟩
    · simp only [laws_szStringS.f, w1]; rw [if_neg c]; rfl
    · rcases hc with hn | ⟨q0, q1, q2⟩
      · exact .inl hn
      · refine .inr ⟨q0, by omega, by omega, fun x hx => ?_⟩
        obtain ⟨j, hj, e⟩ := List.getElem_of_mem hx
        rw [← e]; exact q2 j (by omega) hj
theorem etaI (y : S29) : (⟨y.f0, y.f1, y.f2, y.f3⟩ : S29) = y := by cases y; rfl
theorem specCopy_l0 (l : List S29) (hl : l.length ≤ 1048576) (h : ∀ x ∈ l, Ev (fun k => spec_l11Copy.f k x.f0 x.f1 x.f2 x.f3) (x.f0, x.f1, x.f2, x.f3)) (A B a b : Int) (s t : ByteArray) : ∀ (d i : Nat), l.length - i = d → i ≤ l.length →
    Ev (fun k => spec_l11Copy.l0 k (i : Int) A B s l a b t (l.take i)) (a, b, t, l) := by
  intro d
  induction d with
  | zero =>
    intro i hd hi
    refine Ev.step (f := fun _ => some (a, b, t, l)) (fun k => ?_) (Ev.now _)
    simp only [spec_l11Copy.l0]; rw [if_neg (by omega), List.take_of_length_le (by omega)]
  | succ d ih =>
    intro i hd hi
    have hlt : i < l.length := by omega
    have tk : l.take (i + 1) = l.take i ++ [l[i]] := by rw [List.take_add_one, List.getElem?_eq_getElem hlt]; rfl
    refine Ev.step (f := fun k => (spec_l11Copy.f k (rd_T29 l (i : Int)).f0 (rd_T29 l (i : Int)).f1 (rd_T29 l (i : Int)).f2 (rd_T29 l (i : Int)).f3).bind fun bt => if (l.take i).length < 2513169434916 then spec_l11Copy.l0 k ((i + 1 : Nat) : Int) A B s l a b t (l.take i ++ [(⟨bt.1, bt.2.1, bt.2.2.1, bt.2.2.2⟩ : S29)]) else none) (fun k => ?_) (Ev.bind (h _ (rdI_in l i hlt)) ?_)
    · simp only [spec_l11Copy.l0]; rw [if_pos (by omega), if_pos (by omega), w64 (x := (i : Int) + 1) (by omega) (by omega)]; rfl
    · refine Ev.congr (f := fun k => spec_l11Copy.l0 k ((i + 1 : Nat) : Int) A B s l a b t (l.take (i + 1))) (fun k => ?_) (ih (i + 1) (by omega) (by omega))
      rw [if_pos (by rw [List.length_take]; omega), tk, rdI_at l i hlt, etaI]
theorem specCopy_ok (x : S29) (g : Small x) : Ev (fun k => spec_l11Copy.f k x.f0 x.f1 x.f2 x.f3) (x.f0, x.f1, x.f2, x.f3) := by
  induction g with
  | mk x h2 h3 h ih =>
    refine Ev.step (f := fun k => spec_l11Copy.l0 k ((0 : Nat) : Int) x.f0 x.f1 x.f2 x.f3 x.f0 x.f1 x.f2 (x.f3.take 0)) (fun k => by simp only [spec_l11Copy.f]; rfl) ?_
    exact specCopy_l0 x.f3 h3 ih x.f0 x.f1 x.f0 x.f1 x.f2 x.f2 _ 0 rfl (by omega)
theorem implCopy_l0 (l : List S29) (hl : l.length ≤ 1048576) (h : ∀ x ∈ l, Ev (fun k => impl_copyExpr.f k x.f0 x.f1 x.f2 x.f3) (x.f0, x.f1, x.f2, x.f3)) (a b : Int) (t : ByteArray) : ∀ (d i : Nat), l.length - i = d → i ≤ l.length →
    Ev (fun k => impl_copyExpr.l0 k l (l.length : Int) (i : Int) a b t (l.take i)) (a, b, t, l) := by
  intro d
  induction d with
  | zero =>
    intro i hd hi
    refine Ev.step (f := fun _ => some (a, b, t, l)) (fun k => ?_) (Ev.now _)
    simp only [impl_copyExpr.l0]; rw [if_neg (by omega), List.take_of_length_le (by omega)]
  | succ d ih =>
    intro i hd hi
    have hlt : i < l.length := by omega
    have tk : l.take (i + 1) = l.take i ++ [l[i]] := by rw [List.take_add_one, List.getElem?_eq_getElem hlt]; rfl
    refine Ev.step (f := fun k => (impl_copyExpr.f k (rd_T29 l (i : Int)).f0 (rd_T29 l (i : Int)).f1 (rd_T29 l (i : Int)).f2 (rd_T29 l (i : Int)).f3).bind fun bt => if (l.take i).length < 2513169434916 then impl_copyExpr.l0 k l (l.length : Int) ((i + 1 : Nat) : Int) a b t (l.take i ++ [(⟨bt.1, bt.2.1, bt.2.2.1, bt.2.2.2⟩ : S29)]) else none) (fun k => ?_) (Ev.bind (h _ (rdI_in l i hlt)) ?_)
    · simp only [impl_copyExpr.l0]; rw [if_pos (by omega), if_pos (by omega), if_pos (by omega), w64 (x := (i : Int) + 1) (by omega) (by omega)]; rfl
    · refine Ev.congr (f := fun k => impl_copyExpr.l0 k l (l.length : Int) ((i + 1 : Nat) : Int) a b t (l.take (i + 1))) (fun k => ?_) (ih (i + 1) (by omega) (by omega))
      rw [if_pos (by rw [List.length_take]; omega), tk, rdI_at l i hlt, etaI]
theorem implCopy_ok (x : S29) (g : Small x) : Ev (fun k => impl_copyExpr.f k x.f0 x.f1 x.f2 x.f3) (x.f0, x.f1, x.f2, x.f3) := by
  induction g with
  | mk x h2 h3 h ih =>
    refine Ev.step (f := fun k => impl_copyExpr.l0 k x.f3 (x.f3.length : Int) ((0 : Nat) : Int) x.f0 x.f1 x.f2 (x.f3.take 0)) (fun k => by simp only [impl_copyExpr.f]; rfl) ?_
    exact implCopy_l0 x.f3 h3 ih x.f0 x.f1 x.f2 _ 0 rfl (by omega)
theorem isName_ok (s : ByteArray) (hs : s.size ≤ 1048576) : Ev (fun k => impl_isName.f k s) (nameB s) := by
  simp only [impl_isName.f]
  refine Ev.bind (hasForm_ok s hs) ?_
  unfold nameB
  cases formB s with
  | false => exact Ev.congr (f := fun _ => some false) (fun k => by rw [if_neg (by simp)]) (Ev.now _)
  | true => exact Ev.congr (f := fun k => (impl_isKept.f k s).bind fun t => some (!t)) (fun k => by rw [if_pos rfl]) (Ev.bind (isKept_ok s) (Ev.now _))
def hereB (K N : Int) (nb ne : Bool) (n : Nat) : Bool :=
  if K = 1 then decide (0 ≤ N ∧ N ≤ 65535) && !ne && decide (n = 0)
  else if K = 2 ∨ K = 12 then decide (N = 0) && nb && decide (n = 0)
  else if K = 11 then decide (0 ≤ N ∧ N ≤ 9) && !ne && decide (n = 0)
  else if K = 3 then decide (N = 0) && !ne && decide (n = 0)
  else if K = 4 then decide (N = 0) && !ne && decide (n = 1)
  else if 5 ≤ K ∧ K ≤ 10 then decide (N = 0) && !ne && decide (n = 2)
  else false
theorem kcases (K : Int) : K = 1 ∨ K = 2 ∨ K = 3 ∨ K = 4 ∨ K = 5 ∨ K = 6 ∨ K = 7 ∨ K = 8 ∨ K = 9 ∨ K = 10 ∨ K = 11 ∨ K = 12 ∨ (K ≠ 1 ∧ K ≠ 2 ∧ K ≠ 3 ∧ K ≠ 4 ∧ K ≠ 5 ∧ K ≠ 6 ∧ K ≠ 7 ∧ K ≠ 8 ∧ K ≠ 9 ∧ K ≠ 10 ∧ K ≠ 11 ∧ K ≠ 12) := by omega
theorem l10Here_ok (K N : Int) (s : ByteArray) (l : List S29) (hs : s.size ≤ 1048576) : Ev (fun k => spec_l10Here.f k K N s l) (hereB K N (nameB s) (s.toList != []) l.length) := by
  obtain ⟨K1, h1⟩ := l9Name_ok s hs
  refine ⟨K1 + 4, fun k hk => ?_⟩
  obtain ⟨m, rfl⟩ : ∃ m, k = m + 3 := ⟨k - 3, by omega⟩
  simp only [spec_l10Here.f, spec_l10Here.j0, spec_l10Here.j1, spec_l10Here.j2, h1 (m + 1) (by omega), h1 m (by omega), l1In_ok, Option.bind_some]
  generalize nameB s = nb
  generalize (s.toList != []) = ne
  generalize l.length = n
  have e : ∀ q : Nat, ((n : Int) == (q : Int)) = decide (n = q) := fun q => by rw [Bool.eq_iff_iff]; simp; omega
  have e0 := e 0; have e1 := e 1; have e2 := e 2
  simp only [Int.natCast_zero, Int.natCast_one, Int.reduceNatCast] at e0 e1 e2
  simp only [Int.cast_ofNat_Int] at e0 e1 e2
  simp only [e0, e1, e2]
  rcases kcases K with rfl | rfl | rfl | rfl | rfl | rfl | rfl | rfl | rfl | rfl | rfl | rfl | ⟨g1, g2, g3, g4, g5, g6, g7, g8, g9, g10, g11, g12⟩
  all_goals first
    | (cases nb <;> cases ne <;> by_cases hN : N = 0 <;> simp [hereB, hN] <;> done)
    | (cases nb <;> cases ne <;> by_cases hN : 0 ≤ N ∧ N ≤ 65535 <;> simp [hereB, hN] <;> done)
    | (cases nb <;> cases ne <;> by_cases hN : 0 ≤ N ∧ N ≤ 9 <;> simp [hereB, hN] <;> done)
    | (have g : ¬ (5 ≤ K ∧ K ≤ 10) := by omega
       cases nb <;> cases ne <;> by_cases hN : N = 0 <;> simp [hereB, hN, g1, g2, g3, g4, g5, g6, g7, g8, g9, g10, g11, g12, g] <;> done)
def deepPlain (K : Int) (plain : Bool) : Bool := plain && (decide (K = 11) || decide (K = 12))
theorem l10Ok_node (K N : Int) (s : ByteArray) (l : List S29) (hs : s.size ≤ 1048576) (d : Int) (plain r : Bool) (h : hereB K N (nameB s) (s.toList != []) l.length = true → deepPlain K plain = false → d ≤ 6 → Ev (fun k => spec_l10Ok.l0 k d plain 0 K N s l) r) :
    Ev (fun k => spec_l10Ok.f k K N s l d plain) (if (hereB K N (nameB s) (s.toList != []) l.length && !deepPlain K plain && decide (d ≤ 6)) = true then r else false) := by
  have no : Ev (fun k => spec_l10Ok.j0 k d plain true K N s l) false := Ev.step (f := fun _ => some false) (fun k => by simp only [spec_l10Ok.j0]; rw [if_pos trivial]) (Ev.now _)
  by_cases hd : d > 6
  · have e : decide (d ≤ 6) = false := decide_eq_false (by omega)
    rw [e, Bool.and_false, if_neg (by simp)]
    exact Ev.step (fun k => by simp only [spec_l10Ok.f]; rw [if_pos hd]) no
  have e : decide (d ≤ 6) = true := decide_eq_true (by omega)
  rw [e, Bool.and_true]
  refine Ev.step (fun k => by simp only [spec_l10Ok.f]; rw [if_neg hd]) (Ev.bind (l10Here_ok K N s l hs) ?_)
  cases hh : hereB K N (nameB s) (s.toList != []) l.length with
  | false => rw [Bool.false_and, if_neg (by simp)]; exact Ev.congr (fun k => by rw [if_neg (by simp)]) no
  | true =>
    rw [Bool.true_and]
    cases hp : deepPlain K plain with
    | true =>
      rw [if_neg (by simp)]
      have hp' := hp
      unfold deepPlain at hp'
      simp only [Bool.and_eq_true, Bool.or_eq_true, decide_eq_true_eq] at hp'
      refine Ev.congr (f := fun k => spec_l10Ok.j0 k d plain true K N s l) (fun k => ?_) no
      rw [if_pos rfl, if_pos hp'.1]
      rcases hp'.2 with h11 | h12
      · rw [if_pos h11]
      · rw [if_neg (by omega), h12]; rfl
    | false =>
      have yes : Ev (fun k => spec_l10Ok.j0 k d plain false K N s l) r := Ev.step (fun k => by simp only [spec_l10Ok.j0]; rw [if_neg (by simp)]) (h hh hp (by omega))
      rw [Bool.not_false, if_pos rfl]
      refine Ev.congr (f := fun k => spec_l10Ok.j0 k d plain false K N s l) (fun k => ?_) yes
      rw [if_pos rfl]
      unfold deepPlain at hp
      cases plain with
      | false => rw [if_neg (by simp)]
      | true =>
        simp only [Bool.true_and, Bool.or_eq_false_iff, decide_eq_false_iff_not] at hp
        rw [if_pos rfl, if_neg hp.1, beq_eq_false_iff_ne.2 hp.2]
set_option maxHeartbeats 4000000 in
theorem termOk_node (K N : Int) (s : ByteArray) (l : List S29) (hs : s.size ≤ 1048576) (d : Int) (plain r : Bool) (h : hereB K N (nameB s) (s.toList != []) l.length = true → deepPlain K plain = false → 1 ≤ d → Ev (fun k => impl_termOk.l0 k d plain l (l.length : Int) 0) r) :
    Ev (fun k => impl_termOk.f k K N s l d plain) (if (hereB K N (nameB s) (s.toList != []) l.length && !deepPlain K plain && decide (1 ≤ d)) = true then r else false) := by
  obtain ⟨K1, h1⟩ := isName_ok s hs
  obtain ⟨K2, h2⟩ : ∃ K2, ∀ k, K2 ≤ k → hereB K N (nameB s) (s.toList != []) l.length = true → deepPlain K plain = false → 1 ≤ d → impl_termOk.l0 k d plain l (l.length : Int) 0 = some r := by
    by_cases c : hereB K N (nameB s) (s.toList != []) l.length = true ∧ deepPlain K plain = false ∧ 1 ≤ d
    · obtain ⟨K2, h2⟩ := h c.1 c.2.1 c.2.2
      exact ⟨K2, fun k hk _ _ _ => h2 k hk⟩
    · exact ⟨0, fun k _ a b e => absurd ⟨a, b, e⟩ c⟩
  clear h
  have eb : (s.toList == ([] : List UInt8)) = !(s.toList != []) := by cases s.toList <;> rfl
  have J2 : ∀ k, K2 + 3 ≤ k → ∀ (p : Int) (ok : Bool), impl_termOk.j2 k d plain p ok K N s l = (if (ok && decide (1 ≤ d) && decide ((l.length : Int) = p)) = true then impl_termOk.l0 (k - 2) d plain l (l.length : Int) 0 else some false) := by
    intro k hk p ok
    obtain ⟨k, rfl⟩ : ∃ m, k = m + 2 := ⟨k - 2, by omega⟩
    simp only [impl_termOk.j2, impl_termOk.j3, Nat.add_sub_cancel]
    cases ok with
    | false => rw [if_neg (by simp), if_pos trivial, if_neg (by simp)]
    | true =>
      simp only [if_true, Bool.true_and]
      by_cases hd : d < 1
      · simp [hd, show ¬ 1 ≤ d by omega]
      · by_cases hp : (l.length : Int) = p
        · subst hp; simp [hd, show 1 ≤ d by omega]
        · simp [hd, hp]
  refine ⟨K1 + K2 + 8, fun k hk => ?_⟩
  obtain ⟨m, rfl⟩ : ∃ m, k = m + 3 := ⟨k - 3, by omega⟩
  have L0 : (hereB K N (nameB s) (s.toList != []) l.length && !deepPlain K plain && decide (1 ≤ d)) = true → impl_termOk.l0 m d plain l (l.length : Int) 0 = some r := fun h => by
    simp only [Bool.and_eq_true, Bool.not_eq_true', decide_eq_true_eq] at h
    exact h2 m (by omega) h.1.1 h.1.2 h.2
  have L1 : (hereB K N (nameB s) (s.toList != []) l.length && !deepPlain K plain && decide (1 ≤ d)) = true → impl_termOk.l0 (m - 1) d plain l (l.length : Int) 0 = some r := fun h => by
    simp only [Bool.and_eq_true, Bool.not_eq_true', decide_eq_true_eq] at h
    exact h2 (m - 1) (by omega) h.1.1 h.1.2 h.2
  have L2 : (hereB K N (nameB s) (s.toList != []) l.length && !deepPlain K plain && decide (1 ≤ d)) = true → impl_termOk.l0 (m - 2) d plain l (l.length : Int) 0 = some r := fun h => by
    simp only [Bool.and_eq_true, Bool.not_eq_true', decide_eq_true_eq] at h
    exact h2 (m - 2) (by omega) h.1.1 h.1.2 h.2
  have eL0 : m + 2 - 2 = m := by omega
  have eL1 : m + 1 - 2 = m - 1 := by omega
  simp only [impl_termOk.f, impl_termOk.j0, impl_termOk.j1, J2 m (by omega), J2 (m + 1) (by omega), J2 (m + 2) (by omega), h1 (m + 1) (by omega), impl_isWord.f, impl_isTwo.f, within_ok, Option.bind_some, eb, eL0, eL1]
  clear J2 h1 h2 eb eL0 eL1
  generalize impl_termOk.l0 m d plain l (l.length : Int) 0 = A0 at *
  generalize impl_termOk.l0 (m - 1) d plain l (l.length : Int) 0 = A1 at *
  generalize impl_termOk.l0 (m - 2) d plain l (l.length : Int) 0 = A2 at *
  generalize nameB s = nb at *
  generalize (s.toList != []) = ne at *
  generalize l.length = n at *
  clear hk hs
  have e0 : decide ((n : Int) = 0) = decide (n = 0) := by rw [Bool.eq_iff_iff]; simp
  have e1 : decide ((n : Int) = 1) = decide (n = 1) := by rw [Bool.eq_iff_iff]; simp; omega
  have e2 : decide ((n : Int) = 2) = decide (n = 2) := by rw [Bool.eq_iff_iff]; simp; omega
  simp only [e0, e1, e2]
  clear e0 e1 e2
  generalize decide (1 ≤ d) = dd at *
  simp only [hereB, deepPlain] at *
  rcases kcases K with rfl | rfl | rfl | rfl | rfl | rfl | rfl | rfl | rfl | rfl | rfl | rfl | ⟨g1, g2, g3, g4, g5, g6, g7, g8, g9, g10, g11, g12⟩
  · by_cases hN : 0 ≤ N ∧ N ≤ 65535
    · have e := decide_eq_true hN
      simp only [e] at *; clear e hN
      by_cases z0 : n = 0 <;> cases ne <;> cases dd <;> simp_all
    · have e := decide_eq_false hN
      simp only [e] at *; clear e hN
      simp
  · by_cases hN : N = 0 <;> by_cases z0 : n = 0 <;> cases nb <;> cases dd <;> simp_all
  · by_cases hN : N = 0 <;> by_cases z0 : n = 0 <;> cases ne <;> cases dd <;> simp_all
  · by_cases hN : N = 0 <;> by_cases z1 : n = 1 <;> cases ne <;> cases dd <;> simp_all
  · by_cases hN : N = 0 <;> by_cases z2 : n = 2 <;> cases ne <;> cases dd <;> simp_all
  · by_cases hN : N = 0 <;> by_cases z2 : n = 2 <;> cases ne <;> cases dd <;> simp_all
  · by_cases hN : N = 0 <;> by_cases z2 : n = 2 <;> cases ne <;> cases dd <;> simp_all
  · by_cases hN : N = 0 <;> by_cases z2 : n = 2 <;> cases ne <;> cases dd <;> simp_all
  · by_cases hN : N = 0 <;> by_cases z2 : n = 2 <;> cases ne <;> cases dd <;> simp_all
  · by_cases hN : N = 0 <;> by_cases z2 : n = 2 <;> cases ne <;> cases dd <;> simp_all
  · by_cases hN : 0 ≤ N ∧ N ≤ 9
    · have e := decide_eq_true hN
      simp only [e] at *; clear e hN
      by_cases z0 : n = 0 <;> cases ne <;> cases dd <;> cases plain <;> simp_all
    · have e := decide_eq_false hN
      simp only [e] at *; clear e hN
      cases plain <;> simp
  · by_cases hN : N = 0 <;> by_cases z0 : n = 0 <;> cases nb <;> cases dd <;> cases plain <;> simp_all
  · have g : ¬ (5 ≤ K ∧ K ≤ 10) := by omega
    simp [g1, g2, g3, g4, g5, g6, g7, g8, g9, g10, g11, g12, g]
def OkT (x : S29) : Prop := ∀ d : Int, 0 ≤ d → d ≤ 6 → ∀ plain : Bool, ∃ b, Ev (fun k => spec_l10Ok.f k x.f0 x.f1 x.f2 x.f3 (7 - d) plain) b ∧ Ev (fun k => impl_termOk.f k x.f0 x.f1 x.f2 x.f3 d plain) b
theorem okExprS (x : S29) (hx : x.f3.length ≤ 1048576) (h : ∀ z ∈ x.f3, OkT z) (d : Int) (d0 : 1 ≤ d) (d6 : d ≤ 6) (plain : Bool) : ∀ (e i : Nat), x.f3.length - i = e → i ≤ x.f3.length →
    ∃ b, Ev (fun k => spec_l10Ok.l0 k (7 - d) plain (i : Int) x.f0 x.f1 x.f2 x.f3) b ∧ Ev (fun k => impl_termOk.l0 k d plain x.f3 (x.f3.length : Int) (i : Int)) b := by
  intro e
  induction e with
  | zero =>
    intro i he hi
    refine ⟨true, Ev.step (f := fun _ => some true) (fun k => ?_) (Ev.now _), Ev.step (f := fun _ => some true) (fun k => ?_) (Ev.now _)⟩
    · simp only [spec_l10Ok.l0]; rw [if_neg (by omega)]
    · simp only [impl_termOk.l0]; rw [if_neg (by omega)]
  | succ e ih =>
    intro i he hi
    have hlt : i < x.f3.length := by omega
    have w1 : wrap64 ((i : Int) + 1) = ((i + 1 : Nat) : Int) := by rw [w64 (by omega) (by omega)]; rfl
    have w2 : wrap64 (7 - d + 1) = 7 - (d - 1) := by rw [w64 (by omega) (by omega)]; omega
    have w3 : wrap64 (d - 1) = d - 1 := w64 (by omega) (by omega)
    obtain ⟨b, hs, hi'⟩ := h _ (rdI_in x.f3 i hlt) (d - 1) (by omega) (by omega) plain
    obtain ⟨c, cs, ci⟩ := ih (i + 1) (by omega) (by omega)
    refine ⟨if b = true then c else false, ?_, ?_⟩
    · refine Ev.step (f := fun k => (spec_l10Ok.f k (rd_T29 x.f3 (i : Int)).f0 (rd_T29 x.f3 (i : Int)).f1 (rd_T29 x.f3 (i : Int)).f2 (rd_T29 x.f3 (i : Int)).f3 (7 - (d - 1)) plain).bind fun t => if t = true then spec_l10Ok.l0 k (7 - d) plain ((i + 1 : Nat) : Int) x.f0 x.f1 x.f2 x.f3 else some false) (fun k => ?_) (Ev.bind hs ?_)
      · simp only [spec_l10Ok.l0, w1, w2]; rw [if_pos (by omega), if_pos (by omega)]
      · cases b with
        | true => exact Ev.congr (fun k => by rw [if_pos rfl]) cs
        | false => exact Ev.congr (f := fun _ => some false) (fun k => by rw [if_neg (by decide)]) (Ev.now _)
    · refine Ev.step (f := fun k => (impl_termOk.f k (rd_T29 x.f3 (i : Int)).f0 (rd_T29 x.f3 (i : Int)).f1 (rd_T29 x.f3 (i : Int)).f2 (rd_T29 x.f3 (i : Int)).f3 (d - 1) plain).bind fun t => if t = true then impl_termOk.l0 k d plain x.f3 (x.f3.length : Int) ((i + 1 : Nat) : Int) else some false) (fun k => ?_) (Ev.bind hi' ?_)
      · simp only [impl_termOk.l0, w1, w3]; rw [if_pos (by omega), if_pos (by omega), if_pos (by omega)]
      · cases b with
        | true => exact Ev.congr (fun k => by rw [if_pos rfl]) ci
        | false => exact Ev.congr (f := fun _ => some false) (fun k => by rw [if_neg (by decide)]) (Ev.now _)
theorem okExpr_ok (x : S29) (g : Small x) : OkT x := by
  induction g with
  | mk x h2 h3 h ih =>
    intro d d0 d6 plain
    by_cases hd : 1 ≤ d
    · obtain ⟨b, b1, b2⟩ := okExprS x h3 ih d hd d6 plain x.f3.length 0 (by omega) (by omega)
      have e1 := l10Ok_node x.f0 x.f1 x.f2 x.f3 h2 (7 - d) plain b (fun _ _ _ => by simpa using b1)
      have e2 := termOk_node x.f0 x.f1 x.f2 x.f3 h2 d plain b (fun _ _ _ => by simpa using b2)
      rw [decide_eq_true (show 7 - d ≤ 6 by omega)] at e1
      rw [decide_eq_true hd] at e2
      exact ⟨_, e1, e2⟩
    · have e1 := l10Ok_node x.f0 x.f1 x.f2 x.f3 h2 (7 - d) plain false (fun _ _ h => by omega)
      have e2 := termOk_node x.f0 x.f1 x.f2 x.f3 h2 d plain false (fun _ _ h => absurd h hd)
      rw [decide_eq_false (show ¬ 7 - d ≤ 6 by omega)] at e1
      rw [decide_eq_false hd] at e2
      exact ⟨_, e1, e2⟩
def tup (x : S29) : Int × Int × ByteArray × List S29 := (x.f0, x.f1, x.f2, x.f3)
theorem list_choose {α β : Type} {P : α → β → Prop} : ∀ (l : List α), (∀ x ∈ l, ∃ y, P x y) → ∃ r : List β, r.length = l.length ∧ ∀ (j : Nat) (h1 : j < l.length) (h2 : j < r.length), P l[j] r[j]
  | [], _ => ⟨[], rfl, fun j h => absurd h (Nat.not_lt_zero j)⟩
  | x :: l, h => by
    obtain ⟨y, hy⟩ := h x List.mem_cons_self
    obtain ⟨r, hl, hr⟩ := list_choose l (fun z hz => h z (List.mem_cons_of_mem _ hz))
    refine ⟨y :: r, by simp [hl], fun j h1 h2 => ?_⟩
    match j with
    | 0 => exact hy
    | j + 1 => exact hr j (by simpa using h1) (by simpa using h2)
theorem take_succ_at {α : Type} (l : List α) (i : Nat) (h : i < l.length) : l.take (i + 1) = l.take i ++ [l[i]] := by rw [List.take_add_one, List.getElem?_eq_getElem h]; rfl
def FillT (h : S29) (ns : List ByteArray) (vs : List S29) (x : S29) : Prop := ∃ r : S29, Ev (fun k => spec_l11Put.f k x.f0 x.f1 x.f2 x.f3 h.f0 h.f1 h.f2 h.f3 ns vs) (tup r) ∧ Ev (fun k => impl_filled.f k x.f0 x.f1 x.f2 x.f3 h.f0 h.f1 h.f2 h.f3 ns vs) (tup r) ∧ Small r
theorem specFill_l0 (h : S29) (ns : List ByteArray) (vs l rs : List S29) (hl : l.length ≤ 1048576) (he : rs.length = l.length) (H : ∀ (j : Nat) (h1 : j < l.length) (h2 : j < rs.length), Ev (fun k => spec_l11Put.f k l[j].f0 l[j].f1 l[j].f2 l[j].f3 h.f0 h.f1 h.f2 h.f3 ns vs) (tup rs[j])) (A B : Int) (s : ByteArray) (a b : Int) (t : ByteArray) : ∀ (d i : Nat), l.length - i = d → i ≤ l.length →
    Ev (fun k => spec_l11Put.l0 k ns vs (i : Int) A B s l h.f0 h.f1 h.f2 h.f3 a b t (rs.take i)) (a, b, t, rs) := by
  intro d
  induction d with
  | zero =>
    intro i hd hi
    refine Ev.step (f := fun _ => some (a, b, t, rs)) (fun k => ?_) (Ev.now _)
    simp only [spec_l11Put.l0]; rw [if_neg (by omega), List.take_of_length_le (by omega)]
  | succ d ih =>
    intro i hd hi
    have hlt : i < l.length := by omega
    have hlt2 : i < rs.length := by omega
    have tk := take_succ_at rs i hlt2
    refine Ev.step (f := fun k => (spec_l11Put.f k (rd_T29 l (i : Int)).f0 (rd_T29 l (i : Int)).f1 (rd_T29 l (i : Int)).f2 (rd_T29 l (i : Int)).f3 h.f0 h.f1 h.f2 h.f3 ns vs).bind fun bt => if (rs.take i).length < 2513169434916 then spec_l11Put.l0 k ns vs ((i + 1 : Nat) : Int) A B s l h.f0 h.f1 h.f2 h.f3 a b t (rs.take i ++ [(⟨bt.1, bt.2.1, bt.2.2.1, bt.2.2.2⟩ : S29)]) else none) (fun k => ?_) (Ev.bind (by rw [rdI_at l i hlt]; exact H i hlt hlt2) ?_)
    · simp only [spec_l11Put.l0]; rw [if_pos (by omega), if_pos (by omega), w64 (x := (i : Int) + 1) (by omega) (by omega)]; rfl
    · refine Ev.congr (f := fun k => spec_l11Put.l0 k ns vs ((i + 1 : Nat) : Int) A B s l h.f0 h.f1 h.f2 h.f3 a b t (rs.take (i + 1))) (fun k => ?_) (ih (i + 1) (by omega) (by omega))
      rw [if_pos (by rw [List.length_take]; omega), tk]; simp only [tup, etaI]
theorem implFill_l0 (h : S29) (ns : List ByteArray) (vs l rs : List S29) (hl : l.length ≤ 1048576) (he : rs.length = l.length) (H : ∀ (j : Nat) (h1 : j < l.length) (h2 : j < rs.length), Ev (fun k => impl_filled.f k l[j].f0 l[j].f1 l[j].f2 l[j].f3 h.f0 h.f1 h.f2 h.f3 ns vs) (tup rs[j])) (a b : Int) (t : ByteArray) : ∀ (d i : Nat), l.length - i = d → i ≤ l.length →
    Ev (fun k => impl_filled.l0 k ns vs l (l.length : Int) (i : Int) h.f0 h.f1 h.f2 h.f3 a b t (rs.take i)) (a, b, t, rs) := by
  intro d
  induction d with
  | zero =>
    intro i hd hi
    refine Ev.step (f := fun _ => some (a, b, t, rs)) (fun k => ?_) (Ev.now _)
    simp only [impl_filled.l0]; rw [if_neg (by omega), List.take_of_length_le (by omega)]
  | succ d ih =>
    intro i hd hi
    have hlt : i < l.length := by omega
    have hlt2 : i < rs.length := by omega
    have tk := take_succ_at rs i hlt2
    refine Ev.step (f := fun k => (impl_filled.f k (rd_T29 l (i : Int)).f0 (rd_T29 l (i : Int)).f1 (rd_T29 l (i : Int)).f2 (rd_T29 l (i : Int)).f3 h.f0 h.f1 h.f2 h.f3 ns vs).bind fun bt => if (rs.take i).length < 2513169434916 then impl_filled.l0 k ns vs l (l.length : Int) ((i + 1 : Nat) : Int) h.f0 h.f1 h.f2 h.f3 a b t (rs.take i ++ [(⟨bt.1, bt.2.1, bt.2.2.1, bt.2.2.2⟩ : S29)]) else none) (fun k => ?_) (Ev.bind (by rw [rdI_at l i hlt]; exact H i hlt hlt2) ?_)
    · simp only [impl_filled.l0]; rw [if_pos (by omega), if_pos (by omega), if_pos (by omega), w64 (x := (i : Int) + 1) (by omega) (by omega)]; rfl
    · refine Ev.congr (f := fun k => impl_filled.l0 k ns vs l (l.length : Int) ((i + 1 : Nat) : Int) h.f0 h.f1 h.f2 h.f3 a b t (rs.take (i + 1))) (fun k => ?_) (ih (i + 1) (by omega) (by omega))
      rw [if_pos (by rw [List.length_take]; omega), tk]; simp only [tup, etaI]
theorem at_eq (l : List ByteArray) (h2 : l.length ≤ 1048576) (s : ByteArray) : ∃ q : Int, Ev (fun k => spec_l9At.f k l s) q ∧ Ev (fun k => impl_placeIn.f k l s) q ∧ -1 ≤ q ∧ q < l.length := by
  obtain ⟨r, hr, r0, r1, r2, r3⟩ := l9At_ok l h2 s
  obtain ⟨q, hq, q0, q1, q2, q3⟩ := placeIn_ok l h2 s
  have e : q = r := by
    by_cases c : 0 ≤ r
    · have a := q3 r.toNat (by omega) (r2 c (by omega))
      have b := r3 q.toNat (by omega) (q2 a.1 (by omega))
      omega
    · by_cases c2 : 0 ≤ q
      · have b := r3 q.toNat (by omega) (q2 c2 (by omega)); omega
      · omega
  subst e
  exact ⟨q, hr, hq, q0, q1⟩
theorem fill_ok (h : S29) (sh : Small h) (ns : List ByteArray) (vs : List S29) (hn : ns.length ≤ 1048576) (hv : vs.length = ns.length) (sv : ∀ v ∈ vs, Small v) (x : S29) (g : Small x) : FillT h ns vs x := by
  induction g with
  | mk x h2 h3 hs ih =>
    obtain ⟨K, N, s, l⟩ := x
    simp only at h2 h3 hs ih
    obtain ⟨rs, hl, hr⟩ := list_choose l ih
    have J1 : Ev (fun k => spec_l11Put.j0 k ns vs K N s l h.f0 h.f1 h.f2 h.f3) (tup ⟨K, N, s, rs⟩) := Ev.step (f := fun k => spec_l11Put.l0 k ns vs ((0 : Nat) : Int) K N s l h.f0 h.f1 h.f2 h.f3 K N s (rs.take 0)) (fun k => by simp only [spec_l11Put.j0]; rfl) (specFill_l0 h ns vs l rs h3 hl (fun j a b => (hr j a b).1) K N s K N s _ 0 rfl (by omega))
    have J2 : Ev (fun k => impl_filled.j0 k ns vs K N s l h.f0 h.f1 h.f2 h.f3) (tup ⟨K, N, s, rs⟩) := Ev.step (f := fun k => impl_filled.l0 k ns vs l (l.length : Int) ((0 : Nat) : Int) h.f0 h.f1 h.f2 h.f3 K N s (rs.take 0)) (fun k => by simp only [impl_filled.j0]; rfl) (implFill_l0 h ns vs l rs h3 hl (fun j a b => (hr j a b).2.1) K N s _ 0 rfl (by omega))
    have sr : Small (⟨K, N, s, rs⟩ : S29) := Small.mk _ h2 (by show rs.length ≤ 1048576; omega) (fun y hy => by
      obtain ⟨j, hj, e⟩ := List.getElem_of_mem (show y ∈ rs from hy)
      rw [← e]; exact (hr j (by omega) hj).2.2)
    unfold FillT
    simp only
    by_cases c3 : K = 3
    · refine ⟨h, Ev.step (f := fun k => (spec_l11Copy.f k h.f0 h.f1 h.f2 h.f3).bind fun bt => some (bt.1, bt.2.1, bt.2.2.1, bt.2.2.2)) (fun k => by simp only [spec_l11Put.f]; rw [if_pos c3]) (Ev.bind (specCopy_ok h sh) (Ev.now _)), Ev.step (f := fun k => (impl_copyExpr.f k h.f0 h.f1 h.f2 h.f3).bind fun bt => some (bt.1, bt.2.1, bt.2.2.1, bt.2.2.2)) (fun k => by simp only [impl_filled.f]; rw [if_pos c3]) (Ev.bind (implCopy_ok h sh) (Ev.now _)), sh⟩
    by_cases c2 : K = 2
    · obtain ⟨q, e1, e2, q0, q1⟩ := at_eq ns hn s
      by_cases c : 0 ≤ q
      · have hq : q.toNat < vs.length := by omega
        have eq : (q.toNat : Int) = q := by omega
        have rq := rdI_at vs q.toNat hq
        rw [eq] at rq
        have sq := sv _ (List.getElem_mem hq)
        refine ⟨vs[q.toNat], ?_, ?_, sq⟩
        · refine Ev.step (fun k => by simp only [spec_l11Put.f]; rw [if_neg c3, if_pos c2]) (Ev.bind e1 ?_)
          refine Ev.congr (f := fun k => (spec_l11Copy.f k vs[q.toNat].f0 vs[q.toNat].f1 vs[q.toNat].f2 vs[q.toNat].f3).bind fun bt => some (bt.1, bt.2.1, bt.2.2.1, bt.2.2.2)) (fun k => ?_) (Ev.bind (specCopy_ok _ sq) (Ev.now _))
          rw [if_pos (show q ≥ 0 from c), if_pos c, if_pos (by omega), rq]
        · refine Ev.step (fun k => by simp only [impl_filled.f]; rw [if_neg c3, if_pos c2]) (Ev.bind e2 ?_)
          refine Ev.congr (f := fun k => (impl_copyExpr.f k vs[q.toNat].f0 vs[q.toNat].f1 vs[q.toNat].f2 vs[q.toNat].f3).bind fun bt => some (bt.1, bt.2.1, bt.2.2.1, bt.2.2.2)) (fun k => ?_) (Ev.bind (implCopy_ok _ sq) (Ev.now _))
          rw [if_pos (show q ≥ 0 from c), if_pos c, if_pos (by omega), rq]
      · refine ⟨⟨K, N, s, rs⟩, ?_, ?_, sr⟩
        · refine Ev.step (fun k => by simp only [spec_l11Put.f]; rw [if_neg c3, if_pos c2]) (Ev.bind e1 (Ev.congr (fun k => ?_) J1))
          rw [if_neg (show ¬ q ≥ 0 from c)]
        · refine Ev.step (fun k => by simp only [impl_filled.f]; rw [if_neg c3, if_pos c2]) (Ev.bind e2 (Ev.congr (fun k => ?_) J2))
          rw [if_neg (show ¬ q ≥ 0 from c)]
    · exact ⟨⟨K, N, s, rs⟩, Ev.step (fun k => by simp only [spec_l11Put.f]; rw [if_neg c3, if_neg c2]) J1, Ev.step (fun k => by simp only [impl_filled.f]; rw [if_neg c3, if_neg c2]) J2, sr⟩
def zT : S29 := ⟨0, 0, ⟨#[]⟩, []⟩
theorem small_z : Small zT := Small.mk _ (by decide) (by decide) (fun y hy => by cases hy)
theorem ok_both (x : S29) (g : Small x) : ∃ b, Ev (fun k => spec_ExprOk.f k x.f0 x.f1 x.f2 x.f3) b ∧ Ev (fun k => impl_ExprOk.f k x.f0 x.f1 x.f2 x.f3) b := by
  obtain ⟨b, b1, b2⟩ := okExpr_ok x g 6 (by omega) (by omega) false
  exact ⟨b, Ev.bind b1 (Ev.now _), Ev.bind b2 (Ev.now _)⟩
theorem specPut_l0 (e h : S29) (ns : List ByteArray) (vs : List S29) (bs : List Bool) (q : Int × Int × ByteArray × List S29) (hv : vs.length ≤ 1048576) (hl : bs.length = vs.length) (hb : ∀ (j : Nat) (h1 : j < vs.length) (h2 : j < bs.length), Ev (fun k => spec_ExprOk.f k vs[j].f0 vs[j].f1 vs[j].f2 vs[j].f3) bs[j])
    (ht : Ev (fun k => (spec_l11Put.f k e.f0 e.f1 e.f2 e.f3 h.f0 h.f1 h.f2 h.f3 ns vs).bind fun bt => (spec_ExprOk.f k bt.1 bt.2.1 bt.2.2.1 bt.2.2.2).bind fun t => if t = true then some (bt.1, bt.2.1, bt.2.2.1, bt.2.2.2) else some (0, 0, (⟨#[]⟩ : ByteArray), ([] : List S29))) q) : ∀ (d i : Nat), vs.length - i = d → i ≤ vs.length →
    Ev (fun k => spec_Put.l0 k ns vs (i : Int) e.f0 e.f1 e.f2 e.f3 h.f0 h.f1 h.f2 h.f3) (if (bs.drop i).all id = true then q else tup zT) := by
  intro d
  induction d with
  | zero =>
    intro i hd hi
    rw [List.drop_of_length_le (by omega), if_pos (show ([] : List Bool).all id = true from rfl)]
    exact Ev.step (fun k => by simp only [spec_Put.l0]; rw [if_neg (by omega)]) ht
  | succ d ih =>
    intro i hd hi
    have h1 : i < vs.length := by omega
    have h2 : i < bs.length := by omega
    rw [List.drop_eq_getElem_cons h2, List.all_cons]
    refine Ev.step (f := fun k => (spec_ExprOk.f k (rd_T29 vs (i : Int)).f0 (rd_T29 vs (i : Int)).f1 (rd_T29 vs (i : Int)).f2 (rd_T29 vs (i : Int)).f3).bind fun t => if t = true then spec_Put.l0 k ns vs ((i + 1 : Nat) : Int) e.f0 e.f1 e.f2 e.f3 h.f0 h.f1 h.f2 h.f3 else some (0, 0, (⟨#[]⟩ : ByteArray), ([] : List S29))) (fun k => ?_) (Ev.bind (by rw [rdI_at vs i h1]; exact hb i h1 h2) ?_)
    · simp only [spec_Put.l0]; rw [if_pos (by omega), if_pos (by omega), w64 (x := (i : Int) + 1) (by omega) (by omega)]; rfl
    · cases bs[i] with
      | true => exact Ev.congr (fun k => by rw [if_pos rfl]) (ih (i + 1) (by omega) (by omega))
      | false => exact Ev.congr (f := fun _ => some (tup zT)) (fun k => by rw [if_neg (by decide)]; rfl) (Ev.now _)
theorem implPut_l0 (e h : S29) (ns : List ByteArray) (vs : List S29) (bs : List Bool) (q : Int × Int × ByteArray × List S29) (hv : vs.length ≤ 1048576) (hl : bs.length = vs.length) (hb : ∀ (j : Nat) (h1 : j < vs.length) (h2 : j < bs.length), Ev (fun k => impl_ExprOk.f k vs[j].f0 vs[j].f1 vs[j].f2 vs[j].f3) bs[j])
    (ht : Ev (fun k => (impl_ExprOk.f k e.f0 e.f1 e.f2 e.f3).bind fun t319 => (if t319 = true then ((impl_ExprOk.f k h.f0 h.f1 h.f2 h.f3).bind fun t320 => (if t320 = true then (impl_Put.j1 k ns vs ((vs.length : Int) != (ns.length : Int)) e.f0 e.f1 e.f2 e.f3 h.f0 h.f1 h.f2 h.f3) else (impl_Put.j1 k ns vs true e.f0 e.f1 e.f2 e.f3 h.f0 h.f1 h.f2 h.f3))) else (impl_Put.j1 k ns vs true e.f0 e.f1 e.f2 e.f3 h.f0 h.f1 h.f2 h.f3))) q) : ∀ (d i : Nat), vs.length - i = d → i ≤ vs.length →
    Ev (fun k => impl_Put.l0 k ns vs vs (vs.length : Int) (i : Int) e.f0 e.f1 e.f2 e.f3 h.f0 h.f1 h.f2 h.f3) (if (bs.drop i).all id = true then q else tup zT) := by
  intro d
  induction d with
  | zero =>
    intro i hd hi
    rw [List.drop_of_length_le (by omega), if_pos (show ([] : List Bool).all id = true from rfl)]
    exact Ev.step (fun k => by simp only [impl_Put.l0]; rw [if_neg (by omega)]) ht
  | succ d ih =>
    intro i hd hi
    have h1 : i < vs.length := by omega
    have h2 : i < bs.length := by omega
    rw [List.drop_eq_getElem_cons h2, List.all_cons]
    refine Ev.step (f := fun k => (impl_ExprOk.f k (rd_T29 vs (i : Int)).f0 (rd_T29 vs (i : Int)).f1 (rd_T29 vs (i : Int)).f2 (rd_T29 vs (i : Int)).f3).bind fun t => if t = true then impl_Put.l0 k ns vs vs (vs.length : Int) ((i + 1 : Nat) : Int) e.f0 e.f1 e.f2 e.f3 h.f0 h.f1 h.f2 h.f3 else some (0, 0, (⟨#[]⟩ : ByteArray), ([] : List S29))) (fun k => ?_) (Ev.bind (by rw [rdI_at vs i h1]; exact hb i h1 h2) ?_)
    · simp only [impl_Put.l0]; rw [if_pos (by omega), if_pos (by omega), if_pos (by omega), w64 (x := (i : Int) + 1) (by omega) (by omega)]; rfl
    · cases bs[i] with
      | true => exact Ev.congr (fun k => by rw [if_pos rfl]) (ih (i + 1) (by omega) (by omega))
      | false => exact Ev.congr (f := fun _ => some (tup zT)) (fun k => by rw [if_neg (by decide)]; rfl) (Ev.now _)
theorem put_ok (e h : S29) (se : Small e) (sh : Small h) (ns : List ByteArray) (vs : List S29) (hn : ns.length ≤ 1048576) (hv : vs.length ≤ 1048576) (sv : ∀ v ∈ vs, Small v) :
    ∃ p : S29, Ev (fun k => spec_Put.f k e.f0 e.f1 e.f2 e.f3 h.f0 h.f1 h.f2 h.f3 ns vs) (tup p) ∧ Ev (fun k => impl_Put.f k e.f0 e.f1 e.f2 e.f3 h.f0 h.f1 h.f2 h.f3 ns vs) (tup p) ∧ Small p ∧ (p = zT ∨ Ev (fun k => impl_ExprOk.f k p.f0 p.f1 p.f2 p.f3) true) := by
  obtain ⟨a, a1, a2⟩ := ok_both e se
  obtain ⟨b, b1, b2⟩ := ok_both h sh
  obtain ⟨bs, hl, hb⟩ := list_choose vs (fun v hm => ok_both v (sv v hm))
  have sj : Ev (fun k => spec_Put.j0 k ns vs true e.f0 e.f1 e.f2 e.f3 h.f0 h.f1 h.f2 h.f3) (tup zT) := Ev.step (f := fun _ => some (tup zT)) (fun k => by simp only [spec_Put.j0]; rw [if_pos trivial]; rfl) (Ev.now _)
  have ij : Ev (fun k => impl_Put.j1 k ns vs true e.f0 e.f1 e.f2 e.f3 h.f0 h.f1 h.f2 h.f3) (tup zT) := Ev.step (f := fun _ => some (tup zT)) (fun k => by simp only [impl_Put.j1]; rw [if_pos trivial]; rfl) (Ev.now _)
  have start : ∀ q, Ev (fun k => impl_Put.l0 k ns vs vs (vs.length : Int) ((0 : Nat) : Int) e.f0 e.f1 e.f2 e.f3 h.f0 h.f1 h.f2 h.f3) q → Ev (fun k => impl_Put.f k e.f0 e.f1 e.f2 e.f3 h.f0 h.f1 h.f2 h.f3 ns vs) q := fun q hq => Ev.congr (fun k => by simp only [impl_Put.f]; rfl) hq
  have none_ : Ev (fun k => (impl_ExprOk.f k e.f0 e.f1 e.f2 e.f3).bind fun t319 => (if t319 = true then ((impl_ExprOk.f k h.f0 h.f1 h.f2 h.f3).bind fun t320 => (if t320 = true then (impl_Put.j1 k ns vs ((vs.length : Int) != (ns.length : Int)) e.f0 e.f1 e.f2 e.f3 h.f0 h.f1 h.f2 h.f3) else (impl_Put.j1 k ns vs true e.f0 e.f1 e.f2 e.f3 h.f0 h.f1 h.f2 h.f3))) else (impl_Put.j1 k ns vs true e.f0 e.f1 e.f2 e.f3 h.f0 h.f1 h.f2 h.f3))) (tup zT) → ∃ p : S29, Ev (fun k => impl_Put.f k e.f0 e.f1 e.f2 e.f3 h.f0 h.f1 h.f2 h.f3 ns vs) (tup p) ∧ p = zT := fun ht => by
    have := implPut_l0 e h ns vs bs _ hv hl (fun j x y => (hb j x y).2) ht vs.length 0 (by omega) (by omega)
    rw [ite_self] at this
    exact ⟨zT, start _ this, rfl⟩
  have zero : (∃ p : S29, Ev (fun k => impl_Put.f k e.f0 e.f1 e.f2 e.f3 h.f0 h.f1 h.f2 h.f3 ns vs) (tup p) ∧ p = zT) → Ev (fun k => spec_Put.f k e.f0 e.f1 e.f2 e.f3 h.f0 h.f1 h.f2 h.f3 ns vs) (tup zT) → ∃ p : S29, Ev (fun k => spec_Put.f k e.f0 e.f1 e.f2 e.f3 h.f0 h.f1 h.f2 h.f3 ns vs) (tup p) ∧ Ev (fun k => impl_Put.f k e.f0 e.f1 e.f2 e.f3 h.f0 h.f1 h.f2 h.f3 ns vs) (tup p) ∧ Small p ∧ (p = zT ∨ Ev (fun k => impl_ExprOk.f k p.f0 p.f1 p.f2 p.f3) true) := by
    rintro ⟨p, h1, rfl⟩ h2
    exact ⟨zT, h2, h1, small_z, .inl rfl⟩
  cases a with
  | false =>
    exact zero (none_ (Ev.bind a2 (Ev.congr (fun k => by rw [if_neg (by decide)]) ij))) (Ev.bind a1 (Ev.congr (fun k => by rw [if_neg (by decide)]) sj))
  | true =>
    cases b with
    | false =>
      exact zero (none_ (Ev.bind a2 (Ev.congr (fun k => by rw [if_pos rfl]) (Ev.bind b2 (Ev.congr (fun k => by rw [if_neg (by decide)]) ij))))) (Ev.bind a1 (Ev.congr (fun k => by rw [if_pos rfl]) (Ev.bind b1 (Ev.congr (fun k => by rw [if_neg (by decide)]) sj))))
    | true =>
      by_cases c : vs.length = ns.length
      · have c1 : ((ns.length : Int) != (vs.length : Int)) = false := by rw [c]; exact bne_self_eq_false _
        have c2 : ((vs.length : Int) != (ns.length : Int)) = false := by rw [c]; exact bne_self_eq_false _
        obtain ⟨r, r1, r2, sr⟩ := fill_ok h sh ns vs hn c sv e se
        obtain ⟨o, o1, o2⟩ := ok_both r sr
        obtain ⟨p, ep, sp, hp⟩ : ∃ p : S29, (if o = true then tup r else tup zT) = tup p ∧ Small p ∧ (p = zT ∨ Ev (fun k => impl_ExprOk.f k p.f0 p.f1 p.f2 p.f3) true) := by
          cases o with
          | true => exact ⟨r, by rw [if_pos rfl], sr, .inr o2⟩
          | false => exact ⟨zT, by rw [if_neg (by decide)], small_z, .inl rfl⟩
        have ts : Ev (fun k => (spec_l11Put.f k e.f0 e.f1 e.f2 e.f3 h.f0 h.f1 h.f2 h.f3 ns vs).bind fun bt => (spec_ExprOk.f k bt.1 bt.2.1 bt.2.2.1 bt.2.2.2).bind fun t => if t = true then some (bt.1, bt.2.1, bt.2.2.1, bt.2.2.2) else some (0, 0, (⟨#[]⟩ : ByteArray), ([] : List S29))) (tup p) := by
          rw [← ep]
          refine Ev.bind r1 (Ev.bind o1 ?_)
          cases o with
          | true => exact Ev.congr (f := fun _ => some (tup r)) (fun k => by rw [if_pos rfl]) (Ev.now _)
          | false => exact Ev.congr (f := fun _ => some (tup zT)) (fun k => by rw [if_neg (by decide)]; rfl) (Ev.now _)
        have ti : Ev (fun k => impl_Put.j1 k ns vs false e.f0 e.f1 e.f2 e.f3 h.f0 h.f1 h.f2 h.f3) (tup p) := by
          rw [← ep]
          refine Ev.step (fun k => by simp only [impl_Put.j1]; rw [if_neg (by decide)]) (Ev.bind r2 (Ev.bind o2 ?_))
          cases o with
          | true => exact Ev.congr (f := fun _ => some (tup r)) (fun k => by rw [if_pos rfl]) (Ev.now _)
          | false => exact Ev.congr (f := fun _ => some (tup zT)) (fun k => by rw [if_neg (by decide)]; rfl) (Ev.now _)
        have s0 := specPut_l0 e h ns vs bs _ hv hl (fun j x y => (hb j x y).1) ts vs.length 0 (by omega) (by omega)
        have i0 := start _ (implPut_l0 e h ns vs bs _ hv hl (fun j x y => (hb j x y).2) (Ev.bind a2 (Ev.congr (fun k => by rw [if_pos rfl]) (Ev.bind b2 (Ev.congr (fun k => by rw [if_pos rfl, c2]) ti)))) vs.length 0 (by omega) (by omega))
        have s1 : ∀ q, Ev (fun k => spec_Put.l0 k ns vs ((0 : Nat) : Int) e.f0 e.f1 e.f2 e.f3 h.f0 h.f1 h.f2 h.f3) q → Ev (fun k => spec_Put.f k e.f0 e.f1 e.f2 e.f3 h.f0 h.f1 h.f2 h.f3 ns vs) q := fun q hq =>
          Ev.bind a1 (Ev.congr (fun k => by rw [if_pos rfl]) (Ev.bind b1 (Ev.congr (f := fun k => spec_Put.j0 k ns vs false e.f0 e.f1 e.f2 e.f3 h.f0 h.f1 h.f2 h.f3) (fun k => by rw [if_pos rfl, c1]) (Ev.step (fun k => by simp only [spec_Put.j0]; rw [if_neg (by decide)]; rfl) hq))))
        cases hall : (bs.drop 0).all id with
        | true =>
          rw [hall, if_pos rfl] at s0 i0
          exact ⟨p, s1 _ s0, i0, sp, hp⟩
        | false =>
          rw [hall, if_neg (by decide)] at s0 i0
          exact ⟨zT, s1 _ s0, i0, small_z, .inl rfl⟩
      · have c1 : ((ns.length : Int) != (vs.length : Int)) = true := by rw [bne_iff_ne]; omega
        have c2 : ((vs.length : Int) != (ns.length : Int)) = true := by rw [bne_iff_ne]; omega
        exact zero (none_ (Ev.bind a2 (Ev.congr (fun k => by rw [if_pos rfl]) (Ev.bind b2 (Ev.congr (fun k => by rw [if_pos rfl, c2]) ij))))) (Ev.bind a1 (Ev.congr (fun k => by rw [if_pos rfl]) (Ev.bind b1 (Ev.congr (fun k => by rw [if_pos rfl, c1]) sj))))
inductive WellT : S29 → Prop
  | mk (x : S29) (h0 : hereB x.f0 x.f1 (nameB x.f2) (x.f2.toList != []) x.f3.length = true) (h : ∀ y ∈ x.f3, WellT y) : WellT x
theorem okS_parts (x : S29) (hx : x.f3.length ≤ 1048576) (h : ∀ z ∈ x.f3, OkT z) (d : Int) (d0 : 1 ≤ d) (d6 : d ≤ 6) (plain : Bool) : ∀ (e i : Nat), x.f3.length - i = e → i ≤ x.f3.length →
    Ev (fun k => spec_l10Ok.l0 k (7 - d) plain (i : Int) x.f0 x.f1 x.f2 x.f3) true → ∀ j, i ≤ j → ∀ hj : j < x.f3.length, Ev (fun k => spec_l10Ok.f k x.f3[j].f0 x.f3[j].f1 x.f3[j].f2 x.f3[j].f3 (7 - (d - 1)) plain) true := by
  intro e
  induction e with
  | zero => intro i he hi _ j h1 h2; omega
  | succ e ih =>
    intro i he hi ht j h1 h2
    have hlt : i < x.f3.length := by omega
    have w1 : wrap64 ((i : Int) + 1) = ((i + 1 : Nat) : Int) := by rw [w64 (by omega) (by omega)]; rfl
    have w2 : wrap64 (7 - d + 1) = 7 - (d - 1) := by rw [w64 (by omega) (by omega)]; omega
    obtain ⟨b, hs, _⟩ := h _ (rdI_in x.f3 i hlt) (d - 1) (by omega) (by omega) plain
    obtain ⟨c, cs, _⟩ := okExprS x hx h d d0 d6 plain e (i + 1) (by omega) (by omega)
    have hv : Ev (fun k => spec_l10Ok.l0 k (7 - d) plain (i : Int) x.f0 x.f1 x.f2 x.f3) (if b = true then c else false) := by
      refine Ev.step (f := fun k => (spec_l10Ok.f k (rd_T29 x.f3 (i : Int)).f0 (rd_T29 x.f3 (i : Int)).f1 (rd_T29 x.f3 (i : Int)).f2 (rd_T29 x.f3 (i : Int)).f3 (7 - (d - 1)) plain).bind fun t => if t = true then spec_l10Ok.l0 k (7 - d) plain ((i + 1 : Nat) : Int) x.f0 x.f1 x.f2 x.f3 else some false) (fun k => ?_) (Ev.bind hs ?_)
      · simp only [spec_l10Ok.l0, w1, w2]; rw [if_pos (by omega), if_pos (by omega)]
      · cases b with
        | true => exact Ev.congr (fun k => by rw [if_pos rfl]) cs
        | false => exact Ev.congr (f := fun _ => some false) (fun k => by rw [if_neg (by decide)]) (Ev.now _)
    have hb := Ev.one hv ht
    cases b with
    | false => simp at hb
    | true =>
      rw [if_pos rfl] at hb; subst hb
      by_cases g : i = j
      · subst g; rw [rdI_at x.f3 i hlt] at hs; exact hs
      · exact ih (i + 1) (by omega) (by omega) cs j (by omega) h2
def wid : Nat → Nat
  | 0 => 0
  | d + 1 => 2 * (1 + wid d)
theorem nod_row (B : Nat) : ∀ l : List S29, (∀ y ∈ l, ∃ n, NodI y.f3 n ∧ n ≤ B) → ∃ n, NodI l n ∧ n ≤ l.length * (1 + B)
  | [], _ => ⟨0, .nil, by simp⟩
  | x :: l, h => by
    obtain ⟨n, a, b⟩ := h x List.mem_cons_self
    obtain ⟨m, c, e⟩ := nod_row B l (fun y hy => h y (List.mem_cons_of_mem _ hy))
    exact ⟨1 + n + m, .cons x l n m a c, by rw [List.length_cons, Nat.add_mul]; omega⟩
theorem here_two (K N : Int) (nb ne : Bool) (n : Nat) (h : hereB K N nb ne n = true) : n ≤ 2 := by
  unfold hereB at h
  repeat' split at h
  all_goals (first | (simp only [Bool.and_eq_true, decide_eq_true_eq] at h; omega) | (exact absurd h (by decide)))
theorem okExpr_nod (x : S29) (g : Small x) : ∀ d : Nat, d ≤ 6 → ∀ plain : Bool, Ev (fun k => spec_l10Ok.f k x.f0 x.f1 x.f2 x.f3 (7 - (d : Int)) plain) true → ∃ n, NodI x.f3 n ∧ n ≤ wid d := by
  induction g with
  | mk x h2 h3 h ih =>
    intro d d6 plain ht
    have hk : ∀ z ∈ x.f3, OkT z := fun z hz => okExpr_ok z (h z hz)
    match d, d6, ht with
    | 0, _, ht =>
      have e1 := l10Ok_node x.f0 x.f1 x.f2 x.f3 h2 (7 - ((0 : Nat) : Int)) plain false (fun _ _ h => by omega)
      have e2 := Ev.one e1 ht
      simp at e2
    | e + 1, d6, ht =>
      have hd : 1 ≤ ((e + 1 : Nat) : Int) := by omega
      obtain ⟨b, b1, b2⟩ := okExprS x h3 hk ((e + 1 : Nat) : Int) hd (by omega) plain x.f3.length 0 (by omega) (by omega)
      have e1 := l10Ok_node x.f0 x.f1 x.f2 x.f3 h2 (7 - ((e + 1 : Nat) : Int)) plain b (fun _ _ _ => by simpa using b1)
      have e2 := Ev.one e1 ht
      have e3 : (hereB x.f0 x.f1 (nameB x.f2) (x.f2.toList != []) x.f3.length && !deepPlain x.f0 plain && decide (7 - ((e + 1 : Nat) : Int) ≤ 6)) = true := by
        by_cases q : (hereB x.f0 x.f1 (nameB x.f2) (x.f2.toList != []) x.f3.length && !deepPlain x.f0 plain && decide (7 - ((e + 1 : Nat) : Int) ≤ 6)) = true
        · exact q
        · rw [if_neg q] at e2; cases e2
      rw [if_pos e3] at e2; subst e2
      have two : x.f3.length ≤ 2 := here_two x.f0 x.f1 (nameB x.f2) (x.f2.toList != []) x.f3.length (by revert e3; cases hereB x.f0 x.f1 (nameB x.f2) (x.f2.toList != []) x.f3.length <;> simp)
      have ce : (7 : Int) - (((e + 1 : Nat) : Int) - 1) = 7 - (e : Int) := by omega
      obtain ⟨n, hn, hle⟩ := nod_row (wid e) x.f3 (fun y hy => by
        obtain ⟨j, hj, rfl⟩ := List.getElem_of_mem hy
        have := okS_parts x h3 hk ((e + 1 : Nat) : Int) hd (by omega) plain x.f3.length 0 (by omega) (by omega) (by simpa using b1) j (by omega) hj
        rw [ce] at this
        exact ih _ hy e (by omega) plain this)
      exact ⟨n, hn, Nat.le_trans hle (by show _ ≤ 2 * (1 + wid e); exact Nat.mul_le_mul_right _ two)⟩
theorem strOne (x : Int) : (strOfNums [x]).size = 1 := by unfold strOfNums; simp [ByteArray.size]
theorem markText_loop : ∀ (d : Nat) (x : Nat) (t : ByteArray), x < 10 ^ d → d ≤ 19 → t.size + d ≤ 100 → ∃ r, Ev (fun k => laws_markText.l0 k (x : Int) t) r := by
  intro d
  induction d with
  | zero =>
    intro x t hx _ ht
    refine ⟨(⟨#[109]⟩ : ByteArray) ++ t, Ev.step (f := fun _ => some ((⟨#[109]⟩ : ByteArray) ++ t)) (fun k => ?_) (Ev.now _)⟩
    rw [laws_markText.l0.eq_def]; simp only []; rw [if_neg (by simp at hx; omega), if_pos (by omega)]
  | succ d ih =>
    intro x t hx hd ht
    by_cases c : x = 0
    · refine ⟨(⟨#[109]⟩ : ByteArray) ++ t, Ev.step (f := fun _ => some ((⟨#[109]⟩ : ByteArray) ++ t)) (fun k => ?_) (Ev.now _)⟩
      rw [laws_markText.l0.eq_def]; simp only []; rw [if_neg (by omega), if_pos (by omega)]
    · have hp : (10 : Nat) ^ 19 = 10000000000000000000 := by decide
      have hx3 : x / 10 < 10 ^ d := by rw [Nat.pow_succ] at hx; exact Nat.div_lt_of_lt_mul (by rw [Nat.mul_comm]; exact hx)
      obtain ⟨r, hr⟩ := ih (x / 10) (strOfNums [(wrap64 (48 + (Int.tmod (x : Int) 10))) % 256] ++ t) hx3 (by omega) (by rw [ByteArray.size_append, strOne]; omega)
      have e : Int.tdiv (x : Int) 10 = ((x / 10 : Nat) : Int) := by rw [Int.tdiv_eq_ediv_of_nonneg (by omega)]; omega
      by_cases hw : (x : Int) / 10 ≤ 9223372036854775807
      · have w : wrap64 ((x / 10 : Nat) : Int) = ((x / 10 : Nat) : Int) := w64 (by omega) (by omega)
        refine ⟨r, Ev.step (fun k => ?_) hr⟩
        rw [laws_markText.l0.eq_def]; simp only [Option.bind_some, e, w, strOne]; rw [if_pos (by omega), if_pos (by omega)]
      · exfalso
        have h19 : x < 10 ^ 19 := Nat.lt_of_lt_of_le hx (Nat.pow_le_pow_right (by decide) hd)
        omega
theorem markText_ok (m : Int) (h0 : 0 ≤ m) (h1 : m ≤ 9223372036854775807) : ∃ r, Ev (fun k => laws_markText.f k m) r := by
  simp only [laws_markText.f]
  by_cases c : m ≤ 0
  · exact ⟨_, Ev.congr (f := fun _ => some (⟨#[109, 48]⟩ : ByteArray)) (fun k => by rw [if_pos c]) (Ev.now _)⟩
  · obtain ⟨x, rfl⟩ := Int.eq_ofNat_of_zero_le h0
    have hp : (10 : Nat) ^ 19 = 10000000000000000000 := by decide
    obtain ⟨r, hr⟩ := markText_loop 19 x (⟨#[]⟩ : ByteArray) (by omega) (by omega) (by simp [ByteArray.size])
    exact ⟨r, Ev.congr (fun k => by rw [if_neg c]) hr⟩
theorem wtok (m : Int) (h0 : 0 ≤ m) (h1 : m ≤ 1152921504606846976) : wrap64 (m + 1) = m + 1 ∧ wrap64 (m + 1 + 1) = m + 2 ∧ wrap64 (m + 2 + 1) = m + 3 := by
  refine ⟨?_, ?_, ?_⟩ <;> (unfold wrap64; omega)
inductive Mk : Int → List S29 → Int → Prop
  | nil (m : Int) : Mk m [] m
  | cons (m p q : Int) (x : S29) (l : List S29) (h0 : x.f0 = m) (h1 : x.f1 = m + 1) (ht : Ev (fun k => laws_markText.f k (m + 2)) x.f2) (h : Mk (m + 3) x.f3 p) (g : Mk p l q) : Mk m (x :: l) q
theorem NodI.le {l : List S29} {n : Nat} (h : NodI l n) : l.length ≤ n := by
  induction h with
  | nil => exact Nat.le_refl _
  | cons x l n m a b ia ib => simp only [List.length_cons]; omega
theorem Mk.le {m q : Int} {l : List S29} (h : Mk m l q) : m + 3 * (l.length : Int) ≤ q := by
  induction h with
  | nil m => simp
  | cons m p q x l h0 h1 ht a b ia ib => simp only [List.length_cons]; omega
theorem len1 {α : Type} (d : List α) (x : α) : ((d ++ [x]).length : Int) = (d.length : Int) + 1 := by simp
theorem len0 {α : Type} : (([] : List α).length : Int) = 0 := rfl
theorem rd_mid (d : List S29) (x : S29) (l : List S29) : rd_T29 (d ++ x :: l) (d.length : Int) = x := by simp [rd_T29, List.getD_eq_getElem?_getD]
theorem set_mid {α : Type} (d : List α) (x : α) (l : List α) (y : α) : (d ++ x :: l).set d.length y = (d ++ [y]) ++ l := by simp
theorem len1_le {α β : Type} (d : List α) (x : α) (l : List β) {B : Int} (h : (d.length : Int) + ((l.length + 1 : Nat) : Int) ≤ B) : ((d ++ [x]).length : Int) + (l.length : Int) ≤ B := by rw [len1]; omega
theorem lt_mid {α : Type} (d : List α) (x : α) (l : List α) : (d.length : Int) < ((d ++ x :: l).length : Int) := by rw [List.length_append, List.length_cons]; omega
theorem mid_eq {α : Type} (d : List α) (x : α) (l : List α) : d ++ x :: l = (d ++ [x]) ++ l := by simp
theorem mark_f {l r : List S29} {m q : Int} (h : Ev (fun k => laws_markExprS.l0 k ([] ++ l) m (([] : List S29).length : Int)) (q, [] ++ r)) : Ev (fun k => laws_markExprS.f k l m) (q, r) :=
  Ev.step (fun k => by simp only [laws_markExprS.f]; rfl) h
theorem markS_l0 {l : List S29} {n : Nat} (h : NodI l n) : ∀ m : Int, 0 ≤ m → m + 3 * (n : Int) ≤ 1152921504606846976 → ∀ d : List S29, (d.length : Int) + n ≤ 1152921504606846976 →
    ∃ r, Ev (fun k => laws_markExprS.l0 k (d ++ l) m (d.length : Int)) (m + 3 * (n : Int), d ++ r) ∧ r.length = l.length ∧ Mk m r (m + 3 * (n : Int)) := by
  induction h with
  | nil =>
    intro m m0 m1 d hd
    refine ⟨[], Ev.step (f := fun _ => some (m + 3 * ((0 : Nat) : Int), d ++ [])) (fun k => ?_) (Ev.now _), rfl, ?_⟩
    · simp only [laws_markExprS.l0]; rw [if_neg (by simp)]; simp
    · have e : m + 3 * ((0 : Nat) : Int) = m := by omega
      rw [e]; exact .nil m
  | cons x l a b h g ih ig =>
    intro m m0 m1 d hd
    obtain ⟨w1, w2, w3⟩ := wtok m m0 (by omega)
    have w4 : wrap64 ((d.length : Int) + 1) = (d.length : Int) + 1 := w64 (by omega) (by omega)
    obtain ⟨t, ht⟩ := markText_ok (m + 2) (by omega) (by omega)
    obtain ⟨rx, hx, lx, mx⟩ := ih (m + 3) (by omega) (by omega) [] (by rw [len0]; omega)
    obtain ⟨r, hr, lr, mr⟩ := ig (m + 3 + 3 * (a : Int)) (by omega) (by omega) (d ++ [(⟨m, m + 1, t, rx⟩ : S29)]) (by rw [len1]; omega)
    have e : m + 3 * ((1 + a + b : Nat) : Int) = m + 3 + 3 * (a : Int) + 3 * (b : Int) := by omega
    refine ⟨⟨m, m + 1, t, rx⟩ :: r, ?_, by simp [lr], ?_⟩
    · rw [e, mid_eq d (⟨m, m + 1, t, rx⟩ : S29) r]
      refine Ev.step (f := fun k => (laws_markText.f k (m + 2)).bind fun t => (laws_markExprS.f k x.f3 (m + 3)).bind fun bt => laws_markExprS.l0 k ((d ++ [(⟨m, m + 1, t, bt.2⟩ : S29)]) ++ l) bt.1 ((d.length : Int) + 1)) (fun k => ?_) (Ev.bind ht (Ev.bind (mark_f hx) ?_))
      · simp only [laws_markExprS.l0]
        rw [if_pos (lt_mid d _ l), if_pos (show 0 ≤ (d.length : Int) by omega), w1, w2, w3, w4, rd_mid]
        simp only [Int.toNat_natCast, set_mid]
      · have q : ((d ++ [(⟨m, m + 1, t, rx⟩ : S29)]).length : Int) = (d.length : Int) + 1 := by simp
        rw [q] at hr; exact hr
    · rw [e]; exact Mk.cons m _ _ _ r rfl rfl ht mx mr
theorem markExprS_ok {l : List S29} {n : Nat} (h : NodI l n) (m : Int) (m0 : 0 ≤ m) (m1 : m + 3 * (n : Int) ≤ 1152921504606846976) : ∃ r, Ev (fun k => laws_markExprS.f k l m) (m + 3 * (n : Int), r) ∧ r.length = l.length ∧ Mk m r (m + 3 * (n : Int)) := by
  obtain ⟨r, hr, a, b⟩ := markS_l0 h m m0 m1 [] (by rw [len0]; omega)
  exact ⟨r, mark_f hr, a, b⟩
theorem held_f {l : List S29} {m q : Int} (h : Ev (fun k => laws_heldExprS.l0 k ([] ++ l) m (([] : List S29).length : Int)) q) : Ev (fun k => laws_heldExprS.f k l m) q :=
  Ev.step (fun k => by simp only [laws_heldExprS.f]; rfl) h
theorem heldS_l0 {l : List S29} {m q : Int} (h : Mk m l q) : ∀ d : List S29, 0 ≤ m → q ≤ 1152921504606846976 → (d.length : Int) + l.length ≤ 1152921504606846976 → Ev (fun k => laws_heldExprS.l0 k (d ++ l) m (d.length : Int)) q := by
  induction h with
  | nil m =>
    intro d m0 m1 hd
    refine Ev.step (f := fun _ => some m) (fun k => ?_) (Ev.now _)
    simp only [laws_heldExprS.l0]; rw [if_neg (by simp)]
  | cons m p q x l h0 h1 ht h g ih ig =>
    intro d m0 m1 hd
    have g0 : 0 ≤ (d.length : Int) := by omega
    have p1 := g.le
    have p0 := h.le
    rw [List.length_cons] at hd
    obtain ⟨w1, w2, w3⟩ := wtok m m0 (by omega)
    have w4 : wrap64 ((d.length : Int) + 1) = (d.length : Int) + 1 := w64 (by omega) (by omega)
    have tl := ig (d ++ [x]) (by omega) m1 (len1_le d x l hd)
    refine Ev.step (f := fun k => (laws_markText.f k (m + 2)).bind fun t => if x.f2.toList = t.toList then ((laws_heldExprS.f k x.f3 (m + 3)).bind fun t => if t < 0 then some (-1) else laws_heldExprS.l0 k ((d ++ [x]) ++ l) t ((d.length : Int) + 1)) else some (-1)) (fun k => ?_) (Ev.bind ht (Ev.congr (fun k => by rw [if_pos rfl]) (Ev.bind (held_f (ih [] (by omega) (by omega) (by rw [len0]; omega))) (Ev.congr (fun k => ?_) tl))))
    · simp only [laws_heldExprS.l0]
      rw [if_pos (lt_mid d _ l), if_pos g0, rd_mid, w1, w2, w3, w4, if_pos h0, if_pos h1, mid_eq]
    · rw [if_neg (by omega)]; simp
theorem heldExpr_ok {l : List S29} {m q : Int} (h : Mk m l q) (m0 : 0 ≤ m) (m1 : q ≤ 1152921504606846976) (a b : Int) (s : ByteArray) : Ev (fun k => laws_heldExpr.f k a b s l m) q := by
  have p0 := h.le
  simp only [laws_heldExpr.f]
  refine Ev.bind (held_f (heldS_l0 h [] m0 m1 (by rw [len0]; omega))) (Ev.congr (f := fun _ => some q) (fun k => ?_) (Ev.now _))
  rw [if_neg (by omega)]
theorem markStr_l0 (l : List ByteArray) : ∀ (m : Int), 0 ≤ m → m + (l.length : Int) ≤ 1152921504606846976 → ∀ d : List ByteArray, (d.length : Int) + l.length ≤ 1152921504606846976 →
    ∃ r, Ev (fun k => laws_markStringS.l0 k (d ++ l) m (d.length : Int)) (m + (l.length : Int), d ++ r) ∧ r.length = l.length := by
  induction l with
  | nil =>
    intro m m0 m1 d hd
    refine ⟨[], Ev.step (f := fun _ => some (m + (([] : List ByteArray).length : Int), d ++ [])) (fun k => ?_) (Ev.now _), rfl⟩
    simp only [laws_markStringS.l0]; rw [if_neg (by simp)]; simp
  | cons x l ih =>
    intro m m0 m1 d hd
    rw [List.length_cons] at hd m1
    have w1 : wrap64 (m + 1) = m + 1 := w64 (by omega) (by omega)
    have w4 : wrap64 ((d.length : Int) + 1) = (d.length : Int) + 1 := w64 (by omega) (by omega)
    obtain ⟨t, ht⟩ := markText_ok m (by omega) (by omega)
    obtain ⟨r, hr, lr⟩ := ih (m + 1) (by omega) (by omega) (d ++ [t]) (len1_le d t l hd)
    refine ⟨t :: r, ?_, by simp [lr]⟩
    have e : m + ((x :: l).length : Int) = m + 1 + (l.length : Int) := by rw [List.length_cons]; omega
    rw [e, mid_eq d t r]
    refine Ev.step (f := fun k => (laws_markText.f k m).bind fun t => laws_markStringS.l0 k ((d ++ [t]) ++ l) (m + 1) ((d.length : Int) + 1)) (fun k => ?_) (Ev.bind ht ?_)
    · simp only [laws_markStringS.l0]
      have g : 0 ≤ (d.length : Int) := by omega
      rw [if_pos (lt_mid d _ l)]
      simp only [if_pos g, w1, w4, Int.toNat_natCast, set_mid]
    · have q : ((d ++ [t]).length : Int) = (d.length : Int) + 1 := by simp
      rw [q] at hr; exact hr
theorem markStringS_ok (l : List ByteArray) (m : Int) (m0 : 0 ≤ m) (m1 : m + (l.length : Int) ≤ 1152921504606846976) : ∃ r, Ev (fun k => laws_markStringS.f k l m) (m + (l.length : Int), r) ∧ r.length = l.length := by
  obtain ⟨r, hr, a⟩ := markStr_l0 l m m0 m1 [] (by rw [len0]; omega)
  exact ⟨r, hr, a⟩
def Facts (a0 a1 : Int) (a2 : ByteArray) (la : List S24) (b0 b1 : Int) (b2 : ByteArray) (lb : List S24) (ln : List ByteArray) (lw : List S24) : Prop := ∃ k : Nat,
  (∃ r1 : Int, laws_szExpr.f k a0 a1 a2 la 1048576 = some r1 ∧ decide (r1 < 0) = true) ∨
  (∃ r1 r2 : Int, laws_szExpr.f k a0 a1 a2 la 1048576 = some r1 ∧ laws_szExpr.f k b0 b1 b2 lb r1 = some r2 ∧ decide (r1 < 0) = false ∧ decide (r2 < 0) = true) ∨
  (∃ r1 r2 r3 : Int, laws_szExpr.f k a0 a1 a2 la 1048576 = some r1 ∧ laws_szExpr.f k b0 b1 b2 lb r1 = some r2 ∧ laws_szStringS.f k ln r2 = some r3 ∧ decide (r1 < 0) = false ∧ decide (r2 < 0) = false ∧ decide (r3 < 0) = true) ∨
  (∃ r1 r2 r3 r4 : Int, laws_szExpr.f k a0 a1 a2 la 1048576 = some r1 ∧ laws_szExpr.f k b0 b1 b2 lb r1 = some r2 ∧ laws_szStringS.f k ln r2 = some r3 ∧ laws_szExprS.f k lw r3 = some r4 ∧ decide (r1 < 0) = false ∧ decide (r2 < 0) = false ∧ decide (r3 < 0) = false ∧ decide (r4 < 0) = true) ∨
  ∃ (r1 r2 r3 r4 : Int) (e0 e1 : Int) (e2 : ByteArray) (le : List S29) (z0 z1 : Int) (z2 : ByteArray) (lz lv : List S29) (p0 p1 : Int) (p2 : ByteArray) (lp me mz mv mp : List S29) (mn : List ByteArray) (k1 k2 k3 k4 m : Int), laws_szExpr.f k a0 a1 a2 la 1048576 = some r1 ∧ laws_szExpr.f k b0 b1 b2 lb r1 = some r2 ∧ laws_szStringS.f k ln r2 = some r3 ∧ laws_szExprS.f k lw r3 = some r4 ∧ decide (r1 < 0) = false ∧ decide (r2 < 0) = false ∧ decide (r3 < 0) = false ∧ decide (r4 < 0) = false ∧ laws_toExpr.f k a0 a1 a2 la = some (e0, e1, e2, le) ∧ laws_toExpr.f k b0 b1 b2 lb = some (z0, z1, z2, lz) ∧ laws_toStringS.f k ln = some ln ∧ laws_toExprS.f k lw = some lv ∧ spec_Put.f k e0 e1 e2 le z0 z1 z2 lz ln lv = some (p0, p1, p2, lp) ∧ impl_Put.f k e0 e1 e2 le z0 z1 z2 lz ln lv = some (p0, p1, p2, lp) ∧ laws_eqExpr.f k p0 p1 p2 lp p0 p1 p2 lp = some true ∧ laws_eqExpr.f k e0 e1 e2 le e0 e1 e2 le = some true ∧ laws_eqExpr.f k z0 z1 z2 lz z0 z1 z2 lz = some true ∧ laws_eqStringS.f k ln ln = some true ∧ laws_eqExprS.f k lv lv = some true ∧ laws_markExprS.f k le 1 = some (k1, me) ∧ me.length = le.length ∧ laws_markExprS.f k lz k1 = some (k2, mz) ∧ mz.length = lz.length ∧ laws_markStringS.f k ln k2 = some (k3, mn) ∧ mn.length = ln.length ∧ laws_markExprS.f k lv k3 = some (k4, mv) ∧ mv.length = lv.length ∧ laws_markExprS.f k lp 1 = some (m, mp) ∧ mp.length = lp.length ∧ laws_heldExpr.f k p0 p1 p2 mp 1 = some m ∧ decide (k4 < 0) = false ∧ decide (m < 0) = false
def Evp (P : Nat → Prop) : Prop := ∃ K, ∀ k, K ≤ k → P k
theorem Evp.and {P Q : Nat → Prop} (h : Evp P) (g : Evp Q) : Evp (fun k => P k ∧ Q k) := by
  obtain ⟨K, h⟩ := h
  obtain ⟨L, g⟩ := g
  exact ⟨K + L, fun k hk => ⟨h k (by omega), g k (by omega)⟩⟩
theorem Evp.of {α : Type} {f : Nat → Option α} {r : α} (h : Ev f r) : Evp (fun k => f k = some r) := h
theorem Evp.get {P : Nat → Prop} (h : Evp P) : ∃ k, P k := by
  obtain ⟨K, h⟩ := h
  exact ⟨K, h K (Nat.le_refl K)⟩
theorem FnExactPut (x0 x1 : S24) (l2 : List ByteArray) (l3 : List S24) (g0 : GoodT x0) (g1 : GoodT x1) (hm2 : l2.length ≤ maxLen) (hw2 : ∀ x ∈ l2, x.size ≤ maxLen) (hm3 : l3.length ≤ maxLen) (hw3 : ∀ x ∈ l3, GoodT x) : Facts x0.f0 x0.f1 x0.f2 x0.f3 x1.f0 x1.f1 x1.f2 x1.f3 l2 l3 := by
  unfold Facts
  obtain ⟨r1, e1, c1⟩ := szExpr_ok x0 g0 1048576 (by omega) (by omega)
  by_cases n1 : r1 < 0
  · obtain ⟨k, hk⟩ := (Evp.of e1).get
    exact ⟨k, .inl ⟨r1, hk, decide_eq_true n1⟩⟩
  obtain ⟨p1, q1, s1, a, na, ba⟩ := c1.resolve_left n1
  obtain ⟨r2, e2, c2⟩ := szExpr_ok x1 g1 r1 p1 (by omega)
  by_cases n2 : r2 < 0
  · obtain ⟨k, hk⟩ := ((Evp.of e1).and (Evp.of e2)).get
    exact ⟨k, .inr (.inl ⟨r1, r2, hk.1, hk.2, decide_eq_false n1, decide_eq_true n2⟩)⟩
  obtain ⟨p2, q2, s2, b, nb, bb⟩ := c2.resolve_left n2
  obtain ⟨r3, e3, c3⟩ := szStringS_ok l2 hm2 hw2 r2 p2 (by omega)
  by_cases n3 : r3 < 0
  · obtain ⟨k, hk⟩ := (((Evp.of e1).and (Evp.of e2)).and (Evp.of e3)).get
    exact ⟨k, .inr (.inr (.inl ⟨r1, r2, r3, hk.1.1, hk.1.2, hk.2, decide_eq_false n1, decide_eq_false n2, decide_eq_true n3⟩))⟩
  obtain ⟨p3, q3, u3, _⟩ := c3.resolve_left n3
  obtain ⟨r4, e4, c4⟩ := szExprS_ok l3 hm3 hw3 r3 p3 (by omega)
  by_cases n4 : r4 < 0
  · obtain ⟨k, hk⟩ := (((Evp.of e1).and (Evp.of e2)).and ((Evp.of e3).and (Evp.of e4))).get
    exact ⟨k, .inr (.inr (.inr (.inl ⟨r1, r2, r3, r4, hk.1.1, hk.1.2, hk.2.1, hk.2.2, decide_eq_false n1, decide_eq_false n2, decide_eq_false n3, decide_eq_true n4⟩)))⟩
  obtain ⟨p4, q4, u4, s4, c, nc, bc⟩ := c4.resolve_left n4
  obtain ⟨e, t1, se, me⟩ := toExpr_ok x0 s1
  obtain ⟨z, t2, sz, mz⟩ := toExpr_ok x1 s2
  obtain ⟨v, t4, vl, sv, mv⟩ := toExprS_ok l3 u4 s4
  obtain ⟨p, ps, pi, sp, hp⟩ := put_ok e z se sz l2 v u3 (by omega) sv
  obtain ⟨n, nn, bn⟩ : ∃ n, NodI p.f3 n ∧ n ≤ 126 := by
    rcases hp with rfl | hp
    · exact ⟨0, .nil, by omega⟩
    · obtain ⟨o, o1, o2⟩ := ok_both p sp
      have := Ev.one o2 hp
      subst this
      obtain ⟨o, w1, _⟩ := okExpr_ok p sp 6 (by omega) (by omega) false
      have w2 : Ev (fun k => spec_ExprOk.f k p.f0 p.f1 p.f2 p.f3) o := Ev.bind w1 (Ev.now _)
      have := Ev.one w2 o1
      subst this
      exact okExpr_nod p sp 6 (by omega) false w1
  obtain ⟨ye, y1, l1, _⟩ := markExprS_ok (me _ na) 1 (by omega) (by omega)
  obtain ⟨yz, y2, l2', _⟩ := markExprS_ok (mz _ nb) (1 + 3 * (a : Int)) (by omega) (by omega)
  obtain ⟨yn, y3, l3'⟩ := markStringS_ok l2 (1 + 3 * (a : Int) + 3 * (b : Int)) (by omega) (by omega)
  obtain ⟨yv, y4, l4, _⟩ := markExprS_ok (mv _ nc) (1 + 3 * (a : Int) + 3 * (b : Int) + (l2.length : Int)) (by omega) (by omega)
  obtain ⟨yp, y5, l5, mk⟩ := markExprS_ok nn 1 (by omega) (by omega)
  have hh := heldExpr_ok mk (by omega) (by omega) p.f0 p.f1 p.f2
  have A := ((((Evp.of e1).and (Evp.of e2)).and ((Evp.of e3).and (Evp.of e4))).and (((Evp.of t1).and (Evp.of t2)).and ((Evp.of (toStringS_ok l2 (by omega))).and (Evp.of t4))))
  have B := (((Evp.of ps).and (Evp.of pi)).and (((Evp.of (eqExpr_ok p sp)).and (Evp.of (eqExpr_ok e se))).and ((Evp.of (eqExpr_ok z sz)).and ((Evp.of (eqStringS_self l2 (by omega))).and (Evp.of (eqExprS_ok v (by omega) sv))))))
  have C := ((Evp.of y1).and (Evp.of y2)).and (((Evp.of y3).and (Evp.of y4)).and ((Evp.of y5).and (Evp.of hh)))
  obtain ⟨k, ⟨⟨⟨A1, A2⟩, A3, A4⟩, ⟨A5, A6⟩, A7, A8⟩, ⟨⟨B1, B2⟩, ⟨B3, B4⟩, B5, B6, B7⟩, ⟨C1, C2⟩, ⟨C3, C4⟩, C5, C6⟩ := (A.and (B.and C)).get
  exact ⟨k, .inr (.inr (.inr (.inr ⟨r1, r2, r3, r4, e.f0, e.f1, e.f2, e.f3, z.f0, z.f1, z.f2, z.f3, v, p.f0, p.f1, p.f2, p.f3, ye, yz, yv, yp, yn, _, _, _, _, _, A1, A2, A3, A4, decide_eq_false n1, decide_eq_false n2, decide_eq_false n3, decide_eq_false n4, A5, A6, A7, A8, B1, B2, B3, B4, B5, B6, B7, C1, l1, C2, l2', C3, l3', C4, l4, C5, l5, C6, decide_eq_false (by omega), decide_eq_false (by omega)⟩)))⟩

end Go.Proofs.Ytcpnhlhigpgonaa.Pure
