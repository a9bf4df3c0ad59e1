/- Proved: what the plain functions of the law FnExactFold tell at all terms; no further conditions. -/
import Derived.Test.YtcpnhlhigpgonaaPFnExactFoldx1
import Derived.Test.YtcpnhlhigpgonaaPFnExactFoldx2
import Derived.Test.YtcpnhlhigpgonaaPFnExactFoldx3
import Derived.Test.YtcpnhlhigpgonaaPFnExactFoldx4
import Derived.Test.YtcpnhlhigpgonaaPFnExactFoldx5
import Derived.Test.YtcpnhlhigpgonaaPFnExactFoldx6
import Derived.Test.YtcpnhlhigpgonaaPFnExactFoldx7
import Derived.Test.YtcpnhlhigpgonaaPFnExactFoldx8
import Derived.Test.YtcpnhlhigpgonaaPFnExactFoldx9
import Derived.Test.YtcpnhlhigpgonaaPFnExactFoldx10
import Derived.Test.YtcpnhlhigpgonaaPFnExactFoldx11
import Derived.Test.YtcpnhlhigpgonaaPFnExactFoldx12
import Derived.Test.YtcpnhlhigpgonaaPFnExactFoldx13
import Derived.Test.YtcpnhlhigpgonaaPFnExactFoldx14
import Derived.Test.YtcpnhlhigpgonaaPFnExactFoldx15
import Derived.Test.YtcpnhlhigpgonaaPFnExactFoldx16
import Derived.Test.YtcpnhlhigpgonaaVCFnExactFold
namespace Go.Proofs.Ytcpnhlhigpgonaa.Pure
open Go.RowKit Go.Proofs.Ytcpnhlhigpgonaa.PFnExactFold Go.Proofs.YtcpnhlhigpgonaaW.PrintWords Go.Proofs.YtcpnhlhigpgonaaW.PrintLast Go.Proofs.Ytcpnhlhigpgonaa.Common
set_option linter.unusedVariables false
set_option linter.unusedSimpArgs false
theorem Ev.one {α : Type} {g : Nat → Option α} {r q : α} (h : Ev g r) (k : Ev g q) : r = q := by
  obtain ⟨K, h⟩ := h; obtain ⟨L, k⟩ := k
  have a := h (K + L) (by omega); have b := k (K + L) (by omega)
  rw [a] at b; exact Option.some.inj b
inductive Small : S29 → Prop
  | mk (x : S29) (h2 : x.f2.size ≤ 1048576) (h3 : x.f3.length ≤ 1048576) (h : ∀ y ∈ x.f3, Small y) : Small x
theorem rdI_in (l : List S29) (i : Nat) (h : i < l.length) : rd_T29 l (i : Int) ∈ l := by
  have : rd_T29 l (i : Int) = l[i] := by simp [rd_T29, List.getD_eq_getElem?_getD, h]
  rw [this]; exact List.getElem_mem h
theorem rdI_at (l : List S29) (i : Nat) (h : i < l.length) : rd_T29 l (i : Int) = l[i] := by simp [rd_T29, List.getD_eq_getElem?_getD, h]
theorem bal (s : ByteArray) : s.toList = s.data.toList := ByteArray.toList_eq s
theorem bt_b (s : ByteArray) (i : Int) : wrap64 (bt s i) = bt s i := by have := bt_range s i; exact w64 (by omega) (by omega)
theorem l1In_ok (a b c : Int) : spec_l1In.f a b c = some (decide (b ≤ a ∧ a ≤ c)) := by
  unfold spec_l1In.f
  by_cases h : a ≥ b
  · have h' : b ≤ a := h
    rw [if_pos h]; simp [h']
  · have h' : ¬ b ≤ a := h
    rw [if_neg h]; simp [h']
theorem within_ok (a b c : Int) : impl_within.f a b c = some (decide (b ≤ a ∧ a ≤ c)) := by
  unfold impl_within.f
  by_cases h : a ≥ b
  · have h' : b ≤ a := h
    rw [if_pos h]; simp [h']
  · have h' : ¬ b ≤ a := h
    rw [if_neg h]; simp [h']
theorem bal_length (s : ByteArray) : s.toList.length = s.size := by rw [bal, Array.length_toList]; rfl
theorem search_loop (n : Nat) (hn : n ≤ 4611686018427387904) (p : Nat → Prop) [DecidablePred p] (L : Nat → Int → Option Int)
    (hs : ∀ k (i : Nat), i < n → L (k + 1) (i : Int) = if p i then some (i : Int) else L k (wrap64 ((i : Int) + 1))) (he : ∀ k (i : Nat), ¬ i < n → L (k + 1) (i : Int) = some (-1)) :
    ∃ r : Int, Ev (fun k => L k 0) r ∧ -1 ≤ r ∧ r < n ∧ (0 ≤ r → p r.toNat) ∧ (∀ j : Nat, j < n → p j → 0 ≤ r ∧ r ≤ j) := by
  have H : ∀ (d i : Nat), n - i = d → i ≤ n → ∃ r : Int, Ev (fun k => L k (i : Int)) r ∧ -1 ≤ r ∧ r < n ∧ (0 ≤ r → p r.toNat) ∧ (∀ j : Nat, i ≤ j → j < n → p j → 0 ≤ r ∧ r ≤ j) := by
    intro d
    induction d with
    | zero =>
      intro i hd hi
      exact ⟨-1, Ev.step (f := fun _ => some (-1)) (fun k => he k i (by omega)) (Ev.now _), by omega, by omega, fun h => by omega, fun j h1 h2 => by omega⟩
    | succ d ih =>
      intro i hd hi
      by_cases hp : p i
      · exact ⟨i, Ev.step (f := fun _ => some (i : Int)) (fun k => by rw [hs k i (by omega), if_pos hp]) (Ev.now _), by omega, by omega, fun _ => by simpa using hp, fun j h1 h2 _ => by omega⟩
      · obtain ⟨r, hr, r0, r1, r2, r3⟩ := ih (i + 1) (by omega) (by omega)
        refine ⟨r, Ev.step (f := fun k => L k ((i + 1 : Nat) : Int)) (fun k => ?_) hr, r0, r1, r2, fun j h1 h2 h3 => ?_⟩
        · rw [hs k i (by omega), if_neg hp, w64 (by omega) (by omega)]; rfl
        · rcases Nat.eq_or_lt_of_le h1 with e | e
          · subst e; exact absurd h3 hp
          · exact r3 j e h2 h3
  obtain ⟨r, hr, r0, r1, r2, r3⟩ := H n 0 (by omega) (by omega)
  exact ⟨r, by simpa using hr, r0, r1, r2, fun j h1 h2 => r3 j (Nat.zero_le _) h1 h2⟩
theorem rdB (l : List ByteArray) (i : Nat) (h : i < l.length) : rdOf ByteArray.empty l (i : Int) = l[i] := by simp [rdOf, List.getD_eq_getElem?_getD, h]
def amongB (l : List ByteArray) (s : ByteArray) : Bool := l.any fun x => x.toList == s.toList
theorem l9At_ok (l : List ByteArray) (hl : l.length ≤ 1048576) (s : ByteArray) : ∃ r : Int, Ev (fun k => spec_l9At.f k l s) r ∧ -1 ≤ r ∧ r < l.length ∧ (0 ≤ r → ∀ h : r.toNat < l.length, l[r.toNat].toList = s.toList) ∧ (∀ j : Nat, ∀ h : j < l.length, l[j].toList = s.toList → 0 ≤ r ∧ r ≤ j) := by
  obtain ⟨r, hr, r0, r1, r2, r3⟩ := search_loop l.length (by omega) (fun i => ∃ h : i < l.length, l[i].toList = s.toList) (fun k i => spec_l9At.l0 k l s i) (fun k i hi => by
    simp only [spec_l9At.l0]; rw [if_pos (by omega), if_pos (by omega), rdB l i hi]
    by_cases e : l[i].toList = s.toList
    · rw [if_pos e, if_pos ⟨hi, e⟩]
    · rw [if_neg e, if_neg (fun h => e h.2)]) (fun k i hi => by simp only [spec_l9At.l0]; rw [if_neg (by omega)])
  exact ⟨r, hr, r0, r1, fun h _ => (r2 h).2, fun j hj e => r3 j hj ⟨hj, e⟩⟩
theorem placeIn_ok (l : List ByteArray) (hl : l.length ≤ 1048576) (s : ByteArray) : ∃ r : Int, Ev (fun k => impl_placeIn.f k l s) r ∧ -1 ≤ r ∧ r < l.length ∧ (0 ≤ r → ∀ h : r.toNat < l.length, l[r.toNat].toList = s.toList) ∧ (∀ j : Nat, ∀ h : j < l.length, l[j].toList = s.toList → 0 ≤ r ∧ r ≤ j) := by
  obtain ⟨r, hr, r0, r1, r2, r3⟩ := search_loop l.length (by omega) (fun i => ∃ h : i < l.length, l[i].toList = s.toList) (fun k i => impl_placeIn.l0 k s l (l.length : Int) i) (fun k i hi => by
    simp only [impl_placeIn.l0]; rw [if_pos (by omega), if_pos (by omega), if_pos (by omega), rdB l i hi]
    by_cases e : l[i].toList = s.toList
    · rw [if_pos e, if_pos ⟨hi, e⟩]
    · rw [if_neg e, if_neg (fun h => e h.2)]) (fun k i hi => by simp only [impl_placeIn.l0]; rw [if_neg (by omega)])
  exact ⟨r, hr, r0, r1, fun h _ => (r2 h).2, fun j hj e => r3 j hj ⟨hj, e⟩⟩
theorem among_iff (l : List ByteArray) (s : ByteArray) (r : Int) (h0 : -1 ≤ r) (h1 : r < l.length) (h2 : 0 ≤ r → ∀ h : r.toNat < l.length, l[r.toNat].toList = s.toList) (h3 : ∀ j : Nat, ∀ h : j < l.length, l[j].toList = s.toList → 0 ≤ r ∧ r ≤ j) : 0 ≤ r ↔ amongB l s = true := by
  unfold amongB
  rw [List.any_eq_true]
  constructor
  · intro h
    have hlt : r.toNat < l.length := by omega
    exact ⟨_, List.getElem_mem hlt, by rw [h2 h hlt]; exact beq_self_eq_true _⟩
  · rintro ⟨x, hx, e⟩
    obtain ⟨j, hj, rfl⟩ := List.getElem_of_mem hx
    exact (h3 j hj (by simpa using e)).1
def opW23 : List ByteArray := (impl_opWords.f).getD []
def regW8 : List ByteArray := (impl_regWords.f).getD []
theorem opW23_ok : impl_opWords.f = some opW23 := rfl
theorem regW8_ok : impl_regWords.f = some regW8 := rfl
theorem kept31_ok : spec_l9Kept.f = some (opW23 ++ regW8) := rfl
def keptB (s : ByteArray) : Bool := amongB (opW23 ++ regW8) s
theorem keptB_or (s : ByteArray) : keptB s = (amongB opW23 s || amongB regW8 s) := by unfold keptB amongB; rw [List.any_append]
theorem specKept_ok (s : ByteArray) : ∃ r : Int, Ev (fun k => spec_l9At.f k (opW23 ++ regW8) s) r ∧ (0 ≤ r ↔ keptB s = true) := by
  obtain ⟨r, hr, r0, r1, r2, r3⟩ := l9At_ok (opW23 ++ regW8) (by decide) s
  exact ⟨r, hr, among_iff _ _ _ r0 r1 r2 r3⟩
theorem isKept_ok (s : ByteArray) : Ev (fun k => impl_isKept.f k s) (keptB s) := by
  obtain ⟨r, hr, r0, r1, r2, r3⟩ := placeIn_ok opW23 (by decide) s
  obtain ⟨q, hq, q0, q1, q2, q3⟩ := placeIn_ok regW8 (by decide) s
  have e1 := among_iff _ _ _ r0 r1 r2 r3
  have e2 := among_iff _ _ _ q0 q1 q2 q3
  simp only [impl_isKept.f, opW23_ok, regW8_ok, Option.bind_some]
  refine Ev.bind hr ?_
  rw [keptB_or]
  by_cases h : r ≥ 0
  · refine Ev.congr (f := fun _ => some (amongB opW23 s || amongB regW8 s)) (fun k => ?_) (Ev.now _)
    rw [if_pos h, e1.1 h]; rfl
  · refine Ev.congr (f := fun k => (impl_placeIn.f k regW8 s).bind fun t => some (decide (t ≥ 0))) (fun k => by rw [if_neg h]) (Ev.bind hq ?_)
    have h1 : amongB opW23 s = false := by cases h' : amongB opW23 s with | false => rfl | true => exact absurd (e1.2 h') h
    have h2 : decide (q ≥ 0) = amongB regW8 s := by rw [Bool.eq_iff_iff, decide_eq_true_eq]; exact e2
    rw [h1, h2]; exact Ev.now _
def smallP (c : Int) : Prop := 97 ≤ c ∧ c ≤ 122
def digitP (c : Int) : Prop := 48 ≤ c ∧ c ≤ 57
instance (c : Int) : Decidable (smallP c) := by unfold smallP; infer_instance
instance (c : Int) : Decidable (digitP c) := by unfold digitP; infer_instance
theorem l9Small_ok (s : ByteArray) (i : Int) : spec_l9Small.f (bt s i) = some (decide (smallP (bt s i))) := by unfold spec_l9Small.f; rw [bt_b, l1In_ok]; rfl
theorem l9Digit_ok (s : ByteArray) (i : Int) : spec_l9Digit.f (bt s i) = some (decide (digitP (bt s i))) := by unfold spec_l9Digit.f; rw [bt_b, l1In_ok]; rfl
theorem isLetter_ok (s : ByteArray) (i : Int) : impl_isLetter.f (bt s i) = some (decide (smallP (bt s i))) := by unfold impl_isLetter.f; rw [bt_b, within_ok]; rfl
theorem isPart_ok (s : ByteArray) (i : Int) : impl_isPart.f (bt s i) = some (decide (smallP (bt s i) ∨ digitP (bt s i))) := by
  unfold impl_isPart.f
  rw [isLetter_ok]; simp only [Option.bind_some]
  by_cases h : smallP (bt s i)
  · rw [if_pos (decide_eq_true h)]; simp [h]
  · rw [if_neg (by simpa using h), bt_b, within_ok]; simp [h, digitP]
def goodAt (s : ByteArray) (j : Nat) : Prop := smallP (bt s j) ∨ (j ≠ 0 ∧ digitP (bt s j))
instance (s : ByteArray) (j : Nat) : Decidable (goodAt s j) := by unfold goodAt; infer_instance
def formB (s : ByteArray) : Bool := decide ((1 ≤ s.size ∧ s.size ≤ 6) ∧ ∀ j, j < s.size → goodAt s j)
theorem l9Form_ok (s : ByteArray) (hs : s.size ≤ 1048576) : Ev (fun k => spec_l9Form.f k s) (formB s) := by
  have H : ∀ (d i : Nat), s.size - i = d → i ≤ s.size → ∃ b : Bool, Ev (fun k => spec_l9Form.l0 k s (i : Int)) b ∧ (b = true ↔ ((1 ≤ s.size ∧ s.size ≤ 6) ∧ ∀ j, i ≤ j → j < s.size → goodAt s j)) := by
    intro d
    induction d with
    | zero =>
      intro i hd hi
      refine ⟨decide (1 ≤ (s.size : Int) ∧ (s.size : Int) ≤ 6), Ev.step (f := fun _ => some (decide (1 ≤ (s.size : Int) ∧ (s.size : Int) ≤ 6))) (fun k => ?_) (Ev.now _), ?_⟩
      · simp only [spec_l9Form.l0]; rw [if_neg (by omega), l1In_ok]; rfl
      · rw [decide_eq_true_eq]; constructor
        · intro h; exact ⟨by omega, fun j h1 h2 => by omega⟩
        · intro h; have := h.1; omega
    | succ d ih =>
      intro i hd hi
      have hlt : i < s.size := by omega
      obtain ⟨b, hb, hbi⟩ := ih (i + 1) (by omega) (by omega)
      have nxt : ∀ k, spec_l9Form.l0 k s (wrap64 ((i : Int) + 1)) = spec_l9Form.l0 k s ((i + 1 : Nat) : Int) := fun k => by rw [w64 (by omega) (by omega)]; rfl
      by_cases hg : goodAt s i
      · refine ⟨b, Ev.step (f := fun k => spec_l9Form.l0 k s ((i + 1 : Nat) : Int)) (fun k => ?_) hb, ?_⟩
        · simp only [spec_l9Form.l0, l9Small_ok, l9Digit_ok, Option.bind_some, nxt]
          rw [if_pos (by omega), if_pos (by omega)]
          rcases hg with h | ⟨h1, h2⟩
          · rw [if_pos (decide_eq_true h)]
          · by_cases h : smallP (bt s i)
            · rw [if_pos (decide_eq_true h)]
            · rw [if_neg (by simpa using h), if_neg (by omega), if_pos (decide_eq_true h2)]
        · rw [hbi]; constructor
          · intro h; refine ⟨h.1, fun j h1 h2 => ?_⟩
            rcases Nat.eq_or_lt_of_le h1 with e | e
            · subst e; exact hg
            · exact h.2 j e h2
          · intro h; exact ⟨h.1, fun j h1 h2 => h.2 j (by omega) h2⟩
      · refine ⟨false, Ev.step (f := fun _ => some false) (fun k => ?_) (Ev.now _), ?_⟩
        · simp only [spec_l9Form.l0, l9Small_ok, l9Digit_ok, Option.bind_some]
          rw [if_pos (by omega), if_pos (by omega)]
          have h1 : ¬ smallP (bt s i) := fun h => hg (.inl h)
          rw [if_neg (by simpa using h1)]
          by_cases h0 : i = 0
          · rw [if_pos (by omega)]
          · have h2 : ¬ digitP (bt s i) := fun h => hg (.inr ⟨h0, h⟩)
            rw [if_neg (by omega), if_neg (by simpa using h2)]
        · simp only [Bool.false_eq_true, false_iff]; intro h; exact hg (h.2 i (Nat.le_refl _) hlt)
  obtain ⟨b, hb, hbi⟩ := H s.size 0 (by omega) (by omega)
  have e : b = formB s := by
    unfold formB
    rw [Bool.eq_iff_iff, hbi, decide_eq_true_eq]
    exact ⟨fun h => ⟨h.1, fun j hj => h.2 j (Nat.zero_le _) hj⟩, fun h => ⟨h.1, fun j _ hj => h.2 j hj⟩⟩
  rw [← e]; unfold spec_l9Form.f; exact hb
theorem runFrom_ok (s : ByteArray) (hs : s.size ≤ 1048576) (a : Nat) (ha : a ≤ s.size) : ∃ e : Nat, a ≤ e ∧ e ≤ s.size ∧ Ev (fun k => impl_runFrom.f k s (a : Int)) (s.extract a e) ∧ (∀ j, a ≤ j → j < e → smallP (bt s j) ∨ digitP (bt s j)) ∧ (e < s.size → ¬ (smallP (bt s e) ∨ digitP (bt s e))) := by
  have H : ∀ (d i : Nat), s.size - i = d → a ≤ i → i ≤ s.size → ∃ e : Nat, i ≤ e ∧ e ≤ s.size ∧ Ev (fun k => impl_runFrom.l0 k s (a : Int) (i : Int)) (s.extract a e) ∧ (∀ j, i ≤ j → j < e → smallP (bt s j) ∨ digitP (bt s j)) ∧ (e < s.size → ¬ (smallP (bt s e) ∨ digitP (bt s e))) := by
    intro d
    induction d with
    | zero =>
      intro i hd h0 hi
      refine ⟨i, Nat.le_refl _, hi, Ev.step (f := fun _ => some (s.extract a i)) (fun k => ?_) (Ev.now _), fun j h1 h2 => by omega, fun h => by omega⟩
      simp only [impl_runFrom.l0]; rw [if_neg (by omega), if_pos (by omega), if_pos (by omega), if_pos (by omega)]; rfl
    | succ d ih =>
      intro i hd h0 hi
      have hlt : i < s.size := by omega
      by_cases hp : smallP (bt s i) ∨ digitP (bt s i)
      · obtain ⟨e, e0, e1, he, e2, e3⟩ := ih (i + 1) (by omega) (by omega) (by omega)
        refine ⟨e, by omega, e1, Ev.step (f := fun k => impl_runFrom.l0 k s (a : Int) ((i + 1 : Nat) : Int)) (fun k => ?_) he, fun j h1 h2 => ?_, e3⟩
        · simp only [impl_runFrom.l0, isPart_ok, Option.bind_some]
          rw [if_pos (by omega), if_pos (by omega), if_pos (decide_eq_true hp), w64 (by omega) (by omega)]; rfl
        · rcases Nat.eq_or_lt_of_le h1 with e | e
          · subst e; exact hp
          · exact e2 j e h2
      · refine ⟨i, Nat.le_refl _, hi, Ev.step (f := fun _ => some (s.extract a i)) (fun k => ?_) (Ev.now _), fun j h1 h2 => by omega, fun _ => hp⟩
        simp only [impl_runFrom.l0, isPart_ok, Option.bind_some]
        rw [if_pos (by omega), if_pos (by omega), if_neg (by simpa using hp), if_pos (by omega), if_pos (by omega), if_pos (by omega)]; rfl
  obtain ⟨e, e0, e1, he, e2, e3⟩ := H (s.size - a) a rfl (Nat.le_refl _) ha
  exact ⟨e, e0, e1, by unfold impl_runFrom.f; exact he, e2, e3⟩
theorem extract_size (s : ByteArray) (a e : Nat) (h : e ≤ s.size) : (s.extract a e).size = e - a := by
  rw [ByteArray.size_extract]; omega
theorem extract_all (s : ByteArray) : s.extract 0 s.size = s := by
  apply ByteArray.ext; rw [ByteArray.data_extract]; show s.data.extract 0 s.data.size = s.data; exact Array.extract_size
theorem hasForm_ok (s : ByteArray) (hs : s.size ≤ 1048576) : Ev (fun k => impl_hasForm.f k s) (formB s) := by
  simp only [impl_hasForm.f, within_ok, isLetter_ok, Option.bind_some]
  by_cases h : 1 ≤ s.size ∧ s.size ≤ 6
  · obtain ⟨e, _, e1, he, e2, e3⟩ := runFrom_ok s hs 0 (Nat.zero_le _)
    by_cases h0 : smallP (bt s 0)
    · refine Ev.congr (f := fun k => (impl_runFrom.f k s 0).bind fun t => some (t.toList == s.toList)) (fun k => ?_) (Ev.bind (a := s.extract 0 e) he ?_)
      · rw [if_pos (decide_eq_true (by omega)), if_pos (by omega), if_pos (decide_eq_true h0)]
      · have : ((s.extract 0 e).toList == s.toList) = formB s := by
          unfold formB
          rw [Bool.eq_iff_iff, beq_iff_eq, decide_eq_true_eq]
          constructor
          · intro heq
            have hl := congrArg List.length heq
            rw [bal_length, bal_length, extract_size s 0 e e1] at hl
            refine ⟨h, fun j hj => ?_⟩
            by_cases hj0 : j = 0
            · subst hj0; exact .inl h0
            · rcases e2 j (Nat.zero_le _) (by omega) with q | q
              · exact .inl q
              · exact .inr ⟨hj0, q⟩
          · intro hf
            have : e = s.size := by
              rcases Nat.lt_or_ge e s.size with q | q
              · exact absurd (by rcases hf.2 e q with z | ⟨_, z⟩; exact .inl z; exact .inr z) (e3 q)
              · omega
            subst this; rw [extract_all]
        rw [this]; exact Ev.now _
    · refine Ev.congr (f := fun _ => some (formB s)) (fun k => ?_) (Ev.now _)
      have hf : formB s = false := by
        unfold formB; rw [decide_eq_false_iff_not]; intro hf
        rcases hf.2 0 (by omega) with q | ⟨q, _⟩
        · exact h0 q
        · exact q rfl
      rw [if_pos (decide_eq_true (by omega)), if_pos (by omega), if_neg (by simpa using h0), hf]
  · refine Ev.congr (f := fun _ => some (formB s)) (fun k => ?_) (Ev.now _)
    have hf : formB s = false := by unfold formB; rw [decide_eq_false_iff_not]; intro hf; exact h hf.1
    rw [if_neg (by simp; omega), hf]
def nameB (s : ByteArray) : Bool := formB s && !keptB s
theorem l9Name_ok (s : ByteArray) (hs : s.size ≤ 1048576) : Ev (fun k => spec_l9Name.f k s) (nameB s) := by
  simp only [spec_l9Name.f, kept31_ok, Option.bind_some]
  refine Ev.bind (l9Form_ok s hs) ?_
  unfold nameB
  cases formB s with
  | false => exact Ev.congr (f := fun _ => some false) (fun k => by rw [if_neg (by simp)]) (Ev.now _)
  | true =>
    obtain ⟨r, hr, hri⟩ := specKept_ok s
    refine Ev.congr (f := fun k => (spec_l9At.f k (opW23 ++ regW8) s).bind fun t => some (decide (t < 0))) (fun k => by rw [if_pos rfl]) (Ev.bind hr ?_)
    have : decide (r < 0) = (true && !keptB s) := by
      cases hk : keptB s with
      | true => have := hri.2 hk; simp; omega
      | false => have : ¬ 0 ≤ r := (fun h => by rw [hri.1 h] at hk; simp at hk); simp; omega
    rw [this]; exact Ev.now _
theorem isName_ok (s : ByteArray) (hs : s.size ≤ 1048576) : Ev (fun k => impl_isName.f k s) (nameB s) := by
  simp only [impl_isName.f]
  refine Ev.bind (hasForm_ok s hs) ?_
  unfold nameB
  cases formB s with
  | false => exact Ev.congr (f := fun _ => some false) (fun k => by rw [if_neg (by simp)]) (Ev.now _)
  | true => exact Ev.congr (f := fun k => (impl_isKept.f k s).bind fun t => some (!t)) (fun k => by rw [if_pos rfl]) (Ev.bind (isKept_ok s) (Ev.now _))
def hereB (K N : Int) (nb ne : Bool) (n : Nat) : Bool :=
  if K = 1 then decide (0 ≤ N ∧ N ≤ 65535) && !ne && decide (n = 0)
  else if K = 2 ∨ K = 12 then decide (N = 0) && nb && decide (n = 0)
  else if K = 11 then decide (0 ≤ N ∧ N ≤ 9) && !ne && decide (n = 0)
  else if K = 3 then decide (N = 0) && !ne && decide (n = 0)
  else if K = 4 then decide (N = 0) && !ne && decide (n = 1)
  else if 5 ≤ K ∧ K ≤ 10 then decide (N = 0) && !ne && decide (n = 2)
  else false
theorem kcases (K : Int) : K = 1 ∨ K = 2 ∨ K = 3 ∨ K = 4 ∨ K = 5 ∨ K = 6 ∨ K = 7 ∨ K = 8 ∨ K = 9 ∨ K = 10 ∨ K = 11 ∨ K = 12 ∨ (K ≠ 1 ∧ K ≠ 2 ∧ K ≠ 3 ∧ K ≠ 4 ∧ K ≠ 5 ∧ K ≠ 6 ∧ K ≠ 7 ∧ K ≠ 8 ∧ K ≠ 9 ∧ K ≠ 10 ∧ K ≠ 11 ∧ K ≠ 12) := by omega
theorem l10Here_ok (K N : Int) (s : ByteArray) (l : List S29) (hs : s.size ≤ 1048576) : Ev (fun k => spec_l10Here.f k K N s l) (hereB K N (nameB s) (s.toList != []) l.length) := by
  obtain ⟨K1, h1⟩ := l9Name_ok s hs
  refine ⟨K1 + 4, fun k hk => ?_⟩
  obtain ⟨m, rfl⟩ : ∃ m, k = m + 3 := ⟨k - 3, by omega⟩
  simp only [spec_l10Here.f, spec_l10Here.j0, spec_l10Here.j1, spec_l10Here.j2, h1 (m + 1) (by omega), h1 m (by omega), l1In_ok, Option.bind_some]
  generalize nameB s = nb
  generalize (s.toList != []) = ne
  generalize l.length = n
  have e : ∀ q : Nat, ((n : Int) == (q : Int)) = decide (n = q) := fun q => by rw [Bool.eq_iff_iff]; simp; omega
  have e0 := e 0; have e1 := e 1; have e2 := e 2
  simp only [Int.natCast_zero, Int.natCast_one, Int.reduceNatCast] at e0 e1 e2
  simp only [Int.cast_ofNat_Int] at e0 e1 e2
  simp only [e0, e1, e2]
  rcases kcases K with rfl | rfl | rfl | rfl | rfl | rfl | rfl | rfl | rfl | rfl | rfl | rfl | ⟨g1, g2, g3, g4, g5, g6, g7, g8, g9, g10, g11, g12⟩
  all_goals first
    | (cases nb <;> cases ne <;> by_cases hN : N = 0 <;> simp [hereB, hN] <;> done)
    | (cases nb <;> cases ne <;> by_cases hN : 0 ≤ N ∧ N ≤ 65535 <;> simp [hereB, hN] <;> done)
    | (cases nb <;> cases ne <;> by_cases hN : 0 ≤ N ∧ N ≤ 9 <;> simp [hereB, hN] <;> done)
    | (have g : ¬ (5 ≤ K ∧ K ≤ 10) := by omega
       cases nb <;> cases ne <;> by_cases hN : N = 0 <;> simp [hereB, hN, g1, g2, g3, g4, g5, g6, g7, g8, g9, g10, g11, g12, g] <;> done)
def deepPlain (K : Int) (plain : Bool) : Bool := plain && (decide (K = 11) || decide (K = 12))
theorem l10Ok_node (K N : Int) (s : ByteArray) (l : List S29) (hs : s.size ≤ 1048576) (d : Int) (plain r : Bool) (h : hereB K N (nameB s) (s.toList != []) l.length = true → deepPlain K plain = false → d ≤ 6 → Ev (fun k => spec_l10Ok.l0 k d plain 0 K N s l) r) :
    Ev (fun k => spec_l10Ok.f k K N s l d plain) (if (hereB K N (nameB s) (s.toList != []) l.length && !deepPlain K plain && decide (d ≤ 6)) = true then r else false) := by
  have no : Ev (fun k => spec_l10Ok.j0 k d plain true K N s l) false := Ev.step (f := fun _ => some false) (fun k => by simp only [spec_l10Ok.j0]; rw [if_pos trivial]) (Ev.now _)
  by_cases hd : d > 6
  · have e : decide (d ≤ 6) = false := decide_eq_false (by omega)
    rw [e, Bool.and_false, if_neg (by simp)]
    exact Ev.step (fun k => by simp only [spec_l10Ok.f]; rw [if_pos hd]) no
  have e : decide (d ≤ 6) = true := decide_eq_true (by omega)
  rw [e, Bool.and_true]
  refine Ev.step (fun k => by simp only [spec_l10Ok.f]; rw [if_neg hd]) (Ev.bind (l10Here_ok K N s l hs) ?_)
  cases hh : hereB K N (nameB s) (s.toList != []) l.length with
  | false => rw [Bool.false_and, if_neg (by simp)]; exact Ev.congr (fun k => by rw [if_neg (by simp)]) no
  | true =>
    rw [Bool.true_and]
    cases hp : deepPlain K plain with
    | true =>
      rw [if_neg (by simp)]
      have hp' := hp
      unfold deepPlain at hp'
      simp only [Bool.and_eq_true, Bool.or_eq_true, decide_eq_true_eq] at hp'
      refine Ev.congr (f := fun k => spec_l10Ok.j0 k d plain true K N s l) (fun k => ?_) no
      rw [if_pos rfl, if_pos hp'.1]
      rcases hp'.2 with h11 | h12
      · rw [if_pos h11]
      · rw [if_neg (by omega), h12]; rfl
    | false =>
      have yes : Ev (fun k => spec_l10Ok.j0 k d plain false K N s l) r := Ev.step (fun k => by simp only [spec_l10Ok.j0]; rw [if_neg (by simp)]) (h hh hp (by omega))
      rw [Bool.not_false, if_pos rfl]
      refine Ev.congr (f := fun k => spec_l10Ok.j0 k d plain false K N s l) (fun k => ?_) yes
      rw [if_pos rfl]
      unfold deepPlain at hp
      cases plain with
      | false => rw [if_neg (by simp)]
      | true =>
        simp only [Bool.true_and, Bool.or_eq_false_iff, decide_eq_false_iff_not] at hp
        rw [if_pos rfl, if_neg hp.1, beq_eq_false_iff_ne.2 hp.2]
set_option maxHeartbeats 4000000 in
theorem termOk_node (K N : Int) (s : ByteArray) (l : List S29) (hs : s.size ≤ 1048576) (d : Int) (plain r : Bool) (h : hereB K N (nameB s) (s.toList != []) l.length = true → deepPlain K plain = false → 1 ≤ d → Ev (fun k => impl_termOk.l0 k d plain l (l.length : Int) 0) r) :
    Ev (fun k => impl_termOk.f k K N s l d plain) (if (hereB K N (nameB s) (s.toList != []) l.length && !deepPlain K plain && decide (1 ≤ d)) = true then r else false) := by
  obtain ⟨K1, h1⟩ := isName_ok s hs
  obtain ⟨K2, h2⟩ : ∃ K2, ∀ k, K2 ≤ k → hereB K N (nameB s) (s.toList != []) l.length = true → deepPlain K plain = false → 1 ≤ d → impl_termOk.l0 k d plain l (l.length : Int) 0 = some r := by
    by_cases c : hereB K N (nameB s) (s.toList != []) l.length = true ∧ deepPlain K plain = false ∧ 1 ≤ d
    · obtain ⟨K2, h2⟩ := h c.1 c.2.1 c.2.2
      exact ⟨K2, fun k hk _ _ _ => h2 k hk⟩
    · exact ⟨0, fun k _ a b e => absurd ⟨a, b, e⟩ c⟩
  clear h
  have eb : (s.toList == ([] : List UInt8)) = !(s.toList != []) := by cases s.toList <;> rfl
  have J2 : ∀ k, K2 + 3 ≤ k → ∀ (p : Int) (ok : Bool), impl_termOk.j2 k d plain p ok K N s l = (if (ok && decide (1 ≤ d) && decide ((l.length : Int) = p)) = true then impl_termOk.l0 (k - 2) d plain l (l.length : Int) 0 else some false) := by
    intro k hk p ok
    obtain ⟨k, rfl⟩ : ∃ m, k = m + 2 := ⟨k - 2, by omega⟩
    simp only [impl_termOk.j2, impl_termOk.j3, Nat.add_sub_cancel]
    cases ok with
    | false => rw [if_neg (by simp), if_pos trivial, if_neg (by simp)]
    | true =>
      simp only [if_true, Bool.true_and]
      by_cases hd : d < 1
      · simp [hd, show ¬ 1 ≤ d by omega]
      · by_cases hp : (l.length : Int) = p
        · subst hp; simp [hd, show 1 ≤ d by omega]
        · simp [hd, hp]
  refine ⟨K1 + K2 + 8, fun k hk => ?_⟩
  obtain ⟨m, rfl⟩ : ∃ m, k = m + 3 := ⟨k - 3, by omega⟩
  have L0 : (hereB K N (nameB s) (s.toList != []) l.length && !deepPlain K plain && decide (1 ≤ d)) = true → impl_termOk.l0 m d plain l (l.length : Int) 0 = some r := fun h => by
    simp only [Bool.and_eq_true, Bool.not_eq_true', decide_eq_true_eq] at h
    exact h2 m (by omega) h.1.1 h.1.2 h.2
  have L1 : (hereB K N (nameB s) (s.toList != []) l.length && !deepPlain K plain && decide (1 ≤ d)) = true → impl_termOk.l0 (m - 1) d plain l (l.length : Int) 0 = some r := fun h => by
    simp only [Bool.and_eq_true, Bool.not_eq_true', decide_eq_true_eq] at h
    exact h2 (m - 1) (by omega) h.1.1 h.1.2 h.2
  have L2 : (hereB K N (nameB s) (s.toList != []) l.length && !deepPlain K plain && decide (1 ≤ d)) = true → impl_termOk.l0 (m - 2) d plain l (l.length : Int) 0 = some r := fun h => by
    simp only [Bool.and_eq_true, Bool.not_eq_true', decide_eq_true_eq] at h
    exact h2 (m - 2) (by omega) h.1.1 h.1.2 h.2
  have eL0 : m + 2 - 2 = m := by omega
  have eL1 : m + 1 - 2 = m - 1 := by omega
  simp only [impl_termOk.f, impl_termOk.j0, impl_termOk.j1, J2 m (by omega), J2 (m + 1) (by omega), J2 (m + 2) (by omega), h1 (m + 1) (by omega), impl_isWord.f, impl_isTwo.f, within_ok, Option.bind_some, eb, eL0, eL1]
  clear J2 h1 h2 eb eL0 eL1
  generalize impl_termOk.l0 m d plain l (l.length : Int) 0 = A0 at *
  generalize impl_termOk.l0 (m - 1) d plain l (l.length : Int) 0 = A1 at *
  generalize impl_termOk.l0 (m - 2) d plain l (l.length : Int) 0 = A2 at *
  generalize nameB s = nb at *
  generalize (s.toList != []) = ne at *
  generalize l.length = n at *
  clear hk hs
  have e0 : decide ((n : Int) = 0) = decide (n = 0) := by rw [Bool.eq_iff_iff]; simp
  have e1 : decide ((n : Int) = 1) = decide (n = 1) := by rw [Bool.eq_iff_iff]; simp; omega
  have e2 : decide ((n : Int) = 2) = decide (n = 2) := by rw [Bool.eq_iff_iff]; simp; omega
  simp only [e0, e1, e2]
  clear e0 e1 e2
  generalize decide (1 ≤ d) = dd at *
  simp only [hereB, deepPlain] at *
  rcases kcases K with rfl | rfl | rfl | rfl | rfl | rfl | rfl | rfl | rfl | rfl | rfl | rfl | ⟨g1, g2, g3, g4, g5, g6, g7, g8, g9, g10, g11, g12⟩
  · by_cases hN : 0 ≤ N ∧ N ≤ 65535
    · have e := decide_eq_true hN
      simp only [e] at *; clear e hN
      by_cases z0 : n = 0 <;> cases ne <;> cases dd <;> simp_all
    · have e := decide_eq_false hN
      simp only [e] at *; clear e hN
      simp
  · by_cases hN : N = 0 <;> by_cases z0 : n = 0 <;> cases nb <;> cases dd <;> simp_all
  · by_cases hN : N = 0 <;> by_cases z0 : n = 0 <;> cases ne <;> cases dd <;> simp_all
  · by_cases hN : N = 0 <;> by_cases z1 : n = 1 <;> cases ne <;> cases dd <;> simp_all
  · by_cases hN : N = 0 <;> by_cases z2 : n = 2 <;> cases ne <;> cases dd <;> simp_all
  · by_cases hN : N = 0 <;> by_cases z2 : n = 2 <;> cases ne <;> cases dd <;> simp_all
  · by_cases hN : N = 0 <;> by_cases z2 : n = 2 <;> cases ne <;> cases dd <;> simp_all
  · by_cases hN : N = 0 <;> by_cases z2 : n = 2 <;> cases ne <;> cases dd <;> simp_all
  · by_cases hN : N = 0 <;> by_cases z2 : n = 2 <;> cases ne <;> cases dd <;> simp_all
  · by_cases hN : N = 0 <;> by_cases z2 : n = 2 <;> cases ne <;> cases dd <;> simp_all
  · by_cases hN : 0 ≤ N ∧ N ≤ 9
    · have e := decide_eq_true hN
      simp only [e] at *; clear e hN
      by_cases z0 : n = 0 <;> cases ne <;> cases dd <;> cases plain <;> simp_all
    · have e := decide_eq_false hN
      simp only [e] at *; clear e hN
      cases plain <;> simp
  · by_cases hN : N = 0 <;> by_cases z0 : n = 0 <;> cases nb <;> cases dd <;> cases plain <;> simp_all
  · have g : ¬ (5 ≤ K ∧ K ≤ 10) := by omega
    simp [g1, g2, g3, g4, g5, g6, g7, g8, g9, g10, g11, g12, g]
def OkT (x : S29) : Prop := ∀ d : Int, 0 ≤ d → d ≤ 6 → ∀ plain : Bool, ∃ b, Ev (fun k => spec_l10Ok.f k x.f0 x.f1 x.f2 x.f3 (7 - d) plain) b ∧ Ev (fun k => impl_termOk.f k x.f0 x.f1 x.f2 x.f3 d plain) b
theorem okExprS (x : S29) (hx : x.f3.length ≤ 1048576) (h : ∀ z ∈ x.f3, OkT z) (d : Int) (d0 : 1 ≤ d) (d6 : d ≤ 6) (plain : Bool) : ∀ (e i : Nat), x.f3.length - i = e → i ≤ x.f3.length →
    ∃ b, Ev (fun k => spec_l10Ok.l0 k (7 - d) plain (i : Int) x.f0 x.f1 x.f2 x.f3) b ∧ Ev (fun k => impl_termOk.l0 k d plain x.f3 (x.f3.length : Int) (i : Int)) b := by
  intro e
  induction e with
  | zero =>
    intro i he hi
    refine ⟨true, Ev.step (f := fun _ => some true) (fun k => ?_) (Ev.now _), Ev.step (f := fun _ => some true) (fun k => ?_) (Ev.now _)⟩
    · simp only [spec_l10Ok.l0]; rw [if_neg (by omega)]
    · simp only [impl_termOk.l0]; rw [if_neg (by omega)]
  | succ e ih =>
    intro i he hi
    have hlt : i < x.f3.length := by omega
    have w1 : wrap64 ((i : Int) + 1) = ((i + 1 : Nat) : Int) := by rw [w64 (by omega) (by omega)]; rfl
    have w2 : wrap64 (7 - d + 1) = 7 - (d - 1) := by rw [w64 (by omega) (by omega)]; omega
    have w3 : wrap64 (d - 1) = d - 1 := w64 (by omega) (by omega)
    obtain ⟨b, hs, hi'⟩ := h _ (rdI_in x.f3 i hlt) (d - 1) (by omega) (by omega) plain
    obtain ⟨c, cs, ci⟩ := ih (i + 1) (by omega) (by omega)
    refine ⟨if b = true then c else false, ?_, ?_⟩
    · refine Ev.step (f := fun k => (spec_l10Ok.f k (rd_T29 x.f3 (i : Int)).f0 (rd_T29 x.f3 (i : Int)).f1 (rd_T29 x.f3 (i : Int)).f2 (rd_T29 x.f3 (i : Int)).f3 (7 - (d - 1)) plain).bind fun t => if t = true then spec_l10Ok.l0 k (7 - d) plain ((i + 1 : Nat) : Int) x.f0 x.f1 x.f2 x.f3 else some false) (fun k => ?_) (Ev.bind hs ?_)
      · simp only [spec_l10Ok.l0, w1, w2]; rw [if_pos (by omega), if_pos (by omega)]
      · cases b with
        | true => exact Ev.congr (fun k => by rw [if_pos rfl]) cs
        | false => exact Ev.congr (f := fun _ => some false) (fun k => by rw [if_neg (by decide)]) (Ev.now _)
    · refine Ev.step (f := fun k => (impl_termOk.f k (rd_T29 x.f3 (i : Int)).f0 (rd_T29 x.f3 (i : Int)).f1 (rd_T29 x.f3 (i : Int)).f2 (rd_T29 x.f3 (i : Int)).f3 (d - 1) plain).bind fun t => if t = true then impl_termOk.l0 k d plain x.f3 (x.f3.length : Int) ((i + 1 : Nat) : Int) else some false) (fun k => ?_) (Ev.bind hi' ?_)
      · simp only [impl_termOk.l0, w1, w3]; rw [if_pos (by omega), if_pos (by omega), if_pos (by omega)]
      · cases b with
        | true => exact Ev.congr (fun k => by rw [if_pos rfl]) ci
        | false => exact Ev.congr (f := fun _ => some false) (fun k => by rw [if_neg (by decide)]) (Ev.now _)
theorem okExpr_ok (x : S29) (g : Small x) : OkT x := by
  induction g with
  | mk x h2 h3 h ih =>
    intro d d0 d6 plain
    by_cases hd : 1 ≤ d
    · obtain ⟨b, b1, b2⟩ := okExprS x h3 ih d hd d6 plain x.f3.length 0 (by omega) (by omega)
      have e1 := l10Ok_node x.f0 x.f1 x.f2 x.f3 h2 (7 - d) plain b (fun _ _ _ => by simpa using b1)
      have e2 := termOk_node x.f0 x.f1 x.f2 x.f3 h2 d plain b (fun _ _ _ => by simpa using b2)
      rw [decide_eq_true (show 7 - d ≤ 6 by omega)] at e1
      rw [decide_eq_true hd] at e2
      exact ⟨_, e1, e2⟩
    · have e1 := l10Ok_node x.f0 x.f1 x.f2 x.f3 h2 (7 - d) plain false (fun _ _ h => by omega)
      have e2 := termOk_node x.f0 x.f1 x.f2 x.f3 h2 d plain false (fun _ _ h => absurd h hd)
      rw [decide_eq_false (show ¬ 7 - d ≤ 6 by omega)] at e1
      rw [decide_eq_false hd] at e2
      exact ⟨_, e1, e2⟩
inductive Shp : S29 → Prop
  | leaf (x : S29) (h : x.f3 = []) (h4 : x.f0 ≠ 4) (h5 : ¬ (5 ≤ x.f0 ∧ x.f0 ≤ 10)) (hn : x.f0 = 1 → 0 ≤ x.f1 ∧ x.f1 ≤ 65535) : Shp x
  | neg (x y : S29) (h : x.f3 = [y]) (h4 : x.f0 = 4) (hy : Shp y) : Shp x
  | two (x y z : S29) (h : x.f3 = [y, z]) (h5 : 5 ≤ x.f0 ∧ x.f0 ≤ 10) (hy : Shp y) (hz : Shp z) : Shp x
theorem okAll (x : S29) (hx : x.f3.length ≤ 1048576) (h : ∀ z ∈ x.f3, OkT z) (d : Int) (d0 : 1 ≤ d) (d6 : d ≤ 6) : ∀ (e i : Nat), x.f3.length - i = e → i ≤ x.f3.length →
    Ev (fun k => spec_l10Ok.l0 k (7 - d) false (i : Int) x.f0 x.f1 x.f2 x.f3) true → ∀ j, i ≤ j → ∀ hj : j < x.f3.length, Ev (fun k => spec_l10Ok.f k x.f3[j].f0 x.f3[j].f1 x.f3[j].f2 x.f3[j].f3 (7 - (d - 1)) false) true := by
  intro e
  induction e with
  | zero => intro i he hi _ j h1 h2; omega
  | succ e ih =>
    intro i he hi hE j hj0 hj
    have hlt : i < x.f3.length := by omega
    have w1 : wrap64 ((i : Int) + 1) = ((i + 1 : Nat) : Int) := by rw [w64 (by omega) (by omega)]; rfl
    have w2 : wrap64 (7 - d + 1) = 7 - (d - 1) := by rw [w64 (by omega) (by omega)]; omega
    obtain ⟨b, hs, _⟩ := h _ (rdI_in x.f3 i hlt) (d - 1) (by omega) (by omega) false
    obtain ⟨c, cs, _⟩ := okExprS x hx h d d0 d6 false e (i + 1) (by omega) (by omega)
    have E2 : Ev (fun k => spec_l10Ok.l0 k (7 - d) false (i : Int) x.f0 x.f1 x.f2 x.f3) (if b = true then c else false) := by
      refine Ev.step (f := fun k => (spec_l10Ok.f k (rd_T29 x.f3 (i : Int)).f0 (rd_T29 x.f3 (i : Int)).f1 (rd_T29 x.f3 (i : Int)).f2 (rd_T29 x.f3 (i : Int)).f3 (7 - (d - 1)) false).bind fun t => if t = true then spec_l10Ok.l0 k (7 - d) false ((i + 1 : Nat) : Int) x.f0 x.f1 x.f2 x.f3 else some false) (fun k => ?_) (Ev.bind hs ?_)
      · simp only [spec_l10Ok.l0, w1, w2]; rw [if_pos (by omega), if_pos (by omega)]
      · cases b with
        | true => exact Ev.congr (fun k => by rw [if_pos rfl]) cs
        | false => exact Ev.congr (f := fun _ => some false) (fun k => by rw [if_neg (by decide)]) (Ev.now _)
    have e3 := Ev.one hE E2
    cases b with
    | false => rw [if_neg (by decide)] at e3; exact absurd e3 (by decide)
    | true =>
      rw [if_pos rfl] at e3
      subst e3
      by_cases e4 : i = j
      · subst e4; rw [rdI_at x.f3 i hlt] at hs; exact hs
      · exact ih (i + 1) (by omega) (by omega) cs j (by omega) hj
theorem shp_of_here (x : S29) (nb ne : Bool) (hh : hereB x.f0 x.f1 nb ne x.f3.length = true) (sub : ∀ z ∈ x.f3, Shp z) : Shp x := by
  unfold hereB at hh
  have nil : x.f3.length = 0 → x.f3 = [] := List.eq_nil_of_length_eq_zero
  by_cases c1 : x.f0 = 1
  · rw [if_pos c1] at hh
    simp only [Bool.and_eq_true, decide_eq_true_eq] at hh
    exact .leaf x (nil hh.2) (by omega) (by omega) (fun _ => hh.1.1)
  rw [if_neg c1] at hh
  by_cases c2 : x.f0 = 2 ∨ x.f0 = 12
  · rw [if_pos c2] at hh
    simp only [Bool.and_eq_true, decide_eq_true_eq] at hh
    exact .leaf x (nil hh.2) (by omega) (by omega) (fun _ => by omega)
  rw [if_neg c2] at hh
  by_cases c3 : x.f0 = 11
  · rw [if_pos c3] at hh
    simp only [Bool.and_eq_true, decide_eq_true_eq] at hh
    exact .leaf x (nil hh.2) (by omega) (by omega) (fun _ => by omega)
  rw [if_neg c3] at hh
  by_cases c4 : x.f0 = 3
  · rw [if_pos c4] at hh
    simp only [Bool.and_eq_true, decide_eq_true_eq] at hh
    exact .leaf x (nil hh.2) (by omega) (by omega) (fun _ => by omega)
  rw [if_neg c4] at hh
  by_cases c5 : x.f0 = 4
  · rw [if_pos c5] at hh
    simp only [Bool.and_eq_true, decide_eq_true_eq] at hh
    match hx : x.f3, hh.2 with
    | [y], _ => exact .neg x y hx c5 (sub y (by rw [hx]; simp))
  rw [if_neg c5] at hh
  by_cases c6 : 5 ≤ x.f0 ∧ x.f0 ≤ 10
  · rw [if_pos c6] at hh
    simp only [Bool.and_eq_true, decide_eq_true_eq] at hh
    match hx : x.f3, hh.2 with
    | [y, z], _ => exact .two x y z hx c6 (sub y (by rw [hx]; simp)) (sub z (by rw [hx]; simp))
  rw [if_neg c6] at hh
  exact absurd hh (by decide)
theorem shape_ok (x : S29) (g : Small x) : ∀ d : Int, 0 ≤ d → d ≤ 6 → Ev (fun k => spec_l10Ok.f k x.f0 x.f1 x.f2 x.f3 (7 - d) false) true → Shp x := by
  induction g with
  | mk x h2 h3 h ih =>
    intro d d0 d6 hE
    by_cases hd : 1 ≤ d
    · obtain ⟨b, b1, _⟩ := okExprS x h3 (fun z hz => okExpr_ok z (h z hz)) d hd d6 false x.f3.length 0 (by omega) (by omega)
      have e1 := l10Ok_node x.f0 x.f1 x.f2 x.f3 h2 (7 - d) false b (fun _ _ _ => by simpa using b1)
      have e2 := Ev.one hE e1
      have hh : hereB x.f0 x.f1 (nameB x.f2) (x.f2.toList != []) x.f3.length = true ∧ b = true := by
        by_cases c : (hereB x.f0 x.f1 (nameB x.f2) (x.f2.toList != []) x.f3.length && !deepPlain x.f0 false && decide (7 - d ≤ 6)) = true
        · rw [if_pos c] at e2
          simp only [Bool.and_eq_true] at c
          exact ⟨c.1.1, e2.symm⟩
        · rw [if_neg c] at e2; exact absurd e2 (by decide)
      obtain ⟨hh, rfl⟩ := hh
      have all := okAll x h3 (fun z hz => okExpr_ok z (h z hz)) d hd d6 x.f3.length 0 (by omega) (by omega) (by simpa using b1)
      refine shp_of_here x _ _ hh (fun z hz => ?_)
      obtain ⟨j, hj, e⟩ := List.getElem_of_mem hz
      rw [← e]; exact ih _ (List.getElem_mem hj) (d - 1) (by omega) (by omega) (all j (by omega) hj)
    · have e1 := l10Ok_node x.f0 x.f1 x.f2 x.f3 h2 (7 - d) false false (fun _ _ h => by omega)
      have e2 := Ev.one hE e1
      rw [ite_self] at e2; exact absurd e2 (by decide)
theorem etaI (y : S29) : (⟨y.f0, y.f1, y.f2, y.f3⟩ : S29) = y := by cases y; rfl
theorem specCopy_l0 (l : List S29) (hl : l.length ≤ 1048576) (h : ∀ x ∈ l, Ev (fun k => spec_l11Copy.f k x.f0 x.f1 x.f2 x.f3) (x.f0, x.f1, x.f2, x.f3)) (A B a b : Int) (s t : ByteArray) : ∀ (d i : Nat), l.length - i = d → i ≤ l.length →
    Ev (fun k => spec_l11Copy.l0 k (i : Int) A B s l a b t (l.take i)) (a, b, t, l) := by
  intro d
  induction d with
  | zero =>
    intro i hd hi
    refine Ev.step (f := fun _ => some (a, b, t, l)) (fun k => ?_) (Ev.now _)
    simp only [spec_l11Copy.l0]; rw [if_neg (by omega), List.take_of_length_le (by omega)]
  | succ d ih =>
    intro i hd hi
    have hlt : i < l.length := by omega
    have tk : l.take (i + 1) = l.take i ++ [l[i]] := by rw [List.take_add_one, List.getElem?_eq_getElem hlt]; rfl
    refine Ev.step (f := fun k => (spec_l11Copy.f k (rd_T29 l (i : Int)).f0 (rd_T29 l (i : Int)).f1 (rd_T29 l (i : Int)).f2 (rd_T29 l (i : Int)).f3).bind fun bt => if (l.take i).length < 2513169434916 then spec_l11Copy.l0 k ((i + 1 : Nat) : Int) A B s l a b t (l.take i ++ [(⟨bt.1, bt.2.1, bt.2.2.1, bt.2.2.2⟩ : S29)]) else none) (fun k => ?_) (Ev.bind (h _ (rdI_in l i hlt)) ?_)
    · simp only [spec_l11Copy.l0]; rw [if_pos (by omega), if_pos (by omega), w64 (x := (i : Int) + 1) (by omega) (by omega)]; rfl
    · refine Ev.congr (f := fun k => spec_l11Copy.l0 k ((i + 1 : Nat) : Int) A B s l a b t (l.take (i + 1))) (fun k => ?_) (ih (i + 1) (by omega) (by omega))
      rw [if_pos (by rw [List.length_take]; omega), tk, rdI_at l i hlt, etaI]
theorem specCopy_ok (x : S29) (g : Small x) : Ev (fun k => spec_l11Copy.f k x.f0 x.f1 x.f2 x.f3) (x.f0, x.f1, x.f2, x.f3) := by
  induction g with
  | mk x h2 h3 h ih =>
    refine Ev.step (f := fun k => spec_l11Copy.l0 k ((0 : Nat) : Int) x.f0 x.f1 x.f2 x.f3 x.f0 x.f1 x.f2 (x.f3.take 0)) (fun k => by simp only [spec_l11Copy.f]; rfl) ?_
    exact specCopy_l0 x.f3 h3 ih x.f0 x.f1 x.f0 x.f1 x.f2 x.f2 _ 0 rfl (by omega)
theorem implCopy_l0 (l : List S29) (hl : l.length ≤ 1048576) (h : ∀ x ∈ l, Ev (fun k => impl_copyExpr.f k x.f0 x.f1 x.f2 x.f3) (x.f0, x.f1, x.f2, x.f3)) (a b : Int) (t : ByteArray) : ∀ (d i : Nat), l.length - i = d → i ≤ l.length →
    Ev (fun k => impl_copyExpr.l0 k l (l.length : Int) (i : Int) a b t (l.take i)) (a, b, t, l) := by
  intro d
  induction d with
  | zero =>
    intro i hd hi
    refine Ev.step (f := fun _ => some (a, b, t, l)) (fun k => ?_) (Ev.now _)
    simp only [impl_copyExpr.l0]; rw [if_neg (by omega), List.take_of_length_le (by omega)]
  | succ d ih =>
    intro i hd hi
    have hlt : i < l.length := by omega
    have tk : l.take (i + 1) = l.take i ++ [l[i]] := by rw [List.take_add_one, List.getElem?_eq_getElem hlt]; rfl
    refine Ev.step (f := fun k => (impl_copyExpr.f k (rd_T29 l (i : Int)).f0 (rd_T29 l (i : Int)).f1 (rd_T29 l (i : Int)).f2 (rd_T29 l (i : Int)).f3).bind fun bt => if (l.take i).length < 2513169434916 then impl_copyExpr.l0 k l (l.length : Int) ((i + 1 : Nat) : Int) a b t (l.take i ++ [(⟨bt.1, bt.2.1, bt.2.2.1, bt.2.2.2⟩ : S29)]) else none) (fun k => ?_) (Ev.bind (h _ (rdI_in l i hlt)) ?_)
    · simp only [impl_copyExpr.l0]; rw [if_pos (by omega), if_pos (by omega), if_pos (by omega), w64 (x := (i : Int) + 1) (by omega) (by omega)]; rfl
    · refine Ev.congr (f := fun k => impl_copyExpr.l0 k l (l.length : Int) ((i + 1 : Nat) : Int) a b t (l.take (i + 1))) (fun k => ?_) (ih (i + 1) (by omega) (by omega))
      rw [if_pos (by rw [List.length_take]; omega), tk, rdI_at l i hlt, etaI]
theorem implCopy_ok (x : S29) (g : Small x) : Ev (fun k => impl_copyExpr.f k x.f0 x.f1 x.f2 x.f3) (x.f0, x.f1, x.f2, x.f3) := by
  induction g with
  | mk x h2 h3 h ih =>
    refine Ev.step (f := fun k => impl_copyExpr.l0 k x.f3 (x.f3.length : Int) ((0 : Nat) : Int) x.f0 x.f1 x.f2 (x.f3.take 0)) (fun k => by simp only [impl_copyExpr.f]; rfl) ?_
    exact implCopy_l0 x.f3 h3 ih x.f0 x.f1 x.f2 _ 0 rfl (by omega)
def tup (x : S29) : Int × Int × ByteArray × List S29 := (x.f0, x.f1, x.f2, x.f3)
def numT (n : Int) : S29 := ⟨1, n % 65536, ⟨#[]⟩, []⟩
def Nf1 (y : S29) : Prop := (y.f0 = 5 → ∃ p q, y.f3 = [p, q] ∧ q.f0 ≠ 1) ∧ (y.f0 = 1 → 0 ≤ y.f1 ∧ y.f1 ≤ 65535)
def Nf (y : S29) : Prop := Nf1 y ∨ ∃ p q, y.f0 = 5 ∧ y.f3 = [p, q] ∧ q.f0 = 1 ∧ (0 ≤ q.f1 ∧ q.f1 ≤ 65535) ∧ Nf1 p
theorem Nf.word {y : S29} (h : Nf y) (c : y.f0 = 1) : 0 ≤ y.f1 ∧ y.f1 ≤ 65535 := by
  rcases h with h | ⟨p, q, h5, _⟩
  · exact h.2 c
  · omega
theorem nf_num (n : Int) : Nf (numT n) := .inl ⟨fun h => absurd h (by simp [numT]), fun _ => by simp only [numT]; omega⟩
theorem nf_other (op : Int) (s : ByteArray) (n : Int) (l : List S29) (h5 : op ≠ 5) (h1 : op ≠ 1) : Nf ⟨op, n, s, l⟩ := .inl ⟨fun h => absurd h h5, fun h => absurd h h1⟩
theorem specNum (n : Int) : spec_l10Num.f n = some (tup (numT n)) := by simp [spec_l10Num.f, spec_Wrap.f, and65535, tup, numT]
theorem implNum (n : Int) : impl_number.f n = some (tup (numT n)) := by simp [impl_number.f, impl_Wrap.f, and65535, tup, numT]
theorem rd0 (p : S29) (l : List S29) : rd_T29 (p :: l) 0 = p := rfl
theorem rd1 (p q : S29) (l : List S29) : rd_T29 (p :: q :: l) 1 = q := rfl
theorem implTwo (op : Int) (a b : S29) : impl_two.f op a.f0 a.f1 a.f2 a.f3 b.f0 b.f1 b.f2 b.f3 = some (tup ⟨op, 0, ⟨#[]⟩, [a, b]⟩) := by simp only [impl_two.f, etaI, tup]
theorem part_ok (y : S29) (h : Nf y) : ∃ (x : S29) (n : Int), spec_l11Part.f y.f0 y.f1 y.f2 y.f3 = some (x.f0, x.f1, x.f2, x.f3, n) ∧ Nf1 x ∧ (0 ≤ n ∧ n ≤ 65535) ∧
    impl_inSect.f y.f0 y.f1 y.f2 y.f3 = some (if x.f0 = 11 then (x.f1, n, true) else (0, 0, false)) := by
  rcases h with h | ⟨p, q, h5, h3, hq, hr, hp⟩
  · refine ⟨y, 0, ?_, h, by omega, ?_⟩
    · unfold spec_l11Part.f
      by_cases c : y.f0 = 5
      · obtain ⟨p, q, h3, hq⟩ := h.1 c
        rw [if_pos c, h3, if_pos (by simp), rd1, if_neg hq]
      · rw [if_neg c]
    · unfold impl_inSect.f
      by_cases c : y.f0 = 11
      · rw [if_pos c, if_pos c]
      · rw [if_neg c, if_neg c]
        by_cases c5 : y.f0 = 5
        · obtain ⟨p, q, h3, hq⟩ := h.1 c5
          rw [if_pos c5, h3, if_pos (by simp), rd0, rd1, if_neg hq, if_pos (show (1 : Int) < ([p, q].length : Int) by simp), ite_self]
        · rw [if_neg c5]
  · refine ⟨p, q.f1, ?_, hp, hr, ?_⟩
    · unfold spec_l11Part.f
      rw [if_pos h5, h3, if_pos (by simp), rd1, rd0, if_pos hq, if_pos (by simp)]
    · unfold impl_inSect.f
      rw [if_neg (by omega), if_pos h5, h3, if_pos (by simp), rd0, rd1, if_pos hq, if_pos (show (1 : Int) < ([p, q].length : Int) by simp)]
      by_cases c : p.f0 = 11
      · rw [if_pos c, if_pos c]
      · rw [if_neg c, if_neg c]
def addT (y : S29) (n : Int) : S29 := if n % 65536 = 0 then y else ⟨5, 0, ⟨#[]⟩, [y, numT n]⟩
theorem nf_add (y : S29) (h : Nf1 y) (n : Int) : Nf (addT y n) := by
  unfold addT
  by_cases c : n % 65536 = 0
  · rw [if_pos c]; exact .inl h
  · rw [if_neg c]
    exact .inr ⟨y, numT n, rfl, rfl, rfl, by simp only [numT]; omega, h⟩
theorem specAdd (y : S29) (n : Int) : spec_l11Add.f y.f0 y.f1 y.f2 y.f3 n = some (tup (addT y n)) := by
  unfold spec_l11Add.f addT
  rw [specNum]
  simp only [spec_Wrap.f, and65535, Option.bind_some]
  by_cases c : n % 65536 = 0
  · rw [if_pos c, if_pos c]; rfl
  · rw [if_neg c, if_neg c]; simp only [tup, etaI]
theorem implAdd1 (y : S29) (h : Nf1 y) (n : Int) (k : Nat) : impl_added.f (k + 2) y.f0 y.f1 y.f2 y.f3 (n % 65536) = some (tup (addT y n)) := by
  have j : impl_added.j0 (k + 1) (n % 65536) false y.f0 y.f1 y.f2 y.f3 = some (tup (addT y n)) := by
    simp only [impl_added.j0]
    rw [if_neg (by decide)]
    unfold addT
    by_cases c : n % 65536 = 0
    · rw [if_pos c, if_pos c]; rfl
    · rw [if_neg c, if_neg c, implNum]
      have e : numT (n % 65536) = numT n := by unfold numT; rw [Int.emod_emod_of_dvd _ (by decide)]
      rw [e]; simp only [Option.bind_some, tup, impl_two.f, etaI]
  simp only [impl_added.f]
  by_cases c : y.f0 = 5
  · obtain ⟨p, q, h3, hq⟩ := h.1 c
    rw [if_pos c, h3, if_pos (by simp), rd1, beq_false_of_ne hq, ← h3]; exact j
  · rw [if_neg c]; exact j
theorem sum_ok (y : S29) (h : Nf y) (n m : Int) (hn : -65535 ≤ n ∧ n ≤ 65535) (hm : m = n % 65536) :
    ∃ z, spec_l11Sum.f y.f0 y.f1 y.f2 y.f3 n = some (tup z) ∧ Ev (fun k => impl_added.f k y.f0 y.f1 y.f2 y.f3 m) (tup z) ∧ Nf z := by
  subst hm
  rcases h with h | ⟨p, q, h5, h3, hq, hr, hp⟩
  · refine ⟨addT y n, ?_, ⟨2, fun k hk => ?_⟩, nf_add y h n⟩
    · obtain ⟨x, m, e, _⟩ : ∃ (x : S29) (m : Int), spec_l11Part.f y.f0 y.f1 y.f2 y.f3 = some (y.f0, y.f1, y.f2, y.f3, 0) ∧ True := by
        refine ⟨y, 0, ?_, trivial⟩
        unfold spec_l11Part.f
        by_cases c : y.f0 = 5
        · obtain ⟨p, q, h3, hq⟩ := h.1 c
          rw [if_pos c, h3, if_pos (by simp), rd1, if_neg hq]
        · rw [if_neg c]
      unfold spec_l11Sum.f
      rw [e]
      simp only [Option.bind_some]
      rw [w64 (by omega) (by omega), Int.zero_add, specAdd]; rfl
    · obtain ⟨i, rfl⟩ : ∃ i, k = i + 2 := ⟨k - 2, by omega⟩
      exact implAdd1 y h n i
  · refine ⟨addT p (q.f1 + n), ?_, ⟨4, fun k hk => ?_⟩, nf_add p hp _⟩
    · unfold spec_l11Sum.f
      have e : spec_l11Part.f y.f0 y.f1 y.f2 y.f3 = some (p.f0, p.f1, p.f2, p.f3, q.f1) := by
        unfold spec_l11Part.f
        rw [if_pos h5, h3, if_pos (by simp), rd1, rd0, if_pos hq, if_pos (by simp)]
      rw [e]
      simp only [Option.bind_some]
      rw [w64 (by omega) (by omega), specAdd]; rfl
    · obtain ⟨i, rfl⟩ : ∃ i, k = i + 4 := ⟨k - 4, by omega⟩
      have e1 : (wrap64 (q.f1 + n % 65536)) % 65536 = (q.f1 + n) % 65536 := by rw [w64 (by omega) (by omega)]; omega
      show impl_added.f (i + 3 + 1) y.f0 y.f1 y.f2 y.f3 (n % 65536) = _
      simp only [impl_added.f]
      rw [if_pos h5, h3, if_pos (by simp), rd1, hq]
      simp only [impl_added.j0, impl_Wrap.f, and65535, Option.bind_some, rd0, rd1]
      rw [if_pos (by decide), if_pos (by simp), if_pos (by simp), e1, implAdd1 p hp _ i]; rfl
theorem compute_ok (op p q : Int) (ho : 5 ≤ op ∧ op ≤ 10) : ∃ v ok, spec_l11Two.f op p q = some (v, ok) ∧ impl_compute.f op p q = some (v, ok) ∧ (ok = false → op = 8) := by
  have e : impl_compute.f op p q = spec_l11Two.f op p q := rfl
  rw [e]
  unfold spec_l11Two.f
  simp only [spec_Wrap.f, Option.bind_some]
  by_cases c5 : op = 5
  · rw [if_pos c5]; exact ⟨_, _, rfl, rfl, fun h => absurd h (by decide)⟩
  rw [if_neg c5]
  by_cases c6 : op = 6
  · rw [if_pos c6]; exact ⟨_, _, rfl, rfl, fun h => absurd h (by decide)⟩
  rw [if_neg c6]
  by_cases c7 : op = 7
  · rw [if_pos c7]; exact ⟨_, _, rfl, rfl, fun h => absurd h (by decide)⟩
  rw [if_neg c7]
  by_cases c9 : op = 9
  · rw [if_pos c9]; exact ⟨_, _, rfl, rfl, fun h => absurd h (by decide)⟩
  rw [if_neg c9]
  by_cases ca : op = 10
  · rw [if_pos ca]; exact ⟨_, _, rfl, rfl, fun h => absurd h (by decide)⟩
  rw [if_neg ca]
  by_cases cq : q = 0
  · rw [if_pos cq]; exact ⟨_, _, rfl, rfl, fun _ => by omega⟩
  · rw [if_neg cq]; exact ⟨_, _, rfl, rfl, fun h => absurd h (by decide)⟩
def specJ (k : Nat) (f : Bool) (op N : Int) (s : ByteArray) (l : List S29) (a b : S29) := spec_l11Fold.j0 k f op N s l a.f0 a.f1 a.f2 a.f3 b.f0 b.f1 b.f2 b.f3
def implJ (k : Nat) (op : Int) (a b : S29) := impl_foldTwo.f k op a.f0 a.f1 a.f2 a.f3 b.f0 b.f1 b.f2 b.f3
theorem sub_ok (N : Int) (s : ByteArray) (l : List S29) (a b x y : S29) (n m : Int) (hf : (a.f0 == 1 && b.f0 == 1) = false) (cb : b.f0 ≠ 1)
    (p1 : spec_l11Part.f a.f0 a.f1 a.f2 a.f3 = some (x.f0, x.f1, x.f2, x.f3, n)) (p2 : impl_inSect.f a.f0 a.f1 a.f2 a.f3 = some (if x.f0 = 11 then (x.f1, n, true) else (0, 0, false)))
    (q1 : spec_l11Part.f b.f0 b.f1 b.f2 b.f3 = some (y.f0, y.f1, y.f2, y.f3, m)) (q2 : impl_inSect.f b.f0 b.f1 b.f2 b.f3 = some (if y.f0 = 11 then (y.f1, m, true) else (0, 0, false))) :
    ∃ z, (∀ k, specJ (k + 3) (a.f0 == 1 && b.f0 == 1) 6 N s l a b = some (tup z)) ∧ Ev (fun k => implJ k 6 a b) (tup z) ∧ Nf z := by
  have fb : (b.f0 == 1) = false := beq_false_of_ne cb
  have gen : ∀ k, specJ (k + 3) (a.f0 == 1 && b.f0 == 1) 6 N s l a b = (spec_l11Sub.f a.f0 a.f1 a.f2 a.f3 b.f0 b.f1 b.f2 b.f3).bind fun bt => some (bt.1, bt.2.1, bt.2.2.1, bt.2.2.2) := by
    intro k
    rw [hf]
    simp only [specJ, spec_l11Fold.j0]
    rw [if_neg (by decide)]
    simp only [spec_l11Fold.j1]
    rw [if_pos trivial]
  have igen : ∀ k, implJ (k + 5) 6 a b = impl_foldTwo.j3 (k + 2) 6 false a.f0 a.f1 a.f2 a.f3 b.f0 b.f1 b.f2 b.f3 := by
    intro k
    have d5 : ¬ (6 : Int) = 5 := by decide
    by_cases ca : a.f0 = 1
    · simp only [implJ, impl_foldTwo.f, impl_foldTwo.j0, impl_foldTwo.j1, impl_foldTwo.j2, fb, if_pos ca, if_neg d5]; rfl
    · simp only [implJ, impl_foldTwo.f, impl_foldTwo.j0, impl_foldTwo.j1, impl_foldTwo.j2, fb, if_neg ca, if_neg d5]; rfl
  have j4f : ∀ k, ∀ u v : Int, impl_foldTwo.j4 (k + 1) 6 u v false a.f0 a.f1 a.f2 a.f3 b.f0 b.f1 b.f2 b.f3 = some (tup ⟨6, 0, ⟨#[]⟩, [a, b]⟩) := by
    intro k u v
    simp only [impl_foldTwo.j4]
    rw [if_neg (by decide), implTwo]; rfl
  by_cases c : x.f0 = 11 ∧ y.f0 = 11 ∧ x.f1 = y.f1
  · obtain ⟨cx, cy, ce⟩ := c
    refine ⟨numT (wrap64 (n - m)), fun k => ?_, ⟨5, fun k hk => ?_⟩, nf_num _⟩
    · rw [gen]
      unfold spec_l11Sub.f
      rw [if_neg cb, p1, q1]
      simp only [Option.bind_some]
      rw [if_pos cx, if_pos cy, if_pos ce, specNum]; rfl
    · obtain ⟨i, rfl⟩ : ∃ i, k = i + 5 := ⟨k - 5, by omega⟩
      show implJ (i + 5) 6 a b = _
      rw [igen]
      simp only [impl_foldTwo.j3]
      rw [if_neg (by decide), if_pos trivial, p2, q2, if_pos cx, if_pos cy]
      simp only [Option.bind_some, if_true]
      rw [beq_iff_eq.mpr ce]
      simp only [impl_foldTwo.j4]
      rw [if_pos trivial, implNum]; rfl
  · refine ⟨⟨6, 0, ⟨#[]⟩, [a, b]⟩, fun k => ?_, ⟨5, fun k hk => ?_⟩, nf_other _ _ _ _ (by decide) (by decide)⟩
    · rw [gen]
      unfold spec_l11Sub.f
      rw [if_neg cb, p1, q1]
      simp only [Option.bind_some]
      by_cases cx : x.f0 = 11
      · rw [if_pos cx]
        by_cases cy : y.f0 = 11
        · rw [if_pos cy, if_neg (fun ce => c ⟨cx, cy, ce⟩)]; simp only [Option.bind_some, tup, etaI]
        · rw [if_neg cy]; simp only [Option.bind_some, tup, etaI]
      · rw [if_neg cx]; simp only [Option.bind_some, tup, etaI]
    · obtain ⟨i, rfl⟩ : ∃ i, k = i + 5 := ⟨k - 5, by omega⟩
      show implJ (i + 5) 6 a b = _
      rw [igen]
      simp only [impl_foldTwo.j3]
      rw [if_neg (by decide), if_pos trivial, p2, q2]
      simp only [Option.bind_some]
      by_cases cx : x.f0 = 11
      · rw [if_pos cx, if_pos rfl]
        by_cases cy : y.f0 = 11
        · rw [if_pos cy, if_pos rfl, beq_false_of_ne (fun ce => c ⟨cx, cy, ce⟩)]
          exact j4f i _ _
        · rw [if_neg cy, if_neg (by decide)]
          exact j4f i _ _
      · rw [if_neg cx, if_neg (by decide)]
        exact j4f i _ _
theorem j_ok (op N : Int) (s : ByteArray) (l : List S29) (a b : S29) (ho : 5 ≤ op ∧ op ≤ 10) (na : Nf a) (nb : Nf b) :
    ∃ z, (∀ k, specJ (k + 3) (a.f0 == 1 && b.f0 == 1) op N s l a b = some (tup z)) ∧ Ev (fun k => implJ k op a b) (tup z) ∧ Nf z := by
  by_cases ca : a.f0 = 1
  · have fa : (a.f0 == 1) = true := by simp [ca]
    by_cases cb : b.f0 = 1
    · have fb : (b.f0 == 1) = true := by simp [cb]
      obtain ⟨v, ok, e1, e2, e8⟩ := compute_ok op a.f1 b.f1 ho
      cases ok with
      | true =>
        refine ⟨numT v, fun k => ?_, ⟨2, fun k hk => ?_⟩, nf_num v⟩
        · simp only [specJ, spec_l11Fold.j0, fa, fb, Bool.and_self, if_true, e1, Option.bind_some, specNum]
        · obtain ⟨i, rfl⟩ : ∃ i, k = i + 2 := ⟨k - 2, by omega⟩
          simp only [implJ, impl_foldTwo.f, impl_foldTwo.j0, fb, if_pos ca, if_true, e2, Option.bind_some, implNum]
      | false =>
        have o8 := e8 rfl
        refine ⟨⟨op, 0, ⟨#[]⟩, [a, b]⟩, fun k => ?_, ⟨2, fun k hk => ?_⟩, nf_other _ _ _ _ (by omega) (by omega)⟩
        · simp only [specJ, spec_l11Fold.j0, fa, fb, Bool.and_self, if_true, e1, Option.bind_some]
          rw [if_neg (by decide)]
          simp only [spec_l11Fold.j1, spec_l11Fold.j2]
          rw [if_neg (by omega), if_neg (by omega), if_neg (by decide), if_neg (by omega)]; simp only [tup, etaI]
        · obtain ⟨i, rfl⟩ : ∃ i, k = i + 2 := ⟨k - 2, by omega⟩
          simp only [implJ, impl_foldTwo.f, impl_foldTwo.j0, fb, if_pos ca, if_true, e2, Option.bind_some]
          rw [if_neg (by decide), implTwo]; rfl
    · have fb : (b.f0 == 1) = false := beq_false_of_ne cb
      by_cases c5 : op = 5
      · subst c5
        obtain ⟨z, z1, ⟨K, z2⟩, z3⟩ := sum_ok b nb a.f1 a.f1 (by have := na.word ca; omega) (by have := na.word ca; omega)
        refine ⟨z, fun k => ?_, ⟨K + 3, fun k hk => ?_⟩, z3⟩
        · simp only [specJ, spec_l11Fold.j0, fa, fb, Bool.and_false]
          rw [if_neg (by decide)]
          simp only [spec_l11Fold.j1, spec_l11Fold.j2, fa, if_true]
          rw [if_neg (by decide), z1]; rfl
        · obtain ⟨i, rfl⟩ : ∃ i, k = i + 3 := ⟨k - 3, by omega⟩
          simp only [implJ, impl_foldTwo.f, impl_foldTwo.j0, impl_foldTwo.j1, fa, fb, if_pos ca, if_true]
          have e := z2 (i + 1) (by omega)
          dsimp only at e
          rw [if_neg (by decide), e]; rfl
      by_cases c6 : op = 6
      · subst c6
        obtain ⟨x, n, p1, _, _, p2⟩ := part_ok a na
        obtain ⟨y, m, q1, _, _, q2⟩ := part_ok b nb
        exact sub_ok N s l a b x y n m (by simp [ca, cb]) cb p1 p2 q1 q2
      · refine ⟨⟨op, 0, ⟨#[]⟩, [a, b]⟩, fun k => ?_, ⟨5, fun k hk => ?_⟩, nf_other _ _ _ _ (by omega) (by omega)⟩
        · simp only [specJ, spec_l11Fold.j0, fa, fb, Bool.and_false]
          rw [if_neg (by decide)]
          simp only [spec_l11Fold.j1, spec_l11Fold.j2]
          rw [if_neg c6, if_neg c5, if_neg (by decide), if_neg c5]; simp only [tup, etaI]
        · obtain ⟨i, rfl⟩ : ∃ i, k = i + 5 := ⟨k - 5, by omega⟩
          simp only [implJ, impl_foldTwo.f, impl_foldTwo.j0, impl_foldTwo.j1, impl_foldTwo.j2, impl_foldTwo.j3, fa, fb, if_pos ca, if_neg c5, if_neg c6, implTwo]; rfl
  · have fa : (a.f0 == 1) = false := beq_false_of_ne ca
    have ff : (a.f0 == 1 && b.f0 == 1) = false := by rw [fa]; rfl
    by_cases cb : b.f0 = 1
    · have fb : (b.f0 == 1) = true := by simp [cb]
      have wb := nb.word cb
      by_cases c5 : op = 5
      · subst c5
        obtain ⟨z, z1, ⟨K, z2⟩, z3⟩ := sum_ok a na b.f1 b.f1 (by omega) (by omega)
        refine ⟨z, fun k => ?_, ⟨K + 4, fun k hk => ?_⟩, z3⟩
        · simp only [specJ, spec_l11Fold.j0, ff]
          rw [if_neg (by decide)]
          simp only [spec_l11Fold.j1, spec_l11Fold.j2, fa, if_true]
          rw [if_neg (by decide), if_neg (by decide), if_pos cb, z1]; rfl
        · obtain ⟨i, rfl⟩ : ∃ i, k = i + 4 := ⟨k - 4, by omega⟩
          simp only [implJ, impl_foldTwo.f, impl_foldTwo.j0, impl_foldTwo.j1, impl_foldTwo.j2, fa, fb, if_neg ca, if_true]
          have e := z2 (i + 1) (by omega)
          dsimp only at e
          rw [if_neg (by decide), if_neg (by decide), e]; rfl
      by_cases c6 : op = 6
      · subst c6
        have wn : wrap64 (-b.f1) = -b.f1 := w64 (by omega) (by omega)
        obtain ⟨z, z1, ⟨K, z2⟩, z3⟩ := sum_ok a na (-b.f1) ((-b.f1) % 65536) (by omega) rfl
        refine ⟨z, fun k => ?_, ⟨K + 5, fun k hk => ?_⟩, z3⟩
        · simp only [specJ, spec_l11Fold.j0, ff]
          rw [if_neg (by decide)]
          simp only [spec_l11Fold.j1]
          rw [if_pos trivial]
          unfold spec_l11Sub.f
          rw [if_pos cb, wn, z1]; rfl
        · obtain ⟨i, rfl⟩ : ∃ i, k = i + 5 := ⟨k - 5, by omega⟩
          have d5 : ¬ (6 : Int) = 5 := by decide
          simp only [implJ, impl_foldTwo.f, impl_foldTwo.j0, impl_foldTwo.j1, impl_foldTwo.j2, impl_foldTwo.j3, fa, fb, if_neg ca, if_neg d5, if_true, impl_Wrap.f, and65535, Option.bind_some, wn]
          have e := z2 (i + 1) (by omega)
          dsimp only at e
          rw [if_neg (by decide), if_neg (by decide), if_neg (by decide), e]; rfl
      · refine ⟨⟨op, 0, ⟨#[]⟩, [a, b]⟩, fun k => ?_, ⟨5, fun k hk => ?_⟩, nf_other _ _ _ _ (by omega) (by omega)⟩
        · simp only [specJ, spec_l11Fold.j0, ff]
          rw [if_neg (by decide)]
          simp only [spec_l11Fold.j1, spec_l11Fold.j2]
          rw [if_neg c6, if_neg c5, if_neg (by decide), if_neg c5]; simp only [tup, etaI]
        · obtain ⟨i, rfl⟩ : ∃ i, k = i + 5 := ⟨k - 5, by omega⟩
          simp only [implJ, impl_foldTwo.f, impl_foldTwo.j0, impl_foldTwo.j1, impl_foldTwo.j2, impl_foldTwo.j3, fa, fb, if_neg ca, if_neg c5, if_neg c6, implTwo]; rfl
    · have fb : (b.f0 == 1) = false := beq_false_of_ne cb
      by_cases c6 : op = 6
      · subst c6
        obtain ⟨x, n, p1, _, _, p2⟩ := part_ok a na
        obtain ⟨y, m, q1, _, _, q2⟩ := part_ok b nb
        exact sub_ok N s l a b x y n m ff cb p1 p2 q1 q2
      · refine ⟨⟨op, 0, ⟨#[]⟩, [a, b]⟩, fun k => ?_, ⟨5, fun k hk => ?_⟩, .inl ⟨fun _ => ⟨a, b, rfl, cb⟩, fun h => absurd h (by show ¬ op = 1; omega)⟩⟩
        · simp only [specJ, spec_l11Fold.j0, ff]
          rw [if_neg (by decide)]
          simp only [spec_l11Fold.j1, spec_l11Fold.j2, fa]
          rw [if_neg c6]
          by_cases c5 : op = 5
          · rw [if_pos c5, if_neg (by decide), if_pos c5, if_neg cb]; simp only [tup, etaI]
          · rw [if_neg c5, if_neg (by decide), if_neg c5]; simp only [tup, etaI]
        · obtain ⟨i, rfl⟩ : ∃ i, k = i + 5 := ⟨k - 5, by omega⟩
          simp only [implJ, impl_foldTwo.f, impl_foldTwo.j0, impl_foldTwo.j1, impl_foldTwo.j2, impl_foldTwo.j3, fa, fb, if_neg ca, if_neg c6, ite_self, implTwo]; rfl
theorem fold_ok (x : S29) (s : Shp x) : ∃ y, Ev (fun k => spec_l11Fold.f k x.f0 x.f1 x.f2 x.f3) (tup y) ∧ Ev (fun k => impl_fold.f k x.f0 x.f1 x.f2 x.f3) (tup y) ∧ Nf y := by
  have isTwo : ∀ K : Int, impl_isTwo.f K = some (decide (5 ≤ K ∧ K ≤ 10)) := fun K => by unfold impl_isTwo.f; rw [within_ok]; rfl
  induction s with
  | leaf x h h4 h5 hn =>
    refine ⟨x, ⟨3, fun k hk => ?_⟩, ⟨1, fun k hk => ?_⟩, .inl ⟨fun c => by omega, hn⟩⟩
    · obtain ⟨i, rfl⟩ : ∃ i, k = i + 3 := ⟨k - 3, by omega⟩
      simp only [spec_l11Fold.f, h, spec_l11Copy.f, spec_l11Copy.l0]
      rw [if_pos (by rfl), if_neg (by decide)]
      simp only [Option.bind_some, tup, h]
    · obtain ⟨i, rfl⟩ : ∃ i, k = i + 1 := ⟨k - 1, by omega⟩
      simp only [impl_fold.f, isTwo, decide_eq_false h5, Option.bind_some]
      rw [if_neg h4, if_neg (by decide)]; rfl
  | neg x y h h4 hy ih =>
    obtain ⟨a, ⟨K, es⟩, ⟨L, ai⟩, na⟩ := ih
    refine ⟨if a.f0 = 1 then numT (wrap64 (-a.f1)) else ⟨4, 0, ⟨#[]⟩, [a]⟩, ⟨K + 1, fun k hk => ?_⟩, ⟨L + 1, fun k hk => ?_⟩, ?_⟩
    · obtain ⟨i, rfl⟩ : ∃ i, k = i + 1 := ⟨k - 1, by omega⟩
      simp only [spec_l11Fold.f, h, rd0, es i (by omega), Option.bind_some]
      rw [if_neg (by simp), if_pos (by simp), if_pos h4]
      by_cases c : a.f0 = 1
      · rw [if_pos c]; exact (if_pos c).trans (by rw [show (tup a).2.1 = a.f1 from rfl, specNum]; rfl)
      · rw [if_neg c]; exact (if_neg c).trans (by simp only [tup, etaI])
    · obtain ⟨i, rfl⟩ : ∃ i, k = i + 1 := ⟨k - 1, by omega⟩
      simp only [impl_fold.f, h, rd0, ai i (by omega), Option.bind_some]
      rw [if_pos h4, if_pos (by simp)]
      by_cases c : a.f0 = 1
      · rw [if_pos c]; exact (if_pos c).trans (by rw [show (tup a).2.1 = a.f1 from rfl, implNum]; rfl)
      · rw [if_neg c]; exact (if_neg c).trans (by simp only [tup, etaI])
    · by_cases c : a.f0 = 1
      · rw [if_pos c]; exact nf_num _
      · rw [if_neg c]; exact nf_other _ _ _ _ (by decide) (by decide)
  | two x y z h h5 hy hz ihy ihz =>
    obtain ⟨a, ⟨K, es⟩, ⟨L, ai⟩, na⟩ := ihy
    obtain ⟨b, ⟨M, bs⟩, ⟨O, bi⟩, nb⟩ := ihz
    obtain ⟨r, rs, ⟨R, ri⟩, nr⟩ := j_ok x.f0 x.f1 x.f2 x.f3 a b h5 na nb
    refine ⟨r, ⟨K + M + 4, fun k hk => ?_⟩, ⟨L + O + R + 1, fun k hk => ?_⟩, nr⟩
    · obtain ⟨i, rfl⟩ : ∃ i, k = i + 4 := ⟨k - 4, by omega⟩
      have e := rs i
      simp only [specJ, h] at e
      show spec_l11Fold.f (i + 3 + 1) x.f0 x.f1 x.f2 x.f3 = _
      obtain ⟨m, hm⟩ : ∃ m, m = i + 3 := ⟨_, rfl⟩
      rw [← hm] at e ⊢
      have e1 := es m (by omega)
      have e2 := bs m (by omega)
      dsimp only at e1 e2
      simp only [spec_l11Fold.f, h, rd0, rd1, e1, e2, Option.bind_some]
      rw [if_neg (by simp), if_pos (by simp), if_neg (by omega), if_pos (by simp)]
      by_cases c : a.f0 = 1
      · rw [beq_iff_eq.mpr c, Bool.true_and] at e; exact (if_pos c).trans e
      · rw [beq_false_of_ne c, Bool.false_and] at e; exact (if_neg c).trans e
    · obtain ⟨i, rfl⟩ : ∃ i, k = i + 1 := ⟨k - 1, by omega⟩
      have e := ri i (by omega)
      simp only [implJ] at e
      simp only [impl_fold.f, h, rd0, rd1, isTwo, decide_eq_true h5, ai i (by omega), bi i (by omega), Option.bind_some]
      rw [if_neg (by omega), if_pos trivial, if_pos (by simp), if_pos (by simp)]
      exact (congrArg (fun o => o.bind fun bt => some (bt.1, bt.2.1, bt.2.2.1, bt.2.2.2)) e).trans rfl
inductive NodE : List S24 → Nat → Prop
  | nil : NodE [] 0
  | cons (x : S24) (l : List S24) (n m : Nat) (h : NodE x.f3 n) (g : NodE l m) : NodE (x :: l) (1 + n + m)
inductive NodI : List S29 → Nat → Prop
  | nil : NodI [] 0
  | cons (x : S29) (l : List S29) (n m : Nat) (h : NodI x.f3 n) (g : NodI l m) : NodI (x :: l) (1 + n + m)
theorem nod_copy : ∀ (l : List S24) (r : List S29), r.length = l.length → (∀ (j : Nat) (h1 : j < l.length) (h2 : j < r.length), ∀ n, NodE l[j].f3 n → NodI r[j].f3 n) → ∀ n, NodE l n → NodI r n
  | [], [], _, _, n, h => by cases h; exact .nil
  | [], y :: r, h, _, _, _ => by simp at h
  | x :: l, [], h, _, _, _ => by simp at h
  | x :: l, y :: r, h, H, n, g => by
    cases g with
    | cons _ _ n m a b => exact .cons y r n m (H 0 (by simp) (by simp) n a) (nod_copy l r (by simpa using h) (fun j h1 h2 => H (j + 1) (by simpa using h1) (by simpa using h2)) m b)
inductive GoodT : S24 → Prop
  | mk (x : S24) (h0 : (Lit.int .i64 x.f0).wf = true) (h1 : (Lit.int .i64 x.f1).wf = true) (h2 : x.f2.size ≤ maxLen) (h3 : x.f3.length ≤ maxLen) (h : ∀ y ∈ x.f3, GoodT y) : GoodT x
inductive SmallS : S24 → Prop
  | mk (x : S24) (h2 : x.f2.size ≤ 1048576) (h3 : x.f3.length ≤ 1048576) (h : ∀ y ∈ x.f3, SmallS y) : SmallS x
theorem rdE_in (l : List S24) (i : Nat) (h : i < l.length) : rd_T24 l (i : Int) ∈ l := by
  have : rd_T24 l (i : Int) = l[i] := by simp [rd_T24, List.getD_eq_getElem?_getD, h]
  rw [this]; exact List.getElem_mem h
def SzT (x : S24) : Prop := ∀ a : Int, 0 ≤ a → a ≤ 1048576 → ∃ r, Ev (fun k => laws_szExpr.f k x.f0 x.f1 x.f2 x.f3 a) r ∧ (r < 0 ∨ (0 ≤ r ∧ r ≤ a ∧ SmallS x ∧ ∃ n : Nat, NodE x.f3 n ∧ r + n ≤ a))
theorem szExprS_l0 (l : List S24) (hl : l.length ≤ 1048576) (h : ∀ x ∈ l, SzT x) : ∀ (d i : Nat) (a : Int), l.length - i = d → i ≤ l.length → 0 ≤ a → a ≤ 1048576 →
    ∃ r, Ev (fun k => laws_szExprS.l0 k l a (i : Int)) r ∧ (r < 0 ∨ (0 ≤ r ∧ r ≤ a ∧ (∀ j, i ≤ j → ∀ hj : j < l.length, SmallS l[j]) ∧ ∃ n : Nat, NodE (l.drop i) n ∧ r + n ≤ a + (l.length - i : Nat))) := by
  intro d
  induction d with
  | zero =>
    intro i a hd hi h0 h1
    refine ⟨a, Ev.step (f := fun _ => some a) (fun k => ?_) (Ev.now a), .inr ⟨h0, by omega, fun j hj hj' => by omega, 0, by rw [List.drop_of_length_le (by omega)]; exact .nil, by omega⟩⟩
    simp only [laws_szExprS.l0]; rw [if_neg (by omega)]
  | succ d ih =>
    intro i a hd hi h0 h1
    have hlt : i < l.length := by omega
    have hx : rd_T24 l (i : Int) = l[i] := by simp [rd_T24, List.getD_eq_getElem?_getD, hlt]
    obtain ⟨r, hr, hc⟩ := h _ (rdE_in l i hlt) a h0 h1
    by_cases hn : r < 0
    · refine ⟨-1, ?_, .inl (by omega)⟩
      refine Ev.step (f := fun k => (laws_szExpr.f k (rd_T24 l (i : Int)).f0 (rd_T24 l (i : Int)).f1 (rd_T24 l (i : Int)).f2 (rd_T24 l (i : Int)).f3 a).bind fun t => if t < 0 then some (-1) else laws_szExprS.l0 k l t (wrap64 ((i : Int) + 1))) (fun k => ?_) (Ev.bind hr ?_)
      · simp only [laws_szExprS.l0]; rw [if_pos (by omega), if_pos (by omega)]
      · refine Ev.congr (f := fun _ => some (-1)) (fun k => ?_) (Ev.now _)
        rw [if_pos hn]
    · obtain ⟨p0, p1, p2, n1, p3, p4⟩ := hc.resolve_left hn
      clear hc
      obtain ⟨q, hq, hqc⟩ := ih (i + 1) r (by omega) (by omega) p0 (by omega)
      refine ⟨q, ?_, ?_⟩
      · refine Ev.step (f := fun k => (laws_szExpr.f k (rd_T24 l (i : Int)).f0 (rd_T24 l (i : Int)).f1 (rd_T24 l (i : Int)).f2 (rd_T24 l (i : Int)).f3 a).bind fun t => if t < 0 then some (-1) else laws_szExprS.l0 k l t (wrap64 ((i : Int) + 1))) (fun k => ?_) (Ev.bind hr ?_)
        · simp only [laws_szExprS.l0]; rw [if_pos (by omega), if_pos (by omega)]
        · refine Ev.congr (f := fun k => laws_szExprS.l0 k l r ((i + 1 : Nat) : Int)) (fun k => ?_) hq
          rw [if_neg hn, w64 (x := (i : Int) + 1) (by omega) (by omega)]; rfl
      · rcases hqc with hq' | ⟨q0, q1, q2, n2, q3, q4⟩
        · exact .inl hq'
        · have hN : q + ((1 + n1 + n2 : Nat) : Int) ≤ a + ((l.length - i : Nat) : Int) := by clear hq hr h; omega
          refine .inr ⟨q0, by omega, fun j hj hj' => ?_, 1 + n1 + n2, ?_, hN⟩
          · by_cases e : i = j
            · subst e; rw [← hx]; exact p2
            · exact q2 j (by omega) hj'
          · rw [List.drop_eq_getElem_cons hlt]; rw [hx] at p3; exact .cons _ _ n1 n2 p3 q3
theorem szExpr_ok (x : S24) (g : GoodT x) : SzT x := by
  induction g with
  | mk x h0 h1 h2 h3 h ih =>
    intro a a0 a1
    have hm : maxLen = 9223372036854775807 := rfl
    have w1 : wrap64 (a - (x.f2.size : Int)) = a - x.f2.size := w64 (by omega) (by omega)
    by_cases c : a - (x.f2.size : Int) < 0
    · refine ⟨-1, Ev.step (f := fun _ => some (-1)) (fun k => ?_) (Ev.now _), .inl (by omega)⟩
      simp only [laws_szExpr.f, w1]; rw [if_pos c]
    have w2 : wrap64 (a - (x.f2.size : Int) - (x.f3.length : Int)) = a - x.f2.size - x.f3.length := w64 (by omega) (by omega)
    have st : ∀ (q : Int), Ev (fun k => laws_szExprS.f k x.f3 (a - x.f2.size)) q → Ev (fun k => laws_szExpr.f k x.f0 x.f1 x.f2 x.f3 a) (if q < 0 then -1 else q) := by
      intro q hq
      refine Ev.step (f := fun k => (laws_szExprS.f k x.f3 (a - x.f2.size)).bind fun t => if t < 0 then some (-1) else some t) (fun k => ?_) (Ev.bind hq ?_)
      · simp only [laws_szExpr.f, w1]; rw [if_neg c]
      · refine Ev.congr (f := fun _ => some (if q < 0 then -1 else q)) (fun k => ?_) (Ev.now _)
        by_cases e : q < 0
        · rw [if_pos e, if_pos e]
        · rw [if_neg e, if_neg e]
    by_cases c2 : a - (x.f2.size : Int) - (x.f3.length : Int) < 0
    · refine ⟨-1, ?_, .inl (by omega)⟩
      have := st (-1) (Ev.step (f := fun _ => some (-1)) (fun k => by simp only [laws_szExprS.f, w2]; rw [if_pos c2]) (Ev.now _))
      exact this
    · obtain ⟨r, hr, hc⟩ := szExprS_l0 x.f3 (by omega) ih x.f3.length 0 (a - x.f2.size - x.f3.length) (by omega) (by omega) (by omega) (by omega)
      have hs := st r (Ev.step (f := fun k => laws_szExprS.l0 k x.f3 (a - x.f2.size - x.f3.length) ((0 : Nat) : Int)) (fun k => by simp only [laws_szExprS.f, w2]; rw [if_neg c2]; rfl) hr)
      refine ⟨_, hs, ?_⟩
      rcases hc with hn | ⟨r0, r1, r2, n, r3, r4⟩
      · rw [if_pos hn]; exact .inl (by omega)
      · rw [if_neg (by omega)]
        refine .inr ⟨r0, by omega, SmallS.mk x (by omega) (by omega) (fun y hy => ?_), n, by simpa using r3, by omega⟩
        obtain ⟨j, hj, e⟩ := List.getElem_of_mem hy
        rw [← e]; exact r2 j (by omega) hj
def ToT (x : S24) : Prop := ∃ y : S29, Ev (fun k => laws_toExpr.f k x.f0 x.f1 x.f2 x.f3) (y.f0, y.f1, y.f2, y.f3) ∧ Small y ∧ ∀ n, NodE x.f3 n → NodI y.f3 n
theorem toExprS_l0 (l : List S24) (hl : l.length ≤ 1048576) (h : ∀ x ∈ l, ToT x) : ∀ (d i : Nat) (z : List S29), l.length - i = d → i ≤ l.length → z.length = l.length → (∀ j, j < i → ∀ (h1 : j < l.length) (hj : j < z.length), Small z[j] ∧ ∀ n, NodE l[j].f3 n → NodI z[j].f3 n) →
    ∃ r, Ev (fun k => laws_toExprS.l0 k l z (i : Int)) r ∧ r.length = l.length ∧ ∀ j, ∀ (h1 : j < l.length) (hj : j < r.length), Small r[j] ∧ ∀ n, NodE l[j].f3 n → NodI r[j].f3 n := by
  intro d
  induction d with
  | zero =>
    intro i z hd hi hz hs
    refine ⟨z, Ev.step (f := fun _ => some z) (fun k => ?_) (Ev.now z), hz, fun j h1 hj => hs j (by omega) h1 hj⟩
    simp only [laws_toExprS.l0]; rw [if_neg (by omega)]
  | succ d ih =>
    intro i z hd hi hz hs
    have hlt : i < l.length := by omega
    have hx : rd_T24 l (i : Int) = l[i] := by simp [rd_T24, List.getD_eq_getElem?_getD, hlt]
    obtain ⟨y, hy, sy, cy⟩ := h _ (rdE_in l i hlt)
    obtain ⟨r, hr, hrl, hrs⟩ := ih (i + 1) (z.set i (⟨y.f0, y.f1, y.f2, y.f3⟩ : S29)) (by omega) (by omega) (by simpa using hz) (fun j hj h1 hj' => by
      rw [List.getElem_set]
      split
      · rename_i ej; subst ej
        have e : (⟨y.f0, y.f1, y.f2, y.f3⟩ : S29) = y := by cases y; rfl
        rw [e]; rw [hx] at cy; exact ⟨sy, cy⟩
      · exact hs j (by omega) h1 (by simpa using hj'))
    refine ⟨r, ?_, hrl, hrs⟩
    refine Ev.step (f := fun k => (laws_toExpr.f k (rd_T24 l (i : Int)).f0 (rd_T24 l (i : Int)).f1 (rd_T24 l (i : Int)).f2 (rd_T24 l (i : Int)).f3).bind fun bt => if (i : Int) < (z.length : Int) then laws_toExprS.l0 k l (z.set (i : Int).toNat (⟨bt.1, bt.2.1, bt.2.2.1, bt.2.2.2⟩ : S29)) (wrap64 ((i : Int) + 1)) else none) (fun k => ?_) (Ev.bind hy ?_)
    · simp only [laws_toExprS.l0]; rw [if_pos (by omega), if_pos (by omega)]
    · refine Ev.congr (f := fun k => laws_toExprS.l0 k l (z.set i (⟨y.f0, y.f1, y.f2, y.f3⟩ : S29)) ((i + 1 : Nat) : Int)) (fun k => ?_) hr
      rw [if_pos (by omega), w64 (x := (i : Int) + 1) (by omega) (by omega)]; rfl
theorem toExpr_ok (x : S24) (g : SmallS x) : ToT x := by
  induction g with
  | mk x h2 h3 h ih =>
    obtain ⟨r, hr, hrl, hrs⟩ := toExprS_l0 x.f3 h3 ih x.f3.length 0 (List.replicate x.f3.length z29) (by omega) (by omega) (by simp) (fun j hj => by omega)
    refine ⟨⟨x.f0, x.f1, x.f2, r⟩, ?_, Small.mk _ h2 (by show r.length ≤ 1048576; omega) (fun y hy => ?_), nod_copy _ _ hrl (fun j a b => (hrs j a b).2)⟩
    · refine Ev.step (f := fun k => (laws_toExprS.f k x.f3).bind fun t => some (x.f0, x.f1, x.f2, t)) (fun k => by simp only [laws_toExpr.f]) (Ev.bind (a := r) ?_ (Ev.now _))
      refine Ev.step (f := fun k => laws_toExprS.l0 k x.f3 (List.replicate x.f3.length z29) ((0 : Nat) : Int)) (fun k => ?_) hr
      simp only [laws_toExprS.f]; rw [if_pos (by omega), if_pos (by omega)]; rfl
    · obtain ⟨j, hj, e⟩ := List.getElem_of_mem hy
      rw [← e]; exact (hrs j (by have h7 : j < r.length := hj; omega) hj).1
def EqT (x : S29) : Prop := Ev (fun k => laws_eqExpr.f k x.f0 x.f1 x.f2 x.f3 x.f0 x.f1 x.f2 x.f3) true
theorem eqExprS_l0 (l : List S29) (hl : l.length ≤ 1048576) (h : ∀ x ∈ l, EqT x) : ∀ (d i : Nat), l.length - i = d → i ≤ l.length → Ev (fun k => laws_eqExprS.l0 k l l (i : Int)) true := by
  intro d
  induction d with
  | zero =>
    intro i hd hi
    refine Ev.step (f := fun _ => some true) (fun k => ?_) (Ev.now _)
    simp only [laws_eqExprS.l0]; rw [if_neg (by omega)]
  | succ d ih =>
    intro i hd hi
    have hlt : i < l.length := by omega
    refine Ev.step (f := fun k => (laws_eqExpr.f k (rd_T29 l (i : Int)).f0 (rd_T29 l (i : Int)).f1 (rd_T29 l (i : Int)).f2 (rd_T29 l (i : Int)).f3 (rd_T29 l (i : Int)).f0 (rd_T29 l (i : Int)).f1 (rd_T29 l (i : Int)).f2 (rd_T29 l (i : Int)).f3).bind fun t => if t = true then laws_eqExprS.l0 k l l (wrap64 ((i : Int) + 1)) else some false) (fun k => ?_) (Ev.bind (h _ (rdI_in l i hlt)) ?_)
    · simp only [laws_eqExprS.l0]; rw [if_pos (by omega), if_pos (by omega), if_pos (by omega)]
    · refine Ev.congr (f := fun k => laws_eqExprS.l0 k l l ((i + 1 : Nat) : Int)) (fun k => ?_) (ih (i + 1) (by omega) (by omega))
      rw [if_pos rfl, w64 (x := (i : Int) + 1) (by omega) (by omega)]; rfl
theorem eqExpr_ok (x : S29) (g : Small x) : EqT x := by
  induction g with
  | mk x h2 h3 h ih =>
    refine Ev.step (f := fun k => (laws_eqExprS.f k x.f3 x.f3).bind fun t => if t = true then some true else some false) (fun k => ?_) (Ev.bind (a := true) ?_ (Ev.now _))
    · simp only [laws_eqExpr.f]; rw [if_pos trivial, if_pos trivial, if_pos trivial]
    · refine Ev.step (f := fun k => laws_eqExprS.l0 k x.f3 x.f3 ((0 : Nat) : Int)) (fun k => ?_) (eqExprS_l0 x.f3 h3 ih x.f3.length 0 (by omega) (by omega))
      simp only [laws_eqExprS.f]; rw [if_pos trivial]; rfl
def SnT (s : ByteArray) (l : List S29) (m : Nat) : Prop := s.size ≤ 1048576 ∧ l.length ≤ 1048576 ∧ (∀ y ∈ l, Small y) ∧ ∃ n, NodI l n ∧ n ≤ m
theorem SnT.le {s : ByteArray} {l : List S29} {m n : Nat} (h : SnT s l m) (e : m ≤ n) : SnT s l n := by
  obtain ⟨a, b, c, k, d, f⟩ := h
  exact ⟨a, b, c, k, d, by omega⟩
theorem SnT.nil {m : Nat} : SnT (⟨#[]⟩ : ByteArray) [] m := ⟨by decide, by simp, fun y h => by simp at h, 0, .nil, by omega⟩
theorem Small.parts {x : S29} (h : Small x) : x.f2.size ≤ 1048576 ∧ x.f3.length ≤ 1048576 ∧ ∀ y ∈ x.f3, Small y := by
  cases h with
  | mk _ a b c => exact ⟨a, b, c⟩
theorem nod_at {l : List S29} {n : Nat} (h : NodI l n) : ∀ x ∈ l, ∃ k, NodI x.f3 k ∧ k + 1 ≤ n := by
  induction h with
  | nil => intro x hx; simp at hx
  | cons x l n m a b ia ib =>
    intro y hy
    rcases List.mem_cons.1 hy with rfl | hy
    · exact ⟨n, a, by omega⟩
    · obtain ⟨k, c, d⟩ := ib y hy
      exact ⟨k, c, by omega⟩
theorem SnT.one {s : ByteArray} {l : List S29} {m : Nat} (h : SnT s l m) (i : Nat) (hi : i < l.length) : ∃ k, SnT (rd_T29 l (i : Int)).f2 (rd_T29 l (i : Int)).f3 k ∧ k + 1 ≤ m := by
  obtain ⟨a, b, c, n, d, e⟩ := h
  have hm := rdI_in l i hi
  obtain ⟨k, f, g⟩ := nod_at d _ hm
  obtain ⟨p, q, r⟩ := (c _ hm).parts
  exact ⟨k, ⟨p, q, r, k, f, Nat.le_refl _⟩, by omega⟩
theorem SnT.two {s : ByteArray} {l : List S29} {m : Nat} (h : SnT s l m) (hl : 1 < l.length) : ∃ i j, SnT (rd_T29 l 0).f2 (rd_T29 l 0).f3 i ∧ SnT (rd_T29 l 1).f2 (rd_T29 l 1).f3 j ∧ i + j + 2 ≤ m := by
  obtain ⟨a, b, c, n, d, e⟩ := h
  match l, d, c, hl with
  | x :: y :: r, d, c, _ =>
    cases d with
    | cons _ _ i k d1 d2 =>
      cases d2 with
      | cons _ _ j q d3 d4 =>
        obtain ⟨p0, p1, p2⟩ := (c x (by simp)).parts
        obtain ⟨q0, q1, q2⟩ := (c y (by simp)).parts
        exact ⟨i, j, ⟨p0, p1, p2, i, d1, Nat.le_refl _⟩, ⟨q0, q1, q2, j, d3, Nat.le_refl _⟩, by omega⟩
theorem SnT.small {s : ByteArray} {l : List S29} {m : Nat} (h : SnT s l m) (a b : Int) : Small ⟨a, b, s, l⟩ := Small.mk _ h.1 h.2.1 h.2.2.1
theorem two_sn {op a0 a1 b0 b1 r0 r1 : Int} {a2 b2 r2 : ByteArray} {l m r3 : List S29} {i j : Nat} (h : impl_two.f op a0 a1 a2 l b0 b1 b2 m = some (r0, r1, r2, r3)) (ha : SnT a2 l i) (hb : SnT b2 m j) : SnT r2 r3 (2 + i + j) := by
  simp only [impl_two.f, Option.some.injEq, Prod.mk.injEq] at h
  obtain ⟨_, _, rfl, rfl⟩ := h
  have sa := ha.small a0 a1
  have sb := hb.small b0 b1
  obtain ⟨_, _, _, n, hn, en⟩ := ha
  obtain ⟨_, _, _, q, hq, eq⟩ := hb
  refine ⟨by decide, by simp, fun y hy => ?_, 1 + n + (1 + q + 0), .cons _ _ n _ hn (.cons _ _ q 0 hq .nil), by omega⟩
  simp only [List.mem_cons, List.not_mem_nil, or_false] at hy
  rcases hy with rfl | rfl
  · exact sa
  · exact sb
theorem num_sn {n r0 r1 : Int} {r2 : ByteArray} {r3 : List S29} {m : Nat} (h : impl_number.f n = some (r0, r1, r2, r3)) : SnT r2 r3 m := by
  unfold impl_number.f at h
  obtain ⟨t, _, h⟩ := Option.bind_eq_some_iff.1 h
  simp only [Option.some.injEq, Prod.mk.injEq] at h
  obtain ⟨_, _, rfl, rfl⟩ := h
  exact SnT.nil
theorem bind4 {f : Option (Int × Int × ByteArray × List S29)} {r0 r1 : Int} {r2 : ByteArray} {r3 : List S29} (h : (f.bind fun bt => some (bt.1, bt.2.1, bt.2.2.1, bt.2.2.2)) = some (r0, r1, r2, r3)) : f = some (r0, r1, r2, r3) := by
  obtain ⟨⟨a, b, c, d⟩, e, h⟩ := Option.bind_eq_some_iff.1 h
  rw [e]; exact h
theorem added_sn (k : Nat) : ∀ (a0 a1 : Int) (a2 : ByteArray) (l : List S29) (n r0 r1 : Int) (r2 : ByteArray) (r3 : List S29) (m : Nat), impl_added.f k a0 a1 a2 l n = some (r0, r1, r2, r3) → SnT a2 l m → SnT r2 r3 (m + 2) := by
  induction k using Nat.strongRecOn with
  | _ k ih =>
    intro a0 a1 a2 l n r0 r1 r2 r3 m h hs
    cases k with
    | zero => simp [impl_added.f] at h
    | succ k =>
      have J : ∀ b, impl_added.j0 k n b a0 a1 a2 l = some (r0, r1, r2, r3) → SnT r2 r3 (m + 2) := by
        intro b h
        cases k with
        | zero => simp [impl_added.j0] at h
        | succ k =>
          simp only [impl_added.j0] at h
          cases b with
          | true =>
            rw [if_pos rfl] at h
            by_cases c : 1 < (l.length : Int)
            · rw [if_pos (by omega), if_pos c] at h
              obtain ⟨t, _, h⟩ := Option.bind_eq_some_iff.1 h
              obtain ⟨i, j, p, q, e⟩ := hs.two (by omega)
              exact (ih k (by omega) _ _ _ _ _ _ _ _ _ _ (bind4 h) p).le (by omega)
            · rw [if_neg c] at h
              split at h <;> simp at h
          | false =>
            rw [if_neg (by decide)] at h
            split at h
            · simp only [Option.some.injEq, Prod.mk.injEq] at h
              obtain ⟨_, _, rfl, rfl⟩ := h
              exact hs.le (by omega)
            · obtain ⟨⟨t0, t1, t2, t3⟩, e, h⟩ := Option.bind_eq_some_iff.1 h
              exact (two_sn (bind4 h) hs (num_sn (m := 0) e)).le (by omega)
      simp only [impl_added.f] at h
      split at h
      · split at h
        · exact J _ h
        · simp at h
      · exact J _ h
theorem foldTwo_sn {k : Nat} {op a0 a1 b0 b1 r0 r1 : Int} {a2 b2 r2 : ByteArray} {l m r3 : List S29} {i j : Nat} (h : impl_foldTwo.f k op a0 a1 a2 l b0 b1 b2 m = some (r0, r1, r2, r3)) (ha : SnT a2 l i) (hb : SnT b2 m j) : SnT r2 r3 (2 + i + j) := by
  have J4 : ∀ k x y b, impl_foldTwo.j4 k op x y b a0 a1 a2 l b0 b1 b2 m = some (r0, r1, r2, r3) → SnT r2 r3 (2 + i + j) := by
    intro k x y b h
    cases k with
    | zero => simp [impl_foldTwo.j4] at h
    | succ k =>
      simp only [impl_foldTwo.j4] at h
      split at h
      · exact num_sn (bind4 h)
      · exact two_sn (bind4 h) ha hb
  have J3 : ∀ k b, impl_foldTwo.j3 k op b a0 a1 a2 l b0 b1 b2 m = some (r0, r1, r2, r3) → SnT r2 r3 (2 + i + j) := by
    intro k b h
    cases k with
    | zero => simp [impl_foldTwo.j3] at h
    | succ k =>
      simp only [impl_foldTwo.j3] at h
      split at h
      · obtain ⟨t, _, h⟩ := Option.bind_eq_some_iff.1 h
        exact (added_sn _ _ _ _ _ _ _ _ _ _ _ (bind4 h) ha).le (by omega)
      · split at h
        · obtain ⟨t, _, h⟩ := Option.bind_eq_some_iff.1 h
          obtain ⟨u, _, h⟩ := Option.bind_eq_some_iff.1 h
          split at h
          · split at h <;> exact J4 _ _ _ _ h
          · exact J4 _ _ _ _ h
        · exact two_sn (bind4 h) ha hb
  have J2 : ∀ k b, impl_foldTwo.j2 k op b a0 a1 a2 l b0 b1 b2 m = some (r0, r1, r2, r3) → SnT r2 r3 (2 + i + j) := by
    intro k b h
    cases k with
    | zero => simp [impl_foldTwo.j2] at h
    | succ k =>
      simp only [impl_foldTwo.j2] at h
      split at h
      · exact (added_sn _ _ _ _ _ _ _ _ _ _ _ (bind4 h) ha).le (by omega)
      · split at h <;> exact J3 _ _ h
  have J1 : ∀ k b, impl_foldTwo.j1 k op b a0 a1 a2 l b0 b1 b2 m = some (r0, r1, r2, r3) → SnT r2 r3 (2 + i + j) := by
    intro k b h
    cases k with
    | zero => simp [impl_foldTwo.j1] at h
    | succ k =>
      simp only [impl_foldTwo.j1] at h
      split at h
      · exact (added_sn _ _ _ _ _ _ _ _ _ _ _ (bind4 h) hb).le (by omega)
      · split at h <;> exact J2 _ _ h
  have J0 : ∀ k b, impl_foldTwo.j0 k op b a0 a1 a2 l b0 b1 b2 m = some (r0, r1, r2, r3) → SnT r2 r3 (2 + i + j) := by
    intro k b h
    cases k with
    | zero => simp [impl_foldTwo.j0] at h
    | succ k =>
      simp only [impl_foldTwo.j0] at h
      split at h
      · obtain ⟨t, _, h⟩ := Option.bind_eq_some_iff.1 h
        split at h
        · exact num_sn (bind4 h)
        · exact two_sn (bind4 h) ha hb
      · split at h <;> exact J1 _ _ h
  simp only [impl_foldTwo.f] at h
  split at h <;> exact J0 _ _ h
theorem fold_sn (k : Nat) : ∀ (a0 a1 : Int) (a2 : ByteArray) (l : List S29) (r0 r1 : Int) (r2 : ByteArray) (r3 : List S29) (m : Nat), impl_fold.f k a0 a1 a2 l = some (r0, r1, r2, r3) → SnT a2 l m → SnT r2 r3 m := by
  induction k with
  | zero => intro a0 a1 a2 l r0 r1 r2 r3 m h; simp [impl_fold.f] at h
  | succ k ih =>
    intro a0 a1 a2 l r0 r1 r2 r3 m h hs
    simp only [impl_fold.f] at h
    split at h
    · split at h
      · rename_i c
        obtain ⟨⟨t0, t1, t2, t3⟩, e, h⟩ := Option.bind_eq_some_iff.1 h
        obtain ⟨i, hi, ei⟩ := hs.one 0 (by omega)
        have hc := ih _ _ _ _ _ _ _ _ i e hi
        split at h
        · exact num_sn (bind4 h)
        · simp only [Option.some.injEq, Prod.mk.injEq] at h
          obtain ⟨_, _, rfl, rfl⟩ := h
          have sc := hc.small t0 t1
          obtain ⟨_, _, _, n, hn, en⟩ := hc
          refine ⟨by decide, by simp, fun y hy => ?_, 1 + n + 0, .cons _ _ n 0 hn .nil, by omega⟩
          rw [List.mem_singleton.1 hy]; exact sc
      · simp at h
    · obtain ⟨t, _, h⟩ := Option.bind_eq_some_iff.1 h
      split at h
      · split at h
        · obtain ⟨⟨t0, t1, t2, t3⟩, e, h⟩ := Option.bind_eq_some_iff.1 h
          split at h
          · obtain ⟨⟨u0, u1, u2, u3⟩, f, h⟩ := Option.bind_eq_some_iff.1 h
            obtain ⟨i, j, hi, hj, ei⟩ := hs.two (by omega)
            exact (foldTwo_sn (bind4 h) (ih _ _ _ _ _ _ _ _ i e hi) (ih _ _ _ _ _ _ _ _ j f hj)).le (by omega)
          · simp at h
        · simp at h
      · simp only [Option.some.injEq, Prod.mk.injEq] at h
        obtain ⟨_, _, rfl, rfl⟩ := h
        exact hs
theorem foldAll_ok (u : S29) (su : Small u) (n : Nat) (hn : NodI u.f3 n) : ∃ y : S29, Ev (fun k => spec_Fold.f k u.f0 u.f1 u.f2 u.f3) (tup y) ∧ Ev (fun k => impl_Fold.f k u.f0 u.f1 u.f2 u.f3) (tup y) ∧ Small y ∧ ∃ m, NodI y.f3 m ∧ m ≤ n := by
  obtain ⟨b, b1, b2⟩ := okExpr_ok u su 6 (by omega) (by omega) false
  have s1 : Ev (fun k => spec_ExprOk.f k u.f0 u.f1 u.f2 u.f3) b := Ev.bind b1 (Ev.now _)
  have s2 : Ev (fun k => impl_ExprOk.f k u.f0 u.f1 u.f2 u.f3) b := Ev.bind b2 (Ev.now _)
  cases b with
  | false =>
    refine ⟨u, ?_, ?_, su, n, hn, Nat.le_refl _⟩
    · simp only [spec_Fold.f]
      exact Ev.bind s1 (Ev.congr (fun k => by rw [if_neg (by decide)]) (Ev.bind (specCopy_ok u su) (Ev.now _)))
    · simp only [impl_Fold.f]
      exact Ev.bind (implCopy_ok u su) (Ev.bind s2 (Ev.congr (f := fun _ => some (tup u)) (fun k => by rw [if_neg (by decide)]; rfl) (Ev.now _)))
  | true =>
    obtain ⟨y, y1, y2, _⟩ := fold_ok u (shape_ok u su 6 (by omega) (by omega) b1)
    obtain ⟨p0, p1, p2⟩ := su.parts
    obtain ⟨K, hK⟩ := y2
    have sn := fold_sn K _ _ _ _ _ _ _ _ n (hK K (Nat.le_refl K)) ⟨p0, p1, p2, n, hn, Nat.le_refl _⟩
    refine ⟨y, ?_, ?_, by have h7 := sn.small y.f0 y.f1; cases y; exact h7, sn.2.2.2⟩
    · simp only [spec_Fold.f]
      exact Ev.bind s1 (Ev.congr (fun k => by rw [if_pos rfl]) (Ev.bind y1 (Ev.now _)))
    · simp only [impl_Fold.f]
      exact Ev.bind (implCopy_ok u su) (Ev.bind s2 (Ev.congr (fun k => by rw [if_pos rfl]) (Ev.bind ⟨K, hK⟩ (Ev.now _))))
theorem strOne (x : Int) : (strOfNums [x]).size = 1 := by unfold strOfNums; simp [ByteArray.size]
theorem markText_loop : ∀ (d : Nat) (x : Nat) (t : ByteArray), x < 10 ^ d → d ≤ 19 → t.size + d ≤ 100 → ∃ r, Ev (fun k => laws_markText.l0 k (x : Int) t) r := by
  intro d
  induction d with
  | zero =>
    intro x t hx _ ht
    refine ⟨(⟨#[109]⟩ : ByteArray) ++ t, Ev.step (f := fun _ => some ((⟨#[109]⟩ : ByteArray) ++ t)) (fun k => ?_) (Ev.now _)⟩
    rw [laws_markText.l0.eq_def]; simp only []; rw [if_neg (by simp at hx; omega), if_pos (by omega)]
  | succ d ih =>
    intro x t hx hd ht
    by_cases c : x = 0
    · refine ⟨(⟨#[109]⟩ : ByteArray) ++ t, Ev.step (f := fun _ => some ((⟨#[109]⟩ : ByteArray) ++ t)) (fun k => ?_) (Ev.now _)⟩
      rw [laws_markText.l0.eq_def]; simp only []; rw [if_neg (by omega), if_pos (by omega)]
    · have hp : (10 : Nat) ^ 19 = 10000000000000000000 := by decide
      have hx3 : x / 10 < 10 ^ d := by rw [Nat.pow_succ] at hx; exact Nat.div_lt_of_lt_mul (by rw [Nat.mul_comm]; exact hx)
      obtain ⟨r, hr⟩ := ih (x / 10) (strOfNums [(wrap64 (48 + (Int.tmod (x : Int) 10))) % 256] ++ t) hx3 (by omega) (by rw [ByteArray.size_append, strOne]; omega)
      have e : Int.tdiv (x : Int) 10 = ((x / 10 : Nat) : Int) := by rw [Int.tdiv_eq_ediv_of_nonneg (by omega)]; omega
      by_cases hw : (x : Int) / 10 ≤ 9223372036854775807
      · have w : wrap64 ((x / 10 : Nat) : Int) = ((x / 10 : Nat) : Int) := w64 (by omega) (by omega)
        refine ⟨r, Ev.step (fun k => ?_) hr⟩
        rw [laws_markText.l0.eq_def]; simp only [Option.bind_some, e, w, strOne]; rw [if_pos (by omega), if_pos (by omega)]
      · exfalso
        have h19 : x < 10 ^ 19 := Nat.lt_of_lt_of_le hx (Nat.pow_le_pow_right (by decide) hd)
        omega
theorem markText_ok (m : Int) (h0 : 0 ≤ m) (h1 : m ≤ 9223372036854775807) : ∃ r, Ev (fun k => laws_markText.f k m) r := by
  simp only [laws_markText.f]
  by_cases c : m ≤ 0
  · exact ⟨_, Ev.congr (f := fun _ => some (⟨#[109, 48]⟩ : ByteArray)) (fun k => by rw [if_pos c]) (Ev.now _)⟩
  · obtain ⟨x, rfl⟩ := Int.eq_ofNat_of_zero_le h0
    have hp : (10 : Nat) ^ 19 = 10000000000000000000 := by decide
    obtain ⟨r, hr⟩ := markText_loop 19 x (⟨#[]⟩ : ByteArray) (by omega) (by omega) (by simp [ByteArray.size])
    exact ⟨r, Ev.congr (fun k => by rw [if_neg c]) hr⟩
theorem wtok (m : Int) (h0 : 0 ≤ m) (h1 : m ≤ 1152921504606846976) : wrap64 (m + 1) = m + 1 ∧ wrap64 (m + 1 + 1) = m + 2 ∧ wrap64 (m + 2 + 1) = m + 3 := by
  refine ⟨?_, ?_, ?_⟩ <;> (unfold wrap64; omega)
inductive Mk : Int → List S29 → Int → Prop
  | nil (m : Int) : Mk m [] m
  | cons (m p q : Int) (x : S29) (l : List S29) (h0 : x.f0 = m) (h1 : x.f1 = m + 1) (ht : Ev (fun k => laws_markText.f k (m + 2)) x.f2) (h : Mk (m + 3) x.f3 p) (g : Mk p l q) : Mk m (x :: l) q
theorem NodI.le {l : List S29} {n : Nat} (h : NodI l n) : l.length ≤ n := by
  induction h with
  | nil => exact Nat.le_refl _
  | cons x l n m a b ia ib => simp only [List.length_cons]; omega
theorem Mk.le {m q : Int} {l : List S29} (h : Mk m l q) : m + 3 * (l.length : Int) ≤ q := by
  induction h with
  | nil m => simp
  | cons m p q x l h0 h1 ht a b ia ib => simp only [List.length_cons]; omega
theorem len1 {α : Type} (d : List α) (x : α) : ((d ++ [x]).length : Int) = (d.length : Int) + 1 := by simp
theorem len0 {α : Type} : (([] : List α).length : Int) = 0 := rfl
theorem rd_mid (d : List S29) (x : S29) (l : List S29) : rd_T29 (d ++ x :: l) (d.length : Int) = x := by simp [rd_T29, List.getD_eq_getElem?_getD]
theorem set_mid {α : Type} (d : List α) (x : α) (l : List α) (y : α) : (d ++ x :: l).set d.length y = (d ++ [y]) ++ l := by simp
theorem len1_le {α β : Type} (d : List α) (x : α) (l : List β) {B : Int} (h : (d.length : Int) + ((l.length + 1 : Nat) : Int) ≤ B) : ((d ++ [x]).length : Int) + (l.length : Int) ≤ B := by rw [len1]; omega
theorem lt_mid {α : Type} (d : List α) (x : α) (l : List α) : (d.length : Int) < ((d ++ x :: l).length : Int) := by rw [List.length_append, List.length_cons]; omega
theorem mid_eq {α : Type} (d : List α) (x : α) (l : List α) : d ++ x :: l = (d ++ [x]) ++ l := by simp
theorem mark_f {l r : List S29} {m q : Int} (h : Ev (fun k => laws_markExprS.l0 k ([] ++ l) m (([] : List S29).length : Int)) (q, [] ++ r)) : Ev (fun k => laws_markExprS.f k l m) (q, r) :=
  Ev.step (fun k => by simp only [laws_markExprS.f]; rfl) h
theorem markS_l0 {l : List S29} {n : Nat} (h : NodI l n) : ∀ m : Int, 0 ≤ m → m + 3 * (n : Int) ≤ 1152921504606846976 → ∀ d : List S29, (d.length : Int) + n ≤ 1152921504606846976 →
    ∃ r, Ev (fun k => laws_markExprS.l0 k (d ++ l) m (d.length : Int)) (m + 3 * (n : Int), d ++ r) ∧ r.length = l.length ∧ Mk m r (m + 3 * (n : Int)) := by
  induction h with
  | nil =>
    intro m m0 m1 d hd
    refine ⟨[], Ev.step (f := fun _ => some (m + 3 * ((0 : Nat) : Int), d ++ [])) (fun k => ?_) (Ev.now _), rfl, ?_⟩
    · simp only [laws_markExprS.l0]; rw [if_neg (by simp)]; simp
    · have e : m + 3 * ((0 : Nat) : Int) = m := by omega
      rw [e]; exact .nil m
  | cons x l a b h g ih ig =>
    intro m m0 m1 d hd
    obtain ⟨w1, w2, w3⟩ := wtok m m0 (by omega)
    have w4 : wrap64 ((d.length : Int) + 1) = (d.length : Int) + 1 := w64 (by omega) (by omega)
    obtain ⟨t, ht⟩ := markText_ok (m + 2) (by omega) (by omega)
    obtain ⟨rx, hx, lx, mx⟩ := ih (m + 3) (by omega) (by omega) [] (by rw [len0]; omega)
    obtain ⟨r, hr, lr, mr⟩ := ig (m + 3 + 3 * (a : Int)) (by omega) (by omega) (d ++ [(⟨m, m + 1, t, rx⟩ : S29)]) (by rw [len1]; omega)
    have e : m + 3 * ((1 + a + b : Nat) : Int) = m + 3 + 3 * (a : Int) + 3 * (b : Int) := by omega
    refine ⟨⟨m, m + 1, t, rx⟩ :: r, ?_, by simp [lr], ?_⟩
    · rw [e, mid_eq d (⟨m, m + 1, t, rx⟩ : S29) r]
      refine Ev.step (f := fun k => (laws_markText.f k (m + 2)).bind fun t => (laws_markExprS.f k x.f3 (m + 3)).bind fun bt => laws_markExprS.l0 k ((d ++ [(⟨m, m + 1, t, bt.2⟩ : S29)]) ++ l) bt.1 ((d.length : Int) + 1)) (fun k => ?_) (Ev.bind ht (Ev.bind (mark_f hx) ?_))
      · simp only [laws_markExprS.l0]
        rw [if_pos (lt_mid d _ l), if_pos (show 0 ≤ (d.length : Int) by omega), w1, w2, w3, w4, rd_mid]
        simp only [Int.toNat_natCast, set_mid]
      · have q : ((d ++ [(⟨m, m + 1, t, rx⟩ : S29)]).length : Int) = (d.length : Int) + 1 := by simp
        rw [q] at hr; exact hr
    · rw [e]; exact Mk.cons m _ _ _ r rfl rfl ht mx mr
theorem markExprS_ok {l : List S29} {n : Nat} (h : NodI l n) (m : Int) (m0 : 0 ≤ m) (m1 : m + 3 * (n : Int) ≤ 1152921504606846976) : ∃ r, Ev (fun k => laws_markExprS.f k l m) (m + 3 * (n : Int), r) ∧ r.length = l.length ∧ Mk m r (m + 3 * (n : Int)) := by
  obtain ⟨r, hr, a, b⟩ := markS_l0 h m m0 m1 [] (by rw [len0]; omega)
  exact ⟨r, mark_f hr, a, b⟩
theorem held_f {l : List S29} {m q : Int} (h : Ev (fun k => laws_heldExprS.l0 k ([] ++ l) m (([] : List S29).length : Int)) q) : Ev (fun k => laws_heldExprS.f k l m) q :=
  Ev.step (fun k => by simp only [laws_heldExprS.f]; rfl) h
theorem heldS_l0 {l : List S29} {m q : Int} (h : Mk m l q) : ∀ d : List S29, 0 ≤ m → q ≤ 1152921504606846976 → (d.length : Int) + l.length ≤ 1152921504606846976 → Ev (fun k => laws_heldExprS.l0 k (d ++ l) m (d.length : Int)) q := by
  induction h with
  | nil m =>
    intro d m0 m1 hd
    refine Ev.step (f := fun _ => some m) (fun k => ?_) (Ev.now _)
    simp only [laws_heldExprS.l0]; rw [if_neg (by simp)]
  | cons m p q x l h0 h1 ht h g ih ig =>
    intro d m0 m1 hd
    have g0 : 0 ≤ (d.length : Int) := by omega
    have p1 := g.le
    have p0 := h.le
    rw [List.length_cons] at hd
    obtain ⟨w1, w2, w3⟩ := wtok m m0 (by omega)
    have w4 : wrap64 ((d.length : Int) + 1) = (d.length : Int) + 1 := w64 (by omega) (by omega)
    have tl := ig (d ++ [x]) (by omega) m1 (len1_le d x l hd)
    refine Ev.step (f := fun k => (laws_markText.f k (m + 2)).bind fun t => if x.f2.toList = t.toList then ((laws_heldExprS.f k x.f3 (m + 3)).bind fun t => if t < 0 then some (-1) else laws_heldExprS.l0 k ((d ++ [x]) ++ l) t ((d.length : Int) + 1)) else some (-1)) (fun k => ?_) (Ev.bind ht (Ev.congr (fun k => by rw [if_pos rfl]) (Ev.bind (held_f (ih [] (by omega) (by omega) (by rw [len0]; omega))) (Ev.congr (fun k => ?_) tl))))
    · simp only [laws_heldExprS.l0]
      rw [if_pos (lt_mid d _ l), if_pos g0, rd_mid, w1, w2, w3, w4, if_pos h0, if_pos h1, mid_eq]
    · rw [if_neg (by omega)]; simp
theorem heldExpr_ok {l : List S29} {m q : Int} (h : Mk m l q) (m0 : 0 ≤ m) (m1 : q ≤ 1152921504606846976) (a b : Int) (s : ByteArray) : Ev (fun k => laws_heldExpr.f k a b s l m) q := by
  have p0 := h.le
  simp only [laws_heldExpr.f]
  refine Ev.bind (held_f (heldS_l0 h [] m0 m1 (by rw [len0]; omega))) (Ev.congr (f := fun _ => some q) (fun k => ?_) (Ev.now _))
  rw [if_neg (by omega)]
def Facts (a0 a1 : Int) (a2 : ByteArray) (la : List S24) : Prop := ∃ k : Nat, (∃ r1 : Int, laws_szExpr.f k a0 a1 a2 la 1048576 = some r1 ∧ decide (r1 < 0) = true) ∨
  ∃ (r1 e0 e1 : Int) (e2 : ByteArray) (le : List S29) (p0 p1 : Int) (p2 : ByteArray) (lp me mp : List S29) (k1 m : Int), laws_szExpr.f k a0 a1 a2 la 1048576 = some r1 ∧ decide (r1 < 0) = false ∧ laws_toExpr.f k a0 a1 a2 la = some (e0, e1, e2, le) ∧ spec_Fold.f k e0 e1 e2 le = some (p0, p1, p2, lp) ∧ impl_Fold.f k e0 e1 e2 le = some (p0, p1, p2, lp) ∧ laws_eqExpr.f k p0 p1 p2 lp p0 p1 p2 lp = some true ∧ laws_eqExpr.f k e0 e1 e2 le e0 e1 e2 le = some true ∧ laws_markExprS.f k le 1 = some (k1, me) ∧ me.length = le.length ∧ laws_markExprS.f k lp 1 = some (m, mp) ∧ mp.length = lp.length ∧ laws_heldExpr.f k p0 p1 p2 mp 1 = some m ∧ decide (k1 < 0) = false ∧ decide (m < 0) = false
def Evp (P : Nat → Prop) : Prop := ∃ K, ∀ k, K ≤ k → P k
theorem Evp.and {P Q : Nat → Prop} (h : Evp P) (g : Evp Q) : Evp (fun k => P k ∧ Q k) := by
  obtain ⟨K, h⟩ := h
  obtain ⟨L, g⟩ := g
  exact ⟨K + L, fun k hk => ⟨h k (by omega), g k (by omega)⟩⟩
theorem Evp.of {α : Type} {f : Nat → Option α} {r : α} (h : Ev f r) : Evp (fun k => f k = some r) := h
theorem Evp.get {P : Nat → Prop} (h : Evp P) : ∃ k, P k := by
  obtain ⟨K, h⟩ := h
  exact ⟨K, h K (Nat.le_refl K)⟩
theorem FnExactFold (x : S24) (g : GoodT x) : Facts x.f0 x.f1 x.f2 x.f3 := by
  unfold Facts
  obtain ⟨r1, e1, c1⟩ := szExpr_ok x g 1048576 (by omega) (by omega)
  by_cases n1 : r1 < 0
  · obtain ⟨k, hk⟩ := (Evp.of e1).get
    exact ⟨k, .inl ⟨r1, hk, decide_eq_true n1⟩⟩
  obtain ⟨p1, q1, s1, a, na, ba⟩ := c1.resolve_left n1
  clear c1
  obtain ⟨e, t1, se, me⟩ := toExpr_ok x s1
  obtain ⟨p, ps, pi, sp, n, nn, bn⟩ := foldAll_ok e se a (me _ na)
  obtain ⟨ye, y1, l1, _⟩ := markExprS_ok (me _ na) 1 (by omega) (by omega)
  obtain ⟨yp, y5, l5, mk⟩ := markExprS_ok nn 1 (by omega) (by omega)
  have hh := heldExpr_ok mk (by omega) (by omega) p.f0 p.f1 p.f2
  obtain ⟨k, ⟨⟨A1, A2⟩, A3, A4⟩, ⟨B1, B2⟩, ⟨C1, C2⟩, C3⟩ := ((((Evp.of e1).and (Evp.of t1)).and ((Evp.of ps).and (Evp.of pi))).and (((Evp.of (eqExpr_ok p sp)).and (Evp.of (eqExpr_ok e se))).and (((Evp.of y1).and (Evp.of y5)).and (Evp.of hh)))).get
  exact ⟨k, .inr ⟨r1, e.f0, e.f1, e.f2, e.f3, p.f0, p.f1, p.f2, p.f3, ye, yp, _, _, A1, decide_eq_false n1, A2, A3, A4, B1, B2, C1, l1, C2, l5, C3, decide_eq_false (by omega), decide_eq_false (by omega)⟩⟩

end Go.Proofs.Ytcpnhlhigpgonaa.Pure
