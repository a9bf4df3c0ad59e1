/- Proved: the law FnLexed, as a plain function, answers true at each code; no further conditions. -/
import Derived.Test.YtbemgfdaenepjaaDoorPFnLexedx1
import Derived.Test.YtbemgfdaenepjaaDoorPFnLexedx2
import Derived.Test.YtbemgfdaenepjaaDoorPFnLexedx3
import Derived.Test.YtbemgfdaenepjaaDoorPFnLexedx4
import Derived.Test.YtbemgfdaenepjaaDoorPFnLexedx5
import Derived.Test.YtbemgfdaenepjaaDoorPFnLexedx6
import Derived.Test.YtbemgfdaenepjaaDoorPFnLexedx7
import Derived.Test.YtbemgfdaenepjaaDoorPFnLexedx8
import Derived.Test.YtbemgfdaenepjaaDoorPFnLexedx9
import Derived.Test.YtbemgfdaenepjaaDoorPFnLexedx10
import Derived.Test.YtbemgfdaenepjaaDoorPFnLexedx11
import Derived.Test.YtbemgfdaenepjaaDoorVCFnLexed
import Derived.Laws.Runes
namespace Go.Proofs.YtbemgfdaenepjaaDoor.Pure
open Go.RowKit Go.Proofs.YtbemgfdaenepjaaDoor.PFnLexed Go.Proofs.YtbemgfdaenepjaaDoorW.PrintWords Go.Proofs.YtbemgfdaenepjaaDoorW.PrintLast Go.Proofs.YtbemgfdaenepjaaDoor.Common
set_option linter.unusedVariables false
set_option linter.unusedSimpArgs false
theorem bal (s : ByteArray) : s.toList = s.data.toList := ByteArray.toList_eq s
theorem bt_b (s : ByteArray) (i : Int) : wrap64 (bt s i) = bt s i := by have := bt_range s i; exact w64 (by omega) (by omega)
theorem l1In_ok (a b c : Int) : spec_l1In.f a b c = some (decide (b ≤ a ∧ a ≤ c)) := by
  unfold spec_l1In.f
  by_cases h : a ≥ b
  · have h' : b ≤ a := h
    rw [if_pos h]; simp [h']
  · have h' : ¬ b ≤ a := h
    rw [if_neg h]; simp [h']
theorem within_ok (a b c : Int) : impl_within.f a b c = some (decide (b ≤ a ∧ a ≤ c)) := by
  unfold impl_within.f
  by_cases h : a ≥ b
  · have h' : b ≤ a := h
    rw [if_pos h]; simp [h']
  · have h' : ¬ b ≤ a := h
    rw [if_neg h]; simp [h']
theorem bal_length (s : ByteArray) : s.toList.length = s.size := by rw [bal, Array.length_toList]; rfl
/-- a loop that looks for the first place that is as asked. -/
theorem search_loop (n : Nat) (hn : n ≤ 4611686018427387904) (p : Nat → Prop) [DecidablePred p] (L : Nat → Int → Option Int)
    (hs : ∀ k (i : Nat), i < n → L (k + 1) (i : Int) = if p i then some (i : Int) else L k (wrap64 ((i : Int) + 1))) (he : ∀ k (i : Nat), ¬ i < n → L (k + 1) (i : Int) = some (-1)) :
    ∃ r : Int, Ev (fun k => L k 0) r ∧ -1 ≤ r ∧ r < n ∧ (0 ≤ r → p r.toNat) ∧ (∀ j : Nat, j < n → p j → 0 ≤ r ∧ r ≤ j) := by
  have H : ∀ (d i : Nat), n - i = d → i ≤ n → ∃ r : Int, Ev (fun k => L k (i : Int)) r ∧ -1 ≤ r ∧ r < n ∧ (0 ≤ r → p r.toNat) ∧ (∀ j : Nat, i ≤ j → j < n → p j → 0 ≤ r ∧ r ≤ j) := by
    intro d
    induction d with
    | zero =>
      intro i hd hi
      exact ⟨-1, Ev.step (f := fun _ => some (-1)) (fun k => he k i (by omega)) (Ev.now _), by omega, by omega, fun h => by omega, fun j h1 h2 => by omega⟩
    | succ d ih =>
      intro i hd hi
      by_cases hp : p i
      · exact ⟨i, Ev.step (f := fun _ => some (i : Int)) (fun k => by rw [hs k i (by omega), if_pos hp]) (Ev.now _), by omega, by omega, fun _ => by simpa using hp, fun j h1 h2 _ => by omega⟩
      · obtain ⟨r, hr, r0, r1, r2, r3⟩ := ih (i + 1) (by omega) (by omega)
        refine ⟨r, Ev.step (f := fun k => L k ((i + 1 : Nat) : Int)) (fun k => ?_) hr, r0, r1, r2, fun j h1 h2 h3 => ?_⟩
        · rw [hs k i (by omega), if_neg hp, w64 (by omega) (by omega)]; rfl
        · rcases Nat.eq_or_lt_of_le h1 with e | e
          · subst e; exact absurd h3 hp
          · exact r3 j e h2 h3
  obtain ⟨r, hr, r0, r1, r2, r3⟩ := H n 0 (by omega) (by omega)
  exact ⟨r, by simpa using hr, r0, r1, r2, fun j h1 h2 => r3 j (Nat.zero_le _) h1 h2⟩
theorem rdB (l : List ByteArray) (i : Nat) (h : i < l.length) : rdOf ByteArray.empty l (i : Int) = l[i] := by simp [rdOf, List.getD_eq_getElem?_getD, h]
/-- is a text among others? -/
def amongB (l : List ByteArray) (s : ByteArray) : Bool := l.any fun x => x.toList == s.toList
theorem l9At_ok (l : List ByteArray) (hl : l.length ≤ 1048576) (s : ByteArray) : ∃ r : Int, Ev (fun k => spec_l9At.f k l s) r ∧ -1 ≤ r ∧ r < l.length ∧ (0 ≤ r → ∀ h : r.toNat < l.length, l[r.toNat].toList = s.toList) ∧ (∀ j : Nat, ∀ h : j < l.length, l[j].toList = s.toList → 0 ≤ r ∧ r ≤ j) := by
  obtain ⟨r, hr, r0, r1, r2, r3⟩ := search_loop l.length (by omega) (fun i => ∃ h : i < l.length, l[i].toList = s.toList) (fun k i => spec_l9At.l0 k l s i) (fun k i hi => by
    simp only [spec_l9At.l0]; rw [if_pos (by omega), if_pos (by omega), rdB l i hi]
    by_cases e : l[i].toList = s.toList
    · rw [if_pos e, if_pos ⟨hi, e⟩]
    · rw [if_neg e, if_neg (fun h => e h.2)]) (fun k i hi => by simp only [spec_l9At.l0]; rw [if_neg (by omega)])
  exact ⟨r, hr, r0, r1, fun h _ => (r2 h).2, fun j hj e => r3 j hj ⟨hj, e⟩⟩
theorem placeIn_ok (l : List ByteArray) (hl : l.length ≤ 1048576) (s : ByteArray) : ∃ r : Int, Ev (fun k => impl_placeIn.f k l s) r ∧ -1 ≤ r ∧ r < l.length ∧ (0 ≤ r → ∀ h : r.toNat < l.length, l[r.toNat].toList = s.toList) ∧ (∀ j : Nat, ∀ h : j < l.length, l[j].toList = s.toList → 0 ≤ r ∧ r ≤ j) := by
  obtain ⟨r, hr, r0, r1, r2, r3⟩ := search_loop l.length (by omega) (fun i => ∃ h : i < l.length, l[i].toList = s.toList) (fun k i => impl_placeIn.l0 k s l (l.length : Int) i) (fun k i hi => by
    simp only [impl_placeIn.l0]; rw [if_pos (by omega), if_pos (by omega), if_pos (by omega), rdB l i hi]
    by_cases e : l[i].toList = s.toList
    · rw [if_pos e, if_pos ⟨hi, e⟩]
    · rw [if_neg e, if_neg (fun h => e h.2)]) (fun k i hi => by simp only [impl_placeIn.l0]; rw [if_neg (by omega)])
  exact ⟨r, hr, r0, r1, fun h _ => (r2 h).2, fun j hj e => r3 j hj ⟨hj, e⟩⟩
theorem among_iff (l : List ByteArray) (s : ByteArray) (r : Int) (h0 : -1 ≤ r) (h1 : r < l.length) (h2 : 0 ≤ r → ∀ h : r.toNat < l.length, l[r.toNat].toList = s.toList) (h3 : ∀ j : Nat, ∀ h : j < l.length, l[j].toList = s.toList → 0 ≤ r ∧ r ≤ j) : 0 ≤ r ↔ amongB l s = true := by
  unfold amongB
  rw [List.any_eq_true]
  constructor
  · intro h
    have hlt : r.toNat < l.length := by omega
    exact ⟨_, List.getElem_mem hlt, by rw [h2 h hlt]; exact beq_self_eq_true _⟩
  · rintro ⟨x, hx, e⟩
    obtain ⟨j, hj, rfl⟩ := List.getElem_of_mem hx
    exact (h3 j hj (by simpa using e)).1
def opW23 : List ByteArray := (impl_opWords.f).getD []
def regW8 : List ByteArray := (impl_regWords.f).getD []
theorem opW23_ok : impl_opWords.f = some opW23 := rfl
theorem regW8_ok : impl_regWords.f = some regW8 := rfl
theorem kept31_ok : spec_l9Kept.f = some (opW23 ++ regW8) := rfl
def keptB (s : ByteArray) : Bool := amongB (opW23 ++ regW8) s
theorem keptB_or (s : ByteArray) : keptB s = (amongB opW23 s || amongB regW8 s) := by unfold keptB amongB; rw [List.any_append]
theorem specKept_ok (s : ByteArray) : ∃ r : Int, Ev (fun k => spec_l9At.f k (opW23 ++ regW8) s) r ∧ (0 ≤ r ↔ keptB s = true) := by
  obtain ⟨r, hr, r0, r1, r2, r3⟩ := l9At_ok (opW23 ++ regW8) (by decide) s
  exact ⟨r, hr, among_iff _ _ _ r0 r1 r2 r3⟩
theorem isKept_ok (s : ByteArray) : Ev (fun k => impl_isKept.f k s) (keptB s) := by
  obtain ⟨r, hr, r0, r1, r2, r3⟩ := placeIn_ok opW23 (by decide) s
  obtain ⟨q, hq, q0, q1, q2, q3⟩ := placeIn_ok regW8 (by decide) s
  have e1 := among_iff _ _ _ r0 r1 r2 r3
  have e2 := among_iff _ _ _ q0 q1 q2 q3
  simp only [impl_isKept.f, opW23_ok, regW8_ok, Option.bind_some]
  refine Ev.bind hr ?_
  rw [keptB_or]
  by_cases h : r ≥ 0
  · refine Ev.congr (f := fun _ => some (amongB opW23 s || amongB regW8 s)) (fun k => ?_) (Ev.now _)
    rw [if_pos h, e1.1 h]; rfl
  · refine Ev.congr (f := fun k => (impl_placeIn.f k regW8 s).bind fun t => some (decide (t ≥ 0))) (fun k => by rw [if_neg h]) (Ev.bind hq ?_)
    have h1 : amongB opW23 s = false := by cases h' : amongB opW23 s with | false => rfl | true => exact absurd (e1.2 h') h
    have h2 : decide (q ≥ 0) = amongB regW8 s := by rw [Bool.eq_iff_iff, decide_eq_true_eq]; exact e2
    rw [h1, h2]; exact Ev.now _
/-- a letter; a digit -/
def smallP (c : Int) : Prop := 97 ≤ c ∧ c ≤ 122
def digitP (c : Int) : Prop := 48 ≤ c ∧ c ≤ 57
instance (c : Int) : Decidable (smallP c) := by unfold smallP; infer_instance
instance (c : Int) : Decidable (digitP c) := by unfold digitP; infer_instance
theorem l9Small_ok (s : ByteArray) (i : Int) : spec_l9Small.f (bt s i) = some (decide (smallP (bt s i))) := by unfold spec_l9Small.f; rw [bt_b, l1In_ok]; rfl
theorem l9Digit_ok (s : ByteArray) (i : Int) : spec_l9Digit.f (bt s i) = some (decide (digitP (bt s i))) := by unfold spec_l9Digit.f; rw [bt_b, l1In_ok]; rfl
theorem isLetter_ok (s : ByteArray) (i : Int) : impl_isLetter.f (bt s i) = some (decide (smallP (bt s i))) := by unfold impl_isLetter.f; rw [bt_b, within_ok]; rfl
theorem isPart_ok (s : ByteArray) (i : Int) : impl_isPart.f (bt s i) = some (decide (smallP (bt s i) ∨ digitP (bt s i))) := by
  unfold impl_isPart.f
  rw [isLetter_ok]; simp only [Option.bind_some]
  by_cases h : smallP (bt s i)
  · rw [if_pos (decide_eq_true h)]; simp [h]
  · rw [if_neg (by simpa using h), bt_b, within_ok]; simp [h, digitP]
/-- what is asked of the byte at j of a name -/
def goodAt (s : ByteArray) (j : Nat) : Prop := smallP (bt s j) ∨ (j ≠ 0 ∧ digitP (bt s j))
instance (s : ByteArray) (j : Nat) : Decidable (goodAt s j) := by unfold goodAt; infer_instance
def formB (s : ByteArray) : Bool := decide ((1 ≤ s.size ∧ s.size ≤ 6) ∧ ∀ j, j < s.size → goodAt s j)
theorem l9Form_ok (s : ByteArray) (hs : s.size ≤ 1048576) : Ev (fun k => spec_l9Form.f k s) (formB s) := by
  have H : ∀ (d i : Nat), s.size - i = d → i ≤ s.size → ∃ b : Bool, Ev (fun k => spec_l9Form.l0 k s (i : Int)) b ∧ (b = true ↔ ((1 ≤ s.size ∧ s.size ≤ 6) ∧ ∀ j, i ≤ j → j < s.size → goodAt s j)) := by
    intro d
    induction d with
    | zero =>
      intro i hd hi
      refine ⟨decide (1 ≤ (s.size : Int) ∧ (s.size : Int) ≤ 6), Ev.step (f := fun _ => some (decide (1 ≤ (s.size : Int) ∧ (s.size : Int) ≤ 6))) (fun k => ?_) (Ev.now _), ?_⟩
      · simp only [spec_l9Form.l0]; rw [if_neg (by omega), l1In_ok]; rfl
      · rw [decide_eq_true_eq]; constructor
        · intro h; exact ⟨by omega, fun j h1 h2 => by omega⟩
        · intro h; have := h.1; omega
    | succ d ih =>
      intro i hd hi
      have hlt : i < s.size := by omega
      obtain ⟨b, hb, hbi⟩ := ih (i + 1) (by omega) (by omega)
      have nxt : ∀ k, spec_l9Form.l0 k s (wrap64 ((i : Int) + 1)) = spec_l9Form.l0 k s ((i + 1 : Nat) : Int) := fun k => by rw [w64 (by omega) (by omega)]; rfl
      by_cases hg : goodAt s i
      · refine ⟨b, Ev.step (f := fun k => spec_l9Form.l0 k s ((i + 1 : Nat) : Int)) (fun k => ?_) hb, ?_⟩
        · simp only [spec_l9Form.l0, l9Small_ok, l9Digit_ok, Option.bind_some, nxt]
          rw [if_pos (by omega), if_pos (by omega)]
          rcases hg with h | ⟨h1, h2⟩
          · rw [if_pos (decide_eq_true h)]
          · by_cases h : smallP (bt s i)
            · rw [if_pos (decide_eq_true h)]
            · rw [if_neg (by simpa using h), if_neg (by omega), if_pos (decide_eq_true h2)]
        · rw [hbi]; constructor
          · intro h; refine ⟨h.1, fun j h1 h2 => ?_⟩
            rcases Nat.eq_or_lt_of_le h1 with e | e
            · subst e; exact hg
            · exact h.2 j e h2
          · intro h; exact ⟨h.1, fun j h1 h2 => h.2 j (by omega) h2⟩
      · refine ⟨false, Ev.step (f := fun _ => some false) (fun k => ?_) (Ev.now _), ?_⟩
        · simp only [spec_l9Form.l0, l9Small_ok, l9Digit_ok, Option.bind_some]
          rw [if_pos (by omega), if_pos (by omega)]
          have h1 : ¬ smallP (bt s i) := fun h => hg (.inl h)
          rw [if_neg (by simpa using h1)]
          by_cases h0 : i = 0
          · rw [if_pos (by omega)]
          · have h2 : ¬ digitP (bt s i) := fun h => hg (.inr ⟨h0, h⟩)
            rw [if_neg (by omega), if_neg (by simpa using h2)]
        · simp only [Bool.false_eq_true, false_iff]; intro h; exact hg (h.2 i (Nat.le_refl _) hlt)
  obtain ⟨b, hb, hbi⟩ := H s.size 0 (by omega) (by omega)
  have e : b = formB s := by
    unfold formB
    rw [Bool.eq_iff_iff, hbi, decide_eq_true_eq]
    exact ⟨fun h => ⟨h.1, fun j hj => h.2 j (Nat.zero_le _) hj⟩, fun h => ⟨h.1, fun j _ hj => h.2 j hj⟩⟩
  rw [← e]; unfold spec_l9Form.f; exact hb
/-- the letters and digits from a on end at e. -/
theorem runFrom_ok (s : ByteArray) (hs : s.size ≤ 1048576) (a : Nat) (ha : a ≤ s.size) : ∃ e : Nat, a ≤ e ∧ e ≤ s.size ∧ Ev (fun k => impl_runFrom.f k s (a : Int)) (s.extract a e) ∧ (∀ j, a ≤ j → j < e → smallP (bt s j) ∨ digitP (bt s j)) ∧ (e < s.size → ¬ (smallP (bt s e) ∨ digitP (bt s e))) := by
  have H : ∀ (d i : Nat), s.size - i = d → a ≤ i → i ≤ s.size → ∃ e : Nat, i ≤ e ∧ e ≤ s.size ∧ Ev (fun k => impl_runFrom.l0 k s (a : Int) (i : Int)) (s.extract a e) ∧ (∀ j, i ≤ j → j < e → smallP (bt s j) ∨ digitP (bt s j)) ∧ (e < s.size → ¬ (smallP (bt s e) ∨ digitP (bt s e))) := by
    intro d
    induction d with
    | zero =>
      intro i hd h0 hi
      refine ⟨i, Nat.le_refl _, hi, Ev.step (f := fun _ => some (s.extract a i)) (fun k => ?_) (Ev.now _), fun j h1 h2 => by omega, fun h => by omega⟩
      simp only [impl_runFrom.l0]; rw [if_neg (by omega), if_pos (by omega), if_pos (by omega), if_pos (by omega)]; rfl
    | succ d ih =>
      intro i hd h0 hi
      have hlt : i < s.size := by omega
      by_cases hp : smallP (bt s i) ∨ digitP (bt s i)
      · obtain ⟨e, e0, e1, he, e2, e3⟩ := ih (i + 1) (by omega) (by omega) (by omega)
        refine ⟨e, by omega, e1, Ev.step (f := fun k => impl_runFrom.l0 k s (a : Int) ((i + 1 : Nat) : Int)) (fun k => ?_) he, fun j h1 h2 => ?_, e3⟩
        · simp only [impl_runFrom.l0, isPart_ok, Option.bind_some]
          rw [if_pos (by omega), if_pos (by omega), if_pos (decide_eq_true hp), w64 (by omega) (by omega)]; rfl
        · rcases Nat.eq_or_lt_of_le h1 with e | e
          · subst e; exact hp
          · exact e2 j e h2
      · refine ⟨i, Nat.le_refl _, hi, Ev.step (f := fun _ => some (s.extract a i)) (fun k => ?_) (Ev.now _), fun j h1 h2 => by omega, fun _ => hp⟩
        simp only [impl_runFrom.l0, isPart_ok, Option.bind_some]
        rw [if_pos (by omega), if_pos (by omega), if_neg (by simpa using hp), if_pos (by omega), if_pos (by omega), if_pos (by omega)]; rfl
  obtain ⟨e, e0, e1, he, e2, e3⟩ := H (s.size - a) a rfl (Nat.le_refl _) ha
  exact ⟨e, e0, e1, by unfold impl_runFrom.f; exact he, e2, e3⟩
theorem extract_size (s : ByteArray) (a e : Nat) (h : e ≤ s.size) : (s.extract a e).size = e - a := by
  rw [ByteArray.size_extract]; omega
theorem extract_all (s : ByteArray) : s.extract 0 s.size = s := by
  apply ByteArray.ext; rw [ByteArray.data_extract]; show s.data.extract 0 s.data.size = s.data; exact Array.extract_size
theorem hasForm_ok (s : ByteArray) (hs : s.size ≤ 1048576) : Ev (fun k => impl_hasForm.f k s) (formB s) := by
  simp only [impl_hasForm.f, within_ok, isLetter_ok, Option.bind_some]
  by_cases h : 1 ≤ s.size ∧ s.size ≤ 6
  · obtain ⟨e, _, e1, he, e2, e3⟩ := runFrom_ok s hs 0 (Nat.zero_le _)
    by_cases h0 : smallP (bt s 0)
    · refine Ev.congr (f := fun k => (impl_runFrom.f k s 0).bind fun t => some (t.toList == s.toList)) (fun k => ?_) (Ev.bind (a := s.extract 0 e) he ?_)
      · rw [if_pos (decide_eq_true (by omega)), if_pos (by omega), if_pos (decide_eq_true h0)]
      · have : ((s.extract 0 e).toList == s.toList) = formB s := by
          unfold formB
          rw [Bool.eq_iff_iff, beq_iff_eq, decide_eq_true_eq]
          constructor
          · intro heq
            have hl := congrArg List.length heq
            rw [bal_length, bal_length, extract_size s 0 e e1] at hl
            refine ⟨h, fun j hj => ?_⟩
            by_cases hj0 : j = 0
            · subst hj0; exact .inl h0
            · rcases e2 j (Nat.zero_le _) (by omega) with q | q
              · exact .inl q
              · exact .inr ⟨hj0, q⟩
          · intro hf
            have : e = s.size := by
              rcases Nat.lt_or_ge e s.size with q | q
              · exact absurd (by rcases hf.2 e q with z | ⟨_, z⟩; exact .inl z; exact .inr z) (e3 q)
              · omega
            subst this; rw [extract_all]
        rw [this]; exact Ev.now _
    · refine Ev.congr (f := fun _ => some (formB s)) (fun k => ?_) (Ev.now _)
      have hf : formB s = false := by
        unfold formB; rw [decide_eq_false_iff_not]; intro hf
        rcases hf.2 0 (by omega) with q | ⟨q, _⟩
        · exact h0 q
        · exact q rfl
      rw [if_pos (decide_eq_true (by omega)), if_pos (by omega), if_neg (by simpa using h0), hf]
  · refine Ev.congr (f := fun _ => some (formB s)) (fun k => ?_) (Ev.now _)
    have hf : formB s = false := by unfold formB; rw [decide_eq_false_iff_not]; intro hf; exact h hf.1
    rw [if_neg (by simp; omega), hf]
def nameB (s : ByteArray) : Bool := formB s && !keptB s
theorem l9Name_ok (s : ByteArray) (hs : s.size ≤ 1048576) : Ev (fun k => spec_l9Name.f k s) (nameB s) := by
  simp only [spec_l9Name.f, kept31_ok, Option.bind_some]
  refine Ev.bind (l9Form_ok s hs) ?_
  unfold nameB
  cases formB s with
  | false => exact Ev.congr (f := fun _ => some false) (fun k => by rw [if_neg (by simp)]) (Ev.now _)
  | true =>
    obtain ⟨r, hr, hri⟩ := specKept_ok s
    refine Ev.congr (f := fun k => (spec_l9At.f k (opW23 ++ regW8) s).bind fun t => some (decide (t < 0))) (fun k => by rw [if_pos rfl]) (Ev.bind hr ?_)
    have : decide (r < 0) = (true && !keptB s) := by
      cases hk : keptB s with
      | true => have := hri.2 hk; simp; omega
      | false => have : ¬ 0 ≤ r := fun h => by rw [hri.1 h] at hk; simp at hk
                 simp; omega
    rw [this]; exact Ev.now _
def marksL : List UInt8 := [58, 61, 44, 40, 41, 43, 45, 42, 47, 38, 124, 35, 64, 46, 60, 62]
theorem marks_cut : ∀ i : Fin 16, ((⟨#[58, 61, 44, 40, 41, 43, 45, 42, 47, 38, 124, 35, 64, 46, 60, 62]⟩ : ByteArray).extract i.1 (i.1 + 1)).data.toList = [marksL.getD i.1 0] := by decide +kernel
def markB (s : ByteArray) : Bool := marksL.any fun c => s.data.toList == [c]
theorem l9Mark_step (k : Nat) (s : ByteArray) (i : Nat) (hi : i < 16) : spec_l9Mark.l0 (k + 1) s (i : Int) = if s.data.toList = [marksL.getD i 0] then some true else spec_l9Mark.l0 k s ((i + 1 : Nat) : Int) := by
  have w : wrap64 ((i : Int) + 1) = ((i + 1 : Nat) : Int) := by rw [w64 (by omega) (by omega)]; rfl
  have g1 : (i : Int) < 16 := by omega
  have g2 : 0 ≤ (i : Int) := by omega
  have g3 : (i : Int) ≤ ((i + 1 : Nat) : Int) := by omega
  have g4 : ((i + 1 : Nat) : Int) ≤ 16 := by omega
  rw [spec_l9Mark.l0.eq_def]
  simp only [w, bal, Int.toNat_natCast]
  rw [if_pos g1, if_pos g2, if_pos g3, if_pos g4]
  have e := marks_cut ⟨i, hi⟩
  simp only at e
  rw [e]
theorem l9Mark_loop (s : ByteArray) : ∀ (d i k : Nat), 16 - i = d → i ≤ 16 → d < k → spec_l9Mark.l0 k s (i : Int) = some ((marksL.drop i).any fun c => s.data.toList == [c]) := by
  have hlen : marksL.length = 16 := rfl
  intro d
  induction d with
  | zero =>
    intro i k hd hi hk
    obtain ⟨k, rfl⟩ : ∃ m, k = m + 1 := ⟨k - 1, by omega⟩
    rw [spec_l9Mark.l0.eq_def, List.drop_of_length_le (by omega)]
    simp only []
    rw [if_neg (by omega)]; rfl
  | succ d ih =>
    intro i k hd hi hk
    obtain ⟨k, rfl⟩ : ∃ m, k = m + 1 := ⟨k - 1, by omega⟩
    rw [l9Mark_step k s i (by omega), ih (i + 1) k (by omega) (by omega) (by omega), List.drop_eq_getElem_cons (show i < marksL.length by omega), List.any_cons]
    have e : marksL.getD i 0 = marksL[i]'(by omega) := by simp [List.getD_eq_getElem?_getD, show i < marksL.length by omega]
    rw [e]
    by_cases c : s.data.toList = [marksL[i]'(by omega)]
    · rw [if_pos c, beq_iff_eq.2 c]; rfl
    · rw [if_neg c, beq_eq_false_iff_ne.2 c]; rfl
theorem l9Mark_ok (s : ByteArray) : Ev (fun k => spec_l9Mark.f k s) (markB s) := ⟨17, fun k hk => l9Mark_loop s 16 0 k rfl (by omega) (by omega)⟩
theorem has_mark (s : ByteArray) (h : s.size = 1) : decide (0 ≤ Lib.indexByte (⟨#[58, 61, 44, 40, 41, 43, 45, 42, 47, 38, 124, 35, 64, 46, 60, 62]⟩ : ByteArray).data.toList (s.data.toList.getD 0 0)) = markB s := by
  rw [← Lib.firstIdx_eq, firstIdx_nonneg]
  obtain ⟨⟨l⟩⟩ := s
  match l, h with
  | [x], _ =>
    show marksL.any (· == x) = marksL.any fun c => [x] == [c]
    congr 1; funext c
    rw [Bool.eq_iff_iff, beq_iff_eq, beq_iff_eq, List.cons.injEq]
    exact ⟨fun e => ⟨e.symm, rfl⟩, fun e => e.1.symm⟩
theorem no_mark (s : ByteArray) (h : s.size ≠ 1) : markB s = false := by
  unfold markB
  rw [List.any_eq_false]
  intro c _
  rw [beq_iff_eq]
  intro e
  have := congrArg List.length e
  rw [Array.length_toList] at this
  exact h this
/-- is a token right? -/
def tokB (K N : Int) (s : ByteArray) : Bool :=
  if K = 2 then decide (0 ≤ N ∧ N ≤ 65535) && (s.toList == ([] : List UInt8))
  else if N = 0 then (if K = 1 then nameB s else if K = 3 then decide (1 < s.size) && decide (bt s 0 = 46) && formB (s.extract 1 s.size) else if K = 4 then markB s else if K = 5 then keptB s else false) else false
theorem specTokenOk_ok (K N : Int) (s : ByteArray) (hs : s.size ≤ 1048576) : Ev (fun k => spec_TokenOk.f k K N s) (tokB K N s) := by
  have hx : (s.extract 1 s.size).size ≤ 1048576 := by rw [extract_size s 1 s.size (Nat.le_refl _)]; omega
  simp only [spec_TokenOk.f, l1In_ok, Option.bind_some]
  unfold tokB
  by_cases k2 : K = 2
  · rw [if_pos k2]
    refine Ev.congr (f := fun _ => some (decide (0 ≤ N ∧ N ≤ 65535) && (s.toList == ([] : List UInt8)))) (fun k => ?_) (Ev.now _)
    rw [if_pos k2]
    cases decide (0 ≤ N ∧ N ≤ 65535) <;> simp
  rw [if_neg k2]
  by_cases n0 : ¬ N = 0
  · rw [if_neg n0]; exact Ev.congr (f := fun _ => some false) (fun k => by rw [if_neg k2, if_neg n0]) (Ev.now _)
  replace n0 : N = 0 := Decidable.not_not.1 n0
  rw [if_pos n0]
  refine Ev.congr (fun k => by rw [if_neg k2, if_pos n0]) ?_
  by_cases k1 : K = 1
  · rw [if_pos k1]; exact Ev.congr (fun k => by rw [if_pos k1]) (Ev.bind (l9Name_ok s hs) (Ev.now _))
  rw [if_neg k1]
  refine Ev.congr (fun k => by rw [if_neg k1]) ?_
  by_cases k3 : K = 3
  · rw [if_pos k3]
    refine Ev.congr (fun k => by rw [if_pos k3]) ?_
    by_cases c : 1 < s.size
    · refine Ev.congr (fun k => by rw [if_pos (show (s.size : Int) > 1 by omega), if_pos (show 0 < (s.size : Int) by omega)]) ?_
      rw [decide_eq_true c]
      by_cases d : bt s 0 = 46
      · rw [decide_eq_true d]
        exact Ev.congr (fun k => by rw [if_pos d, if_pos (show 1 ≤ (s.size : Int) by omega)]) (Ev.bind (l9Form_ok _ hx) (Ev.now _))
      · rw [decide_eq_false d]
        exact Ev.congr (f := fun _ => some false) (fun k => by rw [if_neg d]) (Ev.now _)
    · rw [decide_eq_false c]
      exact Ev.congr (f := fun _ => some false) (fun k => by rw [if_neg (show ¬ (s.size : Int) > 1 by omega)]) (Ev.now _)
  rw [if_neg k3]
  refine Ev.congr (fun k => by rw [if_neg k3]) ?_
  by_cases k4 : K = 4
  · rw [if_pos k4]; exact Ev.congr (fun k => by rw [if_pos k4]) (Ev.bind (l9Mark_ok s) (Ev.now _))
  rw [if_neg k4]
  refine Ev.congr (fun k => by rw [if_neg k4]) ?_
  by_cases k5 : K = 5
  · rw [if_pos k5]
    obtain ⟨r, hr, hi⟩ := specKept_ok s
    refine Ev.congr (fun k => by rw [if_pos k5, kept31_ok, Option.bind_some]) (Ev.bind hr ?_)
    refine Ev.congr (f := fun _ => some (keptB s)) (fun k => ?_) (Ev.now _)
    congr 1; rw [Bool.eq_iff_iff, decide_eq_true_eq]; exact hi
  · rw [if_neg k5]; exact Ev.congr (f := fun _ => some false) (fun k => by rw [if_neg k5]) (Ev.now _)
theorem dg8_mod (v : Nat) : dg8 (v % 8) = dg8 v := by unfold dg8; rw [Nat.mod_mod]
theorem one_digit (v : Nat) : strOfNums [(wrap64 (48 + bits .and .i64 (v : Int) 7)) % 256] = ⟨#[dg8 v]⟩ := by
  rw [and7, w64 (by omega) (by omega)]
  unfold strOfNums dg8
  have e : ((48 + (v : Int) % 8) % 256).toNat = 48 + v % 8 := by omega
  simp [e]
theorem specOct_loop : ∀ (m x : Nat) (x3 : ByteArray), x < 8 ^ (m + 1) → x3.size + m ≤ 100 → ∃ r, Ev (fun k => spec_Oct.l0 k (x : Int) x3) r ∧ r.data.toList = (if x < 8 then [] else octF m (x / 8)) ++ x3.data.toList := by
  intro m
  induction m with
  | zero =>
    intro x x3 hx hs
    have h8 : x < 8 := by simpa using hx
    refine ⟨x3, Ev.step (f := fun _ => some x3) (fun k => ?_) (Ev.now _), by rw [if_pos h8]; rfl⟩
    rw [spec_Oct.l0.eq_def]; simp only []; rw [if_neg (by omega)]
  | succ m ih =>
    intro x x3 hx hs
    by_cases h8 : x < 8
    · refine ⟨x3, Ev.step (f := fun _ => some x3) (fun k => ?_) (Ev.now _), by rw [if_pos h8]; rfl⟩
      rw [spec_Oct.l0.eq_def]; simp only []; rw [if_neg (by omega)]
    · have hz : (⟨#[dg8 (x / 8)]⟩ : ByteArray).size = 1 := rfl
      have hlt : x / 8 < 8 ^ (m + 1) := by rw [Nat.pow_succ] at hx; omega
      obtain ⟨r, hr, ht⟩ := ih (x / 8) ((⟨#[dg8 (x / 8)]⟩ : ByteArray) ++ x3) hlt (by rw [ByteArray.size_append, hz]; omega)
      have ex : ((x : Int) / 8) = ((x / 8 : Nat) : Int) := by omega
      refine ⟨r, Ev.step (f := fun k => spec_Oct.l0 k ((x / 8 : Nat) : Int) ((⟨#[dg8 (x / 8)]⟩ : ByteArray) ++ x3)) (fun k => ?_) hr, ?_⟩
      · rw [spec_Oct.l0.eq_def]
        simp only [ex, one_digit, Option.bind_some, hz]
        rw [if_pos (by omega), if_pos (by omega)]
      · rw [ht, if_neg h8, octF]
        by_cases h9 : x / 8 < 8
        · rw [if_pos h9, if_pos h9]; simp
        · rw [if_neg h9, if_neg h9, dg8_mod]; simp
theorem octF_len : ∀ m v, (octF m v).length ≤ m := by
  intro m
  induction m with
  | zero => intro v; simp [octF]
  | succ m ih =>
    intro v
    rw [octF]
    split
    · simp
    · simp only [List.length_append, List.length_cons, List.length_nil]; have := ih (v / 8); omega
/-- both make the digits of a word. -/
theorem specOct_ok (n : Int) : ∃ r, Ev (fun k => spec_Oct.f k n) r ∧ r.data.toList = octF 6 (n % 65536).toNat := by
  obtain ⟨t, ht⟩ : ∃ t : Nat, n % 65536 = t := ⟨(n % 65536).toNat, by omega⟩
  have hlt : t < 65536 := by omega
  rw [ht]
  obtain ⟨r, hr, h2⟩ := specOct_loop 5 t (⟨#[dg8 t]⟩ : ByteArray) (by omega) (by simp [ByteArray.size])
  refine ⟨r, ?_, ?_⟩
  · simp only [spec_Oct.f, spec_Wrap.f, and65535, Option.bind_some, ht, one_digit]
    exact hr
  · rw [h2, Int.toNat_natCast, show octF 6 t = if t < 8 then [dg8 t] else octF 5 (t / 8) ++ [dg8 (t % 8)] from rfl]
    by_cases h8 : t < 8
    · rw [if_pos h8, if_pos h8]; rfl
    · rw [if_neg h8, if_neg h8, dg8_mod]
theorem implOct_ok (n : Int) : ∃ r, impl_Oct.f n = some r ∧ r.data.toList = octF 6 (n % 65536).toNat := by
  refine ⟨⟨(octF 6 (n % 65536).toNat).toArray⟩, ?_, rfl⟩
  simp only [impl_Oct.f, impl_Wrap.f, and65535, Option.bind_some, strconv_FormatInt_76.f]
  rw [if_pos ⟨trivial, by omega, by omega⟩]
  rfl
def val8 (acc : Nat) : List UInt8 → Nat
  | [] => acc
  | c :: r => val8 (acc * 8 + (c.toNat - 48)) r
theorem val8_append (l r : List UInt8) : ∀ acc, val8 acc (l ++ r) = val8 (val8 acc l) r := by
  induction l with
  | nil => intro acc; rfl
  | cons c l ih => intro acc; exact ih _
def isDig (c : UInt8) : Prop := 48 ≤ c.toNat ∧ c.toNat ≤ 55
theorem dg8_val (v : Nat) : (dg8 v).toNat = 48 + v % 8 := by
  unfold dg8
  rw [UInt8.toNat_ofNat']
  omega
theorem octF_dig : ∀ m v, ∀ c ∈ octF m v, isDig c := by
  intro m
  induction m with
  | zero => intro v c hc; simp [octF] at hc
  | succ m ih =>
    intro v c hc
    rw [octF] at hc
    split at hc
    · rw [List.mem_singleton.1 hc]; unfold isDig; rw [dg8_val]; omega
    · rcases List.mem_append.1 hc with h | h
      · exact ih _ c h
      · rw [List.mem_singleton.1 h]; unfold isDig; rw [dg8_val]; omega
theorem val8_one (a v : Nat) : val8 a [dg8 v] = a * 8 + v % 8 := by
  show a * 8 + ((dg8 v).toNat - 48) = a * 8 + v % 8
  rw [dg8_val, Nat.add_sub_cancel_left]
theorem octF_val : ∀ m v, v < 8 ^ m → 1 ≤ m → val8 0 (octF m v) = v := by
  intro m
  induction m with
  | zero => intro v h1 h2; omega
  | succ m ih =>
    intro v hv _
    rw [octF]
    by_cases h : v < 8
    · rw [if_pos h, val8_one]
      exact (congrArg (fun z => 0 * 8 + z) (Nat.mod_eq_of_lt h)).trans (by omega)
    · rw [if_neg h]
      have h1 : v / 8 < 8 ^ m := by rw [Nat.pow_succ] at hv; generalize 8 ^ m = q at *; omega
      have h2 : 1 ≤ m := by
        cases m with
        | zero => simp at hv; omega
        | succ m => omega
      rw [val8_append, ih _ h1 h2]
      rw [val8_one, Nat.mod_mod, Nat.mul_comm]
      exact Nat.div_add_mod v 8
theorem octF_ne (m v : Nat) (h : 1 ≤ m) : octF m v ≠ [] := by
  cases m with
  | zero => omega
  | succ m => rw [octF]; split <;> simp
/-- what a text of digits reads as: a word, if it is a word's text. -/
def octE (v : Nat) (l : List UInt8) : Int × Bool := if v ≤ 65535 ∧ octF 6 v = l then ((v : Int), true) else (0, false)
theorem octE_yes (v : Nat) (l : List UInt8) (h : v ≤ 65535) (e : octF 6 v = l) : octE v l = ((v : Int), true) := by unfold octE; exact if_pos ⟨h, e⟩
theorem octE_no (v : Nat) (l : List UInt8) (h : ¬ (v ≤ 65535 ∧ octF 6 v = l)) : octE v l = (0, false) := by unfold octE; exact if_neg h
def octR (l : List UInt8) : Int × Bool := octE (val8 0 l) l
theorem octR_of (v : Nat) (h : v ≤ 65535) : octR (octF 6 v) = ((v : Int), true) := by
  unfold octR
  rw [octF_val 6 v (by omega) (by omega)]
  exact octE_yes v _ h rfl
theorem octR_no (l : List UInt8) (h : ∀ v, v ≤ 65535 → octF 6 v ≠ l) : octR l = (0, false) := by
  exact octE_no _ _ (fun e => h _ e.1 e.2)
theorem octR_nodig (l : List UInt8) (c : UInt8) (hc : c ∈ l) (hn : ¬ isDig c) : octR l = (0, false) :=
  octR_no l fun v _ e => hn (octF_dig 6 v c (by rw [e]; exact hc))
theorem octR_long (l : List UInt8) (h : 6 < l.length) : octR l = (0, false) :=
  octR_no l fun v _ e => by have := octF_len 6 v; rw [e] at this; omega
theorem bt_i (s : ByteArray) (i : Nat) (h : i < s.data.toList.length) : bt s (i : Int) = ((s.data.toList[i]'h).toNat : Int) := by
  have h2 : i < s.size := by simpa using h
  unfold bt
  rw [dif_pos (by simpa using h2)]
  congr 1
/-- the reference: the loop's end. -/
theorem specParse_end (s : ByteArray) (x4 : Nat) (h : x4 < 8 ^ 6) : ∀ i : Int, Ev (fun k => spec_ParseOct.j1 k s (x4 : Int) i false) (octE x4 s.data.toList) := by
  intro i
  by_cases c : x4 ≤ 65535
  · obtain ⟨r, hr, he⟩ := specOct_ok (x4 : Int)
    have e : ((x4 : Int) % 65536).toNat = x4 := by omega
    rw [e] at he
    refine Ev.step (f := fun k => (spec_Oct.f k (x4 : Int)).bind fun t109 => (if t109.toList = s.toList then (some ((x4 : Int), true)) else (some (0, false)))) (fun k => ?_) (Ev.bind hr ?_)
    · rw [spec_ParseOct.j1.eq_def]; simp only []; rw [if_neg (by decide), if_neg (by omega)]
    · refine Ev.congr (f := fun _ => some _) (fun k => ?_) (Ev.now _)
      rw [bal, bal, he]
      by_cases d : octF 6 x4 = s.data.toList
      · rw [if_pos d, octE_yes _ _ c d]
      · rw [if_neg d, octE_no _ _ (fun h => d h.2)]
  · refine Ev.step (f := fun _ => some (0, false)) (fun k => ?_) (by rw [octE_no _ _ (fun h => c h.1)]; exact Ev.now _)
    rw [spec_ParseOct.j1.eq_def]; simp only []; rw [if_neg (by decide), if_pos (by omega)]
theorem drop_all (l : List UInt8) (i : Nat) (h : i < l.length) : l.drop i = l[i] :: l.drop (i + 1) := List.drop_eq_getElem_cons h
theorem specParse_loop (s : ByteArray) (hs : s.size ≤ 6) : ∀ (d i : Nat) (x4 : Nat), s.data.toList.length - i = d → i ≤ s.data.toList.length → x4 + 1 ≤ 8 ^ i → val8 x4 (s.data.toList.drop i) = val8 0 s.data.toList →
    Ev (fun k => spec_ParseOct.l0 k s (x4 : Int) (i : Int)) (octR s.data.toList) := by
  have hsz : s.data.toList.length = s.size := by rw [Array.length_toList]; rfl
  intro d
  induction d with
  | zero =>
    intro i x4 hd hi hx hv
    have hvA := Aside0.mk hv
    clear hv
    have hb : x4 < 8 ^ 6 := Nat.lt_of_lt_of_le hx (Nat.pow_le_pow_right (by decide) (by omega))
    clear hx
    have e : i = s.data.toList.length := by omega
    have e2 : ¬ (i : Int) < (s.size : Int) := by omega
    have hv := hvA.out
    rw [List.drop_of_length_le (Nat.le_of_eq e.symm)] at hv
    have := specParse_end s x4 hb (i : Int)
    have hv2 : x4 = val8 0 s.data.toList := hv
    have e3 : octR s.data.toList = octE x4 s.data.toList := congrArg (fun z => octE z s.data.toList) hv2.symm
    rw [e3]
    clear hv hvA hv2 e3 e
    refine Ev.step (fun k => ?_) this
    rw [spec_ParseOct.l0.eq_def]; simp only []; rw [if_neg e2]
  | succ d ih =>
    intro i x4 hd hi hx hv
    have hlt : i < s.data.toList.length := by omega
    have hvA := Aside0.mk hv
    clear hv
    have hb : x4 < 8 ^ 6 := Nat.lt_of_lt_of_le hx (Nat.pow_le_pow_right (by decide) (by omega))
    have h6 : (8 : Nat) ^ 6 = 262144 := by decide
    have hbt := bt_i s i hlt
    rw [h6] at hb
    have hx2 : (x4 * 8 + 7) + 1 ≤ 8 ^ (i + 1) := by rw [Nat.pow_succ]; generalize 8 ^ i = q at *; omega
    clear hx h6
    have w2 : wrap64 ((i : Int) + 1) = ((i + 1 : Nat) : Int) := by rw [w64 (by omega) (by omega)]; rfl
    have st : ∀ r, Ev (fun k => if decide (48 ≤ bt s (i : Int) ∧ bt s (i : Int) ≤ 55) = true then (spec_ParseOct.l0 k s (wrap64 ((wrap64 ((x4 : Int) * 8)) + (((bt s (i : Int)) - 48) % 256))) ((i + 1 : Nat) : Int)) else (some (0, false))) r → Ev (fun k => spec_ParseOct.l0 k s (x4 : Int) (i : Int)) r := by
      intro r hr
      refine Ev.step (f := fun k => spec_ParseOct.j1 k s (x4 : Int) (i : Int) true) (fun k => ?_) (Ev.step (fun k => ?_) hr)
      · rw [spec_ParseOct.l0.eq_def]; simp only []; rw [if_pos (by omega), decide_eq_true (by omega)]
      · rw [spec_ParseOct.j1.eq_def]; simp only [bt_b, l1In_ok, Option.bind_some, w2]; rw [if_pos trivial, if_pos (by omega), if_pos (by omega)]
    rw [hbt] at st
    by_cases c : isDig (s.data.toList[i]'hlt)
    · unfold isDig at c
      have w1 : wrap64 ((wrap64 ((x4 : Int) * 8)) + ((((s.data.toList[i]'hlt).toNat : Int) - 48) % 256)) = ((x4 * 8 + ((s.data.toList[i]'hlt).toNat - 48) : Nat) : Int) := by
        rw [w64 (x := (x4 : Int) * 8) (by omega) (by omega), w64 (by omega) (by omega)]
        omega
      refine st _ (Ev.congr (f := fun k => spec_ParseOct.l0 k s ((x4 * 8 + ((s.data.toList[i]'hlt).toNat - 48) : Nat) : Int) ((i + 1 : Nat) : Int)) (fun k => ?_) (ih (i + 1) _ (by omega) (by omega) (by refine Nat.le_trans ?_ hx2; omega) ?_))
      · rw [if_pos (decide_eq_true ⟨by omega, by omega⟩), w1]
      · have hv := hvA.out; rw [drop_all _ i hlt] at hv; exact hv
    · rw [octR_nodig _ _ (List.getElem_mem hlt) c]
      refine st _ (Ev.congr (f := fun _ => some (0, false)) (fun k => ?_) (Ev.now _))
      unfold isDig at c
      rw [if_neg (by rw [decide_eq_true_eq]; omega)]
/-- the reference's answer. -/
theorem specParse_ok (s : ByteArray) (hs : s.size ≤ 1048576) : Ev (fun k => spec_ParseOct.f k s) (octR s.data.toList) := by
  simp only [spec_ParseOct.f]
  have hsz : s.data.toList.length = s.size := by rw [Array.length_toList]; rfl
  by_cases c : s.size ≤ 6
  · exact specParse_loop s c _ 0 0 rfl (by omega) (by decide) rfl
  · have h := specParse_end s 0 (by decide) 0
    have e : octR s.data.toList = (0, false) := octR_long _ (by omega)
    rw [octE_no _ _ (fun h => by have := octF_len 6 0; rw [h.2] at this; omega)] at h
    rw [e]
    refine Ev.step (f := fun k => spec_ParseOct.j1 k s 0 0 false) (fun k => ?_) h
    rw [spec_ParseOct.l0.eq_def]; simp only []; rw [if_pos (by omega), decide_eq_false (by omega)]
theorem parse8_digs : ∀ (l : List UInt8) (acc : Nat), (∀ c ∈ l, isDig c) → l.length ≤ 6 → (acc + 1) * 8 ^ l.length ≤ 8 ^ 6 → parse8 acc l = .ok (val8 acc l) := by
  intro l
  induction l with
  | nil => intro acc _ _ _; exact rfl
  | cons c l ih =>
    intro acc h hl hb
    have hc := h c List.mem_cons_self
    unfold isDig at hc
    have h6 : (8 : Nat) ^ 6 = 262144 := by decide
    have p1 : 1 ≤ 8 ^ (c :: l).length := Nat.pow_pos (by decide)
    have ha : acc + 1 ≤ 262144 := by
      have : (acc + 1) * 1 ≤ (acc + 1) * 8 ^ (c :: l).length := Nat.mul_le_mul_left _ p1
      omega
    simp only [parse8]
    rw [if_pos hc, if_neg (by omega), ih _ (fun d hd => h d (List.mem_cons_of_mem _ hd)) (by simp at hl; omega) ?_]
    · rfl
    · refine Nat.le_trans ?_ hb
      rw [List.length_cons, Nat.pow_succ, Nat.mul_comm (8 ^ l.length) 8, ← Nat.mul_assoc]
      exact Nat.mul_le_mul_right _ (by omega)
/-- the library's answer at a word's text. -/
theorem int8_oct (s : ByteArray) (v : Nat) (hv : v ≤ 65535) (h : octF 6 v = s.data.toList) : int8? s = some (v : Int) := by
  have hd : ∀ c ∈ s.data.toList, isDig c := fun c hc => octF_dig 6 v c (by rw [h]; exact hc)
  have hl : s.data.toList.length ≤ 6 := by rw [← h]; exact octF_len 6 v
  have hval : val8 0 s.data.toList = v := by rw [← h]; exact octF_val 6 v (by omega) (by omega)
  have hne : s.data.toList ≠ [] := by rw [← h]; exact octF_ne 6 v (by omega)
  have hp := parse8_digs s.data.toList 0 hd hl (by rw [Nat.zero_add, Nat.one_mul]; exact Nat.pow_le_pow_right (by decide) hl)
  apply int8_some
  generalize s.data.toList = l at *
  cases l with
  | nil => exact absurd rfl hne
  | cons c r =>
    have hc := hd c List.mem_cons_self
    unfold isDig at hc
    rw [parseI8_plain c r (by omega) (by omega), parseU8, if_neg hne, hp, hval]
    simp only [plus8]
    rw [if_neg (by omega)]
/-- the program's answer. -/
theorem implParse_ok (s : ByteArray) (hs : s.size ≤ 281474976710656) : impl_ParseOct.f s = some (octR s.data.toList) := by
  unfold impl_ParseOct.f
  rw [if_pos hs]
  by_cases c : ∃ v, v ≤ 65535 ∧ octF 6 v = s.data.toList
  · obtain ⟨v, hv, h⟩ := c
    rw [int8_oct s v hv h, ← h, octR_of v hv]
    obtain ⟨r, hr, he⟩ := implOct_ok (v : Int)
    have e : ((v : Int) % 65536).toNat = v := by omega
    rw [e] at he
    simp only [impl_isWord.f, within_ok, Option.bind_some, hr]
    rw [if_pos (by simp; omega), bal, bal, he, h, if_pos rfl]
  · have hn : ∀ v, v ≤ 65535 → octF 6 v ≠ s.data.toList := fun v hv e => c ⟨v, hv, e⟩
    rw [octR_no _ hn]
    cases hi : int8? s with
    | none => rfl
    | some n =>
      simp only [impl_isWord.f, within_ok, Option.bind_some]
      by_cases hw : 0 ≤ n ∧ n ≤ 65535
      · obtain ⟨r, hr, he⟩ := implOct_ok n
        have e : (n % 65536).toNat = n.toNat := by omega
        rw [e] at he
        rw [if_pos (decide_eq_true hw), hr, Option.bind_some, bal, bal, he, if_neg (hn n.toNat (by omega))]
      · rw [if_neg (by rw [decide_eq_true_eq]; exact hw)]
theorem rd45 (l : List S45) (i : Nat) (h : i < l.length) : rd_T45 l (i : Int) = l[i] := by simp [rd_T45, List.getD_eq_getElem?_getD, h]
theorem wnext (i n : Nat) (h : i < n) (hn : n ≤ 1048576) : wrap64 ((i : Int) + 1) = ((i + 1 : Nat) : Int) := by unfold wrap64; omega
def RunTo (p : Int → Prop) (s : ByteArray) (a e : Nat) : Prop := a ≤ e ∧ e ≤ s.size ∧ (∀ j, a ≤ j → j < e → p (bt s (j : Int))) ∧ (e < s.size → ¬ p (bt s (e : Int)))
theorem RunTo.one {p : Int → Prop} {s : ByteArray} {a e f : Nat} (h : RunTo p s a e) (k : RunTo p s a f) : e = f := by
  obtain ⟨h1, h2, h3, h4⟩ := h
  obtain ⟨k1, k2, k3, k4⟩ := k
  rcases Nat.lt_trichotomy e f with c | c | c
  · exact absurd (k3 e h1 c) (h4 (by omega))
  · exact c
  · exact absurd (h3 f k1 c) (k4 (by omega))
theorem l9Run_ok (s : ByteArray) (hs : s.size ≤ 1048576) (b : Bool) (a : Nat) (ha : a ≤ s.size) : ∃ e : Nat, Ev (fun k => spec_l9Run.f k s (a : Int) b) (e : Int) ∧ RunTo (fun c => digitP c ∨ (b = true ∧ smallP c)) s a e := by
  have H : ∀ (d i : Nat), s.size - i = d → i ≤ s.size → ∃ e : Nat, Ev (fun k => spec_l9Run.l0 k s (i : Int) b) (e : Int) ∧ RunTo (fun c => digitP c ∨ (b = true ∧ smallP c)) s i e := by
    intro d
    induction d with
    | zero =>
      intro i hd hi
      refine ⟨i, Ev.step (f := fun _ => some (i : Int)) (fun k => ?_) (Ev.now _), Nat.le_refl _, hi, fun j h1 h2 => by omega, fun h => by omega⟩
      rw [spec_l9Run.l0.eq_def]; simp only []; rw [if_neg (by omega)]
    | succ d ih =>
      intro i hd hi
      have hlt : i < s.size := by omega
      have w4 : wrap64 ((i : Int) + 1) = ((i + 1 : Nat) : Int) := by rw [w64 (by omega) (by omega)]; rfl
      have g1 : (i : Int) < (s.size : Int) := by omega
      have g2 : 0 ≤ (i : Int) := by omega
      by_cases c : digitP (bt s (i : Int)) ∨ (b = true ∧ smallP (bt s (i : Int)))
      · obtain ⟨e, he, e0, e1, e2, e3⟩ := ih (i + 1) (by omega) (by omega)
        refine ⟨e, Ev.step (fun k => ?_) he, by omega, e1, fun j h1 h2 => ?_, e3⟩
        · rw [spec_l9Run.l0.eq_def]; simp only [w4, l9Digit_ok, l9Small_ok, Option.bind_some]
          rw [if_pos g1, if_pos g2]
          by_cases q : digitP (bt s (i : Int))
          · rw [if_pos (decide_eq_true q)]
          · rcases c with c | ⟨c1, c2⟩
            · exact absurd c q
            · rw [if_neg (by rw [decide_eq_true_eq]; exact q), if_pos c1, if_pos (decide_eq_true c2)]
        · rcases Nat.eq_or_lt_of_le h1 with q | q
          · subst q; exact c
          · exact e2 j q h2
      · refine ⟨i, Ev.step (f := fun _ => some (i : Int)) (fun k => ?_) (Ev.now _), Nat.le_refl _, hi, fun j h1 h2 => by omega, fun _ => c⟩
        rw [spec_l9Run.l0.eq_def]; simp only [l9Digit_ok, l9Small_ok, Option.bind_some]
        rw [if_pos g1, if_pos g2, if_neg (by rw [decide_eq_true_eq]; exact fun h => c (.inl h))]
        by_cases q : b = true
        · rw [if_pos q, if_neg (by rw [decide_eq_true_eq]; exact fun h => c (.inr ⟨q, h⟩))]
        · rw [if_neg q]
  exact H (s.size - a) a rfl ha
theorem numberAt_ok (s : ByteArray) (hs : s.size ≤ 1048576) (a : Nat) (ha : a ≤ s.size) : ∃ e : Nat, RunTo digitP s a e ∧ Ev (fun k => impl_numberAt.f k s (a : Int)) (if (octR (s.extract a e).data.toList).2 = true then (2, (octR (s.extract a e).data.toList).1, (⟨#[]⟩ : ByteArray), ((e - a : Nat) : Int)) else (0, 0, (⟨#[]⟩ : ByteArray), 0)) := by
  have fin : ∀ i : Nat, a ≤ i → i ≤ s.size → ((impl_ParseOct.f (s.extract (a : Int).toNat (i : Int).toNat)).bind fun bt197 => (if bt197.2 = true then (some (2, bt197.1, (⟨#[]⟩ : ByteArray), wrap64 ((i : Int) - (a : Int)))) else (some ((0 : Int), (0 : Int), (⟨#[]⟩ : ByteArray), (0 : Int))))) = some (if (octR (s.extract a i).data.toList).2 = true then (2, (octR (s.extract a i).data.toList).1, (⟨#[]⟩ : ByteArray), ((i - a : Nat) : Int)) else (0, 0, (⟨#[]⟩ : ByteArray), 0)) := by
    intro i h1 h2
    have w : wrap64 ((i : Int) - (a : Int)) = ((i - a : Nat) : Int) := by rw [w64 (by omega) (by omega)]; omega
    rw [Int.toNat_natCast, Int.toNat_natCast, implParse_ok _ (by rw [extract_size s a i h2]; omega), Option.bind_some, w]
    split <;> rfl
  have H : ∀ (d i : Nat), s.size - i = d → a ≤ i → i ≤ s.size → ∃ e : Nat, RunTo digitP s i e ∧ Ev (fun k => impl_numberAt.l0 k s (a : Int) (i : Int)) (if (octR (s.extract a e).data.toList).2 = true then (2, (octR (s.extract a e).data.toList).1, (⟨#[]⟩ : ByteArray), ((e - a : Nat) : Int)) else (0, 0, (⟨#[]⟩ : ByteArray), 0)) := by
    intro d
    induction d with
    | zero =>
      intro i hd h0 hi
      refine ⟨i, ⟨Nat.le_refl _, hi, fun j h1 h2 => by omega, fun h => by omega⟩, Ev.step (f := fun _ => some _) (fun k => ?_) (Ev.now _)⟩
      rw [impl_numberAt.l0.eq_def]; simp only []
      rw [if_neg (by omega), if_pos (by omega), if_pos (by omega), if_pos (by omega)]; exact fin i h0 hi
    | succ d ih =>
      intro i hd h0 hi
      have hlt : i < s.size := by omega
      have w4 : wrap64 ((i : Int) + 1) = ((i + 1 : Nat) : Int) := by rw [w64 (by omega) (by omega)]; rfl
      have g1 : (i : Int) < (s.size : Int) := by omega
      have g2 : 0 ≤ (i : Int) := by omega
      have g3 : 0 ≤ (a : Int) := by omega
      have g4 : (a : Int) ≤ (i : Int) := by omega
      have g5 : (i : Int) ≤ (s.size : Int) := by omega
      by_cases c : digitP (bt s (i : Int))
      · obtain ⟨e, ⟨e0, e1, e2, e3⟩, he⟩ := ih (i + 1) (by omega) (by omega) (by omega)
        refine ⟨e, ⟨by omega, e1, fun j h1 h2 => ?_, e3⟩, Ev.step (fun k => ?_) he⟩
        · rcases Nat.eq_or_lt_of_le h1 with q | q
          · subst q; exact c
          · exact e2 j q h2
        · have c' := c
          unfold digitP at c'
          rw [impl_numberAt.l0.eq_def]; simp only [w4, bt_b, within_ok, Option.bind_some]
          rw [if_pos g1, if_pos g2, if_pos (decide_eq_true c')]
      · have c' := c
        unfold digitP at c'
        refine ⟨i, ⟨Nat.le_refl _, hi, fun j h1 h2 => by omega, fun _ => c⟩, Ev.step (f := fun _ => some _) (fun k => ?_) (Ev.now _)⟩
        rw [impl_numberAt.l0.eq_def]; simp only [bt_b, within_ok, Option.bind_some]
        rw [if_pos g1, if_pos g2, if_neg (by rw [decide_eq_true_eq]; exact c'), if_pos g3, if_pos g4, if_pos g5]; exact fin i h0 hi
  exact H (s.size - a) a rfl (Nat.le_refl _) ha
theorem byte_at (s : ByteArray) (i : Nat) (h : i < s.size) : ∃ c : UInt8, bt s (i : Int) = (c.toNat : Int) ∧ s.data.toList[i]? = some c := by
  have h2 : i < s.data.toList.length := by rw [Array.length_toList]; exact h
  exact ⟨s.data.toList[i], bt_i s i h2, List.getElem?_eq_getElem h2⟩
theorem extract_list (s : ByteArray) (a b : Nat) : (s.extract a b).data.toList = (s.data.toList.drop a).take (b - a) := by
  rw [ByteArray.data_extract, Array.toList_extract]
theorem extract_one (s : ByteArray) (a : Nat) (c : UInt8) (h : s.data.toList[a]? = some c) : s.extract a (a + 1) = ⟨#[c]⟩ := by
  apply ByteArray.ext
  apply Array.ext'
  rw [extract_list]
  obtain ⟨h1, h2⟩ := List.getElem?_eq_some_iff.1 h
  rw [List.drop_eq_getElem_cons h1, h2, Nat.add_sub_cancel_left, List.take_succ_cons, List.take_zero]
theorem kept_form : ∀ x ∈ opW23 ++ regW8, formB x = true := by decide +kernel
theorem keptB_form (s : ByteArray) (h : keptB s = true) : formB s = true := by
  unfold keptB amongB at h
  rw [List.any_eq_true] at h
  obtain ⟨x, hx, e⟩ := h
  have e2 : x = s := by
    apply ByteArray.ext; apply Array.ext'
    rw [beq_iff_eq, bal, bal] at e; exact e
  rw [← e2]; exact kept_form x hx
theorem tokB1 (t : ByteArray) : tokB 1 0 t = nameB t := by unfold tokB; rw [if_neg (by decide), if_pos rfl, if_pos rfl]
theorem tokB5 (t : ByteArray) : tokB 5 0 t = keptB t := by unfold tokB; rw [if_neg (by decide), if_pos rfl, if_neg (by decide), if_neg (by decide), if_neg (by decide), if_pos rfl]
theorem tokB4 (t : ByteArray) : tokB 4 0 t = markB t := by unfold tokB; rw [if_neg (by decide), if_pos rfl, if_neg (by decide), if_neg (by decide), if_pos rfl]
theorem tokB3 (t : ByteArray) : tokB 3 0 t = (decide (1 < t.size) && decide (bt t 0 = 46) && formB (t.extract 1 t.size)) := by unfold tokB; rw [if_neg (by decide), if_pos rfl, if_neg (by decide), if_pos rfl]
theorem tokB2 (N : Int) : tokB 2 N (⟨#[]⟩ : ByteArray) = decide (0 ≤ N ∧ N ≤ 65535) := by unfold tokB; rw [if_pos rfl]; simp [bal]
theorem octR_inv2 (l : List UInt8) (v : Int) (h : octR l = (v, true)) : 0 ≤ v ∧ v ≤ 65535 ∧ octF 6 v.toNat = l := by
  by_cases c : ∃ n, n ≤ 65535 ∧ octF 6 n = l
  · obtain ⟨n, hn, e⟩ := c
    rw [← e, octR_of n hn] at h
    have hv : (n : Int) = v := (Prod.mk.inj h).1
    subst hv
    exact ⟨by omega, by omega, e⟩
  · rw [octR_no l (fun n hn e => c ⟨n, hn, e⟩)] at h
    cases (Prod.mk.inj h).2
/-- a mark, as the program finds it. -/
theorem implMark_ok (s : ByteArray) (a : Nat) (ha : a < s.size) (hs : s.size ≤ 1048576) (x6 : ByteArray) (h6 : x6.toList = []) : Ev (fun k => impl_tokenAt.j2 k s (a : Int) x6) (if markB (s.extract a (a + 1)) = true then (4, 0, s.extract a (a + 1), 1) else (0, 0, (⟨#[]⟩ : ByteArray), 0)) := by
  obtain ⟨c, hc, hg⟩ := byte_at s a ha
  have ho := extract_one s a c hg
  have hm := has_mark (⟨#[c]⟩ : ByteArray) rfl
  have hu : (bt s (a : Int)).toNat.toUInt8 = c := by rw [hc, Int.toNat_natCast]; simp
  have w4 : wrap64 ((a : Int) + 1) = ((a + 1 : Nat) : Int) := by rw [w64 (by omega) (by omega)]; rfl
  have g1 : (a : Int) < (s.size : Int) := by omega
  have g2 : 0 ≤ (a : Int) := by omega
  have g3 : (a : Int) ≤ ((a + 1 : Nat) : Int) := by omega
  have g4 : ((a + 1 : Nat) : Int) ≤ (s.size : Int) := by omega
  refine Ev.step (f := fun _ => some _) (fun k => ?_) (Ev.now _)
  rw [impl_tokenAt.j2.eq_def]
  simp only [strings_IndexByte.f, Option.bind_some, w4, Int.toNat_natCast, hu]
  rw [if_pos h6, if_pos g2, if_pos g1, ho]
  have hm2 : decide (0 ≤ Lib.indexByte (⟨#[58, 61, 44, 40, 41, 43, 45, 42, 47, 38, 124, 35, 64, 46, 60, 62]⟩ : ByteArray).data.toList c) = markB (⟨#[c]⟩ : ByteArray) := hm
  by_cases q : 0 ≤ Lib.indexByte (⟨#[58, 61, 44, 40, 41, 43, 45, 42, 47, 38, 124, 35, 64, 46, 60, 62]⟩ : ByteArray).data.toList c
  · rw [decide_eq_true q] at hm2
    show (if Lib.indexByte (⟨#[58, 61, 44, 40, 41, 43, 45, 42, 47, 38, 124, 35, 64, 46, 60, 62]⟩ : ByteArray).data.toList c < 0 then _ else _) = _
    rw [if_neg (Int.not_lt.2 q), if_pos g3, if_pos g4, if_pos hm2.symm]
  · rw [decide_eq_false q] at hm2
    show (if Lib.indexByte (⟨#[58, 61, 44, 40, 41, 43, 45, 42, 47, 38, 124, 35, 64, 46, 60, 62]⟩ : ByteArray).data.toList c < 0 then _ else _) = _
    rw [if_pos (Int.not_le.1 q), if_neg (by rw [← hm2]; decide)]
def OneT (s : ByteArray) (a : Nat) : Prop := ∃ (K N : Int) (t : ByteArray) (e : Nat), a < e ∧ e ≤ s.size ∧ t.size ≤ s.size ∧ Ev (fun k => spec_l9One.f k s (a : Int)) (K, N, t, (e : Int)) ∧
  Ev (fun k => impl_tokenAt.f k s (a : Int)) (if tokB K N t = true then (K, N, t, ((e - a : Nat) : Int)) else (0, 0, (⟨#[]⟩ : ByteArray), 0))
theorem empty_run (s : ByteArray) (a : Nat) : (s.extract a a).toList = [] := by
  have h : (s.extract a a).size = 0 := by
    rw [ByteArray.size_extract]; omega
  have h2 := bal_length (s.extract a a)
  rw [h] at h2
  exact List.length_eq_zero_iff.1 h2
theorem ne_run (s : ByteArray) (a e : Nat) (h : a < e) (h2 : e ≤ s.size) : ¬ (s.extract a e).toList = [] := by
  intro q
  have h3 := bal_length (s.extract a e)
  rw [q, extract_size s a e h2] at h3
  simp at h3; omega
theorem bt_extract (s : ByteArray) (a e : Nat) (h : a < e) (h2 : e ≤ s.size) : bt (s.extract a e) 0 = bt s (a : Int) := by
  obtain ⟨c, hc, hg⟩ := byte_at s a (by omega)
  have h0 : 0 < (s.extract a e).size := by rw [extract_size s a e h2]; omega
  obtain ⟨d, hd, hg2⟩ := byte_at (s.extract a e) 0 h0
  rw [extract_list, List.getElem?_take, if_pos (by omega), List.getElem?_drop, Nat.add_zero, hg] at hg2
  have hcd := Option.some.inj hg2
  subst hcd
  rw [hc]
  exact hd
theorem dot_extract (s : ByteArray) (a e : Nat) (h : a < e) (h2 : e ≤ s.size) (h46 : bt s (a : Int) = 46) : s.extract a e = (⟨#[46]⟩ : ByteArray) ++ s.extract (a + 1) e := by
  obtain ⟨c, hc, hg⟩ := byte_at s a (by omega)
  have hc2 : c = 46 := by
    apply UInt8.toNat_inj.1
    have : (c.toNat : Int) = 46 := by rw [← hc]; exact h46
    show c.toNat = 46
    omega
  subst hc2
  apply ByteArray.ext
  apply Array.ext'
  rw [ByteArray.data_append, Array.toList_append, extract_list, extract_list]
  obtain ⟨h1, h3⟩ := List.getElem?_eq_some_iff.1 hg
  rw [List.drop_eq_getElem_cons h1, h3, show e - a = (e - (a + 1)) + 1 by omega, List.take_succ_cons]
  rfl
theorem extract_tail (s : ByteArray) (a e : Nat) (h : a < e) (h2 : e ≤ s.size) : (s.extract a e).extract 1 (s.extract a e).size = s.extract (a + 1) e := by
  apply ByteArray.ext
  apply Array.ext'
  rw [extract_list, extract_list, extract_list, extract_size s a e h2, List.drop_take, List.take_take, List.drop_drop]
  congr 1
  omega
theorem one_small (s : ByteArray) (hs : s.size ≤ 1048576) (a : Nat) (ha : a < s.size) (c1 : smallP (bt s (a : Int))) : OneT s a := by
  have g1 : (a : Int) < (s.size : Int) := by omega
  have g2 : 0 ≤ (a : Int) := by omega
  have w4 : wrap64 ((a : Int) + 1) = ((a + 1 : Nat) : Int) := by rw [w64 (by omega) (by omega)]; rfl
  have g3 : (a : Int) ≤ ((a + 1 : Nat) : Int) := by omega
  have g4 : ((a + 1 : Nat) : Int) ≤ (s.size : Int) := by omega
  have g5 : 0 ≤ ((a + 1 : Nat) : Int) := by omega
  have w4A := Aside0.mk w4
  clear w4
  obtain ⟨e, e0, e1, he, e2, e3⟩ := runFrom_ok s hs a (by omega)
  obtain ⟨f, hf, r⟩ := l9Run_ok s hs true a (by omega)
  have hfe : f = e := RunTo.one (p := fun c => digitP c ∨ (true = true ∧ smallP c)) r ⟨e0, e1, fun j h1 h2 => (e2 j h1 h2).elim (fun h => .inr ⟨rfl, h⟩) .inl, fun h q => e3 h (q.elim .inr (fun q => .inl q.2))⟩
  subst hfe
  have hlt : a < f := by
    rcases Nat.eq_or_lt_of_le e0 with q | q
    · subst q; exact absurd (.inl c1) (e3 ha)
    · exact q
  have hz : (s.extract a f).size ≤ 1048576 := by rw [extract_size s a f e1]; omega
  have hz2 : (s.extract a f).size ≤ s.size := by rw [extract_size s a f e1]; omega
  have hne := ne_run s a f hlt e1
  have hsz : ((s.extract a f).size : Int) = ((f - a : Nat) : Int) := by rw [extract_size s a f e1]
  obtain ⟨q, hq, hqi⟩ := specKept_ok (s.extract a f)
  -- the reference
  have sp : ∀ K : Int, (if q ≥ 0 then (5 : Int) else 1) = K → Ev (fun k => spec_l9One.f k s (a : Int)) (K, 0, s.extract a f, (f : Int)) := by
    intro K hK
    refine Ev.congr (f := fun k => (spec_l9Run.f k s (a : Int) true).bind fun t142 => (if (a : Int) ≤ t142 then (if t142 ≤ (s.size : Int) then ((spec_l9Word.f k (s.extract (a : Int).toNat (t142 : Int).toNat)).bind fun bt143 => (some (bt143.1, bt143.2.1, bt143.2.2, t142))) else (none)) else (none))) (fun k => ?_) (Ev.bind hf ?_)
    · have w4 := w4A.out
      simp only [spec_l9One.f, l9Small_ok, l9Digit_ok, Option.bind_some, w4, Int.toNat_natCast]
      simp only [if_pos g2, if_pos g1, if_pos g3, if_pos g4, if_pos g5]
      rw [if_pos (decide_eq_true c1)]
    · refine Ev.congr (f := fun k => (spec_l9At.f k (opW23 ++ regW8) (s.extract a f)).bind fun t130 => if t130 ≥ 0 then some (5, 0, s.extract a f, (f : Int)) else some (1, 0, s.extract a f, (f : Int))) (fun k => ?_) (Ev.bind hq (Ev.congr (f := fun _ => some (K, 0, s.extract a f, (f : Int))) (fun k => ?_) (Ev.now _)))
      · rw [if_pos (by omega), if_pos (by omega), Int.toNat_natCast, Int.toNat_natCast]
        simp only [spec_l9Word.f, kept31_ok, Option.bind_some]
        cases spec_l9At.f k (opW23 ++ regW8) (s.extract a f) with
        | none => rfl
        | some z => simp only [Option.bind_some]; split <;> rfl
      · subst hK; split <;> rfl
  -- the program
  have im : ∀ r, Ev (fun k => (impl_hasForm.f k (s.extract a f)).bind fun t212 => (if t212 = true then ((impl_isKept.f k (s.extract a f)).bind fun t213 => (if t213 = true then (some (5, 0, s.extract a f, ((s.extract a f).size : Int))) else (some (1, 0, s.extract a f, ((s.extract a f).size : Int))))) else (some (0, 0, (⟨#[]⟩ : ByteArray), 0)))) r → Ev (fun k => impl_tokenAt.f k s (a : Int)) r := by
    intro r hr
    refine Ev.bind he ?_
    refine Ev.congr (f := fun k => impl_tokenAt.j0 k s (a : Int) (s.extract a f) false) (fun k => by rw [if_neg hne]) ?_
    refine Ev.step (f := fun k => impl_tokenAt.j2 k s (a : Int) (s.extract a f)) (fun k => by rw [impl_tokenAt.j0.eq_def]; simp only []; rw [if_neg (by decide)]) ?_
    refine Ev.step (fun k => ?_) hr
    rw [impl_tokenAt.j2.eq_def]; simp only [isLetter_ok, Option.bind_some]
    rw [if_neg hne, if_pos g2, if_pos g1, if_pos (decide_eq_true c1)]
  cases hk : keptB (s.extract a f) with
  | true =>
    have hq0 : q ≥ 0 := hqi.2 hk
    refine ⟨5, 0, s.extract a f, f, hlt, e1, hz2, sp 5 (if_pos hq0), ?_⟩
    rw [tokB5, hk, if_pos rfl]
    refine im _ (Ev.bind (hasForm_ok _ hz) ?_)
    rw [keptB_form _ hk]
    have hkk := isKept_ok (s.extract a f)
    rw [hk] at hkk
    exact Ev.congr (f := fun k => (impl_isKept.f k (s.extract a f)).bind fun t213 => (if t213 = true then (some (5, 0, s.extract a f, ((s.extract a f).size : Int))) else (some (1, 0, s.extract a f, ((s.extract a f).size : Int))))) (fun k => by rw [if_pos rfl]) (Ev.bind hkk (Ev.congr (f := fun _ => some (5, 0, s.extract a f, ((f - a : Nat) : Int))) (fun k => by rw [if_pos rfl, hsz]) (Ev.now _)))
  | false =>
    have hq0 : ¬ q ≥ 0 := fun h => by rw [hqi.1 h] at hk; cases hk
    refine ⟨1, 0, s.extract a f, f, hlt, e1, hz2, sp 1 (if_neg hq0), ?_⟩
    rw [tokB1]
    unfold nameB
    rw [hk, Bool.not_false, Bool.and_true]
    refine im _ (Ev.bind (hasForm_ok _ hz) ?_)
    have hkk := isKept_ok (s.extract a f)
    rw [hk] at hkk
    cases formB (s.extract a f) with
    | false => exact Ev.congr (f := fun _ => some (0, 0, (⟨#[]⟩ : ByteArray), 0)) (fun k => by rw [if_neg (by decide)]) (by rw [if_neg (by decide)]; exact Ev.now _)
    | true =>
      rw [if_pos rfl]
      exact Ev.congr (f := fun k => (impl_isKept.f k (s.extract a f)).bind fun t213 => (if t213 = true then (some (5, 0, s.extract a f, ((s.extract a f).size : Int))) else (some (1, 0, s.extract a f, ((s.extract a f).size : Int))))) (fun k => by rw [if_pos rfl]) (Ev.bind hkk (Ev.congr (f := fun _ => some (1, 0, s.extract a f, ((f - a : Nat) : Int))) (fun k => by rw [if_neg (by decide), hsz]) (Ev.now _)))
theorem one_digit_tok (s : ByteArray) (hs : s.size ≤ 1048576) (a : Nat) (ha : a < s.size) (c1 : ¬ smallP (bt s (a : Int))) (c2 : digitP (bt s (a : Int))) : OneT s a := by
  have g1 : (a : Int) < (s.size : Int) := by omega
  have g2 : 0 ≤ (a : Int) := by omega
  have w4 : wrap64 ((a : Int) + 1) = ((a + 1 : Nat) : Int) := by rw [w64 (by omega) (by omega)]; rfl
  have g3 : (a : Int) ≤ ((a + 1 : Nat) : Int) := by omega
  have g4 : ((a + 1 : Nat) : Int) ≤ (s.size : Int) := by omega
  have g5 : 0 ≤ ((a + 1 : Nat) : Int) := by omega
  have w4A := Aside0.mk w4
  clear w4
  obtain ⟨e, e0, e1, he, e2, e3⟩ := runFrom_ok s hs a (by omega)
  obtain ⟨f, hf, r⟩ := l9Run_ok s hs false a (by omega)
  obtain ⟨g, rg, hg⟩ := numberAt_ok s hs a (by omega)
  have hfg : f = g := RunTo.one (p := fun c => digitP c ∨ (false = true ∧ smallP c)) r ⟨rg.1, rg.2.1, fun j h1 h2 => .inl (rg.2.2.1 j h1 h2), fun h q => rg.2.2.2 h (q.elim id (fun q => by cases q.1))⟩
  subst hfg
  obtain ⟨f0, f1, f2, f3⟩ := rg
  have hlt : a < f := by
    rcases Nat.eq_or_lt_of_le f0 with q | q
    · subst q; exact absurd c2 (f3 ha)
    · exact q
  have hlt2 : a < e := by
    rcases Nat.eq_or_lt_of_le e0 with q | q
    · subst q; exact absurd (.inr c2) (e3 ha)
    · exact q
  have hz : (s.extract a f).size ≤ 1048576 := by rw [extract_size s a f f1]; omega
  have hne := ne_run s a e hlt2 e1
  have hp := specParse_ok (s.extract a f) hz
  have im : ∀ r, Ev (fun k => (impl_numberAt.f k s (a : Int)).bind fun bt208 => (some (bt208.1, bt208.2.1, bt208.2.2.1, bt208.2.2.2))) r → Ev (fun k => impl_tokenAt.f k s (a : Int)) r := by
    intro r hr
    refine Ev.bind he ?_
    refine Ev.congr (f := fun k => impl_tokenAt.j0 k s (a : Int) (s.extract a e) false) (fun k => by rw [if_neg hne]) ?_
    refine Ev.step (f := fun k => impl_tokenAt.j2 k s (a : Int) (s.extract a e)) (fun k => by rw [impl_tokenAt.j0.eq_def]; simp only []; rw [if_neg (by decide)]) ?_
    refine Ev.step (fun k => ?_) hr
    rw [impl_tokenAt.j2.eq_def]; simp only [isLetter_ok, Option.bind_some]
    rw [if_neg hne, if_pos g2, if_pos g1, if_neg (by rw [decide_eq_true_eq]; exact c1)]
  have sp : ∀ N : Int, (if (octR (s.extract a f).data.toList).2 = true then (octR (s.extract a f).data.toList).1 else -1) = N → Ev (fun k => spec_l9One.f k s (a : Int)) (2, N, (⟨#[]⟩ : ByteArray), (f : Int)) := by
    intro N hN
    refine Ev.congr (f := fun k => (spec_l9Run.f k s (a : Int) false).bind fun t147 => (if (a : Int) ≤ t147 then (if t147 ≤ (s.size : Int) then ((spec_ParseOct.f k (s.extract (a : Int).toNat (t147 : Int).toNat)).bind fun bt148 => (if bt148.2 = true then (some (2, bt148.1, (⟨#[]⟩ : ByteArray), t147)) else (some (2, (-1), (⟨#[]⟩ : ByteArray), t147)))) else (none)) else (none))) (fun k => ?_) (Ev.bind hf ?_)
    · have w4 := w4A.out
      simp only [spec_l9One.f, l9Small_ok, l9Digit_ok, Option.bind_some, w4, Int.toNat_natCast]
      simp only [if_pos g2, if_pos g1, if_pos g3, if_pos g4, if_pos g5]
      rw [if_neg (by rw [decide_eq_true_eq]; exact c1), if_pos (decide_eq_true c2)]
    · refine Ev.congr (f := fun k => (spec_ParseOct.f k (s.extract a f)).bind fun bt148 => (if bt148.2 = true then (some (2, bt148.1, (⟨#[]⟩ : ByteArray), (f : Int))) else (some (2, (-1), (⟨#[]⟩ : ByteArray), (f : Int))))) (fun k => by rw [if_pos (by omega), if_pos (by omega), Int.toNat_natCast, Int.toNat_natCast]) (Ev.bind hp (Ev.congr (f := fun _ => some (2, N, (⟨#[]⟩ : ByteArray), (f : Int))) (fun k => ?_) (Ev.now _)))
      subst hN
      split <;> rfl
  have h0 : (⟨#[]⟩ : ByteArray).size ≤ s.size := by show (0 : Nat) ≤ _; omega
  cases ho : octR (s.extract a f).data.toList with
  | mk v b =>
    rw [ho] at sp hg
    cases b with
    | true =>
      obtain ⟨v0, v1, _⟩ := octR_inv2 _ _ ho
      refine ⟨2, v, _, f, hlt, f1, h0, sp v rfl, ?_⟩
      rw [tokB2, decide_eq_true ⟨v0, v1⟩, if_pos rfl]
      rw [if_pos rfl] at hg
      exact im _ (Ev.bind hg (Ev.now _))
    | false =>
      refine ⟨2, -1, _, f, hlt, f1, h0, sp (-1) rfl, ?_⟩
      rw [tokB2, decide_eq_false (by omega), if_neg (by simp)]
      rw [if_neg (by simp)] at hg
      exact im _ (Ev.bind hg (Ev.now _))
theorem one_other (s : ByteArray) (hs : s.size ≤ 1048576) (a : Nat) (ha : a < s.size) (c1 : ¬ smallP (bt s (a : Int))) (c2 : ¬ digitP (bt s (a : Int))) : OneT s a := by
  have g1 : (a : Int) < (s.size : Int) := by omega
  have g2 : 0 ≤ (a : Int) := by omega
  have w4 : wrap64 ((a : Int) + 1) = ((a + 1 : Nat) : Int) := by rw [w64 (by omega) (by omega)]; rfl
  have g3 : (a : Int) ≤ ((a + 1 : Nat) : Int) := by omega
  have g4 : ((a + 1 : Nat) : Int) ≤ (s.size : Int) := by omega
  have g5 : 0 ≤ ((a + 1 : Nat) : Int) := by omega
  obtain ⟨e, e0, e1, he, e2, e3⟩ := runFrom_ok s hs a (by omega)
  have hea : e = a := by
    rcases Nat.eq_or_lt_of_le e0 with q | q
    · exact q.symm
    · rcases e2 a (Nat.le_refl _) q with z | z
      · exact absurd z c1
      · exact absurd z c2
  subst hea
  have hemp := empty_run s e
  have hm := implMark_ok s e ha hs (s.extract e e) hemp
  have ztok : (s.extract e (e + 1)).size ≤ s.size := by rw [extract_size s e (e + 1) (by omega)]; omega
  -- a mark, for both
  have mark : Ev (fun k => spec_l9One.f k s (e : Int)) (4, 0, s.extract e (e + 1), ((e + 1 : Nat) : Int)) → Ev (fun k => impl_tokenAt.f k s (e : Int)) (if markB (s.extract e (e + 1)) = true then (4, 0, s.extract e (e + 1), 1) else (0, 0, (⟨#[]⟩ : ByteArray), 0)) → OneT s e := by
    intro h1 h2
    refine ⟨4, 0, s.extract e (e + 1), e + 1, by omega, by omega, ztok, h1, ?_⟩
    rw [tokB4, show ((e + 1 - e : Nat) : Int) = 1 by omega]
    exact h2
  have sp0 : ∀ r, Ev (fun k => if (bt s (e : Int)) = 46 then (if ((e + 1 : Nat) : Int) < (s.size : Int) then (if 0 ≤ ((e + 1 : Nat) : Int) then ((spec_l9Small.f (bt s ((e + 1 : Nat) : Int))).bind fun t150 => (if t150 = true then ((spec_l9Run.f k s ((e + 1 : Nat) : Int) true).bind fun t151 => (if (e : Int) ≤ t151 then (if t151 ≤ (s.size : Int) then (some (3, 0, s.extract (e : Int).toNat (t151 : Int).toNat, t151)) else (none)) else (none))) else (some (4, 0, s.extract e (e + 1), ((e + 1 : Nat) : Int))))) else (none)) else (some (4, 0, s.extract e (e + 1), ((e + 1 : Nat) : Int)))) else (some ((4 : Int), (0 : Int), s.extract e (e + 1), ((e + 1 : Nat) : Int)))) r → Ev (fun k => spec_l9One.f k s (e : Int)) r := by
    intro r hr
    refine Ev.congr (fun k => ?_) hr
    simp only [spec_l9One.f, l9Small_ok, l9Digit_ok, Option.bind_some, w4, Int.toNat_natCast]
    simp only [if_pos g2, if_pos g1, if_pos g3, if_pos g4, if_pos g5]
    rw [if_neg (by rw [decide_eq_true_eq]; exact c1), if_neg (by rw [decide_eq_true_eq]; exact c2)]
  have im0 : ∀ r, Ev (fun k => impl_tokenAt.j0 k s (e : Int) (s.extract e e) (bt s (e : Int) == 46)) r → Ev (fun k => impl_tokenAt.f k s (e : Int)) r := by
    intro r hr
    refine Ev.bind he (Ev.congr (fun k => ?_) hr)
    rw [if_pos hemp, if_pos g2, if_pos g1]
  by_cases c46 : bt s (e : Int) = 46
  · rw [beq_iff_eq.2 c46] at im0
    obtain ⟨f, f0, f1, hf, f2, f3⟩ := runFrom_ok s hs (e + 1) (by omega)
    obtain ⟨g, hg, r⟩ := l9Run_ok s hs true (e + 1) (by omega)
    have hgf : g = f := RunTo.one (p := fun c => digitP c ∨ (true = true ∧ smallP c)) r ⟨f0, f1, fun j h1 h2 => (f2 j h1 h2).elim (fun h => .inr ⟨rfl, h⟩) .inl, fun h q => f3 h (q.elim .inr (fun q => .inl q.2))⟩
    subst hgf
    have im1 : ∀ r, Ev (fun k => if (s.extract (e + 1) g).toList = ([] : List UInt8) then (impl_tokenAt.j1 k s (e : Int) (s.extract e e) (s.extract (e + 1) g) false) else (if 0 < ((s.extract (e + 1) g).size : Int) then ((impl_isLetter.f (bt (s.extract (e + 1) g) 0)).bind fun t204 => (impl_tokenAt.j1 k s (e : Int) (s.extract e e) (s.extract (e + 1) g) t204)) else (none))) r → Ev (fun k => impl_tokenAt.f k s (e : Int)) r := by
      intro r hr
      refine im0 r (Ev.step (f := fun k => (impl_runFrom.f k s ((e + 1 : Nat) : Int)).bind fun t203 => (if t203.toList = ([] : List UInt8) then (impl_tokenAt.j1 k s (e : Int) (s.extract e e) t203 false) else (if 0 < (t203.size : Int) then ((impl_isLetter.f (bt t203 0)).bind fun t204 => (impl_tokenAt.j1 k s (e : Int) (s.extract e e) t203 t204)) else (none)))) (fun k => ?_) (Ev.bind hf hr))
      rw [impl_tokenAt.j0.eq_def]; simp only [w4]; rw [if_pos trivial]
    have j1f : ∀ x, Ev (fun k => impl_tokenAt.j1 k s (e : Int) (s.extract e e) x false) (if markB (s.extract e (e + 1)) = true then (4, 0, s.extract e (e + 1), 1) else (0, 0, (⟨#[]⟩ : ByteArray), 0)) := by
      intro x
      refine Ev.step (fun k => ?_) hm
      rw [impl_tokenAt.j1.eq_def]; simp only []; rw [if_neg (by decide)]
    by_cases cs : e + 1 < s.size ∧ smallP (bt s ((e + 1 : Nat) : Int))
    · -- a dot and a name
      obtain ⟨cs1, cs2⟩ := cs
      have hlt : e + 1 < g := by
        rcases Nat.eq_or_lt_of_le f0 with q | q
        · rw [← q] at f3; exact absurd (.inl cs2) (f3 cs1)
        · exact q
      have hne := ne_run s (e + 1) g hlt f1
      have hz : (s.extract (e + 1) g).size ≤ 1048576 := by rw [extract_size s (e + 1) g f1]; omega
      have hb0 := bt_extract s (e + 1) g hlt f1
      have ht : s.extract e g = (⟨#[46]⟩ : ByteArray) ++ s.extract (e + 1) g := dot_extract s e g (by omega) f1 c46
      have hxz : (s.extract (e + 1) g).size = g - (e + 1) := extract_size s (e + 1) g f1
      have w5 : wrap64 (1 + ((s.extract (e + 1) g).size : Int)) = ((g - e : Nat) : Int) := by rw [w64 (by omega) (by omega)]; omega
      refine ⟨3, 0, s.extract e g, g, by omega, f1, by rw [extract_size s e g f1]; omega, sp0 _ ?_, ?_⟩
      · refine Ev.congr (f := fun k => (spec_l9Run.f k s ((e + 1 : Nat) : Int) true).bind fun t151 => (if (e : Int) ≤ t151 then (if t151 ≤ (s.size : Int) then (some (3, 0, s.extract (e : Int).toNat (t151 : Int).toNat, t151)) else (none)) else (none))) (fun k => ?_) (Ev.bind hg (Ev.congr (f := fun _ => some _) (fun k => ?_) (Ev.now _)))
        · rw [if_pos c46, if_pos (by omega), if_pos g5, l9Small_ok, Option.bind_some, if_pos (decide_eq_true cs2)]
        · rw [if_pos (by omega), if_pos (by omega), Int.toNat_natCast, Int.toNat_natCast]
      · have h3 : tokB 3 0 (s.extract e g) = formB (s.extract (e + 1) g) := by
          rw [tokB3, extract_tail s e g (by omega) f1, bt_extract s e g (by omega) f1, decide_eq_true c46, decide_eq_true (by rw [extract_size s e g f1]; omega)]
          rfl
        rw [h3]
        refine im1 _ (Ev.congr (f := fun k => impl_tokenAt.j1 k s (e : Int) (s.extract e e) (s.extract (e + 1) g) true) (fun k => ?_) ?_)
        · rw [if_neg hne, if_pos (by omega), isLetter_ok, Option.bind_some, hb0, decide_eq_true cs2]
        · refine Ev.step (f := fun k => (impl_hasForm.f k (s.extract (e + 1) g)).bind fun t205 => (if t205 = true then (if 1 + (s.extract (e + 1) g).size ≤ 9223372036854775807 then (some (3, 0, (⟨#[46]⟩ : ByteArray) ++ (s.extract (e + 1) g), ((g - e : Nat) : Int))) else (none)) else (some (0, 0, (⟨#[]⟩ : ByteArray), 0)))) (fun k => ?_) (Ev.bind (hasForm_ok _ hz) (Ev.congr (f := fun _ => some _) (fun k => ?_) (Ev.now _)))
          · rw [impl_tokenAt.j1.eq_def]; simp only [w5]; rw [if_pos trivial]
          · cases formB (s.extract (e + 1) g) with
            | true => rw [if_pos rfl, if_pos rfl, if_pos (by omega), ht]
            | false => rw [if_neg (by decide), if_neg (by decide)]
    · -- a dot alone
      refine mark (sp0 _ (Ev.congr (f := fun _ => some _) (fun k => ?_) (Ev.now _))) (im1 _ ?_)
      · rw [if_pos c46]
        by_cases q : e + 1 < s.size
        · rw [if_pos (by omega), if_pos g5, l9Small_ok, Option.bind_some, if_neg (by rw [decide_eq_true_eq]; exact fun h => cs ⟨q, h⟩)]
        · rw [if_neg (by omega)]
      · by_cases q : e + 1 < g
        · have hb0 := bt_extract s (e + 1) g q f1
          refine Ev.congr (f := fun k => impl_tokenAt.j1 k s (e : Int) (s.extract e e) (s.extract (e + 1) g) false) (fun k => ?_) (j1f _)
          rw [if_neg (ne_run s (e + 1) g q f1), if_pos (by rw [extract_size s (e + 1) g f1]; omega), isLetter_ok, Option.bind_some, hb0, decide_eq_false (fun h => cs ⟨by omega, h⟩)]
        · have q2 : g = e + 1 := by omega
          subst q2
          exact Ev.congr (f := fun k => impl_tokenAt.j1 k s (e : Int) (s.extract e e) (s.extract (e + 1) (e + 1)) false) (fun k => by rw [if_pos (empty_run s (e + 1))]) (j1f _)
  · rw [beq_eq_false_iff_ne.2 c46] at im0
    refine mark (sp0 _ (Ev.congr (f := fun _ => some _) (fun k => by rw [if_neg c46]) (Ev.now _))) (im0 _ (Ev.step (fun k => ?_) hm))
    rw [impl_tokenAt.j0.eq_def]; simp only []; rw [if_neg (by decide)]
theorem one_ok (s : ByteArray) (hs : s.size ≤ 1048576) (a : Nat) (ha : a < s.size) : OneT s a := by
  by_cases c1 : smallP (bt s (a : Int))
  · exact one_small s hs a ha c1
  · by_cases c2 : digitP (bt s (a : Int))
    · exact one_digit_tok s hs a ha c1 c2
    · exact one_other s hs a ha c1 c2
/-- both read the same tokens, all of them right. -/
theorem lex_ok (s : ByteArray) (hs : s.size ≤ 1048576) : ∃ (l : List S45) (b : Bool), Ev (fun k => spec_Lex.f k s) (l, b) ∧ Ev (fun k => impl_Lex.f k s) (l, b) ∧ l.length ≤ 800 ∧ ∀ t ∈ l, tokB t.f0 t.f1 t.f2 = true ∧ t.f2.size ≤ 1048576 := by
  have H : ∀ (d i : Nat) (x : List S45), s.size - i ≤ d → i ≤ s.size → x.length ≤ 800 → (∀ t ∈ x, tokB t.f0 t.f1 t.f2 = true ∧ t.f2.size ≤ 1048576) →
      ∃ (l : List S45) (b : Bool), Ev (fun k => spec_Lex.l0 k s x (i : Int)) (l, b) ∧ Ev (fun k => impl_Lex.l0 k s x (i : Int)) (l, b) ∧ l.length ≤ 800 ∧ ∀ t ∈ l, tokB t.f0 t.f1 t.f2 = true ∧ t.f2.size ≤ 1048576 := by
    intro d
    induction d with
    | zero =>
      intro i x hd hi hx ht
      refine ⟨x, true, ?_, ?_, hx, ht⟩
      · refine Ev.step (f := fun k => spec_Lex.j1 k s x (i : Int) false) (fun k => ?_) (Ev.step (f := fun _ => some (x, true)) (fun k => ?_) (Ev.now _))
        · rw [spec_Lex.l0.eq_def]; simp only []; rw [if_neg (by omega)]
        · rw [spec_Lex.j1.eq_def]; simp only []; rw [if_neg (by decide)]
      · refine Ev.step (f := fun k => impl_Lex.j1 k s x (i : Int) false) (fun k => ?_) (Ev.step (f := fun _ => some (x, true)) (fun k => ?_) (Ev.now _))
        · rw [impl_Lex.l0.eq_def]; simp only []; rw [if_neg (by omega)]
        · rw [impl_Lex.j1.eq_def]; simp only []; rw [if_neg (by decide)]
    | succ d ih =>
      intro i x hd hi hx ht
      by_cases he : i = s.size
      · exact ih i x (by omega) hi hx ht
      have hlt : i < s.size := by omega
      have w4 : wrap64 ((i : Int) + 1) = ((i + 1 : Nat) : Int) := by rw [w64 (by omega) (by omega)]; rfl
      have g1 : (i : Int) < (s.size : Int) := by omega
      have g2 : 0 ≤ (i : Int) := by omega
      by_cases c59 : bt s (i : Int) = 59
      · refine ⟨x, true, ?_, ?_, hx, ht⟩
        · refine Ev.step (f := fun k => spec_Lex.j1 k s x (i : Int) false) (fun k => ?_) (Ev.step (f := fun _ => some (x, true)) (fun k => ?_) (Ev.now _))
          · rw [spec_Lex.l0.eq_def]; simp only []; rw [if_pos g1, if_pos g2, c59]; rfl
          · rw [spec_Lex.j1.eq_def]; simp only []; rw [if_neg (by decide)]
        · refine Ev.step (f := fun k => impl_Lex.j1 k s x (i : Int) false) (fun k => ?_) (Ev.step (f := fun _ => some (x, true)) (fun k => ?_) (Ev.now _))
          · rw [impl_Lex.l0.eq_def]; simp only []; rw [if_pos g1, if_pos g2, c59]; rfl
          · rw [impl_Lex.j1.eq_def]; simp only []; rw [if_neg (by decide)]
      have n59 : (bt s (i : Int) != 59) = true := by simpa using c59
      obtain ⟨bl, hbl⟩ : ∃ b : Bool, b = (decide (bt s (i : Int) = 32) || (bt s (i : Int) == 9)) := ⟨_, rfl⟩
      have sp1 : ∀ r, Ev (fun k => spec_Lex.j2 k s x (i : Int) bl) r → Ev (fun k => spec_Lex.l0 k s x (i : Int)) r := by
        intro r hr
        refine Ev.step (f := fun k => spec_Lex.j1 k s x (i : Int) true) (fun k => ?_) (Ev.step (fun k => ?_) hr)
        · rw [spec_Lex.l0.eq_def]; simp only []; rw [if_pos g1, if_pos g2, n59]
        · rw [spec_Lex.j1.eq_def]; simp only []; rw [if_pos trivial, if_pos g2, if_pos g1, hbl]
          by_cases q : bt s (i : Int) = 32
          · rw [if_pos q, decide_eq_true q]; rfl
          · rw [if_neg q, decide_eq_false q]; rfl
      have im1 : ∀ r, Ev (fun k => impl_Lex.j2 k s x (i : Int) bl) r → Ev (fun k => impl_Lex.l0 k s x (i : Int)) r := by
        intro r hr
        refine Ev.step (f := fun k => impl_Lex.j1 k s x (i : Int) true) (fun k => ?_) (Ev.step (fun k => ?_) hr)
        · rw [impl_Lex.l0.eq_def]; simp only []; rw [if_pos g1, if_pos g2, n59]
        · rw [impl_Lex.j1.eq_def]; simp only []; rw [if_pos trivial, if_pos g2, if_pos g1, hbl]
          by_cases q : bt s (i : Int) = 32
          · rw [if_pos q, decide_eq_true q]; rfl
          · rw [if_neg q, decide_eq_false q]; rfl
      clear hbl
      cases bl with
      | true =>
        obtain ⟨l, b, a1, a2, a3⟩ := ih (i + 1) x (by omega) (by omega) hx ht
        refine ⟨l, b, sp1 _ (Ev.step (fun k => ?_) a1), im1 _ (Ev.step (fun k => ?_) a2), a3⟩
        · rw [spec_Lex.j2.eq_def]; simp only [w4]; rw [if_pos trivial]
        · rw [impl_Lex.j2.eq_def]; simp only [w4]; rw [if_pos trivial]
      | false =>
        obtain ⟨K, N, t, e, h1, h2, h3, so, io⟩ := one_ok s hs i hlt
        have sp2 : ∀ r, Ev (fun k => if tokB K N t = true then (if (x.length : Int) = 800 then (some ((([] : List (S45))), false)) else (if x.length < 4398046511104 then (spec_Lex.l0 k s (x ++ [(⟨K, N, t⟩ : S45)]) (e : Int)) else (none))) else (some ((([] : List (S45))), false))) r → Ev (fun k => spec_Lex.l0 k s x (i : Int)) r := by
          intro r hr
          refine sp1 _ (Ev.step (f := fun k => (spec_l9One.f k s (i : Int)).bind fun bt155 => ((spec_TokenOk.f k bt155.1 bt155.2.1 bt155.2.2.1).bind fun t160 => (if t160 = true then (if (x.length : Int) = 800 then (some ((([] : List (S45))), false)) else (if x.length < 4398046511104 then (spec_Lex.l0 k s (x ++ [(⟨bt155.1, bt155.2.1, bt155.2.2.1⟩ : S45)]) bt155.2.2.2) else (none))) else (some ((([] : List (S45))), false))))) (fun k => ?_) (Ev.bind so (Ev.bind (specTokenOk_ok K N t (by omega)) hr)))
          rw [spec_Lex.j2.eq_def]; simp only []; rw [if_neg (by decide)]
        have im2 : ∀ r, (∀ q, q = (if tokB K N t = true then (K, N, t, ((e - i : Nat) : Int)) else (0, 0, (⟨#[]⟩ : ByteArray), 0)) → Ev (fun k => if q.2.2.2 = 0 then (some (([] : List (S45)), false)) else (if (x.length : Int) = 800 then (some (([] : List (S45)), false)) else (if x.length < 4398046511104 then (impl_Lex.l0 k s (x ++ [(⟨q.1, q.2.1, q.2.2.1⟩ : S45)]) (wrap64 ((i : Int) + q.2.2.2))) else (none)))) r) → Ev (fun k => impl_Lex.l0 k s x (i : Int)) r := by
          intro r hr
          refine im1 _ (Ev.step (f := fun k => (impl_tokenAt.f k s (i : Int)).bind fun bt217 => (if bt217.2.2.2 = 0 then (some (([] : List (S45)), false)) else (if (x.length : Int) = 800 then (some (([] : List (S45)), false)) else (if x.length < 4398046511104 then (impl_Lex.l0 k s (x ++ [(⟨bt217.1, bt217.2.1, bt217.2.2.1⟩ : S45)]) (wrap64 ((i : Int) + bt217.2.2.2))) else (none))))) (fun k => ?_) (Ev.bind io (hr _ rfl)))
          rw [impl_Lex.j2.eq_def]; simp only []; rw [if_neg (by decide)]
        cases ok : tokB K N t with
        | false =>
          rw [ok] at sp2 im2
          refine ⟨[], false, sp2 _ (Ev.congr (f := fun _ => some ([], false)) (fun k => by rw [if_neg (by decide)]) (Ev.now _)), im2 _ (fun q hq => ?_), by simp, by simp⟩
          rw [if_neg (by decide)] at hq
          subst hq
          exact Ev.congr (f := fun _ => some ([], false)) (fun k => by rw [if_pos rfl]) (Ev.now _)
        | true =>
          rw [ok] at sp2 im2
          have hne0 : ¬ ((e - i : Nat) : Int) = 0 := by omega
          by_cases c8 : x.length = 800
          · refine ⟨[], false, sp2 _ (Ev.congr (f := fun _ => some ([], false)) (fun k => by rw [if_pos rfl, if_pos (by omega)]) (Ev.now _)), im2 _ (fun q hq => ?_), by simp, by simp⟩
            rw [if_pos rfl] at hq
            subst hq
            exact Ev.congr (f := fun _ => some ([], false)) (fun k => by rw [if_neg hne0, if_pos (by omega)]) (Ev.now _)
          · have hw : wrap64 ((i : Int) + ((e - i : Nat) : Int)) = (e : Int) := by rw [w64 (by omega) (by omega)]; omega
            obtain ⟨l, b, a1, a2, a3⟩ := ih e (x ++ [(⟨K, N, t⟩ : S45)]) (by omega) h2 (by rw [List.length_append, List.length_singleton]; omega) (fun z hz => by
              rcases List.mem_append.1 hz with q | q
              · exact ht z q
              · rw [List.mem_singleton.1 q]; exact ⟨ok, by show t.size ≤ 1048576; omega⟩)
            refine ⟨l, b, sp2 _ (Ev.congr (fun k => by rw [if_pos rfl, if_neg (by omega), if_pos (by omega)]) a1), im2 _ (fun q hq => ?_), a3⟩
            rw [if_pos rfl] at hq
            subst hq
            exact Ev.congr (fun k => by rw [if_neg hne0, if_neg (by omega), if_pos (by omega), hw]) a2
  obtain ⟨l, b, a1, a2, a3⟩ := H s.size 0 [] (by omega) (by omega) (by simp) (by simp)
  exact ⟨l, b, a1, a2, a3⟩
theorem join_step (r : List (List UInt8)) (i : Nat) (y : List UInt8) (h : r[i]? = some y) (sep : List UInt8) : Lib.join (r.take (i + 1)) sep = if i = 0 then y else Lib.join (r.take i) sep ++ sep ++ y := by
  cases r with
  | nil => simp at h
  | cons x t =>
    cases i with
    | zero => simp at h; subst h; simp [Lib.join_one]
    | succ i =>
      have h2 : t[i]? = some y := by simpa using h
      rw [if_neg (by omega), List.take_succ_cons, List.take_succ_cons, Lib.join_cons, Lib.join_cons, Lib.joinTail_take_succ sep t i y h2]
      simp [List.append_assoc]
def ttext (t : S45) : List UInt8 := if t.f0 = 2 then octF 6 (t.f1 % 65536).toNat else t.f2.data.toList
theorem ttext_len (t : S45) (h : t.f2.size ≤ 1048576) : (ttext t).length ≤ 1048576 := by
  unfold ttext
  split
  · have := octF_len 6 (t.f1 % 65536).toNat; omega
  · rw [Array.length_toList]; exact h
theorem specLine_loop (l : List S45) (hl : l.length ≤ 1048576) (hs : ∀ t ∈ l, t.f2.size ≤ 1048576) : ∀ (d i : Nat) (x3 : ByteArray), l.length - i = d → i ≤ l.length → x3.data.toList = Lib.join ((l.map ttext).take i) [32] → x3.size ≤ i * 1048577 →
    ∃ r, Ev (fun k => spec_LineOf.l0 k l x3 (i : Int)) r ∧ r.data.toList = Lib.join (l.map ttext) [32] ∧ r.size ≤ 1048576 * 1048577 := by
  intro d
  induction d with
  | zero =>
    intro i x3 hd hi hx hz
    have e : i = l.length := by omega
    refine ⟨x3, Ev.step (f := fun _ => some x3) (fun k => ?_) (Ev.now _), by rw [hx, List.take_of_length_le (by simp; omega)], Nat.le_trans hz (Nat.mul_le_mul_right _ (by omega))⟩
    rw [spec_LineOf.l0.eq_def]; simp only []; rw [if_neg (by omega)]
  | succ d ih =>
    intro i x3 hd hi hx hz
    have hlt : i < l.length := by omega
    have hr := rd45 l i hlt
    have hq := hs _ (List.getElem_mem hlt)
    have h1 : (⟨#[32]⟩ : ByteArray).size = 1 := rfl
    have g1 : (i : Int) < (l.length : Int) := by omega
    have g2 : 0 ≤ (i : Int) := by omega
    have w2 : wrap64 ((i : Int) + 1) = ((i + 1 : Nat) : Int) := by rw [w64 (by omega) (by omega)]; rfl
    have hz2 : x3.size ≤ 1048576 * 1048577 := Nat.le_trans hz (Nat.mul_le_mul_right _ (by omega))
    have hj := join_step (l.map ttext) i (ttext l[i]) (by simp [hlt]) [32]
    -- the token's own text
    obtain ⟨q, q1, q2, q3⟩ : ∃ q : ByteArray, (∀ (F : Nat → ByteArray → Option ByteArray) (r : ByteArray), Ev (fun k => F k q) r → Ev (fun k => if l[i].f0 = 2 then (spec_Oct.f k l[i].f1).bind (F k) else F k l[i].f2) r) ∧ q.data.toList = ttext l[i] ∧ q.size ≤ 1048576 := by
      by_cases c : l[i].f0 = 2
      · obtain ⟨q, e1, e2⟩ := specOct_ok l[i].f1
        refine ⟨q, fun F r h => Ev.congr (fun k => by rw [if_pos c]) (Ev.bind e1 h), by rw [e2, ttext, if_pos c], ?_⟩
        have := octF_len 6 (l[i].f1 % 65536).toNat
        rw [← e2, Array.length_toList] at this
        exact Nat.le_trans this (by omega)
      · exact ⟨l[i].f2, fun F r h => Ev.congr (fun k => by rw [if_neg c]) h, by rw [ttext, if_neg c], hq⟩
    by_cases c0 : i = 0
    · subst c0
      have e3 : (x3 ++ q).data.toList = Lib.join ((l.map ttext).take (0 + 1)) [32] := by
        rw [hj, if_pos rfl]; simp [hx, Lib.join_nil, q2]
      obtain ⟨r, r1, r2, r3⟩ := ih 1 (x3 ++ q) (by omega) (by omega) e3 (by rw [ByteArray.size_append]; omega)
      refine ⟨r, ?_, r2, r3⟩
      have st := q1 (fun k t => if x3.size + t.size ≤ 9223372036854775807 then spec_LineOf.l0 k l (x3 ++ t) ((1 : Nat) : Int) else none) r (Ev.congr (fun k => by rw [if_pos (by omega)]) r1)
      refine Ev.step (fun k => ?_) st
      rw [spec_LineOf.l0.eq_def]; simp only [hr, w2]
      rw [if_pos g1, if_neg (by omega), if_pos g2]
    · have e3 : ((x3 ++ (⟨#[32]⟩ : ByteArray)) ++ q).data.toList = Lib.join ((l.map ttext).take (i + 1)) [32] := by
        rw [hj, if_neg c0]; simp [hx, q2]
      obtain ⟨r, r1, r2, r3⟩ := ih (i + 1) ((x3 ++ (⟨#[32]⟩ : ByteArray)) ++ q) (by omega) (by omega) e3 (by rw [ByteArray.size_append, ByteArray.size_append, h1]; omega)
      refine ⟨r, ?_, r2, r3⟩
      have hsz : (x3 ++ (⟨#[32]⟩ : ByteArray)).size = x3.size + 1 := by rw [ByteArray.size_append, h1]
      have st := q1 (fun k t => if (x3 ++ (⟨#[32]⟩ : ByteArray)).size + t.size ≤ 9223372036854775807 then spec_LineOf.l0 k l ((x3 ++ (⟨#[32]⟩ : ByteArray)) ++ t) ((i + 1 : Nat) : Int) else none) r (Ev.congr (fun k => by rw [if_pos (by omega)]) r1)
      refine Ev.step (fun k => ?_) st
      rw [spec_LineOf.l0.eq_def]; simp only [hr, w2]
      rw [if_pos g1, if_pos (by omega), if_pos (by omega), if_pos g2]
theorem implLine_loop (l : List S45) (hl : l.length ≤ 1048576) (hj : (Lib.join (l.map ttext) [32]).length ≤ 140737488355328) : ∀ (d i : Nat) (x3 : List ByteArray), l.length - i = d → i ≤ l.length → x3.map (·.data.toList) = (l.map ttext).take i →
    ∃ r, Ev (fun k => impl_LineOf.l0 k x3 l (l.length : Int) (i : Int)) r ∧ r.data.toList = Lib.join (l.map ttext) [32] := by
  intro d
  induction d with
  | zero =>
    intro i x3 hd hi hx
    have e : x3.map (·.data.toList) = l.map ttext := by rw [hx, List.take_of_length_le (by simp; omega)]
    have hlen : x3.length = l.length := by have := congrArg List.length e; simpa using this
    refine ⟨⟨(Lib.join (l.map ttext) [32]).toArray⟩, Ev.step (f := fun _ => some ⟨(Lib.join (l.map ttext) [32]).toArray⟩) (fun k => ?_) (Ev.now _), rfl⟩
    rw [impl_LineOf.l0.eq_def]; simp only [strings_Join.f, e]
    rw [if_neg (by omega)]
    have hc : (Lib.join (l.map ttext) ((⟨#[32]⟩ : ByteArray)).data.toList).length ≤ 140737488355328 ∧ x3.length ≤ 140737488355328 := ⟨hj, by omega⟩
    rw [if_pos hc]; rfl
  | succ d ih =>
    intro i x3 hd hi hx
    have hlt : i < l.length := by omega
    have hr := rd45 l i hlt
    have hlen : x3.length = i := by have := congrArg List.length hx; simp at this; omega
    have g1 : (i : Int) < (l.length : Int) := by omega
    have g2 : 0 ≤ (i : Int) := by omega
    have w2 : wrap64 ((i : Int) + 1) = ((i + 1 : Nat) : Int) := by rw [w64 (by omega) (by omega)]; rfl
    obtain ⟨q, q1, q2⟩ : ∃ q : ByteArray, (if l[i].f0 = 2 then impl_Oct.f l[i].f1 else some l[i].f2) = some q ∧ q.data.toList = ttext l[i] := by
      by_cases c : l[i].f0 = 2
      · obtain ⟨q, e1, e2⟩ := implOct_ok l[i].f1
        exact ⟨q, by rw [if_pos c]; exact e1, by rw [e2, ttext, if_pos c]⟩
      · exact ⟨l[i].f2, if_neg c, by rw [ttext, if_neg c]⟩
    obtain ⟨r, r1, r2⟩ := ih (i + 1) (x3 ++ [q]) (by omega) (by omega) (by
      rw [List.map_append, hx, List.take_add_one, List.getElem?_map, List.getElem?_eq_getElem hlt]; simp [q2])
    refine ⟨r, Ev.step (f := fun k => impl_LineOf.l0 k (x3 ++ [q]) l (l.length : Int) ((i + 1 : Nat) : Int)) (fun k => ?_) r1, r2⟩
    rw [impl_LineOf.l0.eq_def]; simp only [hr, w2]
    rw [if_pos g1, if_pos g2, if_pos g1]
    by_cases c : l[i].f0 = 2
    · rw [if_pos c] at q1 ⊢
      rw [q1, Option.bind_some, if_pos (by omega)]
    · rw [if_neg c] at q1 ⊢
      rw [Option.some.inj q1, if_pos (by omega)]
theorem Ev.none_step {α : Type} {g f : Nat → Option α} {r : α} (h : ∀ k, g (k + 1) = f k) (k : Ev f r) : Ev g r := Ev.step h k
/-- two results of one function are one. -/
theorem Ev.one {α : Type} {g : Nat → Option α} {r q : α} (h : Ev g r) (k : Ev g q) : r = q := by
  obtain ⟨K, h⟩ := h; obtain ⟨L, k⟩ := k
  have a := h (K + L) (by omega); have b := k (K + L) (by omega)
  rw [a] at b; exact Option.some.inj b
theorem mid_at (s : ByteArray) (pre tx tl : List UInt8) (h : s.data.toList = pre ++ (tx ++ tl)) (j : Nat) (c : UInt8) (hj : tx[j]? = some c) : bt s ((pre.length + j : Nat) : Int) = (c.toNat : Int) := by
  have e : s.data.toList[pre.length + j]? = some c := by
    rw [h, List.getElem?_append_right (by omega), Nat.add_sub_cancel_left, List.getElem?_append_left (List.getElem?_eq_some_iff.1 hj).1]
    exact hj
  obtain ⟨h1, h2⟩ := List.getElem?_eq_some_iff.1 e
  rw [bt_i s _ h1, h2]
theorem mid_end (s : ByteArray) (pre tx tl : List UInt8) (h : s.data.toList = pre ++ (tx ++ tl)) (c : UInt8) (hc : tl[0]? = some c) : bt s ((pre.length + tx.length : Nat) : Int) = (c.toNat : Int) := by
  have e : s.data.toList[pre.length + tx.length]? = some c := by
    rw [h, List.getElem?_append_right (by omega), Nat.add_sub_cancel_left, List.getElem?_append_right (Nat.le_refl _), Nat.sub_self]
    exact hc
  obtain ⟨h1, h2⟩ := List.getElem?_eq_some_iff.1 e
  rw [bt_i s _ h1, h2]
theorem mid_extract (s : ByteArray) (pre tx tl : List UInt8) (h : s.data.toList = pre ++ (tx ++ tl)) (t : ByteArray) (ht : t.data.toList = tx) : s.extract pre.length (pre.length + tx.length) = t := by
  apply ByteArray.ext
  apply Array.ext'
  rw [extract_list, h, List.drop_append_of_le_length (Nat.le_refl _), List.drop_length, List.nil_append, Nat.add_sub_cancel_left, List.take_append_of_le_length (Nat.le_refl _), List.take_length, ht]
theorem size_list (s : ByteArray) : s.size = s.data.toList.length := by rw [Array.length_toList]; rfl
theorem bt_list (s : ByteArray) (j : Nat) (c : UInt8) (h : s.data.toList[j]? = some c) : bt s (j : Int) = (c.toNat : Int) := by
  obtain ⟨h1, h2⟩ := List.getElem?_eq_some_iff.1 h
  rw [bt_i s j h1, h2]
/-- the letters and digits of a text end with it. -/
theorem mid_run (p : Int → Prop) (s : ByteArray) (pre tx tl : List UInt8) (h : s.data.toList = pre ++ (tx ++ tl)) (htl : tl = [] ∨ tl[0]? = some 32) (hp : ¬ p 32) (i : Nat) (hi : i ≤ tx.length) (hall : ∀ j c, i ≤ j → tx[j]? = some c → p (c.toNat : Int)) : RunTo p s (pre.length + i) (pre.length + tx.length) := by
  have hz : s.size = pre.length + (tx.length + tl.length) := by rw [size_list, h, List.length_append, List.length_append]
  refine ⟨by omega, by omega, fun j h1 h2 => ?_, fun hlt => ?_⟩
  · obtain ⟨q, rfl⟩ : ∃ q, j = pre.length + q := ⟨j - pre.length, by omega⟩
    have hq : q < tx.length := by omega
    rw [mid_at s pre tx tl h q _ (List.getElem?_eq_getElem hq)]
    exact hall q _ (by omega) (List.getElem?_eq_getElem hq)
  · rcases htl with e | e
    · subst e; simp at hz; omega
    · rw [mid_end s pre tx tl h _ e]; exact hp
theorem specOne_small (s : ByteArray) (hs : s.size ≤ 1048576) (a f : Nat) (ha : a < s.size) (c1 : smallP (bt s (a : Int))) (r : RunTo (fun c => digitP c ∨ (true = true ∧ smallP c)) s a f) :
    Ev (fun k => spec_l9One.f k s (a : Int)) (if keptB (s.extract a f) = true then 5 else 1, 0, s.extract a f, (f : Int)) := by
  have g1 : (a : Int) < (s.size : Int) := by omega
  have g2 : 0 ≤ (a : Int) := by omega
  have g3 : (a : Int) ≤ ((a + 1 : Nat) : Int) := by omega
  have g4 : ((a + 1 : Nat) : Int) ≤ (s.size : Int) := by omega
  have g5 : 0 ≤ ((a + 1 : Nat) : Int) := by omega
  obtain ⟨f', hf, r'⟩ := l9Run_ok s hs true a (by omega)
  have hff : f' = f := r'.one r
  subst hff
  have e0 := r.1
  have e1 := r.2.1
  obtain ⟨q, hq, hqi⟩ := specKept_ok (s.extract a f')
  have hK : (if q ≥ 0 then (5 : Int) else 1) = (if keptB (s.extract a f') = true then 5 else 1) := by
    by_cases c : q ≥ 0
    · rw [if_pos c, if_pos (hqi.1 c)]
    · rw [if_neg c, if_neg (fun h => c (hqi.2 h))]
  rw [← hK]
  clear hK r r'
  refine Ev.congr (f := fun k => (spec_l9Run.f k s (a : Int) true).bind fun t142 => (if (a : Int) ≤ t142 then (if t142 ≤ (s.size : Int) then ((spec_l9Word.f k (s.extract (a : Int).toNat (t142 : Int).toNat)).bind fun bt143 => (some (bt143.1, bt143.2.1, bt143.2.2, t142))) else (none)) else (none))) (fun k => ?_) (Ev.bind hf ?_)
  · have w4 : wrap64 ((a : Int) + 1) = ((a + 1 : Nat) : Int) := wnext a s.size ha hs
    simp only [spec_l9One.f, l9Small_ok, l9Digit_ok, Option.bind_some, w4, Int.toNat_natCast]
    simp only [if_pos g2, if_pos g1, if_pos g3, if_pos g4, if_pos g5]
    rw [if_pos (decide_eq_true c1)]
  · refine Ev.congr (f := fun k => (spec_l9At.f k (opW23 ++ regW8) (s.extract a f')).bind fun t130 => if t130 ≥ 0 then some (5, 0, s.extract a f', (f' : Int)) else some (1, 0, s.extract a f', (f' : Int))) (fun k => ?_) (Ev.bind hq (Ev.congr (f := fun _ => some (if q ≥ 0 then (5 : Int) else 1, 0, s.extract a f', (f' : Int))) (fun k => ?_) (Ev.now _)))
    · rw [if_pos (by omega), if_pos (by omega), Int.toNat_natCast, Int.toNat_natCast]
      simp only [spec_l9Word.f, kept31_ok, Option.bind_some]
      cases spec_l9At.f k (opW23 ++ regW8) (s.extract a f') with
      | none => rfl
      | some z => simp only [Option.bind_some]; split <;> rfl
    · split <;> rfl
theorem specOne_num (s : ByteArray) (hs : s.size ≤ 1048576) (a f : Nat) (ha : a < s.size) (c1 : ¬ smallP (bt s (a : Int))) (c2 : digitP (bt s (a : Int))) (r : RunTo (fun c => digitP c ∨ (false = true ∧ smallP c)) s a f) (v : Int) (hv : octR (s.extract a f).data.toList = (v, true)) :
    Ev (fun k => spec_l9One.f k s (a : Int)) (2, v, (⟨#[]⟩ : ByteArray), (f : Int)) := by
  have g1 : (a : Int) < (s.size : Int) := by omega
  have g2 : 0 ≤ (a : Int) := by omega
  have g3 : (a : Int) ≤ ((a + 1 : Nat) : Int) := by omega
  have g4 : ((a + 1 : Nat) : Int) ≤ (s.size : Int) := by omega
  have g5 : 0 ≤ ((a + 1 : Nat) : Int) := by omega
  obtain ⟨f', hf, r'⟩ := l9Run_ok s hs false a (by omega)
  have hff : f' = f := r'.one r
  subst hff
  have e0 := r.1
  have e1 := r.2.1
  have hz : (s.extract a f').size ≤ 1048576 := by rw [extract_size s a f' e1]; omega
  have hp := specParse_ok (s.extract a f') hz
  rw [hv] at hp
  clear r r' hv
  refine Ev.congr (f := fun k => (spec_l9Run.f k s (a : Int) false).bind fun t147 => (if (a : Int) ≤ t147 then (if t147 ≤ (s.size : Int) then ((spec_ParseOct.f k (s.extract (a : Int).toNat (t147 : Int).toNat)).bind fun bt148 => (if bt148.2 = true then (some (2, bt148.1, (⟨#[]⟩ : ByteArray), t147)) else (some (2, (-1), (⟨#[]⟩ : ByteArray), t147)))) else (none)) else (none))) (fun k => ?_) (Ev.bind hf ?_)
  · have w4 : wrap64 ((a : Int) + 1) = ((a + 1 : Nat) : Int) := wnext a s.size ha hs
    simp only [spec_l9One.f, l9Small_ok, l9Digit_ok, Option.bind_some, w4, Int.toNat_natCast]
    simp only [if_pos g2, if_pos g1, if_pos g3, if_pos g4, if_pos g5]
    rw [if_neg (by rw [decide_eq_true_eq]; exact c1), if_pos (decide_eq_true c2)]
  · refine Ev.congr (f := fun k => (spec_ParseOct.f k (s.extract a f')).bind fun bt148 => (if bt148.2 = true then (some (2, bt148.1, (⟨#[]⟩ : ByteArray), (f' : Int))) else (some (2, (-1), (⟨#[]⟩ : ByteArray), (f' : Int))))) (fun k => by rw [if_pos (by omega), if_pos (by omega), Int.toNat_natCast, Int.toNat_natCast]) (Ev.bind hp (Ev.congr (f := fun _ => some (2, v, (⟨#[]⟩ : ByteArray), (f' : Int))) (fun k => ?_) (Ev.now _)))
    rw [if_pos rfl]
theorem specOne_else (s : ByteArray) (hs : s.size ≤ 1048576) (e : Nat) (ha : e < s.size) (c1 : ¬ smallP (bt s (e : Int))) (c2 : ¬ digitP (bt s (e : Int))) (r : Int × Int × ByteArray × Int) (hr : Ev (fun k => if (bt s (e : Int)) = 46 then (if ((e + 1 : Nat) : Int) < (s.size : Int) then ((spec_l9Small.f (bt s ((e + 1 : Nat) : Int))).bind fun t150 => (if t150 = true then ((spec_l9Run.f k s ((e + 1 : Nat) : Int) true).bind fun t151 => (if (e : Int) ≤ t151 then (if t151 ≤ (s.size : Int) then (some (3, 0, s.extract (e : Int).toNat (t151 : Int).toNat, t151)) else (none)) else (none))) else (some (4, 0, s.extract e (e + 1), ((e + 1 : Nat) : Int))))) else (some (4, 0, s.extract e (e + 1), ((e + 1 : Nat) : Int)))) else (some ((4 : Int), (0 : Int), s.extract e (e + 1), ((e + 1 : Nat) : Int)))) r) : Ev (fun k => spec_l9One.f k s (e : Int)) r := by
  have g1 : (e : Int) < (s.size : Int) := by omega
  have g2 : 0 ≤ (e : Int) := by omega
  have w4 : wrap64 ((e : Int) + 1) = ((e + 1 : Nat) : Int) := wnext e s.size ha hs
  have g3 : (e : Int) ≤ ((e + 1 : Nat) : Int) := by clear w4; omega
  have g4 : ((e + 1 : Nat) : Int) ≤ (s.size : Int) := by clear w4; omega
  have g5 : 0 ≤ ((e + 1 : Nat) : Int) := by clear w4; omega
  refine Ev.congr (fun k => ?_) hr
  simp only [spec_l9One.f, l9Small_ok, l9Digit_ok, Option.bind_some, w4, Int.toNat_natCast]
  simp only [if_pos g2, if_pos g1, if_pos g3, if_pos g4, if_pos g5]
  rw [if_neg (by rw [decide_eq_true_eq]; exact c1), if_neg (by rw [decide_eq_true_eq]; exact c2)]
/-- what stands at a token's text. -/
structure TextOk (tx : List UInt8) : Prop where
  ne : tx ≠ []
  len : tx.length ≤ 7
  head : ∀ c, tx[0]? = some c → (c.toNat : Int) ≠ 32 ∧ (c.toNat : Int) ≠ 9 ∧ (c.toNat : Int) ≠ 59
theorem form_bytes (s : ByteArray) (h : formB s = true) : 1 ≤ s.size ∧ s.size ≤ 6 ∧ ∀ j c, s.data.toList[j]? = some c → smallP (c.toNat : Int) ∨ (j ≠ 0 ∧ digitP (c.toNat : Int)) := by
  unfold formB at h
  rw [decide_eq_true_eq] at h
  refine ⟨h.1.1, h.1.2, fun j c hj => ?_⟩
  have hlt : j < s.size := by rw [size_list]; exact (List.getElem?_eq_some_iff.1 hj).1
  have := h.2 j hlt
  unfold goodAt at this
  rw [bt_list s j c hj] at this
  exact this
theorem nil_of (t : ByteArray) (h : t.toList = []) : t = ⟨#[]⟩ := by
  apply ByteArray.ext; apply Array.ext'
  rw [← bal, h]
def BackT (t : S45) : Prop := TextOk (ttext t) ∧ ∀ (s : ByteArray) (pre tl : List UInt8), s.size ≤ 1048576 → s.data.toList = pre ++ (ttext t ++ tl) → (tl = [] ∨ tl[0]? = some 32) → Ev (fun k => spec_l9One.f k s (pre.length : Int)) (t.f0, t.f1, t.f2, ((pre.length + (ttext t).length : Nat) : Int))
theorem part32 : ¬ (digitP (32 : Int) ∨ (true = true ∧ smallP (32 : Int))) := by unfold digitP smallP; omega
theorem dig32 : ¬ (digitP (32 : Int) ∨ (false = true ∧ smallP (32 : Int))) := by unfold digitP smallP; omega
theorem back_word (K : Int) (t : ByteArray) (hf : formB t = true) (hK : (if keptB t = true then (5 : Int) else 1) = K) (h2 : K ≠ 2) : BackT ⟨K, 0, t⟩ := by
  obtain ⟨f1, f2, f3⟩ := form_bytes t hf
  have htx : ttext (⟨K, 0, t⟩ : S45) = t.data.toList := by unfold ttext; exact if_neg h2
  have hz := size_list t
  refine ⟨⟨?_, by rw [htx]; omega, fun c hc => ?_⟩, fun s pre tl hs h htl => ?_⟩
  · rw [htx]; intro e; rw [e, List.length_nil] at hz; omega
  · rw [htx] at hc
    rcases f3 0 c hc with q | q
    · unfold smallP at q; omega
    · exact absurd rfl q.1
  · rw [htx] at h ⊢
    have hlen : s.size = pre.length + (t.data.toList.length + tl.length) := by rw [size_list, h, List.length_append, List.length_append]
    obtain ⟨c, hc⟩ : ∃ c, t.data.toList[0]? = some c := ⟨_, List.getElem?_eq_getElem (by omega)⟩
    have c1 : smallP (bt s (pre.length : Int)) := by
      have := mid_at s pre _ tl h 0 c hc
      rw [Nat.add_zero] at this
      rw [this]
      rcases f3 0 c hc with q | q
      · exact q
      · exact absurd rfl q.1
    have r := mid_run (fun c => digitP c ∨ (true = true ∧ smallP c)) s pre t.data.toList tl h htl part32 0 (Nat.zero_le _) (fun j c _ hj => by
      rcases f3 j c hj with q | q
      · exact .inr ⟨rfl, q⟩
      · exact .inl q.2)
    rw [Nat.add_zero] at r
    have hx := mid_extract s pre t.data.toList tl h t rfl
    have ev := specOne_small s hs pre.length (pre.length + t.data.toList.length) (by omega) c1 r
    rw [hx, hK] at ev
    exact ev
theorem back_num (N : Int) (h0 : 0 ≤ N) (h1 : N ≤ 65535) : BackT ⟨2, N, ⟨#[]⟩⟩ := by
  have htx : ttext (⟨2, N, ⟨#[]⟩⟩ : S45) = octF 6 N.toNat := by unfold ttext; rw [if_pos rfl]; congr 1; show (N % 65536).toNat = N.toNat; omega
  have hd := octF_dig 6 N.toNat
  have hl := octF_len 6 N.toNat
  have hne := octF_ne 6 N.toNat (by omega)
  have hpos : 0 < (octF 6 N.toNat).length := by
    rcases Nat.eq_zero_or_pos (octF 6 N.toNat).length with q | q
    · exact absurd (List.length_eq_zero_iff.1 q) hne
    · exact q
  have hdig : ∀ (j : Nat) (c : UInt8), (octF 6 N.toNat)[j]? = some c → 48 ≤ c.toNat ∧ c.toNat ≤ 55 := fun j c hj => by
    obtain ⟨a, b⟩ := List.getElem?_eq_some_iff.1 hj
    exact hd c (by rw [← b]; exact List.getElem_mem a)
  refine ⟨⟨by rw [htx]; exact hne, by rw [htx]; omega, fun c hc => ?_⟩, fun s pre tl hs h htl => ?_⟩
  · rw [htx] at hc
    have := hdig 0 c hc
    omega
  · rw [htx] at h ⊢
    have hlen : s.size = pre.length + ((octF 6 N.toNat).length + tl.length) := by rw [size_list, h, List.length_append, List.length_append]
    obtain ⟨c, hc⟩ : ∃ c, (octF 6 N.toNat)[0]? = some c := ⟨_, List.getElem?_eq_getElem hpos⟩
    have hb := mid_at s pre _ tl h 0 c hc
    rw [Nat.add_zero] at hb
    have hcd := hdig 0 c hc
    have c1 : ¬ smallP (bt s (pre.length : Int)) := by rw [hb]; unfold smallP; omega
    have c2 : digitP (bt s (pre.length : Int)) := by rw [hb]; unfold digitP; omega
    have r := mid_run (fun c => digitP c ∨ (false = true ∧ smallP c)) s pre _ tl h htl dig32 0 (Nat.zero_le _) (fun j c _ hj => .inl (by have := hdig j c hj; unfold digitP; omega))
    rw [Nat.add_zero] at r
    have hx := mid_extract s pre _ tl h ⟨(octF 6 N.toNat).toArray⟩ rfl
    refine specOne_num s hs pre.length _ (by omega) c1 c2 r N ?_
    rw [hx]
    show octR (octF 6 N.toNat) = (N, true)
    rw [octR_of N.toNat (by omega)]
    congr 1; omega
theorem back_dot (t : ByteArray) (h1 : 1 < t.size) (h46 : bt t 0 = 46) (hf : formB (t.extract 1 t.size) = true) : BackT ⟨3, 0, t⟩ := by
  obtain ⟨f1, f2, f3⟩ := form_bytes _ hf
  have htx : ttext (⟨3, 0, t⟩ : S45) = t.data.toList := by unfold ttext; exact if_neg (show ¬ (3 : Int) = 2 by decide)
  have hz := size_list t
  rw [extract_size t 1 t.size (Nat.le_refl _)] at f1 f2
  have htail : ∀ (j : Nat) (c : UInt8), t.data.toList[j + 1]? = some c → smallP (c.toNat : Int) ∨ (j ≠ 0 ∧ digitP (c.toNat : Int)) := fun j c hj => by
    refine f3 j c ?_
    have hlt := (List.getElem?_eq_some_iff.1 hj).1
    rw [extract_list, List.getElem?_take, if_pos (by omega), List.getElem?_drop, Nat.add_comm 1 j]
    exact hj
  have hhead : ∀ c : UInt8, t.data.toList[0]? = some c → (c.toNat : Int) = 46 := fun c hc => by rw [← bt_list t 0 c hc]; exact h46
  refine ⟨⟨?_, by rw [htx]; omega, fun c hc => ?_⟩, fun s pre tl hs h htl => ?_⟩
  · rw [htx]; intro e; rw [e, List.length_nil] at hz; omega
  · rw [htx] at hc
    have := hhead c hc
    omega
  · rw [htx] at h ⊢
    have hlen : s.size = pre.length + (t.data.toList.length + tl.length) := by rw [size_list, h, List.length_append, List.length_append]
    obtain ⟨c, hc⟩ : ∃ c, t.data.toList[0]? = some c := ⟨_, List.getElem?_eq_getElem (by omega)⟩
    obtain ⟨d, hd⟩ : ∃ d, t.data.toList[0 + 1]? = some d := ⟨_, List.getElem?_eq_getElem (by omega)⟩
    have hb := mid_at s pre _ tl h 0 c hc
    rw [Nat.add_zero] at hb
    have hb1 := mid_at s pre _ tl h (0 + 1) d hd
    have hc46 := hhead c hc
    have c46 : bt s (pre.length : Int) = 46 := by rw [hb]; exact hc46
    have cs : smallP (bt s ((pre.length + 1 : Nat) : Int)) := by
      have hb1' : bt s ((pre.length + 1 : Nat) : Int) = (d.toNat : Int) := hb1
      rw [hb1']
      rcases htail 0 d hd with q | q
      · exact q
      · exact absurd rfl q.1
    have c1 : ¬ smallP (bt s (pre.length : Int)) := by rw [c46]; unfold smallP; omega
    have c2 : ¬ digitP (bt s (pre.length : Int)) := by rw [c46]; unfold digitP; omega
    have r := mid_run (fun c => digitP c ∨ (true = true ∧ smallP c)) s pre t.data.toList tl h htl part32 1 (by omega) (fun j c hj1 hj => by
      obtain ⟨j, rfl⟩ : ∃ q, j = q + 1 := ⟨j - 1, by omega⟩
      rcases htail j c hj with q | q
      · exact .inr ⟨rfl, q⟩
      · exact .inl q.2)
    obtain ⟨g, hg, r'⟩ := l9Run_ok s hs true (pre.length + 1) (by omega)
    have hgf : g = pre.length + t.data.toList.length := r'.one r
    subst hgf
    have hx := mid_extract s pre t.data.toList tl h t rfl
    refine specOne_else s hs pre.length (by omega) c1 c2 _ ?_
    refine Ev.congr (f := fun k => (spec_l9Run.f k s ((pre.length + 1 : Nat) : Int) true).bind fun t151 => (if (pre.length : Int) ≤ t151 then (if t151 ≤ (s.size : Int) then (some (3, 0, s.extract (pre.length : Int).toNat (t151 : Int).toNat, t151)) else (none)) else (none))) (fun k => ?_) (Ev.bind hg (Ev.congr (f := fun _ => some _) (fun k => ?_) (Ev.now _)))
    · rw [if_pos c46, if_pos (by omega), l9Small_ok, Option.bind_some, if_pos (decide_eq_true cs)]
    · rw [if_pos (by omega), if_pos (by omega), Int.toNat_natCast, Int.toNat_natCast, hx]
theorem marks_head : ∀ c ∈ marksL, (¬ smallP ((c : UInt8).toNat : Int) ∧ ¬ digitP ((c : UInt8).toNat : Int)) ∧ (c.toNat : Int) ≠ 32 ∧ (c.toNat : Int) ≠ 9 ∧ (c.toNat : Int) ≠ 59 := by decide +kernel
theorem back_mark (t : ByteArray) (hm : markB t = true) : BackT ⟨4, 0, t⟩ := by
  have htx : ttext (⟨4, 0, t⟩ : S45) = t.data.toList := by unfold ttext; exact if_neg (show ¬ (4 : Int) = 2 by decide)
  unfold markB at hm
  rw [List.any_eq_true] at hm
  obtain ⟨c, hc, e⟩ := hm
  rw [beq_iff_eq] at e
  obtain ⟨⟨m1, m2⟩, m3⟩ := marks_head c hc
  refine ⟨⟨by rw [htx, e]; simp, by rw [htx, e]; simp, fun d hd => ?_⟩, fun s pre tl hs h htl => ?_⟩
  · rw [htx, e] at hd
    have : c = d := by simpa using hd
    subst this; exact m3
  · rw [htx] at h ⊢
    have hlen : s.size = pre.length + (t.data.toList.length + tl.length) := by rw [size_list, h, List.length_append, List.length_append]
    have hl1 : t.data.toList.length = 1 := by rw [e]; rfl
    have hb := mid_at s pre _ tl h 0 c (by rw [e]; rfl)
    rw [Nat.add_zero] at hb
    have hx := mid_extract s pre t.data.toList tl h t rfl
    rw [hl1] at hx
    refine specOne_else s hs pre.length (by omega) (by rw [hb]; exact m1) (by rw [hb]; exact m2) _ (Ev.congr (f := fun _ => some (4, 0, t, ((pre.length + t.data.toList.length : Nat) : Int))) (fun k => ?_) (Ev.now _))
    rw [hx, hl1]
    by_cases q : bt s (pre.length : Int) = 46
    · rw [if_pos q]
      by_cases z : ((pre.length + 1 : Nat) : Int) < (s.size : Int)
      · have h32 : tl[0]? = some 32 := by
          rcases htl with w | w
          · rw [w, List.length_nil, hl1] at hlen; omega
          · exact w
        have hb2 := mid_end s pre _ tl h 32 h32
        rw [hl1] at hb2
        rw [if_pos z, l9Small_ok, Option.bind_some, hb2, if_neg (by decide)]
      · rw [if_neg z]
    · rw [if_neg q]
theorem back_ok (t : S45) (h : tokB t.f0 t.f1 t.f2 = true) : BackT t := by
  obtain ⟨K, N, s⟩ := t
  simp only at h
  have h' := h
  unfold tokB at h'
  by_cases k2 : K = 2
  · subst k2
    rw [if_pos rfl] at h'
    simp only [Bool.and_eq_true, decide_eq_true_eq, beq_iff_eq] at h'
    rw [nil_of s h'.2]
    exact back_num N h'.1.1 h'.1.2
  rw [if_neg k2] at h'
  by_cases n0 : N = 0
  · subst n0
    rw [if_pos rfl] at h'
    by_cases k1 : K = 1
    · subst k1
      rw [if_pos rfl] at h'
      unfold nameB at h'
      simp only [Bool.and_eq_true, Bool.not_eq_true'] at h'
      exact back_word 1 s h'.1 (by rw [h'.2]; rfl) (by decide)
    rw [if_neg k1] at h'
    by_cases k3 : K = 3
    · subst k3
      rw [if_pos rfl] at h'
      simp only [Bool.and_eq_true, decide_eq_true_eq] at h'
      exact back_dot s h'.1.1 h'.1.2 h'.2
    rw [if_neg k3] at h'
    by_cases k4 : K = 4
    · subst k4
      rw [if_pos rfl] at h'
      exact back_mark s h'
    rw [if_neg k4] at h'
    by_cases k5 : K = 5
    · subst k5
      rw [if_pos rfl] at h'
      exact back_word 5 s (keptB_form s h') (by rw [h']; rfl) (by decide)
    · rw [if_neg k5] at h'; cases h'
  · rw [if_neg n0] at h'; cases h'
theorem join_two (x : List UInt8) (r : List (List UInt8)) : Lib.join (x :: r) [32] = x ++ (if r = [] then [] else 32 :: Lib.join r [32]) := by
  cases r with
  | nil => rw [Lib.join_one, if_pos rfl, List.append_nil]
  | cons y r => rw [if_neg (by simp), Lib.join_cons, Lib.join_cons]; simp [Lib.joinTail, List.append_assoc]
/-- a row of right tokens comes back of its text. -/
theorem lex_back (s : ByteArray) (hs : s.size ≤ 1048576) : ∀ (l : List S45) (pre : List UInt8) (acc : List S45), (∀ t ∈ l, tokB t.f0 t.f1 t.f2 = true ∧ t.f2.size ≤ 1048576) → acc.length + l.length ≤ 800 → s.data.toList = pre ++ Lib.join (l.map ttext) [32] →
    Ev (fun k => spec_Lex.l0 k s acc (pre.length : Int)) (acc ++ l, true) := by
  intro l
  induction l with
  | nil =>
    intro pre acc _ _ h
    have hz : s.size = pre.length := by rw [size_list, h]; simp [Lib.join_nil]
    refine Ev.step (f := fun k => spec_Lex.j1 k s acc (pre.length : Int) false) (fun k => ?_) (Ev.step (f := fun _ => some (acc ++ [], true)) (fun k => ?_) (Ev.now _))
    · rw [spec_Lex.l0.eq_def]; simp only []; rw [if_neg (by omega)]
    · rw [spec_Lex.j1.eq_def]; simp only []; rw [if_neg (by decide), List.append_nil]
  | cons t r ih =>
    intro pre acc ht hl h
    obtain ⟨tk, tz⟩ := ht t List.mem_cons_self
    obtain ⟨⟨tne, tlen, thd⟩, hb⟩ := back_ok t tk
    rw [List.map_cons, join_two] at h
    have hpos : 0 < (ttext t).length := by
      rcases Nat.eq_zero_or_pos (ttext t).length with q | q
      · exact absurd (List.length_eq_zero_iff.1 q) tne
      · exact q
    have hlen : s.size = pre.length + ((ttext t).length + (if r.map ttext = [] then ([] : List UInt8) else 32 :: Lib.join (r.map ttext) [32]).length) := by rw [size_list, h, List.length_append, List.length_append]
    have htl : (if r.map ttext = [] then ([] : List UInt8) else 32 :: Lib.join (r.map ttext) [32]) = [] ∨ (if r.map ttext = [] then ([] : List UInt8) else 32 :: Lib.join (r.map ttext) [32])[0]? = some 32 := by
      split
      · exact .inl rfl
      · exact .inr rfl
    have so := hb s pre _ hs h htl
    obtain ⟨c, hc⟩ : ∃ c, (ttext t)[0]? = some c := ⟨_, List.getElem?_eq_getElem hpos⟩
    have hbt := mid_at s pre _ _ h 0 c hc
    rw [Nat.add_zero] at hbt
    obtain ⟨n32, n9, n59⟩ := thd c hc
    rw [← hbt] at n32 n9 n59
    have g1 : (pre.length : Int) < (s.size : Int) := by omega
    have g2 : 0 ≤ (pre.length : Int) := by omega
    have m59 : (bt s (pre.length : Int) != 59) = true := by simpa using n59
    have m9 : (bt s (pre.length : Int) == 9) = false := by simpa using n9
    have la : acc.length + 1 + r.length ≤ 800 := by rw [List.length_cons] at hl; omega
    have st : ∀ q, Ev (fun k => spec_Lex.l0 k s (acc ++ [t]) ((pre.length + (ttext t).length : Nat) : Int)) q → Ev (fun k => spec_Lex.l0 k s acc (pre.length : Int)) q := by
      intro q hq
      refine Ev.step (f := fun k => spec_Lex.j1 k s acc (pre.length : Int) true) (fun k => by rw [spec_Lex.l0.eq_def]; simp only []; rw [if_pos g1, if_pos g2, m59]) ?_
      refine Ev.step (f := fun k => spec_Lex.j2 k s acc (pre.length : Int) false) (fun k => by rw [spec_Lex.j1.eq_def]; simp only []; rw [if_pos trivial, if_pos g2, if_pos g1, if_neg n32, m9]) ?_
      refine Ev.step (f := fun k => (spec_l9One.f k s (pre.length : Int)).bind fun bt155 => ((spec_TokenOk.f k bt155.1 bt155.2.1 bt155.2.2.1).bind fun t160 => (if t160 = true then (if (acc.length : Int) = 800 then (some ((([] : List (S45))), false)) else (if acc.length < 4398046511104 then (spec_Lex.l0 k s (acc ++ [(⟨bt155.1, bt155.2.1, bt155.2.2.1⟩ : S45)]) bt155.2.2.2) else (none))) else (some ((([] : List (S45))), false))))) (fun k => by rw [spec_Lex.j2.eq_def]; simp only []; rw [if_neg (by decide)]) (Ev.bind so ?_)
      have hto := specTokenOk_ok t.f0 t.f1 t.f2 tz
      rw [tk] at hto
      refine Ev.bind hto (Ev.congr (fun k => ?_) hq)
      rw [if_pos rfl, if_neg (by omega), if_pos (by omega)]
    refine st _ ?_
    have hr : ∀ x ∈ r, tokB x.f0 x.f1 x.f2 = true ∧ x.f2.size ≤ 1048576 := fun x hx => ht x (List.mem_cons_of_mem _ hx)
    by_cases e : r.map ttext = []
    · have hr0 : r = [] := List.map_eq_nil_iff.1 e
      rw [if_pos e, List.append_nil] at h
      have := ih (pre ++ ttext t) (acc ++ [t]) hr (by rw [List.length_append, List.length_singleton]; omega) (by rw [h, e, Lib.join_nil, List.append_nil])
      rw [List.length_append] at this
      simpa [hr0] using this
    · rw [if_neg e] at h hlen
      have h32 : bt s ((pre.length + (ttext t).length : Nat) : Int) = 32 := mid_end s pre _ _ h 32 rfl
      have := ih (pre ++ (ttext t ++ [32])) (acc ++ [t]) hr (by rw [List.length_append, List.length_singleton]; omega) (by rw [h]; simp [List.append_assoc])
      rw [List.length_append, List.length_append, List.length_singleton, List.append_assoc, List.singleton_append] at this
      simp only [List.length_cons] at hlen
      have k1 : ((pre.length + (ttext t).length : Nat) : Int) < (s.size : Int) := by omega
      have k2 : 0 ≤ ((pre.length + (ttext t).length : Nat) : Int) := by omega
      have n59' : (bt s ((pre.length + (ttext t).length : Nat) : Int) != 59) = true := by rw [h32]; decide
      refine Ev.step (f := fun k => spec_Lex.j1 k s (acc ++ [t]) ((pre.length + (ttext t).length : Nat) : Int) true) (fun k => by rw [spec_Lex.l0.eq_def]; simp only []; rw [if_pos k1, if_pos k2, n59']) ?_
      refine Ev.step (f := fun k => spec_Lex.j2 k s (acc ++ [t]) ((pre.length + (ttext t).length : Nat) : Int) true) (fun k => by rw [spec_Lex.j1.eq_def]; simp only []; rw [if_pos trivial, if_pos k2, if_pos k1, if_pos h32]) ?_
      refine Ev.step (fun k => ?_) this
      have w4 : wrap64 (((pre.length + (ttext t).length : Nat) : Int) + 1) = ((pre.length + ((ttext t).length + 1) : Nat) : Int) := by
        have := wnext (pre.length + (ttext t).length) s.size (by omega) hs
        rw [this]; rfl
      rw [spec_Lex.j2.eq_def]; simp only [w4]; rw [if_pos trivial]
theorem isName_ok (s : ByteArray) (hs : s.size ≤ 1048576) : Ev (fun k => impl_isName.f k s) (nameB s) := by
  simp only [impl_isName.f]
  refine Ev.bind (hasForm_ok s hs) ?_
  unfold nameB
  cases formB s with
  | false => exact Ev.congr (f := fun _ => some false) (fun k => by rw [if_neg (by simp)]) (Ev.now _)
  | true => exact Ev.congr (f := fun k => (impl_isKept.f k s).bind fun t => some (!t)) (fun k => by rw [if_pos rfl]) (Ev.bind (isKept_ok s) (Ev.now _))
theorem implTokenOk_ok (K N : Int) (s : ByteArray) (hs : s.size ≤ 1048576) : Ev (fun k => impl_TokenOk.f k K N s) (tokB K N s) := by
  have hx : (s.extract 1 s.size).size ≤ 1048576 := by rw [extract_size s 1 s.size (Nat.le_refl _)]; omega
  simp only [impl_TokenOk.f, impl_isWord.f, within_ok, Option.bind_some]
  unfold tokB
  by_cases k2 : K = 2
  · rw [if_pos k2]
    refine Ev.congr (f := fun _ => some (decide (0 ≤ N ∧ N ≤ 65535) && (s.toList == ([] : List UInt8)))) (fun k => ?_) (Ev.now _)
    rw [if_pos k2]
    cases decide (0 ≤ N ∧ N ≤ 65535) <;> simp
  rw [if_neg k2]
  refine Ev.congr (fun k => by rw [if_neg k2]) ?_
  by_cases n0 : ¬ N = 0
  · simp only [if_neg n0, ite_self]
    exact Ev.now false
  replace n0 : N = 0 := Decidable.not_not.1 n0
  rw [if_pos n0]
  simp only [if_pos n0]
  by_cases k1 : K = 1
  · rw [if_pos k1]; exact Ev.congr (fun k => by rw [if_pos k1]) (Ev.bind (isName_ok s hs) (Ev.now _))
  rw [if_neg k1]
  refine Ev.congr (fun k => by rw [if_neg k1]) ?_
  by_cases k3 : K = 3
  · rw [if_pos k3]
    refine Ev.congr (fun k => by rw [if_pos k3]) ?_
    by_cases c : 1 < s.size
    · refine Ev.congr (fun k => by rw [if_pos (show (s.size : Int) > 1 by omega), if_pos (show 0 < (s.size : Int) by omega)]) ?_
      rw [decide_eq_true c]
      by_cases d : bt s 0 = 46
      · rw [decide_eq_true d]
        exact Ev.congr (fun k => by rw [if_pos d, if_pos (show 1 ≤ (s.size : Int) by omega)]) (Ev.bind (hasForm_ok _ hx) (Ev.now _))
      · rw [decide_eq_false d]
        exact Ev.congr (f := fun _ => some false) (fun k => by rw [if_neg d]) (Ev.now _)
    · rw [decide_eq_false c]
      exact Ev.congr (f := fun _ => some false) (fun k => by rw [if_neg (show ¬ (s.size : Int) > 1 by omega)]) (Ev.now _)
  rw [if_neg k3]
  refine Ev.congr (fun k => by rw [if_neg k3]) ?_
  by_cases k4 : K = 4
  · rw [if_pos k4]
    refine Ev.congr (fun k => by rw [if_pos k4]) ?_
    by_cases c : s.size = 1
    · refine Ev.congr (f := fun _ => some (markB s)) (fun k => ?_) (Ev.now _)
      rw [if_pos (show (s.size : Int) = 1 by omega), strings_Contains.f, if_pos c, Option.bind_some, has_mark s c]
    · rw [no_mark s c]
      exact Ev.congr (f := fun _ => some false) (fun k => by rw [if_neg (show ¬ (s.size : Int) = 1 by omega)]) (Ev.now _)
  rw [if_neg k4]
  refine Ev.congr (fun k => by rw [if_neg k4]) ?_
  by_cases k5 : K = 5
  · rw [if_pos k5]; exact Ev.congr (fun k => by rw [if_pos k5]) (Ev.bind (isKept_ok s) (Ev.now _))
  · rw [if_neg k5]; exact Ev.congr (f := fun _ => some false) (fun k => by rw [if_neg k5]) (Ev.now _)
theorem rd_in (l : List Int) (i : Int) (h0 : 0 ≤ i) (h1 : i < l.length) : rd l i ∈ l := by
  have hlt : i.toNat < l.length := by omega
  have : rd l i = l[i.toNat] := by simp [rd, List.getD_eq_getElem?_getD, hlt]
  rw [this]; exact List.getElem_mem hlt
theorem l1New_ok (l : List Int) (hl : l.length ≤ 1048576) (k : Nat) (hk : l.length < k) : ∃ h, spec_l1New.f k l = some (l, 0, h) := by
  unfold spec_l1New.f
  generalize wrap64 (766766 + (l.length : Int)) = h
  have H : ∀ (r : Nat) k (h : Int) (i : Nat), l.length - i = r → i ≤ l.length → r < k → ∃ h', spec_l1New.l0 k l h i = some (l, 0, h') := by
    intro r
    induction r with
    | zero =>
      intro k h i hr hi hk
      obtain ⟨k, rfl⟩ : ∃ m, k = m + 1 := ⟨k - 1, by omega⟩
      exact ⟨h, by simp only [spec_l1New.l0]; rw [if_neg (by omega)]⟩
    | succ r ih =>
      intro k h i hr hi hk
      obtain ⟨k, rfl⟩ : ∃ m, k = m + 1 := ⟨k - 1, by omega⟩
      simp only [spec_l1New.l0]
      rw [if_pos (by omega)]
      by_cases h4 : (i : Int) < 4000
      · rw [if_pos h4, if_pos (by omega), w64 (x := (i : Int) + 1) (by omega) (by omega)]
        exact ih k _ (i + 1) (by omega) (by omega) (by omega)
      · rw [if_neg h4]; exact ⟨h, rfl⟩
  exact H l.length k h 0 (by omega) (by omega) hk
theorem l1Byte_ok (l : List Int) (hl : l.length ≤ 1048576) (i : Int) (h0 : 0 ≤ i) (h1 : i ≤ l.length) (h : Int) :
    ∃ x i' h', spec_l1Byte.f l i h = some (x, i', h') ∧ 0 ≤ x ∧ x ≤ 255 ∧ 0 ≤ i' ∧ i' ≤ l.length := by
  unfold spec_l1Byte.f
  simp only [and255]
  by_cases hi : i < (l.length : Int)
  · rw [if_pos hi, if_pos h0, w64 (x := i + 1) (by omega) (by omega)]
    exact ⟨_, _, _, rfl, by omega, by omega, by omega, by omega⟩
  · rw [if_neg hi]
    exact ⟨_, _, _, rfl, by omega, by omega, by omega, by omega⟩
theorem l1Below_ok (l : List Int) (hl : l.length ≤ 1048576) (i : Int) (h0 : 0 ≤ i) (h1 : i ≤ l.length) (h : Int) (n : Int) :
    ∃ x i' h', spec_l1Below.f l i h n = some (x, i', h') ∧ 0 ≤ x ∧ (0 < n → x < n) ∧ (n ≤ 0 → x = 0) ∧ 0 ≤ i' ∧ i' ≤ l.length := by
  unfold spec_l1Below.f
  by_cases hn : n ≤ 0
  · rw [if_pos hn]; exact ⟨_, _, _, rfl, by omega, by omega, by omega, by omega, by omega⟩
  rw [if_neg hn]
  by_cases hn2 : n ≤ 256
  · rw [if_pos hn2]
    obtain ⟨x, i', h', e, x0, x1, i0, i1⟩ := l1Byte_ok l hl i h0 h1 h
    rw [e]; simp only [Option.bind_some]; rw [if_neg (by omega), Int.tmod_eq_emod_of_nonneg x0]
    exact ⟨_, _, _, rfl, Int.emod_nonneg _ (by omega), fun _ => Int.emod_lt_of_pos _ (by omega), by omega, i0, i1⟩
  · rw [if_neg hn2]
    obtain ⟨x, i', h', e, x0, x1, i0, i1⟩ := l1Byte_ok l hl i h0 h1 h
    rw [e]; simp only [Option.bind_some]
    obtain ⟨y, j', g', e, y0, y1, j0, j1⟩ := l1Byte_ok l hl i' i0 i1 h'
    rw [e]; simp only [Option.bind_some]
    obtain ⟨z, k', f', e, z0, z1, k0, k1⟩ := l1Byte_ok l hl j' j0 j1 g'
    rw [e]; simp only [Option.bind_some]
    rw [if_neg (by omega), w64 (x := x * 65536) (by omega) (by omega), w64 (x := y * 256) (by omega) (by omega), w64 (x := x * 65536 + y * 256) (by omega) (by omega), w64 (x := x * 65536 + y * 256 + z) (by omega) (by omega), Int.tmod_eq_emod_of_nonneg (by omega)]
    exact ⟨_, _, _, rfl, Int.emod_nonneg _ (by omega), fun _ => Int.emod_lt_of_pos _ (by omega), by omega, k0, k1⟩
theorem l1Int_ok (l : List Int) (hl : l.length ≤ 1048576) (i : Int) (h0 : 0 ≤ i) (h1 : i ≤ l.length) (h : Int) (xs : List Int) (hx : 0 < xs.length) :
    ∃ x i' h', spec_l1Int.f l i h xs = some (x, i', h') ∧ x ∈ xs ∧ 0 ≤ i' ∧ i' ≤ l.length := by
  unfold spec_l1Int.f
  obtain ⟨x, i', h', e, x0, x1, _, i0, i1⟩ := l1Below_ok l hl i h0 h1 h (xs.length : Int)
  rw [e]; simp only [Option.bind_some]
  have := x1 (by omega)
  rw [if_pos x0, if_pos this]
  exact ⟨_, _, _, rfl, rd_in xs x x0 this, i0, i1⟩
theorem l1New_ev (l : List Int) (hl : l.length ≤ 1048576) : ∃ h, Ev (fun k => spec_l1New.f k l) (l, 0, h) := by
  obtain ⟨h, e⟩ := l1New_ok l hl (l.length + 1) (by omega)
  exact ⟨h, Ev.of (spec_l1New.mono l) e⟩
theorem rdB_in (l : List ByteArray) (i : Int) (h0 : 0 ≤ i) (h1 : i < l.length) : rdOf ByteArray.empty l i ∈ l := by
  have h : i.toNat < l.length := by omega
  have e : rdOf ByteArray.empty l i = l[i.toNat] := by simp [rdOf, List.getD_eq_getElem?_getD, h]
  rw [e]; exact List.getElem_mem h
theorem l1Str_in (l : List Int) (hl : l.length ≤ 1048576) (i : Int) (h0 : 0 ≤ i) (h1 : i ≤ l.length) (h : Int) (xs : List ByteArray) (hx : 0 < xs.length) : ∃ s i' h', spec_l1Str.f l i h xs = some (s, i', h') ∧ s ∈ xs ∧ 0 ≤ i' ∧ i' ≤ l.length := by
  unfold spec_l1Str.f
  obtain ⟨x, i', h', e, x0, x1, _, i0, i1⟩ := l1Below_ok l hl i h0 h1 h (xs.length : Int)
  have x1 := x1 (by omega)
  rw [e, Option.bind_some, if_pos x0, if_pos x1]
  exact ⟨_, _, _, rfl, rdB_in xs x x0 x1, i0, i1⟩
theorem l1Once_in (l : List Int) (hl : l.length ≤ 1048576) (i : Int) (h0 : 0 ≤ i) (h1 : i ≤ l.length) (h : Int) (n : Int) : ∃ b i' h', spec_l1Once.f l i h n = some (b, i', h') ∧ 0 ≤ i' ∧ i' ≤ l.length := by
  unfold spec_l1Once.f
  obtain ⟨x, i', h', e, _, _, _, i0, i1⟩ := l1Below_ok l hl i h0 h1 h n
  rw [e, Option.bind_some]
  exact ⟨_, _, _, rfl, i0, i1⟩
theorem l1Word_in (l : List Int) (hl : l.length ≤ 1048576) (i : Int) (h0 : 0 ≤ i) (h1 : i ≤ l.length) (h : Int) : ∃ x i' h', spec_l1Word.f l i h = some (x, i', h') ∧ 0 ≤ x ∧ x ≤ 65535 ∧ 0 ≤ i' ∧ i' ≤ l.length := by
  unfold spec_l1Word.f
  obtain ⟨x, i', h', e, x0, x1, _, i0, i1⟩ := l1Below_ok l hl i h0 h1 h 65536
  have x1 := x1 (by omega)
  rw [e, Option.bind_some]
  obtain ⟨y, j', g', e2, hy, j0, j1⟩ := l1Int_ok l hl i' i0 i1 h' [0, 1, 2, 3, 5, 8, 255, 32767, 32768, 65535, x] (by simp)
  rw [e2, Option.bind_some]
  have hy2 : 0 ≤ y ∧ y ≤ 65535 := by simp at hy; omega
  exact ⟨_, _, _, rfl, hy2.1, hy2.2, j0, j1⟩
def TokD (K N : Int) (s : ByteArray) : Prop := tokB K N s = true ∧ s.size ≤ 1048576
theorem names_d : ∀ s ∈ [(⟨#[97]⟩ : ByteArray), (⟨#[115, 116, 97, 114, 116]⟩ : ByteArray), (⟨#[120, 49]⟩ : ByteArray), (⟨#[114, 54]⟩ : ByteArray)], tokB 1 0 s = true ∧ s.size ≤ 1048576 := by decide +kernel
theorem dots_d : ∀ s ∈ [(⟨#[46, 119, 111, 114, 100]⟩ : ByteArray), (⟨#[46, 109, 97, 99, 114, 111]⟩ : ByteArray), (⟨#[46, 120]⟩ : ByteArray)], tokB 3 0 s = true ∧ s.size ≤ 1048576 := by decide +kernel
theorem kept_d : ∀ s ∈ [(⟨#[109, 111, 118]⟩ : ByteArray), (⟨#[114, 48]⟩ : ByteArray), (⟨#[104, 97, 108, 116]⟩ : ByteArray)], tokB 5 0 s = true ∧ s.size ≤ 1048576 := by decide +kernel
theorem marks_d : ∀ s ∈ [(⟨#[58]⟩ : ByteArray), (⟨#[44]⟩ : ByteArray), (⟨#[40]⟩ : ByteArray), (⟨#[41]⟩ : ByteArray), (⟨#[46]⟩ : ByteArray), (⟨#[60]⟩ : ByteArray), (⟨#[64]⟩ : ByteArray)], tokB 4 0 s = true ∧ s.size ≤ 1048576 := by decide +kernel
theorem l9Draw_ok (l : List Int) (hl : l.length ≤ 1048576) (i : Int) (h0 : 0 ≤ i) (h1 : i ≤ l.length) (h : Int) : ∃ K N s i' h', spec_l9Draw.f l i h = some (K, N, s, i', h') ∧ TokD K N s ∧ 0 ≤ i' ∧ i' ≤ l.length := by
  obtain ⟨x, i2, h2, e, _, _, _, a0, a1⟩ := l1Below_ok l hl i h0 h1 h 5
  unfold spec_l9Draw.f
  rw [e, Option.bind_some]
  by_cases k0 : x = 0
  · obtain ⟨s, i3, h3, e3, hs, b0, b1⟩ := l1Str_in l hl i2 a0 a1 h2 [(⟨#[97]⟩ : ByteArray), (⟨#[115, 116, 97, 114, 116]⟩ : ByteArray), (⟨#[120, 49]⟩ : ByteArray), (⟨#[114, 54]⟩ : ByteArray)] (by decide)
    rw [if_pos k0, e3, Option.bind_some]
    exact ⟨_, _, _, _, _, rfl, names_d s hs, b0, b1⟩
  rw [if_neg k0]
  by_cases k1 : x = 1
  · obtain ⟨n, i3, h3, e3, n0, n1, b0, b1⟩ := l1Word_in l hl i2 a0 a1 h2
    rw [if_pos k1, e3, Option.bind_some]
    refine ⟨_, _, _, _, _, rfl, ⟨?_, by show (0 : Nat) ≤ _; omega⟩, b0, b1⟩
    unfold tokB
    rw [if_pos rfl, decide_eq_true ⟨n0, n1⟩]; simp [ByteArray.toList_eq]
  rw [if_neg k1]
  by_cases k2 : x = 2
  · obtain ⟨s, i3, h3, e3, hs, b0, b1⟩ := l1Str_in l hl i2 a0 a1 h2 [(⟨#[46, 119, 111, 114, 100]⟩ : ByteArray), (⟨#[46, 109, 97, 99, 114, 111]⟩ : ByteArray), (⟨#[46, 120]⟩ : ByteArray)] (by decide)
    rw [if_pos k2, e3, Option.bind_some]
    exact ⟨_, _, _, _, _, rfl, dots_d s hs, b0, b1⟩
  rw [if_neg k2]
  by_cases k3 : x = 3
  · obtain ⟨s, i3, h3, e3, hs, b0, b1⟩ := l1Str_in l hl i2 a0 a1 h2 [(⟨#[109, 111, 118]⟩ : ByteArray), (⟨#[114, 48]⟩ : ByteArray), (⟨#[104, 97, 108, 116]⟩ : ByteArray)] (by decide)
    rw [if_pos k3, e3, Option.bind_some]
    exact ⟨_, _, _, _, _, rfl, kept_d s hs, b0, b1⟩
  · obtain ⟨s, i3, h3, e3, hs, b0, b1⟩ := l1Str_in l hl i2 a0 a1 h2 [(⟨#[58]⟩ : ByteArray), (⟨#[44]⟩ : ByteArray), (⟨#[40]⟩ : ByteArray), (⟨#[41]⟩ : ByteArray), (⟨#[46]⟩ : ByteArray), (⟨#[60]⟩ : ByteArray), (⟨#[64]⟩ : ByteArray)] (by decide)
    rw [if_neg k3, e3, Option.bind_some]
    exact ⟨_, _, _, _, _, rfl, marks_d s hs, b0, b1⟩
theorem l9Tokens_loop (l : List Int) (hl : l.length ≤ 1048576) : ∀ (d : Nat) (x : List S45) (i h : Int), 0 ≤ i → i ≤ l.length → x.length + d ≤ 100 → (∀ t ∈ x, TokD t.f0 t.f1 t.f2) →
    ∃ (y : List S45) (i' h' : Int), Ev (fun k => spec_l9Tokens.l0 k x (d : Int) l i h) (y, i', h') ∧ y.length = x.length + d ∧ (∀ t ∈ y, TokD t.f0 t.f1 t.f2) ∧ 0 ≤ i' ∧ i' ≤ l.length := by
  intro d
  induction d with
  | zero =>
    intro x i h h0 h1 _ hx
    refine ⟨x, i, h, Ev.step (f := fun _ => some (x, i, h)) (fun k => ?_) (Ev.now _), rfl, hx, h0, h1⟩
    rw [spec_l9Tokens.l0.eq_def]; simp only []; rw [if_neg (by omega)]
  | succ d ih =>
    intro x i h h0 h1 hl2 hx
    obtain ⟨K, N, s, i2, h2, e, ht, a0, a1⟩ := l9Draw_ok l hl i h0 h1 h
    obtain ⟨y, i3, h3, e3, y1, y2, b0, b1⟩ := ih (x ++ [(⟨K, N, s⟩ : S45)]) i2 h2 a0 a1 (by rw [List.length_append, List.length_singleton]; omega) (fun t ht2 => by
      rcases List.mem_append.1 ht2 with q | q
      · exact hx t q
      · rw [List.mem_singleton.1 q]; exact ht)
    have wd : wrap64 (((d + 1 : Nat) : Int) - 1) = (d : Int) := by rw [w64 (by omega) (by omega)]; omega
    refine ⟨y, i3, h3, Ev.step (fun k => ?_) e3, by rw [y1, List.length_append, List.length_singleton]; omega, y2, b0, b1⟩
    rw [spec_l9Tokens.l0.eq_def]; simp only [wd, e, Option.bind_some]; rw [if_pos (by omega), if_pos (by omega)]
theorem l9Tokens_ok (l : List Int) (hl : l.length ≤ 1048576) (i : Int) (h0 : 0 ≤ i) (h1 : i ≤ l.length) (h : Int) (n : Int) (n0 : 0 < n) (n1 : n ≤ 50) :
    ∃ (y : List S45) (i' h' : Int), Ev (fun k => spec_l9Tokens.f k l i h n) (y, i', h') ∧ y.length ≤ 50 ∧ (∀ t ∈ y, TokD t.f0 t.f1 t.f2) ∧ 0 ≤ i' ∧ i' ≤ l.length := by
  obtain ⟨x, i2, h2, e, x0, x1, _, a0, a1⟩ := l1Below_ok l hl i h0 h1 h n
  have x1 := x1 n0
  obtain ⟨d, rfl⟩ := Int.eq_ofNat_of_zero_le x0
  obtain ⟨y, i3, h3, e3, y1, y2, b0, b1⟩ := l9Tokens_loop l hl d [] i2 h2 a0 a1 (by simp; omega) (by simp)
  exact ⟨y, i3, h3, Ev.congr (f := fun k => spec_l9Tokens.l0 k [] (d : Int) l i2 h2) (fun k => by simp only [spec_l9Tokens.f]; rw [e, Option.bind_some]) e3, by rw [y1]; simp; omega, y2, b0, b1⟩
theorem drawLine_ok (l : List Int) (hl : l.length ≤ 1048576) : ∃ y : List S45, Ev (fun k => spec_DrawLineOf.f k l) y ∧ y.length ≤ 50 ∧ ∀ t ∈ y, TokD t.f0 t.f1 t.f2 := by
  obtain ⟨h, e⟩ := l1New_ev l hl
  obtain ⟨y, i, h2, e2, y1, y2, _⟩ := l9Tokens_ok l hl 0 (by omega) (by omega) h 12 (by omega) (by omega)
  exact ⟨y, Ev.bind e (Ev.bind e2 (Ev.now _)), y1, y2⟩
/-- the text of a row of right tokens, and that it is short. -/
theorem text_len (t : S45) (h : tokB t.f0 t.f1 t.f2 = true) : (ttext t).length ≤ 7 := (back_ok t h).1.len
theorem join_len : ∀ (r : List (List UInt8)), (∀ x ∈ r, x.length ≤ 7) → (Lib.join r [32]).length ≤ 8 * r.length := by
  intro r
  induction r with
  | nil => intro _; simp [Lib.join_nil]
  | cons x r ih =>
    intro h
    rw [join_two, List.length_append, List.length_cons]
    have h1 := h x List.mem_cons_self
    have h2 := ih (fun y hy => h y (List.mem_cons_of_mem _ hy))
    split
    · simp; omega
    · rw [List.length_cons]; omega
theorem line_ok (y : List S45) (hy : y.length ≤ 800) (ht : ∀ t ∈ y, TokD t.f0 t.f1 t.f2) : ∃ s : ByteArray, Ev (fun k => impl_LineOf.f k y) s ∧ s.size ≤ 1048576 ∧ s.data.toList = Lib.join (y.map ttext) [32] := by
  have hj : (Lib.join (y.map ttext) [32]).length ≤ 8 * 800 := by
    have := join_len (y.map ttext) (fun x hx => by obtain ⟨t, h1, h2⟩ := List.mem_map.1 hx; rw [← h2]; exact text_len t (ht t h1).1)
    rw [List.length_map] at this
    omega
  obtain ⟨q, q1, q2⟩ := implLine_loop y (by omega) (by omega) y.length 0 [] (by omega) (by omega) rfl
  refine ⟨q, by simp only [impl_LineOf.f]; exact q1, ?_, q2⟩
  rw [size_list, q2]; omega
theorem lex_line (y : List S45) (hy : y.length ≤ 800) (ht : ∀ t ∈ y, TokD t.f0 t.f1 t.f2) (s : ByteArray) (hs : s.size ≤ 1048576) (h : s.data.toList = Lib.join (y.map ttext) [32]) : Ev (fun k => impl_Lex.f k s) (y, true) := by
  obtain ⟨l, b, a1, a2, _⟩ := lex_ok s hs
  have hb : Ev (fun k => spec_Lex.f k s) (y, true) := by
    have := lex_back s hs y [] [] ht (by simpa using hy) (by rw [h, List.nil_append])
    simp only [spec_Lex.f]
    simpa using this
  have e := Ev.one a1 hb
  rw [e] at a2
  exact a2
theorem sameTokens_self (l : List S45) (hl : l.length ≤ 1048576) : Ev (fun k => laws_sameTokens.f k l l) true := by
  have H : ∀ (d i : Nat), l.length - i = d → i ≤ l.length → Ev (fun k => laws_sameTokens.l0 k l l (i : Int)) true := by
    intro d
    induction d with
    | zero =>
      intro i hd hi
      refine Ev.step (f := fun _ => some true) (fun k => ?_) (Ev.now _)
      rw [laws_sameTokens.l0.eq_def]; simp only []; rw [if_neg (by omega)]
    | succ d ih =>
      intro i hd hi
      have g1 : (i : Int) < (l.length : Int) := by omega
      have g2 : 0 ≤ (i : Int) := by omega
      have w4 := wnext i l.length (by omega) hl
      refine Ev.step (fun k => ?_) (ih (i + 1) (by omega) (by omega))
      rw [laws_sameTokens.l0.eq_def]
      simp only [w4]
      rw [if_pos g1, if_pos g2, if_pos g1, if_neg (by simp)]
  have h := H l.length 0 (by omega) (by omega)
  exact Ev.congr (f := fun k => laws_sameTokens.l0 k l l ((0 : Nat) : Int)) (fun k => by simp only [laws_sameTokens.f]; rw [if_pos trivial]; rfl) h
theorem lexd_strs : ∀ s ∈ [(⟨#[32, 59, 32, 110, 111]⟩ : ByteArray), (⟨#[32, 56]⟩ : ByteArray), (⟨#[32, 50, 48, 48, 48, 48, 48]⟩ : ByteArray), (⟨#[32, 115, 101, 118, 101, 110, 108, 101]⟩ : ByteArray), (⟨#[65]⟩ : ByteArray), (⟨#[32, 46, 115, 101, 118, 101, 110, 108, 101]⟩ : ByteArray), (⟨#[255]⟩ : ByteArray), (⟨#[97, 43, 49]⟩ : ByteArray), (⟨#[46, 43, 50]⟩ : ByteArray), (⟨#[46, 46]⟩ : ByteArray), (⟨#[32, 48, 48]⟩ : ByteArray), (⟨#[9, 120]⟩ : ByteArray)], s.size ≤ 20 := by decide +kernel
theorem lexd_strs2 : ∀ s ∈ [(⟨#[109, 111, 118, 32, 35, 53, 44, 114, 48]⟩ : ByteArray), (⟨#[97, 58, 98]⟩ : ByteArray), (⟨#[64, 45, 40, 115, 112, 41]⟩ : ByteArray), (⟨#[120, 61, 60, 97, 43, 49, 62]⟩ : ByteArray), (⟨#[114, 48, 114, 49]⟩ : ByteArray), (⟨#[46, 119, 111, 114, 100, 32, 49, 44, 50]⟩ : ByteArray)], s.size ≤ 20 := by decide +kernel
theorem lexd_strs3 : ∀ s ∈ [(⟨#[]⟩ : ByteArray), (⟨#[97]⟩ : ByteArray), (⟨#[109, 111, 118]⟩ : ByteArray), (⟨#[46]⟩ : ByteArray), (⟨#[46, 46]⟩ : ByteArray), (⟨#[115, 101, 118, 101, 110, 108, 101]⟩ : ByteArray), (⟨#[59]⟩ : ByteArray)], s.size ≤ 20 := by decide +kernel
theorem drawLex_loop : ∀ (d i : Nat) (x : ByteArray), 800 - i = d → i ≤ 800 → x.size + 2 * d ≤ 100000 → ∃ s, Ev (fun k => spec_DrawLex.l0 k x (i : Int)) s ∧ s.size ≤ 100000 := by
  intro d
  induction d with
  | zero =>
    intro i x hd hi hx
    refine ⟨x, Ev.step (f := fun _ => some x) (fun k => ?_) (Ev.now _), by omega⟩
    rw [spec_DrawLex.l0.eq_def]; simp only []; rw [if_neg (by omega)]
  | succ d ih =>
    intro i x hd hi hx
    have h2 : (x ++ (⟨#[32, 44]⟩ : ByteArray)).size = x.size + 2 := by rw [ByteArray.size_append]; rfl
    obtain ⟨s, hs, hz⟩ := ih (i + 1) (x ++ (⟨#[32, 44]⟩ : ByteArray)) (by omega) (by omega) (by rw [h2]; omega)
    have w4 := wnext i 800 (by omega) (by omega)
    refine ⟨s, Ev.step (fun k => ?_) hs, hz⟩
    rw [spec_DrawLex.l0.eq_def]; simp only [w4]; rw [if_pos (by clear w4; omega), if_pos (by clear w4; omega)]
theorem drawLex_ok (l : List Int) (hl : l.length ≤ 1048576) : ∃ s : ByteArray, Ev (fun k => spec_DrawLex.f k l) s ∧ s.size ≤ 1048576 := by
  obtain ⟨h, e⟩ := l1New_ev l hl
  obtain ⟨y, i1, h1, e1, y1, y2, a0, a1⟩ := l9Tokens_ok l hl 0 (by omega) (by omega) h 8 (by omega) (by omega)
  obtain ⟨p, p1, p2, p3⟩ := specLine_loop y (by omega) (fun t ht => (y2 t ht).2) y.length 0 (⟨#[]⟩ : ByteArray) (by omega) (by omega) rfl (by simp [ByteArray.size])
  have ps : Ev (fun k => spec_LineOf.f k y) p := by simp only [spec_LineOf.f]; exact p1
  have pz : p.size ≤ 8 * 50 := by
    rw [size_list, p2]
    have := join_len (y.map ttext) (fun x hx => by obtain ⟨t, q1, q2⟩ := List.mem_map.1 hx; rw [← q2]; exact text_len t (y2 t q1).1)
    rw [List.length_map] at this
    omega
  obtain ⟨x, i2, h2, e2, _, _, _, b0, b1⟩ := l1Below_ok l hl i1 a0 a1 h1 4
  have st : ∀ r, Ev (fun k => if x = 0 then ((spec_l1Str.f l i2 h2 (([(⟨#[32, 59, 32, 110, 111]⟩ : ByteArray), (⟨#[32, 56]⟩ : ByteArray), (⟨#[32, 50, 48, 48, 48, 48, 48]⟩ : ByteArray), (⟨#[32, 115, 101, 118, 101, 110, 108, 101]⟩ : ByteArray), (⟨#[65]⟩ : ByteArray), (⟨#[32, 46, 115, 101, 118, 101, 110, 108, 101]⟩ : ByteArray), (⟨#[255]⟩ : ByteArray), (⟨#[97, 43, 49]⟩ : ByteArray), (⟨#[46, 43, 50]⟩ : ByteArray), (⟨#[46, 46]⟩ : ByteArray), (⟨#[32, 48, 48]⟩ : ByteArray), (⟨#[9, 120]⟩ : ByteArray)] : List ByteArray))).bind fun bt352 => (if p.size + bt352.1.size ≤ 9223372036854775807 then (some (p ++ bt352.1)) else (none))) else (if x = 1 then ((spec_l1Str.f l i2 h2 (([(⟨#[109, 111, 118, 32, 35, 53, 44, 114, 48]⟩ : ByteArray), (⟨#[97, 58, 98]⟩ : ByteArray), (⟨#[64, 45, 40, 115, 112, 41]⟩ : ByteArray), (⟨#[120, 61, 60, 97, 43, 49, 62]⟩ : ByteArray), (⟨#[114, 48, 114, 49]⟩ : ByteArray), (⟨#[46, 119, 111, 114, 100, 32, 49, 44, 50]⟩ : ByteArray)] : List ByteArray))).bind fun bt358 => (some bt358.1)) else ((spec_l1Once.f l i2 h2 100).bind fun bt361 => (if bt361.1 = true then (spec_DrawLex.l0 k p 0) else (some p))))) r → Ev (fun k => spec_DrawLex.f k l) r := by
    intro r hr
    refine Ev.bind e (Ev.bind e1 (Ev.bind ps (Ev.congr (fun k => ?_) hr)))
    simp only [e2, Option.bind_some]
  by_cases k0 : x = 0
  · obtain ⟨s, i3, h3, e3, hs, _, _⟩ := l1Str_in l hl i2 b0 b1 h2 _ (show 0 < ([(⟨#[32, 59, 32, 110, 111]⟩ : ByteArray), (⟨#[32, 56]⟩ : ByteArray), (⟨#[32, 50, 48, 48, 48, 48, 48]⟩ : ByteArray), (⟨#[32, 115, 101, 118, 101, 110, 108, 101]⟩ : ByteArray), (⟨#[65]⟩ : ByteArray), (⟨#[32, 46, 115, 101, 118, 101, 110, 108, 101]⟩ : ByteArray), (⟨#[255]⟩ : ByteArray), (⟨#[97, 43, 49]⟩ : ByteArray), (⟨#[46, 43, 50]⟩ : ByteArray), (⟨#[46, 46]⟩ : ByteArray), (⟨#[32, 48, 48]⟩ : ByteArray), (⟨#[9, 120]⟩ : ByteArray)]).length from by decide)
    have hz := lexd_strs s hs
    refine ⟨p ++ s, st _ (Ev.congr (f := fun _ => some (p ++ s)) (fun k => ?_) (Ev.now _)), by rw [ByteArray.size_append]; omega⟩
    rw [if_pos k0, e3, Option.bind_some, if_pos (show p.size + s.size ≤ 9223372036854775807 by omega)]
  by_cases k1 : x = 1
  · obtain ⟨s, i3, h3, e3, hs, _, _⟩ := l1Str_in l hl i2 b0 b1 h2 _ (show 0 < ([(⟨#[109, 111, 118, 32, 35, 53, 44, 114, 48]⟩ : ByteArray), (⟨#[97, 58, 98]⟩ : ByteArray), (⟨#[64, 45, 40, 115, 112, 41]⟩ : ByteArray), (⟨#[120, 61, 60, 97, 43, 49, 62]⟩ : ByteArray), (⟨#[114, 48, 114, 49]⟩ : ByteArray), (⟨#[46, 119, 111, 114, 100, 32, 49, 44, 50]⟩ : ByteArray)]).length from by decide)
    have hz := lexd_strs2 s hs
    refine ⟨s, st _ (Ev.congr (f := fun _ => some s) (fun k => ?_) (Ev.now _)), by omega⟩
    rw [if_neg k0, if_pos k1, e3, Option.bind_some]
  · obtain ⟨b, i3, h3, e3, _, _⟩ := l1Once_in l hl i2 b0 b1 h2 100
    cases b with
    | false => exact ⟨p, st _ (Ev.congr (f := fun _ => some p) (fun k => by rw [if_neg k0, if_neg k1, e3, Option.bind_some, if_neg (show ¬ (false = true) by decide)]) (Ev.now _)), by omega⟩
    | true =>
      obtain ⟨s, hs, hz⟩ := drawLex_loop 800 0 p (by omega) (by omega) (by omega)
      exact ⟨s, st _ (Ev.congr (f := fun k => spec_DrawLex.l0 k p ((0 : Nat) : Int)) (fun k => by rw [if_neg k0, if_neg k1, e3, Option.bind_some, if_pos rfl]; rfl) hs), by omega⟩
theorem drawTok_ok (l : List Int) (hl : l.length ≤ 1048576) : ∃ (K N : Int) (s : ByteArray), Ev (fun k => spec_DrawTokenOk.f k l) (K, N, s) ∧ s.size ≤ 1048576 := by
  obtain ⟨h, e⟩ := l1New_ev l hl
  obtain ⟨K, N, s, i1, h1, e1, ⟨_, hz⟩, a0, a1⟩ := l9Draw_ok l hl 0 (by omega) (by omega) h
  obtain ⟨x, i2, h2, e2, _, _, _, b0, b1⟩ := l1Below_ok l hl i1 a0 a1 h1 5
  have st : ∀ r, (if x = 0 then ((spec_l1Below.f l i2 h2 7).bind fun bt378 => (some (bt378.1, N, s))) else (if x = 1 then ((spec_l1Str.f l i2 h2 (([(⟨#[]⟩ : ByteArray), (⟨#[97]⟩ : ByteArray), (⟨#[109, 111, 118]⟩ : ByteArray), (⟨#[46]⟩ : ByteArray), (⟨#[46, 46]⟩ : ByteArray), (⟨#[115, 101, 118, 101, 110, 108, 101]⟩ : ByteArray), (⟨#[59]⟩ : ByteArray)] : List ByteArray))).bind fun bt384 => (some (K, N, bt384.1))) else (if x = 2 then ((spec_l1Int.f l i2 h2 (([(-1), 1, 65536] : List Int))).bind fun bt390 => (some (K, bt390.1, s))) else (some (K, N, s))))) = some r → Ev (fun k => spec_DrawTokenOk.f k l) r := by
    intro r hr
    refine Ev.bind e (Ev.congr (f := fun _ => some r) (fun k => ?_) (Ev.now _))
    simp only [e1, e2, Option.bind_some]
    exact hr
  by_cases k0 : x = 0
  · obtain ⟨y, i3, h3, e3, _⟩ := l1Below_ok l hl i2 b0 b1 h2 7
    exact ⟨y, N, s, st _ (by rw [if_pos k0, e3, Option.bind_some]), hz⟩
  by_cases k1 : x = 1
  · obtain ⟨y, i3, h3, e3, hy, _⟩ := l1Str_in l hl i2 b0 b1 h2 [(⟨#[]⟩ : ByteArray), (⟨#[97]⟩ : ByteArray), (⟨#[109, 111, 118]⟩ : ByteArray), (⟨#[46]⟩ : ByteArray), (⟨#[46, 46]⟩ : ByteArray), (⟨#[115, 101, 118, 101, 110, 108, 101]⟩ : ByteArray), (⟨#[59]⟩ : ByteArray)] (by decide)
    exact ⟨K, N, y, st _ (by rw [if_neg k0, if_pos k1, e3, Option.bind_some]), Nat.le_trans (lexd_strs3 y hy) (by omega)⟩
  by_cases k2 : x = 2
  · obtain ⟨y, i3, h3, e3, _⟩ := l1Int_ok l hl i2 b0 b1 h2 [(-1), 1, 65536] (by decide)
    exact ⟨K, y, s, st _ (by rw [if_neg k0, if_neg k1, if_pos k2, e3, Option.bind_some]), hz⟩
  · exact ⟨K, N, s, st _ (by rw [if_neg k0, if_neg k1, if_neg k2]), hz⟩
theorem all_ok (y : List S45) (hy : y.length ≤ 800) (ht : ∀ t ∈ y, TokD t.f0 t.f1 t.f2) : Ev (fun k => laws_FnLexed.l0 k y ((0 : Nat) : Int)) true := by
  have H : ∀ (d i : Nat), y.length - i = d → i ≤ y.length → Ev (fun k => laws_FnLexed.l0 k y (i : Int)) true := by
    intro d
    induction d with
    | zero =>
      intro i hd hi
      obtain ⟨s, s1, s2, s3⟩ := line_ok y hy ht
      have s4 := lex_line y hy ht s s2 s3
      refine Ev.step (f := fun k => (impl_LineOf.f k y).bind fun t431 => ((impl_Lex.f k t431).bind fun bt432 => (if bt432.2 = true then ((laws_sameTokens.f k bt432.1 y).bind fun t436 => (some t436)) else (some false)))) (fun k => ?_) (Ev.bind s1 (Ev.bind s4 ?_))
      · rw [laws_FnLexed.l0.eq_def]; simp only []; rw [if_neg (by omega)]
      · exact Ev.congr (f := fun k => (laws_sameTokens.f k y y).bind fun t436 => (some t436)) (fun k => by rw [if_pos rfl]) (Ev.bind (sameTokens_self y (by omega)) (Ev.now _))
    | succ d ih =>
      intro i hd hi
      have hlt : i < y.length := by omega
      have g1 : (i : Int) < (y.length : Int) := by omega
      have g2 : 0 ≤ (i : Int) := by omega
      obtain ⟨t1, t2⟩ := ht _ (List.getElem_mem hlt)
      have hto := implTokenOk_ok y[i].f0 y[i].f1 y[i].f2 t2
      rw [t1] at hto
      have w4 := wnext i y.length hlt (by omega)
      refine Ev.step (f := fun k => (impl_TokenOk.f k y[i].f0 y[i].f1 y[i].f2).bind fun t430 => (if t430 = true then (laws_FnLexed.l0 k y ((i + 1 : Nat) : Int)) else (some false))) (fun k => ?_) (Ev.bind hto (Ev.congr (fun k => by rw [if_pos rfl]) (ih (i + 1) (by omega) (by omega))))
      rw [laws_FnLexed.l0.eq_def]; simp only [rd45 y i hlt, w4]; rw [if_pos g1, if_pos g2]
  exact H y.length 0 (by omega) (by omega)
theorem FnLexed : laws_FnLexed.Pure := by
  intro l _ hl _
  refine Ev.rounds (g := fun k => laws_FnLexed.f k l) ?_
  simp only [laws_FnLexed.f, laws_big.f, Option.bind_some]
  by_cases c : (l.length : Int) > 1048576
  · exact Ev.congr (f := fun _ => some true) (fun k => by rw [if_pos (decide_eq_true c)]) (Ev.now _)
  refine Ev.congr (fun k => by rw [if_neg (by rw [decide_eq_true_eq]; exact c)]) ?_
  obtain ⟨y, ey, y1, y2⟩ := drawLine_ok l (by omega)
  obtain ⟨s, es, s2⟩ := drawLex_ok l (by omega)
  obtain ⟨K, N, u, et, u2⟩ := drawTok_ok l (by omega)
  obtain ⟨q, q1, q2, q3⟩ := line_ok y (by omega) y2
  have q4 := lex_line y (by omega) y2 q q2 q3
  obtain ⟨z, b, z1, z2, z3, z4⟩ := lex_ok s s2
  have o1 := specTokenOk_ok K N u u2
  have o2 := implTokenOk_ok K N u u2
  refine Ev.bind ey (Ev.bind q1 (Ev.bind q4 (Ev.bind es (Ev.bind z2 (Ev.bind z1 (Ev.bind et ?_))))))
  refine Ev.congr (fun k => by rw [if_pos rfl]) (Ev.bind (sameTokens_self y (by omega)) ?_)
  refine Ev.congr (fun k => by rw [if_pos rfl, if_neg (by simp)]) (Ev.bind (sameTokens_self z (by omega)) ?_)
  refine Ev.congr (fun k => by rw [if_pos rfl]) (Ev.bind o2 (Ev.bind o1 ?_))
  refine Ev.congr (f := fun k => laws_FnLexed.j0 k z false) (fun k => by rw [bne_self_eq_false]) ?_
  refine Ev.step (f := fun k => laws_FnLexed.l0 k z ((0 : Nat) : Int)) (fun k => by rw [laws_FnLexed.j0.eq_def]; simp only []; rw [if_neg (by decide)]; rfl) (all_ok z z3 z4)

end Go.Proofs.YtbemgfdaenepjaaDoor.Pure
