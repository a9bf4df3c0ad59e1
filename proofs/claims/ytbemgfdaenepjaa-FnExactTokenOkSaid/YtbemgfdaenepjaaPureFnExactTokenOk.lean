/- Proved: the law FnExactTokenOk, as a plain function, answers true at each token; no further conditions. -/
import Derived.Test.YtbemgfdaenepjaaPFnExactTokenOkx1
import Derived.Test.YtbemgfdaenepjaaPFnExactTokenOkx2
import Derived.Test.YtbemgfdaenepjaaPFnExactTokenOkx3
import Derived.Test.YtbemgfdaenepjaaVCFnExactTokenOk
import Derived.Laws.Runes
namespace Go.Proofs.Ytbemgfdaenepjaa.Pure
open Go.RowKit Go.Proofs.Ytbemgfdaenepjaa.PFnExactTokenOk Go.Proofs.YtbemgfdaenepjaaW.PrintWords Go.Proofs.YtbemgfdaenepjaaW.PrintLast Go.Proofs.Ytbemgfdaenepjaa.Common
set_option linter.unusedVariables false
set_option linter.unusedSimpArgs false
theorem l1In_ok (a b c : Int) : spec_l1In.f a b c = some (decide (b ≤ a ∧ a ≤ c)) := by
  unfold spec_l1In.f
  by_cases h : a ≥ b
  · have h' : b ≤ a := h
    rw [if_pos h]; simp [h']
  · have h' : ¬ b ≤ a := h
    rw [if_neg h]; simp [h']
theorem within_ok (a b c : Int) : impl_within.f a b c = some (decide (b ≤ a ∧ a ≤ c)) := by
  unfold impl_within.f
  by_cases h : a ≥ b
  · have h' : b ≤ a := h
    rw [if_pos h]; simp [h']
  · have h' : ¬ b ≤ a := h
    rw [if_neg h]; simp [h']
theorem bal (s : ByteArray) : s.toList = s.data.toList := ByteArray.toList_eq s
theorem bal_length (s : ByteArray) : s.toList.length = s.size := by rw [bal, Array.length_toList]; rfl
theorem bt_b (s : ByteArray) (i : Int) : wrap64 (bt s i) = bt s i := by have := bt_range s i; exact w64 (by omega) (by omega)
/-- a loop that looks for the first place that is as asked. -/
theorem search_loop (n : Nat) (hn : n ≤ 4611686018427387904) (p : Nat → Prop) [DecidablePred p] (L : Nat → Int → Option Int)
    (hs : ∀ k (i : Nat), i < n → L (k + 1) (i : Int) = if p i then some (i : Int) else L k (wrap64 ((i : Int) + 1))) (he : ∀ k (i : Nat), ¬ i < n → L (k + 1) (i : Int) = some (-1)) :
    ∃ r : Int, Ev (fun k => L k 0) r ∧ -1 ≤ r ∧ r < n ∧ (0 ≤ r → p r.toNat) ∧ (∀ j : Nat, j < n → p j → 0 ≤ r ∧ r ≤ j) := by
  have H : ∀ (d i : Nat), n - i = d → i ≤ n → ∃ r : Int, Ev (fun k => L k (i : Int)) r ∧ -1 ≤ r ∧ r < n ∧ (0 ≤ r → p r.toNat) ∧ (∀ j : Nat, i ≤ j → j < n → p j → 0 ≤ r ∧ r ≤ j) := by
    intro d
    induction d with
    | zero =>
      intro i hd hi
      exact ⟨-1, Ev.step (f := fun _ => some (-1)) (fun k => he k i (by omega)) (Ev.now _), by omega, by omega, fun h => by omega, fun j h1 h2 => by omega⟩
    | succ d ih =>
      intro i hd hi
      by_cases hp : p i
      · exact ⟨i, Ev.step (f := fun _ => some (i : Int)) (fun k => by rw [hs k i (by omega), if_pos hp]) (Ev.now _), by omega, by omega, fun _ => by simpa using hp, fun j h1 h2 _ => by omega⟩
      · obtain ⟨r, hr, r0, r1, r2, r3⟩ := ih (i + 1) (by omega) (by omega)
        refine ⟨r, Ev.step (f := fun k => L k ((i + 1 : Nat) : Int)) (fun k => ?_) hr, r0, r1, r2, fun j h1 h2 h3 => ?_⟩
        · rw [hs k i (by omega), if_neg hp, w64 (by omega) (by omega)]; rfl
        · rcases Nat.eq_or_lt_of_le h1 with e | e
          · subst e; exact absurd h3 hp
          · exact r3 j e h2 h3
  obtain ⟨r, hr, r0, r1, r2, r3⟩ := H n 0 (by omega) (by omega)
  exact ⟨r, by simpa using hr, r0, r1, r2, fun j h1 h2 => r3 j (Nat.zero_le _) h1 h2⟩
theorem rdB (l : List ByteArray) (i : Nat) (h : i < l.length) : rdOf ByteArray.empty l (i : Int) = l[i] := by simp [rdOf, List.getD_eq_getElem?_getD, h]
/-- is a text among others? -/
def amongB (l : List ByteArray) (s : ByteArray) : Bool := l.any fun x => x.toList == s.toList
theorem l9At_ok (l : List ByteArray) (hl : l.length ≤ 1048576) (s : ByteArray) : ∃ r : Int, Ev (fun k => spec_l9At.f k l s) r ∧ -1 ≤ r ∧ r < l.length ∧ (0 ≤ r → ∀ h : r.toNat < l.length, l[r.toNat].toList = s.toList) ∧ (∀ j : Nat, ∀ h : j < l.length, l[j].toList = s.toList → 0 ≤ r ∧ r ≤ j) := by
  obtain ⟨r, hr, r0, r1, r2, r3⟩ := search_loop l.length (by omega) (fun i => ∃ h : i < l.length, l[i].toList = s.toList) (fun k i => spec_l9At.l0 k l s i) (fun k i hi => by
    simp only [spec_l9At.l0]; rw [if_pos (by omega), if_pos (by omega), rdB l i hi]
    by_cases e : l[i].toList = s.toList
    · rw [if_pos e, if_pos ⟨hi, e⟩]
    · rw [if_neg e, if_neg (fun h => e h.2)]) (fun k i hi => by simp only [spec_l9At.l0]; rw [if_neg (by omega)])
  exact ⟨r, hr, r0, r1, fun h _ => (r2 h).2, fun j hj e => r3 j hj ⟨hj, e⟩⟩
theorem placeIn_ok (l : List ByteArray) (hl : l.length ≤ 1048576) (s : ByteArray) : ∃ r : Int, Ev (fun k => impl_placeIn.f k l s) r ∧ -1 ≤ r ∧ r < l.length ∧ (0 ≤ r → ∀ h : r.toNat < l.length, l[r.toNat].toList = s.toList) ∧ (∀ j : Nat, ∀ h : j < l.length, l[j].toList = s.toList → 0 ≤ r ∧ r ≤ j) := by
  obtain ⟨r, hr, r0, r1, r2, r3⟩ := search_loop l.length (by omega) (fun i => ∃ h : i < l.length, l[i].toList = s.toList) (fun k i => impl_placeIn.l0 k s l (l.length : Int) i) (fun k i hi => by
    simp only [impl_placeIn.l0]; rw [if_pos (by omega), if_pos (by omega), if_pos (by omega), rdB l i hi]
    by_cases e : l[i].toList = s.toList
    · rw [if_pos e, if_pos ⟨hi, e⟩]
    · rw [if_neg e, if_neg (fun h => e h.2)]) (fun k i hi => by simp only [impl_placeIn.l0]; rw [if_neg (by omega)])
  exact ⟨r, hr, r0, r1, fun h _ => (r2 h).2, fun j hj e => r3 j hj ⟨hj, e⟩⟩
theorem among_iff (l : List ByteArray) (s : ByteArray) (r : Int) (h0 : -1 ≤ r) (h1 : r < l.length) (h2 : 0 ≤ r → ∀ h : r.toNat < l.length, l[r.toNat].toList = s.toList) (h3 : ∀ j : Nat, ∀ h : j < l.length, l[j].toList = s.toList → 0 ≤ r ∧ r ≤ j) : 0 ≤ r ↔ amongB l s = true := by
  unfold amongB
  rw [List.any_eq_true]
  constructor
  · intro h
    have hlt : r.toNat < l.length := by omega
    exact ⟨_, List.getElem_mem hlt, by rw [h2 h hlt]; exact beq_self_eq_true _⟩
  · rintro ⟨x, hx, e⟩
    obtain ⟨j, hj, rfl⟩ := List.getElem_of_mem hx
    exact (h3 j hj (by simpa using e)).1
def opW23 : List ByteArray := (impl_opWords.f).getD []
def regW8 : List ByteArray := (impl_regWords.f).getD []
theorem opW23_ok : impl_opWords.f = some opW23 := rfl
theorem regW8_ok : impl_regWords.f = some regW8 := rfl
theorem kept31_ok : spec_l9Kept.f = some (opW23 ++ regW8) := rfl
def keptB (s : ByteArray) : Bool := amongB (opW23 ++ regW8) s
theorem keptB_or (s : ByteArray) : keptB s = (amongB opW23 s || amongB regW8 s) := by unfold keptB amongB; rw [List.any_append]
theorem specKept_ok (s : ByteArray) : ∃ r : Int, Ev (fun k => spec_l9At.f k (opW23 ++ regW8) s) r ∧ (0 ≤ r ↔ keptB s = true) := by
  obtain ⟨r, hr, r0, r1, r2, r3⟩ := l9At_ok (opW23 ++ regW8) (by decide) s
  exact ⟨r, hr, among_iff _ _ _ r0 r1 r2 r3⟩
theorem isKept_ok (s : ByteArray) : Ev (fun k => impl_isKept.f k s) (keptB s) := by
  obtain ⟨r, hr, r0, r1, r2, r3⟩ := placeIn_ok opW23 (by decide) s
  obtain ⟨q, hq, q0, q1, q2, q3⟩ := placeIn_ok regW8 (by decide) s
  have e1 := among_iff _ _ _ r0 r1 r2 r3
  have e2 := among_iff _ _ _ q0 q1 q2 q3
  simp only [impl_isKept.f, opW23_ok, regW8_ok, Option.bind_some]
  refine Ev.bind hr ?_
  rw [keptB_or]
  by_cases h : r ≥ 0
  · refine Ev.congr (f := fun _ => some (amongB opW23 s || amongB regW8 s)) (fun k => ?_) (Ev.now _)
    rw [if_pos h, e1.1 h]; rfl
  · refine Ev.congr (f := fun k => (impl_placeIn.f k regW8 s).bind fun t => some (decide (t ≥ 0))) (fun k => by rw [if_neg h]) (Ev.bind hq ?_)
    have h1 : amongB opW23 s = false := by cases h' : amongB opW23 s with | false => rfl | true => exact absurd (e1.2 h') h
    have h2 : decide (q ≥ 0) = amongB regW8 s := by rw [Bool.eq_iff_iff, decide_eq_true_eq]; exact e2
    rw [h1, h2]; exact Ev.now _
/-- a letter; a digit -/
def smallP (c : Int) : Prop := 97 ≤ c ∧ c ≤ 122
def digitP (c : Int) : Prop := 48 ≤ c ∧ c ≤ 57
instance (c : Int) : Decidable (smallP c) := by unfold smallP; infer_instance
instance (c : Int) : Decidable (digitP c) := by unfold digitP; infer_instance
theorem l9Small_ok (s : ByteArray) (i : Int) : spec_l9Small.f (bt s i) = some (decide (smallP (bt s i))) := by unfold spec_l9Small.f; rw [bt_b, l1In_ok]; rfl
theorem l9Digit_ok (s : ByteArray) (i : Int) : spec_l9Digit.f (bt s i) = some (decide (digitP (bt s i))) := by unfold spec_l9Digit.f; rw [bt_b, l1In_ok]; rfl
theorem isLetter_ok (s : ByteArray) (i : Int) : impl_isLetter.f (bt s i) = some (decide (smallP (bt s i))) := by unfold impl_isLetter.f; rw [bt_b, within_ok]; rfl
theorem isPart_ok (s : ByteArray) (i : Int) : impl_isPart.f (bt s i) = some (decide (smallP (bt s i) ∨ digitP (bt s i))) := by
  unfold impl_isPart.f
  rw [isLetter_ok]; simp only [Option.bind_some]
  by_cases h : smallP (bt s i)
  · rw [if_pos (decide_eq_true h)]; simp [h]
  · rw [if_neg (by simpa using h), bt_b, within_ok]; simp [h, digitP]
/-- what is asked of the byte at j of a name -/
def goodAt (s : ByteArray) (j : Nat) : Prop := smallP (bt s j) ∨ (j ≠ 0 ∧ digitP (bt s j))
instance (s : ByteArray) (j : Nat) : Decidable (goodAt s j) := by unfold goodAt; infer_instance
def formB (s : ByteArray) : Bool := decide ((1 ≤ s.size ∧ s.size ≤ 6) ∧ ∀ j, j < s.size → goodAt s j)
theorem l9Form_ok (s : ByteArray) (hs : s.size ≤ 1048576) : Ev (fun k => spec_l9Form.f k s) (formB s) := by
  have H : ∀ (d i : Nat), s.size - i = d → i ≤ s.size → ∃ b : Bool, Ev (fun k => spec_l9Form.l0 k s (i : Int)) b ∧ (b = true ↔ ((1 ≤ s.size ∧ s.size ≤ 6) ∧ ∀ j, i ≤ j → j < s.size → goodAt s j)) := by
    intro d
    induction d with
    | zero =>
      intro i hd hi
      refine ⟨decide (1 ≤ (s.size : Int) ∧ (s.size : Int) ≤ 6), Ev.step (f := fun _ => some (decide (1 ≤ (s.size : Int) ∧ (s.size : Int) ≤ 6))) (fun k => ?_) (Ev.now _), ?_⟩
      · simp only [spec_l9Form.l0]; rw [if_neg (by omega), l1In_ok]; rfl
      · rw [decide_eq_true_eq]; constructor
        · intro h; exact ⟨by omega, fun j h1 h2 => by omega⟩
        · intro h; have := h.1; omega
    | succ d ih =>
      intro i hd hi
      have hlt : i < s.size := by omega
      obtain ⟨b, hb, hbi⟩ := ih (i + 1) (by omega) (by omega)
      have nxt : ∀ k, spec_l9Form.l0 k s (wrap64 ((i : Int) + 1)) = spec_l9Form.l0 k s ((i + 1 : Nat) : Int) := fun k => by rw [w64 (by omega) (by omega)]; rfl
      by_cases hg : goodAt s i
      · refine ⟨b, Ev.step (f := fun k => spec_l9Form.l0 k s ((i + 1 : Nat) : Int)) (fun k => ?_) hb, ?_⟩
        · simp only [spec_l9Form.l0, l9Small_ok, l9Digit_ok, Option.bind_some, nxt]
          rw [if_pos (by omega), if_pos (by omega)]
          rcases hg with h | ⟨h1, h2⟩
          · rw [if_pos (decide_eq_true h)]
          · by_cases h : smallP (bt s i)
            · rw [if_pos (decide_eq_true h)]
            · rw [if_neg (by simpa using h), if_neg (by omega), if_pos (decide_eq_true h2)]
        · rw [hbi]; constructor
          · intro h; refine ⟨h.1, fun j h1 h2 => ?_⟩
            rcases Nat.eq_or_lt_of_le h1 with e | e
            · subst e; exact hg
            · exact h.2 j e h2
          · intro h; exact ⟨h.1, fun j h1 h2 => h.2 j (by omega) h2⟩
      · refine ⟨false, Ev.step (f := fun _ => some false) (fun k => ?_) (Ev.now _), ?_⟩
        · simp only [spec_l9Form.l0, l9Small_ok, l9Digit_ok, Option.bind_some]
          rw [if_pos (by omega), if_pos (by omega)]
          have h1 : ¬ smallP (bt s i) := fun h => hg (.inl h)
          rw [if_neg (by simpa using h1)]
          by_cases h0 : i = 0
          · rw [if_pos (by omega)]
          · have h2 : ¬ digitP (bt s i) := fun h => hg (.inr ⟨h0, h⟩)
            rw [if_neg (by omega), if_neg (by simpa using h2)]
        · simp only [Bool.false_eq_true, false_iff]; intro h; exact hg (h.2 i (Nat.le_refl _) hlt)
  obtain ⟨b, hb, hbi⟩ := H s.size 0 (by omega) (by omega)
  have e : b = formB s := by
    unfold formB
    rw [Bool.eq_iff_iff, hbi, decide_eq_true_eq]
    exact ⟨fun h => ⟨h.1, fun j hj => h.2 j (Nat.zero_le _) hj⟩, fun h => ⟨h.1, fun j _ hj => h.2 j hj⟩⟩
  rw [← e]; unfold spec_l9Form.f; exact hb
/-- the letters and digits from a on end at e. -/
theorem runFrom_ok (s : ByteArray) (hs : s.size ≤ 1048576) (a : Nat) (ha : a ≤ s.size) : ∃ e : Nat, a ≤ e ∧ e ≤ s.size ∧ Ev (fun k => impl_runFrom.f k s (a : Int)) (s.extract a e) ∧ (∀ j, a ≤ j → j < e → smallP (bt s j) ∨ digitP (bt s j)) ∧ (e < s.size → ¬ (smallP (bt s e) ∨ digitP (bt s e))) := by
  have H : ∀ (d i : Nat), s.size - i = d → a ≤ i → i ≤ s.size → ∃ e : Nat, i ≤ e ∧ e ≤ s.size ∧ Ev (fun k => impl_runFrom.l0 k s (a : Int) (i : Int)) (s.extract a e) ∧ (∀ j, i ≤ j → j < e → smallP (bt s j) ∨ digitP (bt s j)) ∧ (e < s.size → ¬ (smallP (bt s e) ∨ digitP (bt s e))) := by
    intro d
    induction d with
    | zero =>
      intro i hd h0 hi
      refine ⟨i, Nat.le_refl _, hi, Ev.step (f := fun _ => some (s.extract a i)) (fun k => ?_) (Ev.now _), fun j h1 h2 => by omega, fun h => by omega⟩
      simp only [impl_runFrom.l0]; rw [if_neg (by omega), if_pos (by omega), if_pos (by omega), if_pos (by omega)]; rfl
    | succ d ih =>
      intro i hd h0 hi
      have hlt : i < s.size := by omega
      by_cases hp : smallP (bt s i) ∨ digitP (bt s i)
      · obtain ⟨e, e0, e1, he, e2, e3⟩ := ih (i + 1) (by omega) (by omega) (by omega)
        refine ⟨e, by omega, e1, Ev.step (f := fun k => impl_runFrom.l0 k s (a : Int) ((i + 1 : Nat) : Int)) (fun k => ?_) he, fun j h1 h2 => ?_, e3⟩
        · simp only [impl_runFrom.l0, isPart_ok, Option.bind_some]
          rw [if_pos (by omega), if_pos (by omega), if_pos (decide_eq_true hp), w64 (by omega) (by omega)]; rfl
        · rcases Nat.eq_or_lt_of_le h1 with e | e
          · subst e; exact hp
          · exact e2 j e h2
      · refine ⟨i, Nat.le_refl _, hi, Ev.step (f := fun _ => some (s.extract a i)) (fun k => ?_) (Ev.now _), fun j h1 h2 => by omega, fun _ => hp⟩
        simp only [impl_runFrom.l0, isPart_ok, Option.bind_some]
        rw [if_pos (by omega), if_pos (by omega), if_neg (by simpa using hp), if_pos (by omega), if_pos (by omega), if_pos (by omega)]; rfl
  obtain ⟨e, e0, e1, he, e2, e3⟩ := H (s.size - a) a rfl (Nat.le_refl _) ha
  exact ⟨e, e0, e1, by unfold impl_runFrom.f; exact he, e2, e3⟩
theorem extract_size (s : ByteArray) (a e : Nat) (h : e ≤ s.size) : (s.extract a e).size = e - a := by
  rw [ByteArray.size_extract]; omega
theorem extract_all (s : ByteArray) : s.extract 0 s.size = s := by
  apply ByteArray.ext; rw [ByteArray.data_extract]; show s.data.extract 0 s.data.size = s.data; exact Array.extract_size
theorem hasForm_ok (s : ByteArray) (hs : s.size ≤ 1048576) : Ev (fun k => impl_hasForm.f k s) (formB s) := by
  simp only [impl_hasForm.f, within_ok, isLetter_ok, Option.bind_some]
  by_cases h : 1 ≤ s.size ∧ s.size ≤ 6
  · obtain ⟨e, _, e1, he, e2, e3⟩ := runFrom_ok s hs 0 (Nat.zero_le _)
    by_cases h0 : smallP (bt s 0)
    · refine Ev.congr (f := fun k => (impl_runFrom.f k s 0).bind fun t => some (t.toList == s.toList)) (fun k => ?_) (Ev.bind (a := s.extract 0 e) he ?_)
      · rw [if_pos (decide_eq_true (by omega)), if_pos (by omega), if_pos (decide_eq_true h0)]
      · have : ((s.extract 0 e).toList == s.toList) = formB s := by
          unfold formB
          rw [Bool.eq_iff_iff, beq_iff_eq, decide_eq_true_eq]
          constructor
          · intro heq
            have hl := congrArg List.length heq
            rw [bal_length, bal_length, extract_size s 0 e e1] at hl
            refine ⟨h, fun j hj => ?_⟩
            by_cases hj0 : j = 0
            · subst hj0; exact .inl h0
            · rcases e2 j (Nat.zero_le _) (by omega) with q | q
              · exact .inl q
              · exact .inr ⟨hj0, q⟩
          · intro hf
            have : e = s.size := by
              rcases Nat.lt_or_ge e s.size with q | q
              · exact absurd (by rcases hf.2 e q with z | ⟨_, z⟩; exact .inl z; exact .inr z) (e3 q)
              · omega
            subst this; rw [extract_all]
        rw [this]; exact Ev.now _
    · refine Ev.congr (f := fun _ => some (formB s)) (fun k => ?_) (Ev.now _)
      have hf : formB s = false := by
        unfold formB; rw [decide_eq_false_iff_not]; intro hf
        rcases hf.2 0 (by omega) with q | ⟨q, _⟩
        · exact h0 q
        · exact q rfl
      rw [if_pos (decide_eq_true (by omega)), if_pos (by omega), if_neg (by simpa using h0), hf]
  · refine Ev.congr (f := fun _ => some (formB s)) (fun k => ?_) (Ev.now _)
    have hf : formB s = false := by unfold formB; rw [decide_eq_false_iff_not]; intro hf; exact h hf.1
    rw [if_neg (by simp; omega), hf]
def nameB (s : ByteArray) : Bool := formB s && !keptB s
theorem l9Name_ok (s : ByteArray) (hs : s.size ≤ 1048576) : Ev (fun k => spec_l9Name.f k s) (nameB s) := by
  simp only [spec_l9Name.f, kept31_ok, Option.bind_some]
  refine Ev.bind (l9Form_ok s hs) ?_
  unfold nameB
  cases formB s with
  | false => exact Ev.congr (f := fun _ => some false) (fun k => by rw [if_neg (by simp)]) (Ev.now _)
  | true =>
    obtain ⟨r, hr, hri⟩ := specKept_ok s
    refine Ev.congr (f := fun k => (spec_l9At.f k (opW23 ++ regW8) s).bind fun t => some (decide (t < 0))) (fun k => by rw [if_pos rfl]) (Ev.bind hr ?_)
    have : decide (r < 0) = (true && !keptB s) := by
      cases hk : keptB s with
      | true => have := hri.2 hk; simp; omega
      | false => have : ¬ 0 ≤ r := fun h => by rw [hri.1 h] at hk; simp at hk
                 simp; omega
    rw [this]; exact Ev.now _
theorem isName_ok (s : ByteArray) (hs : s.size ≤ 1048576) : Ev (fun k => impl_isName.f k s) (nameB s) := by
  simp only [impl_isName.f]
  refine Ev.bind (hasForm_ok s hs) ?_
  unfold nameB
  cases formB s with
  | false => exact Ev.congr (f := fun _ => some false) (fun k => by rw [if_neg (by simp)]) (Ev.now _)
  | true => exact Ev.congr (f := fun k => (impl_isKept.f k s).bind fun t => some (!t)) (fun k => by rw [if_pos rfl]) (Ev.bind (isKept_ok s) (Ev.now _))
def marksL : List UInt8 := [58, 61, 44, 40, 41, 43, 45, 42, 47, 38, 124, 35, 64, 46, 60, 62]
theorem marks_cut : ∀ i : Fin 16, ((⟨#[58, 61, 44, 40, 41, 43, 45, 42, 47, 38, 124, 35, 64, 46, 60, 62]⟩ : ByteArray).extract i.1 (i.1 + 1)).data.toList = [marksL.getD i.1 0] := by decide +kernel
def markB (s : ByteArray) : Bool := marksL.any fun c => s.data.toList == [c]
theorem l9Mark_step (k : Nat) (s : ByteArray) (i : Nat) (hi : i < 16) : spec_l9Mark.l0 (k + 1) s (i : Int) = if s.data.toList = [marksL.getD i 0] then some true else spec_l9Mark.l0 k s ((i + 1 : Nat) : Int) := by
  have w : wrap64 ((i : Int) + 1) = ((i + 1 : Nat) : Int) := by rw [w64 (by omega) (by omega)]; rfl
  have g1 : (i : Int) < 16 := by omega
  have g2 : 0 ≤ (i : Int) := by omega
  have g3 : (i : Int) ≤ ((i + 1 : Nat) : Int) := by omega
  have g4 : ((i + 1 : Nat) : Int) ≤ 16 := by omega
  rw [spec_l9Mark.l0.eq_def]
  simp only [w, bal, Int.toNat_natCast]
  rw [if_pos g1, if_pos g2, if_pos g3, if_pos g4]
  have e := marks_cut ⟨i, hi⟩
  simp only at e
  rw [e]
theorem l9Mark_loop (s : ByteArray) : ∀ (d i k : Nat), 16 - i = d → i ≤ 16 → d < k → spec_l9Mark.l0 k s (i : Int) = some ((marksL.drop i).any fun c => s.data.toList == [c]) := by
  have hlen : marksL.length = 16 := rfl
  intro d
  induction d with
  | zero =>
    intro i k hd hi hk
    obtain ⟨k, rfl⟩ : ∃ m, k = m + 1 := ⟨k - 1, by omega⟩
    rw [spec_l9Mark.l0.eq_def, List.drop_of_length_le (by omega)]
    simp only []
    rw [if_neg (by omega)]; rfl
  | succ d ih =>
    intro i k hd hi hk
    obtain ⟨k, rfl⟩ : ∃ m, k = m + 1 := ⟨k - 1, by omega⟩
    rw [l9Mark_step k s i (by omega), ih (i + 1) k (by omega) (by omega) (by omega), List.drop_eq_getElem_cons (show i < marksL.length by omega), List.any_cons]
    have e : marksL.getD i 0 = marksL[i]'(by omega) := by simp [List.getD_eq_getElem?_getD, show i < marksL.length by omega]
    rw [e]
    by_cases c : s.data.toList = [marksL[i]'(by omega)]
    · rw [if_pos c, beq_iff_eq.2 c]; rfl
    · rw [if_neg c, beq_eq_false_iff_ne.2 c]; rfl
theorem l9Mark_ok (s : ByteArray) : Ev (fun k => spec_l9Mark.f k s) (markB s) := ⟨17, fun k hk => l9Mark_loop s 16 0 k rfl (by omega) (by omega)⟩
theorem has_mark (s : ByteArray) (h : s.size = 1) : decide (0 ≤ Lib.indexByte (⟨#[58, 61, 44, 40, 41, 43, 45, 42, 47, 38, 124, 35, 64, 46, 60, 62]⟩ : ByteArray).data.toList (s.data.toList.getD 0 0)) = markB s := by
  rw [← Lib.firstIdx_eq, firstIdx_nonneg]
  obtain ⟨⟨l⟩⟩ := s
  match l, h with
  | [x], _ =>
    show marksL.any (· == x) = marksL.any fun c => [x] == [c]
    congr 1; funext c
    rw [Bool.eq_iff_iff, beq_iff_eq, beq_iff_eq, List.cons.injEq]
    exact ⟨fun e => ⟨e.symm, rfl⟩, fun e => e.1.symm⟩
theorem no_mark (s : ByteArray) (h : s.size ≠ 1) : markB s = false := by
  unfold markB
  rw [List.any_eq_false]
  intro c _
  rw [beq_iff_eq]
  intro e
  have := congrArg List.length e
  rw [Array.length_toList] at this
  exact h this
/-- is a token right? -/
def tokB (K N : Int) (s : ByteArray) : Bool :=
  if K = 2 then decide (0 ≤ N ∧ N ≤ 65535) && (s.toList == ([] : List UInt8))
  else if N = 0 then (if K = 1 then nameB s else if K = 3 then decide (1 < s.size) && decide (bt s 0 = 46) && formB (s.extract 1 s.size) else if K = 4 then markB s else if K = 5 then keptB s else false) else false
theorem specTokenOk_ok (K N : Int) (s : ByteArray) (hs : s.size ≤ 1048576) : Ev (fun k => spec_TokenOk.f k K N s) (tokB K N s) := by
  have hx : (s.extract 1 s.size).size ≤ 1048576 := by rw [extract_size s 1 s.size (Nat.le_refl _)]; omega
  simp only [spec_TokenOk.f, l1In_ok, Option.bind_some]
  unfold tokB
  by_cases k2 : K = 2
  · rw [if_pos k2]
    refine Ev.congr (f := fun _ => some (decide (0 ≤ N ∧ N ≤ 65535) && (s.toList == ([] : List UInt8)))) (fun k => ?_) (Ev.now _)
    rw [if_pos k2]
    cases decide (0 ≤ N ∧ N ≤ 65535) <;> simp
  rw [if_neg k2]
  by_cases n0 : ¬ N = 0
  · rw [if_neg n0]; exact Ev.congr (f := fun _ => some false) (fun k => by rw [if_neg k2, if_neg n0]) (Ev.now _)
  replace n0 : N = 0 := Decidable.not_not.1 n0
  rw [if_pos n0]
  refine Ev.congr (fun k => by rw [if_neg k2, if_pos n0]) ?_
  by_cases k1 : K = 1
  · rw [if_pos k1]; exact Ev.congr (fun k => by rw [if_pos k1]) (Ev.bind (l9Name_ok s hs) (Ev.now _))
  rw [if_neg k1]
  refine Ev.congr (fun k => by rw [if_neg k1]) ?_
  by_cases k3 : K = 3
  · rw [if_pos k3]
    refine Ev.congr (fun k => by rw [if_pos k3]) ?_
    by_cases c : 1 < s.size
    · refine Ev.congr (fun k => by rw [if_pos (show (s.size : Int) > 1 by omega), if_pos (show 0 < (s.size : Int) by omega)]) ?_
      rw [decide_eq_true c]
      by_cases d : bt s 0 = 46
      · rw [decide_eq_true d]
        exact Ev.congr (fun k => by rw [if_pos d, if_pos (show 1 ≤ (s.size : Int) by omega)]) (Ev.bind (l9Form_ok _ hx) (Ev.now _))
      · rw [decide_eq_false d]
        exact Ev.congr (f := fun _ => some false) (fun k => by rw [if_neg d]) (Ev.now _)
    · rw [decide_eq_false c]
      exact Ev.congr (f := fun _ => some false) (fun k => by rw [if_neg (show ¬ (s.size : Int) > 1 by omega)]) (Ev.now _)
  rw [if_neg k3]
  refine Ev.congr (fun k => by rw [if_neg k3]) ?_
  by_cases k4 : K = 4
  · rw [if_pos k4]; exact Ev.congr (fun k => by rw [if_pos k4]) (Ev.bind (l9Mark_ok s) (Ev.now _))
  rw [if_neg k4]
  refine Ev.congr (fun k => by rw [if_neg k4]) ?_
  by_cases k5 : K = 5
  · rw [if_pos k5]
    obtain ⟨r, hr, hi⟩ := specKept_ok s
    refine Ev.congr (fun k => by rw [if_pos k5, kept31_ok, Option.bind_some]) (Ev.bind hr ?_)
    refine Ev.congr (f := fun _ => some (keptB s)) (fun k => ?_) (Ev.now _)
    congr 1; rw [Bool.eq_iff_iff, decide_eq_true_eq]; exact hi
  · rw [if_neg k5]; exact Ev.congr (f := fun _ => some false) (fun k => by rw [if_neg k5]) (Ev.now _)
theorem implTokenOk_ok (K N : Int) (s : ByteArray) (hs : s.size ≤ 1048576) : Ev (fun k => impl_TokenOk.f k K N s) (tokB K N s) := by
  have hx : (s.extract 1 s.size).size ≤ 1048576 := by rw [extract_size s 1 s.size (Nat.le_refl _)]; omega
  simp only [impl_TokenOk.f, impl_isWord.f, within_ok, Option.bind_some]
  unfold tokB
  by_cases k2 : K = 2
  · rw [if_pos k2]
    refine Ev.congr (f := fun _ => some (decide (0 ≤ N ∧ N ≤ 65535) && (s.toList == ([] : List UInt8)))) (fun k => ?_) (Ev.now _)
    rw [if_pos k2]
    cases decide (0 ≤ N ∧ N ≤ 65535) <;> simp
  rw [if_neg k2]
  refine Ev.congr (fun k => by rw [if_neg k2]) ?_
  by_cases n0 : ¬ N = 0
  · simp only [if_neg n0, ite_self]
    exact Ev.now false
  replace n0 : N = 0 := Decidable.not_not.1 n0
  rw [if_pos n0]
  simp only [if_pos n0]
  by_cases k1 : K = 1
  · rw [if_pos k1]; exact Ev.congr (fun k => by rw [if_pos k1]) (Ev.bind (isName_ok s hs) (Ev.now _))
  rw [if_neg k1]
  refine Ev.congr (fun k => by rw [if_neg k1]) ?_
  by_cases k3 : K = 3
  · rw [if_pos k3]
    refine Ev.congr (fun k => by rw [if_pos k3]) ?_
    by_cases c : 1 < s.size
    · refine Ev.congr (fun k => by rw [if_pos (show (s.size : Int) > 1 by omega), if_pos (show 0 < (s.size : Int) by omega)]) ?_
      rw [decide_eq_true c]
      by_cases d : bt s 0 = 46
      · rw [decide_eq_true d]
        exact Ev.congr (fun k => by rw [if_pos d, if_pos (show 1 ≤ (s.size : Int) by omega)]) (Ev.bind (hasForm_ok _ hx) (Ev.now _))
      · rw [decide_eq_false d]
        exact Ev.congr (f := fun _ => some false) (fun k => by rw [if_neg d]) (Ev.now _)
    · rw [decide_eq_false c]
      exact Ev.congr (f := fun _ => some false) (fun k => by rw [if_neg (show ¬ (s.size : Int) > 1 by omega)]) (Ev.now _)
  rw [if_neg k3]
  refine Ev.congr (fun k => by rw [if_neg k3]) ?_
  by_cases k4 : K = 4
  · rw [if_pos k4]
    refine Ev.congr (fun k => by rw [if_pos k4]) ?_
    by_cases c : s.size = 1
    · refine Ev.congr (f := fun _ => some (markB s)) (fun k => ?_) (Ev.now _)
      rw [if_pos (show (s.size : Int) = 1 by omega), strings_Contains.f, if_pos c, Option.bind_some, has_mark s c]
    · rw [no_mark s c]
      exact Ev.congr (f := fun _ => some false) (fun k => by rw [if_neg (show ¬ (s.size : Int) = 1 by omega)]) (Ev.now _)
  rw [if_neg k4]
  refine Ev.congr (fun k => by rw [if_neg k4]) ?_
  by_cases k5 : K = 5
  · rw [if_pos k5]; exact Ev.congr (fun k => by rw [if_pos k5]) (Ev.bind (isKept_ok s) (Ev.now _))
  · rw [if_neg k5]; exact Ev.congr (f := fun _ => some false) (fun k => by rw [if_neg k5]) (Ev.now _)
theorem FnExactTokenOk (K N : Int) (s : ByteArray) (_ : (Lit.int .i64 K).wf = true) (_ : (Lit.int .i64 N).wf = true) (m : s.size ≤ maxLen) : ∃ k, laws_FnExactTokenOk.f k K N s = some true := by
  have hm : maxLen = 9223372036854775807 := rfl
  refine Ev.rounds (g := fun k => laws_FnExactTokenOk.f k K N s) ?_
  simp only [laws_FnExactTokenOk.f, laws_szToken.f, laws_toToken.f]
  have w1 : wrap64 (1048576 - (s.size : Int)) = 1048576 - s.size := w64 (by omega) (by omega)
  rw [w1]
  by_cases c : 1048576 - (s.size : Int) < 0
  · rw [if_pos c]
    exact Ev.now true
  rw [if_neg c]
  have hs : s.size ≤ 1048576 := by omega
  simp only [Option.bind_some, if_neg c]
  refine Ev.bind (specTokenOk_ok K N s hs) (Ev.bind (implTokenOk_ok K N s hs) (Ev.congr (f := fun _ => some true) (fun k => ?_) (Ev.now _)))
  rw [if_neg (by simp)]

end Go.Proofs.Ytbemgfdaenepjaa.Pure
