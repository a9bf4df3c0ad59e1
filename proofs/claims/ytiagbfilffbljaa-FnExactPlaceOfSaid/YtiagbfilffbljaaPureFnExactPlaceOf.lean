/- Proved: what the plain functions of the law FnExactPlaceOf tell at each machine and operand; no further conditions. -/
import Derived.Test.YtiagbfilffbljaaPFnExactPlaceOfx1
import Derived.Test.YtiagbfilffbljaaPFnExactPlaceOfx2
import Derived.Test.YtiagbfilffbljaaPFnExactPlaceOfx3
import Derived.Test.YtiagbfilffbljaaPFnExactPlaceOfx4
import Derived.Test.YtiagbfilffbljaaPFnExactPlaceOfx5
import Derived.Test.YtiagbfilffbljaaPFnExactPlaceOfx6
import Derived.Test.YtiagbfilffbljaaVCFnExactPlaceOf
namespace Go.Proofs.Ytiagbfilffbljaa.Pure
open Go.RowKit Go.Proofs.Ytiagbfilffbljaa.PFnExactPlaceOf Go.Proofs.YtiagbfilffbljaaW.PrintWords Go.Proofs.YtiagbfilffbljaaW.PrintLast Go.Proofs.Ytiagbfilffbljaa.Common
set_option linter.unusedVariables false
set_option linter.unusedSimpArgs false
theorem toIntS_ok (l : List Int) (h : l.length ≤ 35184372088832) (k : Nat) (hk : l.length < k) : laws_toIntS.f k l = some l := by
  unfold laws_toIntS.f
  rw [if_pos (by omega), if_pos (by omega)]
  exact copy_loop 0 l (by omega) (fun k z i => laws_toIntS.l0 k l z i) (fun _ _ _ => rfl) k _ (by simp) hk
theorem eqIntS_ok (a b : List Int) (h : a.length ≤ 4611686018427387904) (k : Nat) (hk : a.length < k) : laws_eqIntS.f k a b = some (decide (a = b)) := by
  unfold laws_eqIntS.f
  by_cases e : (a.length : Int) = (b.length : Int)
  · rw [if_pos e]; exact eq_loop 0 a b (by omega) h (fun k x => laws_eqIntS.l0 k a b x) (fun _ _ => rfl) k hk
  · rw [if_neg e]; congr 1; symm; rw [decide_eq_false_iff_not]; intro h; subst h; exact e rfl
theorem eqIntS_self (a : List Int) (h : a.length ≤ 4611686018427387904) (k : Nat) (hk : a.length < k) : laws_eqIntS.f k a a = some true := by
  rw [eqIntS_ok a a h k hk]; simp
theorem eqMach_self (l0 l1 l6 l7 : List Int) (b2 b3 b4 b5 : Bool) (s : Int) (h : l0.length + l1.length + l6.length + l7.length ≤ 1048576) (k : Nat) (hk : 1048576 < k) : laws_eqMach.f k l0 l1 b2 b3 b4 b5 l6 l7 s l0 l1 b2 b3 b4 b5 l6 l7 s = some true := by
  unfold laws_eqMach.f
  simp only [eqIntS_self l0 (by omega) k (by omega), eqIntS_self l1 (by omega) k (by omega), eqIntS_self l6 (by omega) k (by omega), eqIntS_self l7 (by omega) k (by omega), Option.bind_some, bne_self_eq_false, Bool.false_eq_true, if_false, if_true]
theorem szIntS_ok (l : List Int) (a : Int) (h0 : 0 ≤ a) (h1 : a ≤ 1048576) (hl : l.length ≤ maxLen) : laws_szIntS.f l a = some (if (l.length : Int) ≤ a then a - l.length else -1) := by
  have hm : maxLen = 9223372036854775807 := rfl
  unfold laws_szIntS.f
  rw [w64 (x := a - (l.length : Int)) (by omega) (by omega)]
  by_cases h : (l.length : Int) ≤ a
  · rw [if_neg (by omega), if_pos h]
  · rw [if_pos (by omega), if_neg h]
theorem szMach_ok (l0 l1 l6 l7 : List Int) (b2 b3 b4 b5 : Bool) (s : Int) (h0 : l0.length ≤ maxLen) (h1 : l1.length ≤ maxLen) (h6 : l6.length ≤ maxLen) (h7 : l7.length ≤ maxLen) :
    ∃ t, laws_szMach.f l0 l1 b2 b3 b4 b5 l6 l7 s 1048576 = some t ∧ (t < 0 ∨ (l0.length + l1.length + l6.length + l7.length ≤ 1048576)) := by
  unfold laws_szMach.f
  rw [szIntS_ok l0 _ (by omega) (by omega) h0]; simp only [Option.bind_some]
  by_cases c0 : (l0.length : Int) ≤ 1048576
  · rw [if_pos c0, if_neg (by omega), szIntS_ok l1 _ (by omega) (by omega) h1]; simp only [Option.bind_some]
    by_cases c1 : (l1.length : Int) ≤ 1048576 - l0.length
    · rw [if_pos c1, if_neg (by omega), szIntS_ok l6 _ (by omega) (by omega) h6]; simp only [Option.bind_some]
      by_cases c6 : (l6.length : Int) ≤ 1048576 - l0.length - l1.length
      · rw [if_pos c6, if_neg (by omega), szIntS_ok l7 _ (by omega) (by omega) h7]; simp only [Option.bind_some]
        by_cases c7 : (l7.length : Int) ≤ 1048576 - l0.length - l1.length - l6.length
        · rw [if_pos c7, if_neg (by omega)]; exact ⟨_, rfl, .inr (by omega)⟩
        · rw [if_neg c7, if_pos (by omega)]; exact ⟨_, rfl, .inl (by omega)⟩
      · rw [if_neg c6, if_pos (by omega)]; exact ⟨_, rfl, .inl (by omega)⟩
    · rw [if_neg c1, if_pos (by omega)]; exact ⟨_, rfl, .inl (by omega)⟩
  · rw [if_neg c0, if_pos (by omega)]; exact ⟨_, rfl, .inl (by omega)⟩
theorem toMach_ok (l0 l1 l6 l7 : List Int) (b2 b3 b4 b5 : Bool) (s : Int) (h : l0.length + l1.length + l6.length + l7.length ≤ 1048576) (k : Nat) (hk : 1048576 < k) : laws_toMach.f k l0 l1 b2 b3 b4 b5 l6 l7 s = some (l0, l1, b2, b3, b4, b5, l6, l7, s) := by
  unfold laws_toMach.f
  simp only [toIntS_ok l0 (by omega) k (by omega), toIntS_ok l1 (by omega) k (by omega), toIntS_ok l6 (by omega) k (by omega), toIntS_ok l7 (by omega) k (by omega), Option.bind_some]
theorem markIntS_ok (l : List Int) (m : Int) (h0 : 0 ≤ m) (h1 : m ≤ 2305843009213693952) (h : l.length ≤ 2305843009213693952) (k : Nat) (hk : l.length < k) : laws_markIntS.f k l m = some (m + l.length, marks id l.length m) := by
  unfold laws_markIntS.f
  exact mark_loop id (fun k a b c => laws_markIntS.l0 k a b c) (fun _ _ _ _ => rfl) m h0 h1 k l h hk
theorem heldIntS_ok (n : Nat) (m : Int) (h0 : 0 ≤ m) (h1 : m ≤ 2305843009213693952) (h : n ≤ 2305843009213693952) (k : Nat) (hk : n < k) : laws_heldIntS.f k (marks id n m) m = some (m + n) := by
  unfold laws_heldIntS.f
  exact held_loop id (fun k a b c => laws_heldIntS.l0 k a b c) (fun _ _ _ _ => rfl) m h0 h1 k n h hk
theorem markMach_ok (l0 l1 l6 l7 : List Int) (b2 b3 b4 b5 : Bool) (s : Int) (h : l0.length + l1.length + l6.length + l7.length ≤ 1048576) (k : Nat) (hk : 1048576 < k) :
    laws_markMach.f k l0 l1 b2 b3 b4 b5 l6 l7 s 1 = some ((1 : Int) + l0.length + l1.length + l6.length + l7.length, marks id l0.length 1, marks id l1.length (1 + l0.length), marks id l6.length (1 + l0.length + l1.length), marks id l7.length (1 + l0.length + l1.length + l6.length)) := by
  unfold laws_markMach.f
  rw [markIntS_ok l0 1 (by omega) (by omega) (by omega) k (by omega)]; simp only [Option.bind_some]
  rw [markIntS_ok l1 _ (by omega) (by omega) (by omega) k (by omega)]; simp only [Option.bind_some]
  rw [markIntS_ok l6 _ (by omega) (by omega) (by omega) k (by omega)]; simp only [Option.bind_some]
  rw [markIntS_ok l7 _ (by omega) (by omega) (by omega) k (by omega)]; simp only [Option.bind_some]
theorem heldMach_ok (n0 n1 n6 n7 : Nat) (b2 b3 b4 b5 : Bool) (s : Int) (h : n0 + n1 + n6 + n7 ≤ 1048576) (k : Nat) (hk : 1048576 < k) :
    laws_heldMach.f k (marks id n0 1) (marks id n1 (1 + n0)) b2 b3 b4 b5 (marks id n6 (1 + n0 + n1)) (marks id n7 (1 + n0 + n1 + n6)) s 1 = some ((1 : Int) + n0 + n1 + n6 + n7) := by
  unfold laws_heldMach.f
  rw [heldIntS_ok n0 1 (by omega) (by omega) (by omega) k (by omega)]; simp only [Option.bind_some]; rw [if_neg (by omega)]
  rw [heldIntS_ok n1 _ (by omega) (by omega) (by omega) k (by omega)]; simp only [Option.bind_some]; rw [if_neg (by omega)]
  rw [heldIntS_ok n6 _ (by omega) (by omega) (by omega) k (by omega)]; simp only [Option.bind_some]; rw [if_neg (by omega)]
  rw [heldIntS_ok n7 _ (by omega) (by omega) (by omega) k (by omega)]; simp only [Option.bind_some]; rw [if_neg (by omega)]
theorem l5Copy_ok (l0 l1 l6 l7 : List Int) (b2 b3 b4 b5 : Bool) (s : Int) (h : l0.length + l1.length + l6.length + l7.length ≤ 1048576) : spec_l5Copy.f l0 l1 b2 b3 b4 b5 l6 l7 s = some (l0, l1, b2, b3, b4, b5, l6, l7, s) := by
  unfold spec_l5Copy.f
  simp only [Option.bind_some, List.length_nil, List.nil_append]
  rw [if_pos (by omega), if_pos (by omega), if_pos (by omega), if_pos (by omega)]
theorem copyInts_ok (l : List Int) (h : l.length ≤ 1048576) : impl_copyInts.f l = some l := by
  unfold impl_copyInts.f
  simp only [Option.bind_some, List.length_nil, List.nil_append]
  rw [if_pos (by omega)]
theorem copyMach_ok (l0 l1 l6 l7 : List Int) (b2 b3 b4 b5 : Bool) (s : Int) (h : l0.length + l1.length + l6.length + l7.length ≤ 1048576) : impl_copyMach.f l0 l1 b2 b3 b4 b5 l6 l7 s = some (l0, l1, b2, b3, b4, b5, l6, l7, s) := by
  unfold impl_copyMach.f
  simp only [copyInts_ok l0 (by omega), copyInts_ok l1 (by omega), copyInts_ok l6 (by omega), copyInts_ok l7 (by omega), Option.bind_some]
def isWd (x : Int) : Bool := decide (0 ≤ x ∧ x ≤ 65535)
def machOk (l0 l1 l6 l7 : List Int) (s : Int) : Bool := decide (l0.length = 256 ∧ l1.length = 8 ∧ l6.length ≤ 50 ∧ l7.length ≤ 50 ∧ 0 ≤ s ∧ s ≤ 2) && (l0.all isWd && (l1.all isWd && (l6.all isWd && l7.all isWd)))
theorem l1In_ok (a b c : Int) : spec_l1In.f a b c = some (decide (b ≤ a ∧ a ≤ c)) := by
  unfold spec_l1In.f
  by_cases h : a ≥ b
  · have h' : b ≤ a := h
    rw [if_pos h]; simp [h']
  · have h' : ¬ b ≤ a := h
    rw [if_neg h]; simp [h']
theorem specWords_ok (l : List Int) (hl : l.length ≤ 4611686018427387904) (k : Nat) (hk : l.length < k) : spec_l5Words.f k l = some (l.all isWd) := by
  unfold spec_l5Words.f
  have H : ∀ (r k i : Nat), l.length - i = r → i ≤ l.length → r < k → spec_l5Words.l0 k l i = some ((l.drop i).all isWd) := by
    intro r
    induction r with
    | zero =>
      intro k i hr hi hk
      obtain ⟨k, rfl⟩ : ∃ m, k = m + 1 := ⟨k - 1, by omega⟩
      simp only [spec_l5Words.l0]
      rw [if_neg (by omega), List.drop_of_length_le (by omega)]; rfl
    | succ r ih =>
      intro k i hr hi hk
      obtain ⟨k, rfl⟩ : ∃ m, k = m + 1 := ⟨k - 1, by omega⟩
      have hlt : i < l.length := by omega
      simp only [spec_l5Words.l0, l1In_ok, Option.bind_some]
      rw [if_pos (by omega), if_pos (by omega), rd_at l i hlt, w64 (by omega) (by omega), List.drop_eq_getElem_cons hlt, List.all_cons]
      have e : ((i : Int) + 1) = ((i + 1 : Nat) : Int) := by omega
      rw [e, ih k (i + 1) (by omega) (by omega) (by omega)]
      unfold isWd
      cases decide (0 ≤ l[i] ∧ l[i] ≤ 65535) <;> simp
  have := H l.length k 0 (by omega) (by omega) hk
  simpa using this
theorem specMachOk_ok (l0 l1 l6 l7 : List Int) (b2 b3 b4 b5 : Bool) (s : Int) (h : l0.length + l1.length + l6.length + l7.length ≤ 1048578) (k : Nat) (hk : 1048578 < k) : spec_MachOk.f k l0 l1 b2 b3 b4 b5 l6 l7 s = some (machOk l0 l1 l6 l7 s) := by
  unfold spec_MachOk.f machOk
  simp only [specWords_ok l0 (by omega) k (by omega), specWords_ok l1 (by omega) k (by omega), specWords_ok l6 (by omega) k (by omega), specWords_ok l7 (by omega) k (by omega), l1In_ok, Option.bind_some]
  generalize l0.all isWd = c0
  generalize l1.all isWd = c1
  generalize l6.all isWd = c6
  generalize l7.all isWd = c7
  have e0 : ((l0.length : Int) = 256) ↔ l0.length = 256 := by omega
  have e1 : ((l1.length : Int) = 8) ↔ l1.length = 8 := by omega
  have e6 : ((l6.length : Int) ≤ 50) ↔ l6.length ≤ 50 := by omega
  have e7 : ((l7.length : Int) ≤ 50) ↔ l7.length ≤ 50 := by omega
  simp only [e0, e1, e6, e7]
  by_cases h0 : l0.length = 256 <;> by_cases h1 : l1.length = 8 <;> by_cases h6 : l6.length ≤ 50 <;> by_cases h7 : l7.length ≤ 50 <;> by_cases hs : 0 ≤ s ∧ s ≤ 2 <;> cases c0 <;> cases c1 <;> cases c6 <;> cases c7 <;> simp [h0, h1, h6, h7, hs]
theorem within_ok (a b c : Int) : impl_within.f a b c = some (decide (b ≤ a ∧ a ≤ c)) := by
  unfold impl_within.f
  by_cases h : a ≥ b
  · have h' : b ≤ a := h
    rw [if_pos h]; simp [h']
  · have h' : ¬ b ≤ a := h
    rw [if_neg h]; simp [h']
theorem implWordsOk_ok (l : List Int) (hl : l.length ≤ 4611686018427387904) (k : Nat) (hk : l.length < k) : impl_wordsOk.f k l = some (l.all isWd) := by
  unfold impl_wordsOk.f
  have H : ∀ (r k i : Nat), l.length - i = r → i ≤ l.length → r < k → impl_wordsOk.l0 k l (l.length : Int) i = some ((l.drop i).all isWd) := by
    intro r
    induction r with
    | zero =>
      intro k i hr hi hk
      obtain ⟨k, rfl⟩ : ∃ m, k = m + 1 := ⟨k - 1, by omega⟩
      simp only [impl_wordsOk.l0]
      rw [if_neg (by omega), List.drop_of_length_le (by omega)]; rfl
    | succ r ih =>
      intro k i hr hi hk
      obtain ⟨k, rfl⟩ : ∃ m, k = m + 1 := ⟨k - 1, by omega⟩
      have hlt : i < l.length := by omega
      simp only [impl_wordsOk.l0, impl_isWord.f, within_ok, Option.bind_some]
      rw [if_pos (by omega), if_pos (by omega), if_pos (by omega), rd_at l i hlt, w64 (by omega) (by omega), List.drop_eq_getElem_cons hlt, List.all_cons]
      have e : ((i : Int) + 1) = ((i + 1 : Nat) : Int) := by omega
      rw [e, ih k (i + 1) (by omega) (by omega) (by omega)]
      unfold isWd
      cases decide (0 ≤ l[i] ∧ l[i] ≤ 65535) <;> simp
  have := H l.length k 0 (by omega) (by omega) hk
  simpa using this
theorem implMachOk_ok (l0 l1 l6 l7 : List Int) (b2 b3 b4 b5 : Bool) (s : Int) (h : l0.length + l1.length + l6.length + l7.length ≤ 1048578) (k : Nat) (hk : 1048580 < k) : impl_MachOk.f k l0 l1 b2 b3 b4 b5 l6 l7 s = some (machOk l0 l1 l6 l7 s) := by
  obtain ⟨k, rfl⟩ : ∃ m, k = m + 1 := ⟨k - 1, by omega⟩
  unfold impl_MachOk.f machOk
  simp only [impl_MachOk.j0, implWordsOk_ok l0 (by omega) k (by omega), implWordsOk_ok l1 (by omega) k (by omega), implWordsOk_ok l6 (by omega) k (by omega), implWordsOk_ok l7 (by omega) k (by omega), within_ok, Option.bind_some]
  generalize l0.all isWd = c0
  generalize l1.all isWd = c1
  generalize l6.all isWd = c6
  generalize l7.all isWd = c7
  have e0 : ((l0.length : Int) = 256) ↔ l0.length = 256 := by omega
  have e1 : ((l1.length : Int) = 8) ↔ l1.length = 8 := by omega
  have e6 : ((l6.length : Int) ≤ 50) ↔ l6.length ≤ 50 := by omega
  have e7 : ((l7.length : Int) ≤ 50) ↔ l7.length ≤ 50 := by omega
  simp only [e0, e1, e6, e7]
  by_cases h0 : l0.length = 256 <;> by_cases h1 : l1.length = 8 <;> by_cases h6 : l6.length ≤ 50 <;> by_cases h7 : l7.length ≤ 50 <;> by_cases hs : 0 ≤ s ∧ s ≤ 2 <;> cases c0 <;> cases c1 <;> cases c6 <;> cases c7 <;> simp [h0, h1, h6, h7, hs]
def hasX (m r : Int) : Bool := m == 6 || (m == 7 || (r == 7 && (m == 2 || m == 3)))
def opdOk (m r x : Int) : Bool := decide (0 ≤ m ∧ m ≤ 7 ∧ 0 ≤ r ∧ r ≤ 7 ∧ 0 ≤ x ∧ x ≤ 65535) && (hasX m r || x == 0)
theorem specHasX_ok (m r x : Int) : spec_HasX.f m r x = some (hasX m r) := by
  unfold spec_HasX.f hasX
  by_cases h6 : m = 6
  · simp [h6]
  by_cases h7 : m = 7
  · simp [h7]
  by_cases h : r = 7
  · by_cases h2 : m = 2
    · simp [h, h2]
    · have a6 : (m == 6) = false := by simpa using h6
      have a7 : (m == 7) = false := by simpa using h7
      have a2 : (m == 2) = false := by simpa using h2
      simp [h6, h7, h, h2, a6, a7, a2]
  simp [h6, h7, h]
theorem specOpdOk_ok (m r x : Int) : spec_OpdOk.f m r x = some (opdOk m r x) := by
  unfold spec_OpdOk.f opdOk
  simp only [l1In_ok, specHasX_ok, Option.bind_some]
  by_cases h1 : 0 ≤ m ∧ m ≤ 7
  · by_cases h2 : 0 ≤ r ∧ r ≤ 7
    · by_cases h3 : 0 ≤ x ∧ x ≤ 65535
      · cases hasX m r <;> simp [h1, h2, h3]
      · have : ¬ (0 ≤ m ∧ m ≤ 7 ∧ 0 ≤ r ∧ r ≤ 7 ∧ 0 ≤ x ∧ x ≤ 65535) := by omega
        simp only [decide_eq_false this, Bool.false_and]; simp [h1, h2, h3]
    · have : ¬ (0 ≤ m ∧ m ≤ 7 ∧ 0 ≤ r ∧ r ≤ 7 ∧ 0 ≤ x ∧ x ≤ 65535) := by omega
      simp only [decide_eq_false this, Bool.false_and]; simp [h1, h2]
  · have : ¬ (0 ≤ m ∧ m ≤ 7 ∧ 0 ≤ r ∧ r ≤ 7 ∧ 0 ≤ x ∧ x ≤ 65535) := by omega
    simp only [decide_eq_false this, Bool.false_and]; simp [h1]
theorem implHasX_ok (m r x : Int) : impl_HasX.f m r x = some (hasX m r) := by
  unfold impl_HasX.f hasX
  by_cases h6 : m = 6
  · simp [h6]
  by_cases h7 : m = 7
  · simp [h7]
  by_cases h2 : m = 2
  · simp [h2]
  by_cases h3 : m = 3
  · simp [h3]
  simp [h6, h7, h2, h3]
theorem implOpdOk_ok (m r x : Int) : impl_OpdOk.f m r x = some (opdOk m r x) := by
  unfold impl_OpdOk.f impl_isReg.f impl_isWord.f opdOk
  simp only [within_ok, implHasX_ok, Option.bind_some]
  by_cases h1 : 0 ≤ m ∧ m ≤ 7
  · by_cases h2 : 0 ≤ r ∧ r ≤ 7
    · by_cases h3 : 0 ≤ x ∧ x ≤ 65535
      · by_cases h4 : x = 0
        · cases hasX m r <;> simp [h1, h2, h4]
        · cases hasX m r <;> simp [h1, h2, h3, h4]
      · have : ¬ (0 ≤ m ∧ m ≤ 7 ∧ 0 ≤ r ∧ r ≤ 7 ∧ 0 ≤ x ∧ x ≤ 65535) := by omega
        simp only [decide_eq_false this, Bool.false_and]; simp [h1, h2, h3]
    · have : ¬ (0 ≤ m ∧ m ≤ 7 ∧ 0 ≤ r ∧ r ≤ 7 ∧ 0 ≤ x ∧ x ≤ 65535) := by omega
      simp only [decide_eq_false this, Bool.false_and]; simp [h1, h2]
  · have : ¬ (0 ≤ m ∧ m ≤ 7 ∧ 0 ≤ r ∧ r ≤ 7 ∧ 0 ≤ x ∧ x ≤ 65535) := by omega
    simp only [decide_eq_false this, Bool.false_and]; simp [h1]
def readW (mem : List Int) (a : Int) : Int × Bool := if (0 ≤ a ∧ a ≤ 510 ∧ a % 2 = 0) ∧ a / 2 < mem.length then (rd mem (a / 2), true) else (0, false)
theorem half_ok (a : Int) (h0 : 0 ≤ a) (h1 : a ≤ 510) : wrap64 (Int.tdiv a 2) = a / 2 ∧ Int.tmod a 2 = a % 2 := by
  rw [Int.tdiv_eq_ediv_of_nonneg h0, Int.tmod_eq_emod_of_nonneg h0]
  exact ⟨w64 (by omega) (by omega), rfl⟩
theorem specReadW_ok (l0 l1 l6 l7 : List Int) (b2 b3 b4 b5 : Bool) (s a : Int) : spec_ReadW.f l0 l1 b2 b3 b4 b5 l6 l7 s a = some (readW l0 a) := by
  unfold spec_ReadW.f readW
  simp only [l1In_ok, Option.bind_some]
  by_cases h : 0 ≤ a ∧ a ≤ 510
  · obtain ⟨e1, e2⟩ := half_ok a h.1 h.2
    rw [if_pos (decide_eq_true h), e1, e2]
    by_cases h2 : a % 2 = 0
    · rw [if_pos h2]
      by_cases h3 : a / 2 < l0.length
      · rw [if_neg (by omega), if_pos (by omega), if_pos h3, if_pos (by omega)]
      · rw [if_pos (by omega), if_neg (by omega)]
    · rw [if_neg h2, if_neg (by omega)]
  · rw [if_neg (by simpa using h), if_neg (by omega)]
theorem isAddr_ok (a : Int) : impl_isAddr.f a = some (decide (0 ≤ a ∧ a ≤ 510 ∧ a % 2 = 0)) := by
  unfold impl_isAddr.f
  simp only [within_ok, Option.bind_some]
  by_cases h : 0 ≤ a ∧ a ≤ 510
  · rw [if_pos (decide_eq_true h), (half_ok a h.1 h.2).2]
    congr 1; rw [Bool.eq_iff_iff]; simp; omega
  · rw [if_neg (by simpa using h)]; congr 1; symm; rw [decide_eq_false_iff_not]; omega
theorem implReadW_ok (l0 l1 l6 l7 : List Int) (b2 b3 b4 b5 : Bool) (s a : Int) : impl_ReadW.f l0 l1 b2 b3 b4 b5 l6 l7 s a = some (readW l0 a) := by
  unfold impl_ReadW.f readW
  simp only [isAddr_ok, Option.bind_some]
  by_cases h : 0 ≤ a ∧ a ≤ 510 ∧ a % 2 = 0
  · obtain ⟨e1, e2⟩ := half_ok a h.1 h.2.1
    rw [if_pos (decide_eq_true h), e1]
    by_cases h3 : a / 2 < l0.length
    · rw [if_neg (by omega), if_pos (by omega), if_pos h3, if_pos ⟨h, h3⟩]
    · rw [if_pos (by omega), if_neg (by omega)]
  · rw [if_neg (by simpa using h), if_neg (fun h' => h h'.1)]
/-- where an operand is, of a machine and an operand that are right; the registers then. -/
def nextW (l1 : List Int) : Int := wrap64 (rd l1 7 + 2) % 65536
def placeAt (l0 l1 : List Int) (m r : Int) : Option (Int × List Int) :=
  if m = 1 then some (rd l1 r, l1) else if m = 2 ∨ m = 3 then some (rd l1 r, l1.set r.toNat (wrap64 (rd l1 r + 2) % 65536)) else if m = 4 ∨ m = 5 then some (wrap64 (rd l1 r - 2) % 65536, l1.set r.toNat (wrap64 (rd l1 r - 2) % 65536))
  else if (readW l0 (rd l1 7)).2 = true then some (wrap64 ((readW l0 (rd l1 7)).1 + rd (l1.set 7 (nextW l1)) r) % 65536, l1.set 7 (nextW l1)) else none
def placeR (l0 l1 : List Int) (m r : Int) : Option (Int × Int × List Int) :=
  if m = 0 then some (r, -1, l1) else (placeAt l0 l1 m r).bind fun s => if m = 3 ∨ m = 5 ∨ m = 7 then (if (readW l0 s.1).2 = true then some (-1, (readW l0 s.1).1, s.2) else none) else some (-1, s.1, s.2)
theorem rd_set (l : List Int) (r u : Int) (h0 : 0 ≤ r) (h1 : r < l.length) : rd (l.set r.toNat u) r = u := by
  unfold rd
  rw [List.getD_eq_getElem?_getD, List.getElem?_set_self (by omega)]; rfl
theorem l6At_ok (l0 l1 l6 l7 : List Int) (b2 b3 b4 b5 : Bool) (s m r : Int) (hl : l1.length = 8) (h0 : 0 ≤ r) (h1 : r < 8) (hm : 1 ≤ m ∧ m < 8) :
    (∀ a l, placeAt l0 l1 m r = some (a, l) → spec_l6At.f l0 l1 b2 b3 b4 b5 l6 l7 s m r = some (a, true, l)) ∧ (placeAt l0 l1 m r = none → ∃ a l, spec_l6At.f l0 l1 b2 b3 b4 b5 l6 l7 s m r = some (a, false, l)) := by
  unfold placeAt spec_l6At.f spec_l6Fetch.f nextW
  simp only [specReadW_ok, spec_Wrap.f, and65535, Option.bind_some]
  by_cases c1 : m = 1
  · simp only [if_pos c1]; exact ⟨fun a l h => (by simp only [Option.some.injEq, Prod.mk.injEq] at h; obtain ⟨rfl, rfl⟩ := h; first | rfl | simp [*]), fun h => by simp at h⟩
  by_cases c2 : m = 2 ∨ m = 3
  · simp only [if_neg c1, if_pos c2]; exact ⟨fun a l h => (by simp only [Option.some.injEq, Prod.mk.injEq] at h; obtain ⟨rfl, rfl⟩ := h; first | rfl | simp [*]), fun h => by simp at h⟩
  by_cases c4 : m = 4 ∨ m = 5
  · simp only [if_neg c1, if_neg c2, if_pos c4, rd_set l1 r _ h0 (by omega)]; exact ⟨fun a l h => (by simp only [Option.some.injEq, Prod.mk.injEq] at h; obtain ⟨rfl, rfl⟩ := h; first | rfl | simp [*]), fun h => by simp at h⟩
  simp only [if_neg c1, if_neg c2, if_neg c4]
  cases hq : (readW l0 (rd l1 7)).2 with
  | true => simp only [if_pos, Option.bind_some]; exact ⟨fun a l h => (by simp only [Option.some.injEq, Prod.mk.injEq] at h; obtain ⟨rfl, rfl⟩ := h; first | rfl | simp [*]), fun h => by simp at h⟩
  | false => simp only [Bool.false_eq_true, if_false, Option.bind_some]; exact ⟨fun a l h => by simp at h, fun _ => ⟨_, _, rfl⟩⟩
theorem l6Place_ok (l0 l1 l6 l7 : List Int) (b2 b3 b4 b5 : Bool) (s m r : Int) (hl : l1.length = 8) (h0 : 0 ≤ r) (h1 : r < 8) (hm : 0 ≤ m ∧ m < 8) :
    (∀ x y l, placeR l0 l1 m r = some (x, y, l) → spec_l6Place.f l0 l1 b2 b3 b4 b5 l6 l7 s m r = some (x, y, true, l)) ∧ (placeR l0 l1 m r = none → ∃ l, spec_l6Place.f l0 l1 b2 b3 b4 b5 l6 l7 s m r = some (0, 0, false, l)) := by
  unfold placeR spec_l6Place.f
  by_cases c0 : m = 0
  · simp only [if_pos c0]; exact ⟨fun x y l h => (by simp only [Option.some.injEq, Prod.mk.injEq] at h; obtain ⟨rfl, rfl, rfl⟩ := h; first | rfl | simp [*]), fun h => by simp at h⟩
  simp only [if_neg c0]
  obtain ⟨p, q⟩ := l6At_ok l0 l1 l6 l7 b2 b3 b4 b5 s m r hl h0 h1 (by omega)
  cases ha : placeAt l0 l1 m r with
  | none =>
    obtain ⟨a, l, e⟩ := q ha
    rw [e]
    simp only [Option.bind_some, Option.bind_none]
    exact ⟨fun x y l h => by simp at h, fun _ => ⟨_, rfl⟩⟩
  | some t =>
    rw [p t.1 t.2 ha]
    simp only [Option.bind_some, specReadW_ok, if_true]
    by_cases c : m = 3 ∨ m = 5 ∨ m = 7
    · simp only [if_pos c]
      cases hq : (readW l0 t.1).2 with
      | true => simp only [if_pos]; exact ⟨fun x y l h => (by simp only [Option.some.injEq, Prod.mk.injEq] at h; obtain ⟨rfl, rfl, rfl⟩ := h; first | rfl | simp [*]), fun h => by simp at h⟩
      | false => simp only [Bool.false_eq_true, if_false]; exact ⟨fun x y l h => by simp at h, fun _ => ⟨_, rfl⟩⟩
    · simp only [if_neg c]; exact ⟨fun x y l h => (by simp only [Option.some.injEq, Prod.mk.injEq] at h; obtain ⟨rfl, rfl, rfl⟩ := h; first | rfl | simp [*]), fun h => by simp at h⟩
theorem place_ok (l0 l1 l6 l7 : List Int) (b2 b3 b4 b5 : Bool) (s m r : Int) (hl : l1.length = 8) (h0 : 0 ≤ r) (h1 : r < 8) (hm : 0 ≤ m ∧ m < 8) :
    (∀ x y l, placeR l0 l1 m r = some (x, y, l) → impl_place.f l0 l1 b2 b3 b4 b5 l6 l7 s m r = some (x, y, true, l)) ∧ (placeR l0 l1 m r = none → ∃ x y l, impl_place.f l0 l1 b2 b3 b4 b5 l6 l7 s m r = some (x, y, false, l)) := by
  unfold placeR impl_place.f placeAt impl_fetch.f nextW
  simp only [implReadW_ok, impl_Wrap.f, and65535, Option.bind_some]
  by_cases c0 : m = 0
  · simp only [if_pos c0]; exact ⟨fun x y l h => (by simp only [Option.some.injEq, Prod.mk.injEq] at h; obtain ⟨rfl, rfl, rfl⟩ := h; first | rfl | simp [*]), fun h => by simp at h⟩
  simp only [if_neg c0]
  have odd : ∀ (a : Int) (l' : List Int), (∀ x y l, (if m = 3 ∨ m = 5 ∨ m = 7 then (if (readW l0 a).2 = true then some (-1, (readW l0 a).1, l') else none) else some (-1, a, l')) = some (x, y, l) → (if True ∧ (m = 3 ∨ m = 5 ∨ m = 7) then some (-1, (readW l0 a).1, (readW l0 a).2, l') else some (-1, a, true, l')) = some (x, y, true, l)) ∧
      ((if m = 3 ∨ m = 5 ∨ m = 7 then (if (readW l0 a).2 = true then some (-1, (readW l0 a).1, l') else none) else some (-1, a, l')) = none → ∃ x y l, (if True ∧ (m = 3 ∨ m = 5 ∨ m = 7) then some (-1, (readW l0 a).1, (readW l0 a).2, l') else some (-1, a, true, l')) = some (x, y, false, l)) := by
    intro a l'
    by_cases c : m = 3 ∨ m = 5 ∨ m = 7
    · simp only [if_pos c, if_pos (show True ∧ (m = 3 ∨ m = 5 ∨ m = 7) from ⟨trivial, c⟩)]
      cases hq : (readW l0 a).2 with
      | true => simp only [if_pos]; exact ⟨fun x y l h => (by simp only [Option.some.injEq, Prod.mk.injEq] at h; obtain ⟨rfl, rfl, rfl⟩ := h; first | rfl | simp [*]), fun h => by simp at h⟩
      | false => simp only [Bool.false_eq_true, if_false]; exact ⟨fun x y l h => by simp at h, fun _ => ⟨_, _, _, rfl⟩⟩
    · simp only [if_neg c, if_neg (fun h : True ∧ (m = 3 ∨ m = 5 ∨ m = 7) => c h.2)]
      exact ⟨fun x y l h => (by simp only [Option.some.injEq, Prod.mk.injEq] at h; obtain ⟨rfl, rfl, rfl⟩ := h; first | rfl | simp [*]), fun h => by simp at h⟩
  by_cases c1 : m = 1
  · simp only [if_pos c1, Option.bind_some]; exact odd _ _
  by_cases c2 : m = 2 ∨ m = 3
  · simp only [if_neg c1, if_pos c2, Option.bind_some]; exact odd _ _
  by_cases c4 : m = 4 ∨ m = 5
  · simp only [if_neg c1, if_neg c2, if_pos c4, Option.bind_some]; exact odd _ _
  simp only [if_neg c1, if_neg c2, if_neg c4, Option.bind_some]
  cases hq : (readW l0 (rd l1 7)).2 with
  | true => simp only [if_pos, Option.bind_some]; exact odd _ _
  | false =>
    simp only [Bool.false_eq_true, if_false, Option.bind_none, false_and]
    exact ⟨fun x y l h => by simp at h, fun _ => ⟨_, _, _, rfl⟩⟩
/-- what PlaceOf tells: the registers, the place, whether it is. -/
def placeM (l0 l1 l6 l7 : List Int) (s m r x : Int) : List Int × Int × Int × Bool :=
  if machOk l0 l1 l6 l7 s = true ∧ opdOk m r x = true then (match placeR l0 l1 m r with | some p => (p.2.2, p.1, p.2.1, true) | none => (l1, 0, 0, false)) else (l1, 0, 0, false)
theorem machOk_len {l0 l1 l6 l7 : List Int} {s : Int} (h : machOk l0 l1 l6 l7 s = true) : l1.length = 8 := by
  unfold machOk at h; rw [Bool.and_eq_true, decide_eq_true_eq] at h; exact h.1.2.1
theorem opdOk_in {m r x : Int} (h : opdOk m r x = true) : (0 ≤ m ∧ m < 8) ∧ 0 ≤ r ∧ r < 8 := by
  unfold opdOk at h; rw [Bool.and_eq_true, decide_eq_true_eq] at h; omega
theorem implPlaceOf_ok (l0 l1 l6 l7 : List Int) (b2 b3 b4 b5 : Bool) (s m r x : Int) (h : l0.length + l1.length + l6.length + l7.length ≤ 1048576) (k : Nat) (hk : 1048580 < k) :
    impl_PlaceOf.f k l0 l1 b2 b3 b4 b5 l6 l7 s m r x = some (l0, (placeM l0 l1 l6 l7 s m r x).1, b2, b3, b4, b5, l6, l7, s, (placeM l0 l1 l6 l7 s m r x).2.1, (placeM l0 l1 l6 l7 s m r x).2.2.1, (placeM l0 l1 l6 l7 s m r x).2.2.2) := by
  unfold impl_PlaceOf.f placeM
  simp only [implMachOk_ok l0 l1 l6 l7 b2 b3 b4 b5 s (by omega) k hk, implOpdOk_ok, copyMach_ok l0 l1 l6 l7 b2 b3 b4 b5 s h, Option.bind_some]
  cases h1 : machOk l0 l1 l6 l7 s with
  | false => simp
  | true =>
    cases h2 : opdOk m r x with
    | false => simp
    | true =>
      have hl := machOk_len h1
      obtain ⟨hm, hr⟩ := opdOk_in h2
      obtain ⟨p, q⟩ := place_ok l0 l1 l6 l7 b2 b3 b4 b5 s m r hl hr.1 hr.2 hm
      simp only [if_true, and_self]
      rw [if_pos ⟨hl, hm.1, hm.2, hr.1, hr.2⟩]
      cases hp : placeR l0 l1 m r with
      | none => obtain ⟨_, _, _, e⟩ := q hp; rw [e]; simp
      | some t => rw [p t.1 t.2.1 t.2.2 hp]; simp
theorem specPlaceOf_ok (l0 l1 l6 l7 : List Int) (b2 b3 b4 b5 : Bool) (s m r x : Int) (h : l0.length + l1.length + l6.length + l7.length ≤ 1048576) (k : Nat) (hk : 1048580 < k) :
    spec_PlaceOf.f k l0 l1 b2 b3 b4 b5 l6 l7 s m r x = some (l0, (placeM l0 l1 l6 l7 s m r x).1, b2, b3, b4, b5, l6, l7, s, (placeM l0 l1 l6 l7 s m r x).2.1, (placeM l0 l1 l6 l7 s m r x).2.2.1, (placeM l0 l1 l6 l7 s m r x).2.2.2) := by
  unfold spec_PlaceOf.f placeM
  simp only [specMachOk_ok l0 l1 l6 l7 b2 b3 b4 b5 s (by omega) k (by omega), specOpdOk_ok, l5Copy_ok l0 l1 l6 l7 b2 b3 b4 b5 s h, Option.bind_some]
  cases h1 : machOk l0 l1 l6 l7 s with
  | false => simp
  | true =>
    cases h2 : opdOk m r x with
    | false => simp
    | true =>
      have hl := machOk_len h1
      obtain ⟨hm, hr⟩ := opdOk_in h2
      obtain ⟨p, q⟩ := l6Place_ok l0 l1 l6 l7 b2 b3 b4 b5 s m r hl hr.1 hr.2 hm
      simp only [if_true, and_self]
      rw [if_pos ⟨hl, hm.1, hm.2, hr.1, hr.2⟩]
      cases hp : placeR l0 l1 m r with
      | none => obtain ⟨_, e⟩ := q hp; rw [e]; simp
      | some t => rw [p t.1 t.2.1 t.2.2 hp]; simp
theorem placeAt_length {l0 l1 : List Int} {m r a : Int} {l : List Int} (h : placeAt l0 l1 m r = some (a, l)) : l.length = l1.length := by
  unfold placeAt at h
  repeat' split at h
  all_goals (simp at h; try (obtain ⟨_, rfl⟩ := h; simp))
theorem placeR_length {l0 l1 : List Int} {m r x y : Int} {l : List Int} (h : placeR l0 l1 m r = some (x, y, l)) : l.length = l1.length := by
  unfold placeR at h
  split at h
  · simp at h; obtain ⟨_, _, rfl⟩ := h; rfl
  · cases ha : placeAt l0 l1 m r with
    | none => rw [ha] at h; simp at h
    | some t =>
      rw [ha] at h
      have := placeAt_length ha
      simp only [Option.bind_some] at h
      repeat' split at h
      all_goals (simp at h; try (obtain ⟨_, _, rfl⟩ := h; exact this))
theorem placeM_length (l0 l1 l6 l7 : List Int) (s m r x : Int) : (placeM l0 l1 l6 l7 s m r x).1.length = l1.length := by
  unfold placeM
  split
  · cases hp : placeR l0 l1 m r with
    | none => rfl
    | some t => exact placeR_length hp
  · rfl
/-- what the law's walk asks of the plain functions. -/
def Facts (l0 l1 : List Int) (b2 b3 b4 b5 : Bool) (l6 l7 : List Int) (b8 m r x : Int) : Prop :=
  (∃ s, laws_szMach.f l0 l1 b2 b3 b4 b5 l6 l7 b8 1048576 = some s ∧ decide (s < 0) = true) ∨
  ∃ (k : Nat) (s : Int) (o0 o1 : List Int) (c2 c3 c4 c5 : Bool) (o6 o7 : List Int) (c8 y0 y1 : Int) (ok : Bool) (m0 m1 : Int) (p0 p1 p6 p7 q0 q1 q6 q7 : List Int),
    laws_szMach.f l0 l1 b2 b3 b4 b5 l6 l7 b8 1048576 = some s ∧ decide (s < 0) = false ∧ laws_toMach.f k l0 l1 b2 b3 b4 b5 l6 l7 b8 = some (l0, l1, b2, b3, b4, b5, l6, l7, b8) ∧ laws_toOpd.f m r x = some (m, r, x) ∧
    spec_PlaceOf.f k l0 l1 b2 b3 b4 b5 l6 l7 b8 m r x = some (o0, o1, c2, c3, c4, c5, o6, o7, c8, y0, y1, ok) ∧ impl_PlaceOf.f k l0 l1 b2 b3 b4 b5 l6 l7 b8 m r x = some (o0, o1, c2, c3, c4, c5, o6, o7, c8, y0, y1, ok) ∧
    laws_eqMach.f k o0 o1 c2 c3 c4 c5 o6 o7 c8 o0 o1 c2 c3 c4 c5 o6 o7 c8 = some true ∧ laws_eqMach.f k l0 l1 b2 b3 b4 b5 l6 l7 b8 l0 l1 b2 b3 b4 b5 l6 l7 b8 = some true ∧ laws_eqPlace.f y0 y1 y0 y1 = some true ∧
    laws_markMach.f k l0 l1 b2 b3 b4 b5 l6 l7 b8 1 = some (m0, p0, p1, p6, p7) ∧ decide (m0 < 0) = false ∧
    laws_markMach.f k o0 o1 c2 c3 c4 c5 o6 o7 c8 1 = some (m1, q0, q1, q6, q7) ∧ decide (m1 < 0) = false ∧ laws_heldMach.f k q0 q1 c2 c3 c4 c5 q6 q7 c8 1 = some m1
theorem FnExactPlaceOf (l0 l1 : List Int) (b2 b3 b4 b5 : Bool) (l6 l7 : List Int) (b8 m r x : Int) (h0 : l0.length ≤ maxLen) (_ : ∀ x ∈ l0, (Lit.int .i64 x).wf = true) (h1 : l1.length ≤ maxLen) (_ : ∀ x ∈ l1, (Lit.int .i64 x).wf = true) (h6 : l6.length ≤ maxLen) (_ : ∀ x ∈ l6, (Lit.int .i64 x).wf = true) (h7 : l7.length ≤ maxLen) (_ : ∀ x ∈ l7, (Lit.int .i64 x).wf = true) (_ : (Lit.int .i64 b8).wf = true) (_ : (Lit.int .i64 m).wf = true) (_ : (Lit.int .i64 r).wf = true) (_ : (Lit.int .i64 x).wf = true) :
    Facts l0 l1 b2 b3 b4 b5 l6 l7 b8 m r x := by
  obtain ⟨t, ht, hc⟩ := szMach_ok l0 l1 l6 l7 b2 b3 b4 b5 b8 h0 h1 h6 h7
  by_cases hn : t < 0
  · exact .inl ⟨t, ht, decide_eq_true hn⟩
  have hl : l0.length + l1.length + l6.length + l7.length ≤ 1048576 := hc.resolve_left hn
  have e1 := specPlaceOf_ok l0 l1 l6 l7 b2 b3 b4 b5 b8 m r x hl 1048590 (by omega)
  have e2 := implPlaceOf_ok l0 l1 l6 l7 b2 b3 b4 b5 b8 m r x hl 1048590 (by omega)
  have z1 := placeM_length l0 l1 l6 l7 b8 m r x
  generalize (placeM l0 l1 l6 l7 b8 m r x).1 = o1 at *
  generalize (placeM l0 l1 l6 l7 b8 m r x).2.1 = y0 at *
  generalize (placeM l0 l1 l6 l7 b8 m r x).2.2.1 = y1 at *
  generalize (placeM l0 l1 l6 l7 b8 m r x).2.2.2 = ok at *
  have ho : l0.length + o1.length + l6.length + l7.length ≤ 1048576 := by omega
  exact .inr ⟨1048590, t, l0, o1, b2, b3, b4, b5, l6, l7, b8, y0, y1, ok, _, _, _, _, _, _, _, _, _, _, ht, decide_eq_false hn, toMach_ok l0 l1 l6 l7 b2 b3 b4 b5 b8 hl 1048590 (by omega), rfl,
    e1, e2, eqMach_self _ _ l6 l7 b2 b3 b4 b5 b8 ho 1048590 (by omega), eqMach_self l0 l1 l6 l7 b2 b3 b4 b5 b8 hl 1048590 (by omega), by simp [laws_eqPlace.f],
    markMach_ok l0 l1 l6 l7 b2 b3 b4 b5 b8 hl 1048590 (by omega), decide_eq_false (by omega), markMach_ok _ _ l6 l7 b2 b3 b4 b5 b8 ho 1048590 (by omega), decide_eq_false (by omega), heldMach_ok _ _ _ _ b2 b3 b4 b5 b8 ho 1048590 (by omega)⟩

end Go.Proofs.Ytiagbfilffbljaa.Pure
