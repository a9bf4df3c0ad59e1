/- Proved: the law FnExactMachOk, as a plain function, answers true at each machine; no further conditions. -/
import Derived.Test.YtiagbfilffbljaaPFnExactMachOkx3
import Derived.Test.YtiagbfilffbljaaCommon
namespace Go.Proofs.Ytiagbfilffbljaa.Pure
open Go.RowKit Go.Proofs.Ytiagbfilffbljaa.PFnExactMachOk Go.Proofs.YtiagbfilffbljaaW.PrintWords Go.Proofs.YtiagbfilffbljaaW.PrintLast Go.Proofs.Ytiagbfilffbljaa.Common
set_option linter.unusedVariables false
set_option linter.unusedSimpArgs false
theorem toIntS_ok (l : List Int) (h : l.length ≤ 35184372088832) (k : Nat) (hk : l.length < k) : laws_toIntS.f k l = some l := by
  unfold laws_toIntS.f
  rw [if_pos (by omega), if_pos (by omega)]
  exact copy_loop 0 l (by omega) (fun k z i => laws_toIntS.l0 k l z i) (fun _ _ _ => rfl) k _ (by simp) hk
theorem eqIntS_ok (a b : List Int) (h : a.length ≤ 4611686018427387904) (k : Nat) (hk : a.length < k) : laws_eqIntS.f k a b = some (decide (a = b)) := by
  unfold laws_eqIntS.f
  by_cases e : (a.length : Int) = (b.length : Int)
  · rw [if_pos e]; exact eq_loop 0 a b (by omega) h (fun k x => laws_eqIntS.l0 k a b x) (fun _ _ => rfl) k hk
  · rw [if_neg e]; congr 1; symm; rw [decide_eq_false_iff_not]; intro h; subst h; exact e rfl
theorem eqIntS_self (a : List Int) (h : a.length ≤ 4611686018427387904) (k : Nat) (hk : a.length < k) : laws_eqIntS.f k a a = some true := by
  rw [eqIntS_ok a a h k hk]; simp
theorem szIntS_ok (l : List Int) (a : Int) (h0 : 0 ≤ a) (h1 : a ≤ 1048576) (hl : l.length ≤ maxLen) : laws_szIntS.f l a = some (if (l.length : Int) ≤ a then a - l.length else -1) := by
  have hm : maxLen = 9223372036854775807 := rfl
  unfold laws_szIntS.f
  rw [w64 (x := a - (l.length : Int)) (by omega) (by omega)]
  by_cases h : (l.length : Int) ≤ a
  · rw [if_neg (by omega), if_pos h]
  · rw [if_pos (by omega), if_neg h]
theorem szMach_ok (l0 l1 l6 l7 : List Int) (b2 b3 b4 b5 : Bool) (s : Int) (h0 : l0.length ≤ maxLen) (h1 : l1.length ≤ maxLen) (h6 : l6.length ≤ maxLen) (h7 : l7.length ≤ maxLen) :
    ∃ t, laws_szMach.f l0 l1 b2 b3 b4 b5 l6 l7 s 1048576 = some t ∧ (t < 0 ∨ (l0.length + l1.length + l6.length + l7.length ≤ 1048576)) := by
  unfold laws_szMach.f
  rw [szIntS_ok l0 _ (by omega) (by omega) h0]; simp only [Option.bind_some]
  by_cases c0 : (l0.length : Int) ≤ 1048576
  · rw [if_pos c0, if_neg (by omega), szIntS_ok l1 _ (by omega) (by omega) h1]; simp only [Option.bind_some]
    by_cases c1 : (l1.length : Int) ≤ 1048576 - l0.length
    · rw [if_pos c1, if_neg (by omega), szIntS_ok l6 _ (by omega) (by omega) h6]; simp only [Option.bind_some]
      by_cases c6 : (l6.length : Int) ≤ 1048576 - l0.length - l1.length
      · rw [if_pos c6, if_neg (by omega), szIntS_ok l7 _ (by omega) (by omega) h7]; simp only [Option.bind_some]
        by_cases c7 : (l7.length : Int) ≤ 1048576 - l0.length - l1.length - l6.length
        · rw [if_pos c7, if_neg (by omega)]; exact ⟨_, rfl, .inr (by omega)⟩
        · rw [if_neg c7, if_pos (by omega)]; exact ⟨_, rfl, .inl (by omega)⟩
      · rw [if_neg c6, if_pos (by omega)]; exact ⟨_, rfl, .inl (by omega)⟩
    · rw [if_neg c1, if_pos (by omega)]; exact ⟨_, rfl, .inl (by omega)⟩
  · rw [if_neg c0, if_pos (by omega)]; exact ⟨_, rfl, .inl (by omega)⟩
theorem toMach_ok (l0 l1 l6 l7 : List Int) (b2 b3 b4 b5 : Bool) (s : Int) (h : l0.length + l1.length + l6.length + l7.length ≤ 1048576) (k : Nat) (hk : 1048576 < k) : laws_toMach.f k l0 l1 b2 b3 b4 b5 l6 l7 s = some (l0, l1, b2, b3, b4, b5, l6, l7, s) := by
  unfold laws_toMach.f
  simp only [toIntS_ok l0 (by omega) k (by omega), toIntS_ok l1 (by omega) k (by omega), toIntS_ok l6 (by omega) k (by omega), toIntS_ok l7 (by omega) k (by omega), Option.bind_some]
theorem eqMach_self (l0 l1 l6 l7 : List Int) (b2 b3 b4 b5 : Bool) (s : Int) (h : l0.length + l1.length + l6.length + l7.length ≤ 1048576) (k : Nat) (hk : 1048576 < k) : laws_eqMach.f k l0 l1 b2 b3 b4 b5 l6 l7 s l0 l1 b2 b3 b4 b5 l6 l7 s = some true := by
  unfold laws_eqMach.f
  simp only [eqIntS_self l0 (by omega) k (by omega), eqIntS_self l1 (by omega) k (by omega), eqIntS_self l6 (by omega) k (by omega), eqIntS_self l7 (by omega) k (by omega), Option.bind_some, bne_self_eq_false, Bool.false_eq_true, if_false, if_true]
def isWd (x : Int) : Bool := decide (0 ≤ x ∧ x ≤ 65535)
def machOk (l0 l1 l6 l7 : List Int) (s : Int) : Bool := decide (l0.length = 256 ∧ l1.length = 8 ∧ l6.length ≤ 50 ∧ l7.length ≤ 50 ∧ 0 ≤ s ∧ s ≤ 2) && (l0.all isWd && (l1.all isWd && (l6.all isWd && l7.all isWd)))
theorem l1In_ok (a b c : Int) : spec_l1In.f a b c = some (decide (b ≤ a ∧ a ≤ c)) := by
  unfold spec_l1In.f
  by_cases h : a ≥ b
  · have h' : b ≤ a := h
    rw [if_pos h]; simp [h']
  · have h' : ¬ b ≤ a := h
    rw [if_neg h]; simp [h']
theorem specWords_ok (l : List Int) (hl : l.length ≤ 4611686018427387904) (k : Nat) (hk : l.length < k) : spec_l5Words.f k l = some (l.all isWd) := by
  unfold spec_l5Words.f
  have H : ∀ (r k i : Nat), l.length - i = r → i ≤ l.length → r < k → spec_l5Words.l0 k l i = some ((l.drop i).all isWd) := by
    intro r
    induction r with
    | zero =>
      intro k i hr hi hk
      obtain ⟨k, rfl⟩ : ∃ m, k = m + 1 := ⟨k - 1, by omega⟩
      simp only [spec_l5Words.l0]
      rw [if_neg (by omega), List.drop_of_length_le (by omega)]; rfl
    | succ r ih =>
      intro k i hr hi hk
      obtain ⟨k, rfl⟩ : ∃ m, k = m + 1 := ⟨k - 1, by omega⟩
      have hlt : i < l.length := by omega
      simp only [spec_l5Words.l0, l1In_ok, Option.bind_some]
      rw [if_pos (by omega), if_pos (by omega), rd_at l i hlt, w64 (by omega) (by omega), List.drop_eq_getElem_cons hlt, List.all_cons]
      have e : ((i : Int) + 1) = ((i + 1 : Nat) : Int) := by omega
      rw [e, ih k (i + 1) (by omega) (by omega) (by omega)]
      unfold isWd
      cases decide (0 ≤ l[i] ∧ l[i] ≤ 65535) <;> simp
  have := H l.length k 0 (by omega) (by omega) hk
  simpa using this
theorem specMachOk_ok (l0 l1 l6 l7 : List Int) (b2 b3 b4 b5 : Bool) (s : Int) (h : l0.length + l1.length + l6.length + l7.length ≤ 1048578) (k : Nat) (hk : 1048578 < k) : spec_MachOk.f k l0 l1 b2 b3 b4 b5 l6 l7 s = some (machOk l0 l1 l6 l7 s) := by
  unfold spec_MachOk.f machOk
  simp only [specWords_ok l0 (by omega) k (by omega), specWords_ok l1 (by omega) k (by omega), specWords_ok l6 (by omega) k (by omega), specWords_ok l7 (by omega) k (by omega), l1In_ok, Option.bind_some]
  generalize l0.all isWd = c0
  generalize l1.all isWd = c1
  generalize l6.all isWd = c6
  generalize l7.all isWd = c7
  have e0 : ((l0.length : Int) = 256) ↔ l0.length = 256 := by omega
  have e1 : ((l1.length : Int) = 8) ↔ l1.length = 8 := by omega
  have e6 : ((l6.length : Int) ≤ 50) ↔ l6.length ≤ 50 := by omega
  have e7 : ((l7.length : Int) ≤ 50) ↔ l7.length ≤ 50 := by omega
  simp only [e0, e1, e6, e7]
  by_cases h0 : l0.length = 256 <;> by_cases h1 : l1.length = 8 <;> by_cases h6 : l6.length ≤ 50 <;> by_cases h7 : l7.length ≤ 50 <;> by_cases hs : 0 ≤ s ∧ s ≤ 2 <;> cases c0 <;> cases c1 <;> cases c6 <;> cases c7 <;> simp [h0, h1, h6, h7, hs]
theorem within_ok (a b c : Int) : impl_within.f a b c = some (decide (b ≤ a ∧ a ≤ c)) := by
  unfold impl_within.f
  by_cases h : a ≥ b
  · have h' : b ≤ a := h
    rw [if_pos h]; simp [h']
  · have h' : ¬ b ≤ a := h
    rw [if_neg h]; simp [h']
theorem implWordsOk_ok (l : List Int) (hl : l.length ≤ 4611686018427387904) (k : Nat) (hk : l.length < k) : impl_wordsOk.f k l = some (l.all isWd) := by
  unfold impl_wordsOk.f
  have H : ∀ (r k i : Nat), l.length - i = r → i ≤ l.length → r < k → impl_wordsOk.l0 k l (l.length : Int) i = some ((l.drop i).all isWd) := by
    intro r
    induction r with
    | zero =>
      intro k i hr hi hk
      obtain ⟨k, rfl⟩ : ∃ m, k = m + 1 := ⟨k - 1, by omega⟩
      simp only [impl_wordsOk.l0]
      rw [if_neg (by omega), List.drop_of_length_le (by omega)]; rfl
    | succ r ih =>
      intro k i hr hi hk
      obtain ⟨k, rfl⟩ : ∃ m, k = m + 1 := ⟨k - 1, by omega⟩
      have hlt : i < l.length := by omega
      simp only [impl_wordsOk.l0, impl_isWord.f, within_ok, Option.bind_some]
      rw [if_pos (by omega), if_pos (by omega), if_pos (by omega), rd_at l i hlt, w64 (by omega) (by omega), List.drop_eq_getElem_cons hlt, List.all_cons]
      have e : ((i : Int) + 1) = ((i + 1 : Nat) : Int) := by omega
      rw [e, ih k (i + 1) (by omega) (by omega) (by omega)]
      unfold isWd
      cases decide (0 ≤ l[i] ∧ l[i] ≤ 65535) <;> simp
  have := H l.length k 0 (by omega) (by omega) hk
  simpa using this
theorem implMachOk_ok (l0 l1 l6 l7 : List Int) (b2 b3 b4 b5 : Bool) (s : Int) (h : l0.length + l1.length + l6.length + l7.length ≤ 1048578) (k : Nat) (hk : 1048580 < k) : impl_MachOk.f k l0 l1 b2 b3 b4 b5 l6 l7 s = some (machOk l0 l1 l6 l7 s) := by
  obtain ⟨k, rfl⟩ : ∃ m, k = m + 1 := ⟨k - 1, by omega⟩
  unfold impl_MachOk.f machOk
  simp only [impl_MachOk.j0, implWordsOk_ok l0 (by omega) k (by omega), implWordsOk_ok l1 (by omega) k (by omega), implWordsOk_ok l6 (by omega) k (by omega), implWordsOk_ok l7 (by omega) k (by omega), within_ok, Option.bind_some]
  generalize l0.all isWd = c0
  generalize l1.all isWd = c1
  generalize l6.all isWd = c6
  generalize l7.all isWd = c7
  have e0 : ((l0.length : Int) = 256) ↔ l0.length = 256 := by omega
  have e1 : ((l1.length : Int) = 8) ↔ l1.length = 8 := by omega
  have e6 : ((l6.length : Int) ≤ 50) ↔ l6.length ≤ 50 := by omega
  have e7 : ((l7.length : Int) ≤ 50) ↔ l7.length ≤ 50 := by omega
  simp only [e0, e1, e6, e7]
  by_cases h0 : l0.length = 256 <;> by_cases h1 : l1.length = 8 <;> by_cases h6 : l6.length ≤ 50 <;> by_cases h7 : l7.length ≤ 50 <;> by_cases hs : 0 ≤ s ∧ s ≤ 2 <;> cases c0 <;> cases c1 <;> cases c6 <;> cases c7 <;> simp [h0, h1, h6, h7, hs]
theorem FnExactMachOk (l0 l1 : List Int) (b2 b3 b4 b5 : Bool) (l6 l7 : List Int) (s : Int) (h0 : l0.length ≤ maxLen) (_ : ∀ x ∈ l0, (Lit.int .i64 x).wf = true) (h1 : l1.length ≤ maxLen) (_ : ∀ x ∈ l1, (Lit.int .i64 x).wf = true) (h6 : l6.length ≤ maxLen) (_ : ∀ x ∈ l6, (Lit.int .i64 x).wf = true) (h7 : l7.length ≤ maxLen) (_ : ∀ x ∈ l7, (Lit.int .i64 x).wf = true) (_ : (Lit.int .i64 s).wf = true) :
    ∃ k, laws_FnExactMachOk.f k l0 l1 b2 b3 b4 b5 l6 l7 s = some true := by
  refine ⟨1048590, ?_⟩
  unfold laws_FnExactMachOk.f
  obtain ⟨t, ht, hc⟩ := szMach_ok l0 l1 l6 l7 b2 b3 b4 b5 s h0 h1 h6 h7
  rw [ht]; simp only [Option.bind_some]
  by_cases hn : t < 0
  · rw [if_pos hn]
  rw [if_neg hn]
  have hl : l0.length + l1.length + l6.length + l7.length ≤ 1048576 := hc.resolve_left hn
  simp only [toMach_ok l0 l1 l6 l7 b2 b3 b4 b5 s hl 1048590 (by omega), Option.bind_some, specMachOk_ok l0 l1 l6 l7 b2 b3 b4 b5 s (by omega) 1048590 (by omega), implMachOk_ok l0 l1 l6 l7 b2 b3 b4 b5 s (by omega) 1048590 (by omega), if_true, eqMach_self l0 l1 l6 l7 b2 b3 b4 b5 s hl 1048590 (by omega), bne_self_eq_false, Bool.false_eq_true, if_false]

end Go.Proofs.Ytiagbfilffbljaa.Pure
