/- Proved: the law FnExactFlags, as a plain function, answers true at each machine; no further conditions. -/
import Derived.Test.YtiagbfilffbljaaPFnExactFlagsx3
import Derived.Test.YtiagbfilffbljaaCommon
namespace Go.Proofs.Ytiagbfilffbljaa.Pure
open Go.RowKit Go.Proofs.Ytiagbfilffbljaa.PFnExactFlags Go.Proofs.YtiagbfilffbljaaW.PrintWords Go.Proofs.YtiagbfilffbljaaW.PrintLast Go.Proofs.Ytiagbfilffbljaa.Common
set_option linter.unusedVariables false
set_option linter.unusedSimpArgs false
theorem toIntS_ok (l : List Int) (h : l.length ≤ 35184372088832) (k : Nat) (hk : l.length < k) : laws_toIntS.f k l = some l := by
  unfold laws_toIntS.f
  rw [if_pos (by omega), if_pos (by omega)]
  exact copy_loop 0 l (by omega) (fun k z i => laws_toIntS.l0 k l z i) (fun _ _ _ => rfl) k _ (by simp) hk
theorem eqIntS_ok (a b : List Int) (h : a.length ≤ 4611686018427387904) (k : Nat) (hk : a.length < k) : laws_eqIntS.f k a b = some (decide (a = b)) := by
  unfold laws_eqIntS.f
  by_cases e : (a.length : Int) = (b.length : Int)
  · rw [if_pos e]; exact eq_loop 0 a b (by omega) h (fun k x => laws_eqIntS.l0 k a b x) (fun _ _ => rfl) k hk
  · rw [if_neg e]; congr 1; symm; rw [decide_eq_false_iff_not]; intro h; subst h; exact e rfl
theorem eqIntS_self (a : List Int) (h : a.length ≤ 4611686018427387904) (k : Nat) (hk : a.length < k) : laws_eqIntS.f k a a = some true := by
  rw [eqIntS_ok a a h k hk]; simp
theorem szIntS_ok (l : List Int) (a : Int) (h0 : 0 ≤ a) (h1 : a ≤ 1048576) (hl : l.length ≤ maxLen) : laws_szIntS.f l a = some (if (l.length : Int) ≤ a then a - l.length else -1) := by
  have hm : maxLen = 9223372036854775807 := rfl
  unfold laws_szIntS.f
  rw [w64 (x := a - (l.length : Int)) (by omega) (by omega)]
  by_cases h : (l.length : Int) ≤ a
  · rw [if_neg (by omega), if_pos h]
  · rw [if_pos (by omega), if_neg h]
theorem szMach_ok (l0 l1 l6 l7 : List Int) (b2 b3 b4 b5 : Bool) (s : Int) (h0 : l0.length ≤ maxLen) (h1 : l1.length ≤ maxLen) (h6 : l6.length ≤ maxLen) (h7 : l7.length ≤ maxLen) :
    ∃ t, laws_szMach.f l0 l1 b2 b3 b4 b5 l6 l7 s 1048576 = some t ∧ (t < 0 ∨ (l0.length + l1.length + l6.length + l7.length ≤ 1048576)) := by
  unfold laws_szMach.f
  rw [szIntS_ok l0 _ (by omega) (by omega) h0]; simp only [Option.bind_some]
  by_cases c0 : (l0.length : Int) ≤ 1048576
  · rw [if_pos c0, if_neg (by omega), szIntS_ok l1 _ (by omega) (by omega) h1]; simp only [Option.bind_some]
    by_cases c1 : (l1.length : Int) ≤ 1048576 - l0.length
    · rw [if_pos c1, if_neg (by omega), szIntS_ok l6 _ (by omega) (by omega) h6]; simp only [Option.bind_some]
      by_cases c6 : (l6.length : Int) ≤ 1048576 - l0.length - l1.length
      · rw [if_pos c6, if_neg (by omega), szIntS_ok l7 _ (by omega) (by omega) h7]; simp only [Option.bind_some]
        by_cases c7 : (l7.length : Int) ≤ 1048576 - l0.length - l1.length - l6.length
        · rw [if_pos c7, if_neg (by omega)]; exact ⟨_, rfl, .inr (by omega)⟩
        · rw [if_neg c7, if_pos (by omega)]; exact ⟨_, rfl, .inl (by omega)⟩
      · rw [if_neg c6, if_pos (by omega)]; exact ⟨_, rfl, .inl (by omega)⟩
    · rw [if_neg c1, if_pos (by omega)]; exact ⟨_, rfl, .inl (by omega)⟩
  · rw [if_neg c0, if_pos (by omega)]; exact ⟨_, rfl, .inl (by omega)⟩
theorem toMach_ok (l0 l1 l6 l7 : List Int) (b2 b3 b4 b5 : Bool) (s : Int) (h : l0.length + l1.length + l6.length + l7.length ≤ 1048576) (k : Nat) (hk : 1048576 < k) : laws_toMach.f k l0 l1 b2 b3 b4 b5 l6 l7 s = some (l0, l1, b2, b3, b4, b5, l6, l7, s) := by
  unfold laws_toMach.f
  simp only [toIntS_ok l0 (by omega) k (by omega), toIntS_ok l1 (by omega) k (by omega), toIntS_ok l6 (by omega) k (by omega), toIntS_ok l7 (by omega) k (by omega), Option.bind_some]
theorem eqMach_self (l0 l1 l6 l7 : List Int) (b2 b3 b4 b5 : Bool) (s : Int) (h : l0.length + l1.length + l6.length + l7.length ≤ 1048576) (k : Nat) (hk : 1048576 < k) : laws_eqMach.f k l0 l1 b2 b3 b4 b5 l6 l7 s l0 l1 b2 b3 b4 b5 l6 l7 s = some true := by
  unfold laws_eqMach.f
  simp only [eqIntS_self l0 (by omega) k (by omega), eqIntS_self l1 (by omega) k (by omega), eqIntS_self l6 (by omega) k (by omega), eqIntS_self l7 (by omega) k (by omega), Option.bind_some, bne_self_eq_false, Bool.false_eq_true, if_false, if_true]
theorem implFlags_ok (l0 l1 l6 l7 : List Int) (b2 b3 b4 b5 : Bool) (s : Int) (k : Nat) (hk : 5 ≤ k) : impl_Flags.f k l0 l1 b2 b3 b4 b5 l6 l7 s = some ((if b2 = true then 8 else 0) + (if b3 = true then 4 else 0) + (if b4 = true then 2 else 0) + (if b5 = true then 1 else 0)) := by
  obtain ⟨k, rfl⟩ : ∃ m, k = m + 5 := ⟨k - 5, by omega⟩
  unfold impl_Flags.f
  have w0 : wrap64 (0 + 1) = 1 := by simp [wrap64]
  have w1 : wrap64 (1 + 1) = 2 := by simp [wrap64]
  have w2 : wrap64 (2 + 1) = 3 := by simp [wrap64]
  have w3 : wrap64 (3 + 1) = 4 := by simp [wrap64]
  have s0 : shl .i64 1 0 = 1 := by decide +kernel
  have s1 : shl .i64 1 1 = 2 := by decide +kernel
  have s2 : shl .i64 1 2 = 4 := by decide +kernel
  have s3 : shl .i64 1 3 = 8 := by decide +kernel
  simp only [impl_Flags.l0, Option.bind_some, List.length_cons, List.length_nil, w0, w1, w2, w3, rdOf]
  cases b2 <;> cases b3 <;> cases b4 <;> cases b5 <;> simp [s0, s1, s2, s3] <;> decide +kernel
theorem specFlags_ok (l0 l1 l6 l7 : List Int) (b2 b3 b4 b5 : Bool) (s : Int) (k : Nat) (hk : 5 ≤ k) : spec_Flags.f k l0 l1 b2 b3 b4 b5 l6 l7 s = some ((if b2 = true then 8 else 0) + (if b3 = true then 4 else 0) + (if b4 = true then 2 else 0) + (if b5 = true then 1 else 0)) := by
  obtain ⟨k, rfl⟩ : ∃ m, k = m + 5 := ⟨k - 5, by omega⟩
  unfold spec_Flags.f
  simp only [spec_Flags.j0, spec_Flags.j1]
  cases b2 <;> cases b3 <;> cases b4 <;> cases b5 <;> simp [wrap64]
theorem FnExactFlags (l0 l1 : List Int) (b2 b3 b4 b5 : Bool) (l6 l7 : List Int) (s : Int) (h0 : l0.length ≤ maxLen) (_ : ∀ x ∈ l0, (Lit.int .i64 x).wf = true) (h1 : l1.length ≤ maxLen) (_ : ∀ x ∈ l1, (Lit.int .i64 x).wf = true) (h6 : l6.length ≤ maxLen) (_ : ∀ x ∈ l6, (Lit.int .i64 x).wf = true) (h7 : l7.length ≤ maxLen) (_ : ∀ x ∈ l7, (Lit.int .i64 x).wf = true) (_ : (Lit.int .i64 s).wf = true) :
    ∃ k, laws_FnExactFlags.f k l0 l1 b2 b3 b4 b5 l6 l7 s = some true := by
  refine ⟨1048580, ?_⟩
  unfold laws_FnExactFlags.f
  obtain ⟨t, ht, hc⟩ := szMach_ok l0 l1 l6 l7 b2 b3 b4 b5 s h0 h1 h6 h7
  rw [ht]; simp only [Option.bind_some]
  by_cases hn : t < 0
  · rw [if_pos hn]
  rw [if_neg hn]
  have hl : l0.length + l1.length + l6.length + l7.length ≤ 1048576 := hc.resolve_left hn
  simp only [toMach_ok l0 l1 l6 l7 b2 b3 b4 b5 s hl 1048580 (by omega), Option.bind_some, specFlags_ok l0 l1 l6 l7 b2 b3 b4 b5 s 1048580 (by omega), implFlags_ok l0 l1 l6 l7 b2 b3 b4 b5 s 1048580 (by omega), if_true, eqMach_self l0 l1 l6 l7 b2 b3 b4 b5 s hl 1048580 (by omega)]

end Go.Proofs.Ytiagbfilffbljaa.Pure
