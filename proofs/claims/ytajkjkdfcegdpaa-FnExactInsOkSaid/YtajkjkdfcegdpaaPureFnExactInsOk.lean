/- Proved: the law FnExactInsOk, as a plain function, answers true at each instruction of ints; no further conditions. -/
import Derived.Test.YtajkjkdfcegdpaaPFnExactInsOkx6
import Derived.Test.YtajkjkdfcegdpaaCommon
namespace Go.Proofs.Ytajkjkdfcegdpaa.Pure
open Go.RowKit Go.Proofs.Ytajkjkdfcegdpaa.PFnExactInsOk Go.Proofs.YtajkjkdfcegdpaaW.PrintWords Go.Proofs.YtajkjkdfcegdpaaW.PrintLast Go.Proofs.Ytajkjkdfcegdpaa.Common
set_option linter.unusedVariables false
set_option linter.unusedSimpArgs false
def hasX (m r : Int) : Bool := m == 6 || (m == 7 || (r == 7 && (m == 2 || m == 3)))
def opdOk (m r x : Int) : Bool := decide (0 ≤ m ∧ m ≤ 7 ∧ 0 ≤ r ∧ r ≤ 7 ∧ 0 ≤ x ∧ x ≤ 65535) && (hasX m r || x == 0)
def zr (m r x : Int) : Bool := m == 0 && (r == 0 && (x == 0))
theorem zr_iff {m r x : Int} : zr m r x = true ↔ m = 0 ∧ r = 0 ∧ x = 0 := by simp [zr]
theorem zr_ok {m r x : Int} (h : zr m r x = true) : opdOk m r x = true := by
  obtain ⟨rfl, rfl, rfl⟩ := zr_iff.1 h; decide
def insB (op n : Int) (a b c d : Bool) : Bool :=
  if 1 ≤ op ∧ op ≤ 6 then a && b && decide (n = 0) else if 7 ≤ op ∧ op ≤ 14 then c && b && decide (n = 0) else if op = 15 then c && b && decide (0 ≤ n ∧ n ≤ 7)
  else if op = 16 then c && d && decide (0 ≤ n ∧ n ≤ 7) else if 17 ≤ op ∧ op ≤ 21 then c && d && decide (-128 ≤ n ∧ n ≤ 127) else if op = 22 then c && d && decide (n = 0)
  else if op = 23 then c && d && decide (0 ≤ n ∧ n ≤ 255) else false
def insOk (op sm sr sx dm dr dx n : Int) : Bool := insB op n (opdOk sm sr sx) (opdOk dm dr dx) (zr sm sr sx) (zr dm dr dx)
theorem specHasX_ok (m r x : Int) : spec_HasX.f m r x = some (hasX m r) := by
  unfold spec_HasX.f hasX
  by_cases h6 : m = 6
  · simp [h6]
  by_cases h7 : m = 7
  · simp [h7]
  by_cases h : r = 7
  · by_cases h2 : m = 2
    · simp [h, h2]
    · have a6 : (m == 6) = false := by simpa using h6
      have a7 : (m == 7) = false := by simpa using h7
      have a2 : (m == 2) = false := by simpa using h2
      simp [h6, h7, h, h2, a6, a7, a2]
  simp [h6, h7, h]
theorem l1In_ok (a b c : Int) : spec_l1In.f a b c = some (decide (b ≤ a ∧ a ≤ c)) := by
  unfold spec_l1In.f
  by_cases h : a ≥ b
  · have h' : b ≤ a := h
    rw [if_pos h]; simp [h']
  · have h' : ¬ b ≤ a := h
    rw [if_neg h]; simp [h']
theorem specOpdOk_ok (m r x : Int) : spec_OpdOk.f m r x = some (opdOk m r x) := by
  unfold spec_OpdOk.f opdOk
  simp only [l1In_ok, specHasX_ok, Option.bind_some]
  by_cases h1 : 0 ≤ m ∧ m ≤ 7
  · by_cases h2 : 0 ≤ r ∧ r ≤ 7
    · by_cases h3 : 0 ≤ x ∧ x ≤ 65535
      · cases hasX m r <;> simp [h1, h2, h3]
      · have : ¬ (0 ≤ m ∧ m ≤ 7 ∧ 0 ≤ r ∧ r ≤ 7 ∧ 0 ≤ x ∧ x ≤ 65535) := by omega
        simp only [decide_eq_false this, Bool.false_and]; simp [h1, h2, h3]
    · have : ¬ (0 ≤ m ∧ m ≤ 7 ∧ 0 ≤ r ∧ r ≤ 7 ∧ 0 ≤ x ∧ x ≤ 65535) := by omega
      simp only [decide_eq_false this, Bool.false_and]; simp [h1, h2]
  · have : ¬ (0 ≤ m ∧ m ≤ 7 ∧ 0 ≤ r ∧ r ≤ 7 ∧ 0 ≤ x ∧ x ≤ 65535) := by omega
    simp only [decide_eq_false this, Bool.false_and]; simp [h1]
theorem l3Zero_ok (m r x : Int) : spec_l3Zero.f m r x = some (zr m r x) := rfl
set_option maxHeartbeats 4000000 in
theorem specInsOk_ok (op sm sr sx dm dr dx n : Int) (k : Nat) (hk : 2 ≤ k) : spec_InsOk.f k op sm sr sx dm dr dx n = some (insOk op sm sr sx dm dr dx n) := by
  obtain ⟨k, rfl⟩ : ∃ m, k = m + 1 := ⟨k - 1, by omega⟩
  unfold spec_InsOk.f insOk insB
  simp only [l1In_ok, specOpdOk_ok, l3Zero_ok, Option.bind_some, spec_InsOk.j0]
  generalize opdOk sm sr sx = a
  generalize opdOk dm dr dx = b
  generalize zr sm sr sx = c
  generalize zr dm dr dx = d
  cases a <;> cases b <;> cases c <;> cases d <;> simp only [if_true, Bool.false_eq_true, if_false, Bool.true_and, Bool.false_and, Bool.and_false, Bool.not_true, Bool.not_false, decide_eq_true_eq]
  all_goals repeat' split
  all_goals first | rfl | omega | (congr 1; rw [Bool.eq_iff_iff]; simp only [beq_iff_eq, decide_eq_true_eq, Bool.false_eq_true]; omega) | (simp; omega)
theorem implHasX_ok (m r x : Int) : impl_HasX.f m r x = some (hasX m r) := by
  unfold impl_HasX.f hasX
  by_cases h6 : m = 6
  · simp [h6]
  by_cases h7 : m = 7
  · simp [h7]
  by_cases h2 : m = 2
  · simp [h2]
  by_cases h3 : m = 3
  · simp [h3]
  simp [h6, h7, h2, h3]
theorem within_ok (a b c : Int) : impl_within.f a b c = some (decide (b ≤ a ∧ a ≤ c)) := by
  unfold impl_within.f
  by_cases h : a ≥ b
  · have h' : b ≤ a := h
    rw [if_pos h]; simp [h']
  · have h' : ¬ b ≤ a := h
    rw [if_neg h]; simp [h']
theorem implOpdOk_ok (m r x : Int) : impl_OpdOk.f m r x = some (opdOk m r x) := by
  unfold impl_OpdOk.f impl_isReg.f impl_isWord.f opdOk
  simp only [within_ok, implHasX_ok, Option.bind_some]
  by_cases h1 : 0 ≤ m ∧ m ≤ 7
  · by_cases h2 : 0 ≤ r ∧ r ≤ 7
    · by_cases h3 : 0 ≤ x ∧ x ≤ 65535
      · by_cases h4 : x = 0
        · cases hasX m r <;> simp [h1, h2, h4]
        · cases hasX m r <;> simp [h1, h2, h3, h4]
      · have : ¬ (0 ≤ m ∧ m ≤ 7 ∧ 0 ≤ r ∧ r ≤ 7 ∧ 0 ≤ x ∧ x ≤ 65535) := by omega
        simp only [decide_eq_false this, Bool.false_and]; simp [h1, h2, h3]
    · have : ¬ (0 ≤ m ∧ m ≤ 7 ∧ 0 ≤ r ∧ r ≤ 7 ∧ 0 ≤ x ∧ x ≤ 65535) := by omega
      simp only [decide_eq_false this, Bool.false_and]; simp [h1, h2]
  · have : ¬ (0 ≤ m ∧ m ≤ 7 ∧ 0 ≤ r ∧ r ≤ 7 ∧ 0 ≤ x ∧ x ≤ 65535) := by omega
    simp only [decide_eq_false this, Bool.false_and]; simp [h1]
theorem nz_ok (m r x : Int) : (!(m == 0) || (!(r == 0) || (!(x == 0)))) = !zr m r x := by
  unfold zr
  cases m == 0 <;> cases r == 0 <;> cases x == 0 <;> rfl
set_option maxHeartbeats 4000000 in
theorem implInsOk_ok (op sm sr sx dm dr dx n : Int) (k : Nat) (hk : 4 ≤ k) : impl_InsOk.f k op sm sr sx dm dr dx n = some (insOk op sm sr sx dm dr dx n) := by
  obtain ⟨k, rfl⟩ : ∃ m, k = m + 3 := ⟨k - 3, by omega⟩
  unfold impl_InsOk.f insOk insB
  simp only [within_ok, implOpdOk_ok, nz_ok, Option.bind_some, impl_InsOk.j0, impl_InsOk.j1, impl_InsOk.j2, impl_hasSrc.f, impl_hasDst.f, impl_isBranch.f, impl_isReg.f]
  have ha : zr sm sr sx = true → opdOk sm sr sx = true := zr_ok
  have hb : zr dm dr dx = true → opdOk dm dr dx = true := zr_ok
  generalize opdOk sm sr sx = a at *
  generalize opdOk dm dr dx = b at *
  generalize zr sm sr sx = c at *
  generalize zr dm dr dx = d at *
  cases a <;> cases b <;> cases c <;> cases d <;> (first | (exact absurd (ha rfl) (by decide)) | (exact absurd (hb rfl) (by decide)) | skip) <;> clear ha hb <;> simp only [if_true, Bool.false_eq_true, if_false, Bool.true_and, Bool.false_and, Bool.and_false, Bool.not_true, Bool.not_false, decide_eq_true_eq]
  all_goals repeat' split
  all_goals first | rfl | omega | (congr 1; rw [Bool.eq_iff_iff]; simp only [beq_iff_eq, decide_eq_true_eq, Bool.false_eq_true]; omega) | (simp at *; omega)
theorem FnExactInsOk (op sm sr sx dm dr dx n : Int) (_ : (Lit.int .i64 op).wf = true) (_ : (Lit.int .i64 sm).wf = true) (_ : (Lit.int .i64 sr).wf = true) (_ : (Lit.int .i64 sx).wf = true) (_ : (Lit.int .i64 dm).wf = true) (_ : (Lit.int .i64 dr).wf = true) (_ : (Lit.int .i64 dx).wf = true) (_ : (Lit.int .i64 n).wf = true) :
    ∃ k, laws_FnExactInsOk.f k op sm sr sx dm dr dx n = some true := by
  refine ⟨5, ?_⟩
  simp only [laws_FnExactInsOk.f, laws_toIns.f, laws_toOpd.f, Option.bind_some, specInsOk_ok op sm sr sx dm dr dx n 5 (by decide), implInsOk_ok op sm sr sx dm dr dx n 5 (by decide)]
  simp

end Go.Proofs.Ytajkjkdfcegdpaa.Pure
