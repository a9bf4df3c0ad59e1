/- Proved: the law FnExactOpdOk, as a plain function, answers true at each operand of ints; no further conditions. -/
import Derived.Test.YtajkjkdfcegdpaaPFnExactOpdOkx1
import Derived.Test.YtajkjkdfcegdpaaCommon
namespace Go.Proofs.Ytajkjkdfcegdpaa.Pure
open Go.RowKit Go.Proofs.Ytajkjkdfcegdpaa.PFnExactOpdOk Go.Proofs.YtajkjkdfcegdpaaW.PrintWords Go.Proofs.YtajkjkdfcegdpaaW.PrintLast Go.Proofs.Ytajkjkdfcegdpaa.Common
def hasX (m r : Int) : Bool := m == 6 || (m == 7 || (r == 7 && (m == 2 || m == 3)))
def opdOk (m r x : Int) : Bool := decide (0 ≤ m ∧ m ≤ 7 ∧ 0 ≤ r ∧ r ≤ 7 ∧ 0 ≤ x ∧ x ≤ 65535) && (hasX m r || x == 0)
theorem specHasX_ok (m r x : Int) : spec_HasX.f m r x = some (hasX m r) := by
  unfold spec_HasX.f hasX
  by_cases h6 : m = 6
  · simp [h6]
  by_cases h7 : m = 7
  · simp [h7]
  by_cases h : r = 7
  · by_cases h2 : m = 2
    · simp [h, h2]
    · have a6 : (m == 6) = false := by simpa using h6
      have a7 : (m == 7) = false := by simpa using h7
      have a2 : (m == 2) = false := by simpa using h2
      simp [h6, h7, h, h2, a6, a7, a2]
  simp [h6, h7, h]
theorem l1In_ok (a b c : Int) : spec_l1In.f a b c = some (decide (b ≤ a ∧ a ≤ c)) := by
  unfold spec_l1In.f
  by_cases h : a ≥ b
  · have h' : b ≤ a := h
    rw [if_pos h]; simp [h']
  · have h' : ¬ b ≤ a := h
    rw [if_neg h]; simp [h']
theorem specOpdOk_ok (m r x : Int) : spec_OpdOk.f m r x = some (opdOk m r x) := by
  unfold spec_OpdOk.f opdOk
  simp only [l1In_ok, specHasX_ok, Option.bind_some]
  by_cases h1 : 0 ≤ m ∧ m ≤ 7
  · by_cases h2 : 0 ≤ r ∧ r ≤ 7
    · by_cases h3 : 0 ≤ x ∧ x ≤ 65535
      · cases hasX m r <;> simp [h1, h2, h3]
      · have : ¬ (0 ≤ m ∧ m ≤ 7 ∧ 0 ≤ r ∧ r ≤ 7 ∧ 0 ≤ x ∧ x ≤ 65535) := by omega
        simp only [decide_eq_false this, Bool.false_and]; simp [h1, h2, h3]
    · have : ¬ (0 ≤ m ∧ m ≤ 7 ∧ 0 ≤ r ∧ r ≤ 7 ∧ 0 ≤ x ∧ x ≤ 65535) := by omega
      simp only [decide_eq_false this, Bool.false_and]; simp [h1, h2]
  · have : ¬ (0 ≤ m ∧ m ≤ 7 ∧ 0 ≤ r ∧ r ≤ 7 ∧ 0 ≤ x ∧ x ≤ 65535) := by omega
    simp only [decide_eq_false this, Bool.false_and]; simp [h1]
theorem implHasX_ok (m r x : Int) : impl_HasX.f m r x = some (hasX m r) := by
  unfold impl_HasX.f hasX
  by_cases h6 : m = 6
  · simp [h6]
  by_cases h7 : m = 7
  · simp [h7]
  by_cases h2 : m = 2
  · simp [h2]
  by_cases h3 : m = 3
  · simp [h3]
  simp [h6, h7, h2, h3]
theorem within_ok (a b c : Int) : impl_within.f a b c = some (decide (b ≤ a ∧ a ≤ c)) := by
  unfold impl_within.f
  by_cases h : a ≥ b
  · have h' : b ≤ a := h
    rw [if_pos h]; simp [h']
  · have h' : ¬ b ≤ a := h
    rw [if_neg h]; simp [h']
theorem implOpdOk_ok (m r x : Int) : impl_OpdOk.f m r x = some (opdOk m r x) := by
  unfold impl_OpdOk.f impl_isReg.f impl_isWord.f opdOk
  simp only [within_ok, implHasX_ok, Option.bind_some]
  by_cases h1 : 0 ≤ m ∧ m ≤ 7
  · by_cases h2 : 0 ≤ r ∧ r ≤ 7
    · by_cases h3 : 0 ≤ x ∧ x ≤ 65535
      · by_cases h4 : x = 0
        · cases hasX m r <;> simp [h1, h2, h4]
        · cases hasX m r <;> simp [h1, h2, h3, h4]
      · have : ¬ (0 ≤ m ∧ m ≤ 7 ∧ 0 ≤ r ∧ r ≤ 7 ∧ 0 ≤ x ∧ x ≤ 65535) := by omega
        simp only [decide_eq_false this, Bool.false_and]; simp [h1, h2, h3]
    · have : ¬ (0 ≤ m ∧ m ≤ 7 ∧ 0 ≤ r ∧ r ≤ 7 ∧ 0 ≤ x ∧ x ≤ 65535) := by omega
      simp only [decide_eq_false this, Bool.false_and]; simp [h1, h2]
  · have : ¬ (0 ≤ m ∧ m ≤ 7 ∧ 0 ≤ r ∧ r ≤ 7 ∧ 0 ≤ x ∧ x ≤ 65535) := by omega
    simp only [decide_eq_false this, Bool.false_and]; simp [h1]
theorem FnExactOpdOk (m r x : Int) (_ : (Lit.int .i64 m).wf = true) (_ : (Lit.int .i64 r).wf = true) (_ : (Lit.int .i64 x).wf = true) : laws_FnExactOpdOk.f m r x = some true := by
  simp only [laws_FnExactOpdOk.f, laws_toOpd.f, specOpdOk_ok, implOpdOk_ok, Option.bind_some]
  simp

end Go.Proofs.Ytajkjkdfcegdpaa.Pure
