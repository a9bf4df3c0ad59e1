/- Proved: the law FnExactWords, as a plain function, answers true at each instruction of ints; no further conditions. -/
import Derived.Test.YtajkjkdfcegdpaaPFnExactWordsx2
import Derived.Test.YtajkjkdfcegdpaaCommon
namespace Go.Proofs.Ytajkjkdfcegdpaa.Pure
open Go.RowKit Go.Proofs.Ytajkjkdfcegdpaa.PFnExactWords Go.Proofs.YtajkjkdfcegdpaaW.PrintWords Go.Proofs.YtajkjkdfcegdpaaW.PrintLast Go.Proofs.Ytajkjkdfcegdpaa.Common
def hasX (m r : Int) : Bool := m == 6 || (m == 7 || (r == 7 && (m == 2 || m == 3)))
theorem specHasX_ok (m r x : Int) : spec_HasX.f m r x = some (hasX m r) := by
  unfold spec_HasX.f hasX
  by_cases h6 : m = 6
  · simp [h6]
  by_cases h7 : m = 7
  · simp [h7]
  by_cases h : r = 7
  · by_cases h2 : m = 2
    · simp [h, h2]
    · have a6 : (m == 6) = false := by simpa using h6
      have a7 : (m == 7) = false := by simpa using h7
      have a2 : (m == 2) = false := by simpa using h2
      simp [h6, h7, h, h2, a6, a7, a2]
  simp [h6, h7, h]
theorem implHasX_ok (m r x : Int) : impl_HasX.f m r x = some (hasX m r) := by
  unfold impl_HasX.f hasX
  by_cases h6 : m = 6
  · simp [h6]
  by_cases h7 : m = 7
  · simp [h7]
  by_cases h2 : m = 2
  · simp [h2]
  by_cases h3 : m = 3
  · simp [h3]
  simp [h6, h7, h2, h3]
theorem l1In_ok (a b c : Int) : spec_l1In.f a b c = some (decide (b ≤ a ∧ a ≤ c)) := by
  unfold spec_l1In.f
  by_cases h : a ≥ b
  · have h' : b ≤ a := h
    rw [if_pos h]; simp [h']
  · have h' : ¬ b ≤ a := h
    rw [if_neg h]; simp [h']
theorem within_ok (a b c : Int) : impl_within.f a b c = some (decide (b ≤ a ∧ a ≤ c)) := by
  unfold impl_within.f
  by_cases h : a ≥ b
  · have h' : b ≤ a := h
    rw [if_pos h]; simp [h']
  · have h' : ¬ b ≤ a := h
    rw [if_neg h]; simp [h']
theorem FnExactWords (op sm sr sx dm dr dx n : Int) (_ : (Lit.int .i64 op).wf = true) (_ : (Lit.int .i64 sm).wf = true) (_ : (Lit.int .i64 sr).wf = true) (_ : (Lit.int .i64 sx).wf = true) (_ : (Lit.int .i64 dm).wf = true) (_ : (Lit.int .i64 dr).wf = true) (_ : (Lit.int .i64 dx).wf = true) (_ : (Lit.int .i64 n).wf = true) :
    ∃ k, laws_FnExactWords.f k op sm sr sx dm dr dx n = some true := by
  refine ⟨5, ?_⟩
  simp only [laws_FnExactWords.f, laws_toIns.f, laws_toOpd.f, Option.bind_some, spec_Words.f, impl_Words.f, impl_hasSrc.f, impl_hasDst.f, l1In_ok, within_ok, specHasX_ok, implHasX_ok, spec_Words.j0, impl_Words.j0, spec_Words.j1, impl_Words.j1]
  have h := fun (x : Int) => (wrap64_range x)
  cases decide (1 ≤ op ∧ op ≤ 6) <;> cases decide (1 ≤ op ∧ op ≤ 15) <;> cases hasX sm sr <;> cases hasX dm dr <;> simp

end Go.Proofs.Ytajkjkdfcegdpaa.Pure
