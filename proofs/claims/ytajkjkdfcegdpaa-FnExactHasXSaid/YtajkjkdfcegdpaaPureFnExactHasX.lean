/- Proved: the law FnExactHasX, as a plain function, answers true at each operand of ints; no further conditions. -/
import Derived.Test.YtajkjkdfcegdpaaPFnExactHasXx1
import Derived.Test.YtajkjkdfcegdpaaCommon
namespace Go.Proofs.Ytajkjkdfcegdpaa.Pure
open Go.RowKit Go.Proofs.Ytajkjkdfcegdpaa.PFnExactHasX Go.Proofs.YtajkjkdfcegdpaaW.PrintWords Go.Proofs.YtajkjkdfcegdpaaW.PrintLast Go.Proofs.Ytajkjkdfcegdpaa.Common
def hasX (m r : Int) : Bool := m == 6 || (m == 7 || (r == 7 && (m == 2 || m == 3)))
theorem specHasX_ok (m r x : Int) : spec_HasX.f m r x = some (hasX m r) := by
  unfold spec_HasX.f hasX
  by_cases h6 : m = 6
  · simp [h6]
  by_cases h7 : m = 7
  · simp [h7]
  by_cases h : r = 7
  · by_cases h2 : m = 2
    · simp [h, h2]
    · have a6 : (m == 6) = false := by simpa using h6
      have a7 : (m == 7) = false := by simpa using h7
      have a2 : (m == 2) = false := by simpa using h2
      simp [h6, h7, h, h2, a6, a7, a2]
  simp [h6, h7, h]
theorem implHasX_ok (m r x : Int) : impl_HasX.f m r x = some (hasX m r) := by
  unfold impl_HasX.f hasX
  by_cases h6 : m = 6
  · simp [h6]
  by_cases h7 : m = 7
  · simp [h7]
  by_cases h2 : m = 2
  · simp [h2]
  by_cases h3 : m = 3
  · simp [h3]
  simp [h6, h7, h2, h3]
theorem FnExactHasX (m r x : Int) (_ : (Lit.int .i64 m).wf = true) (_ : (Lit.int .i64 r).wf = true) (_ : (Lit.int .i64 x).wf = true) : laws_FnExactHasX.f m r x = some true := by
  simp only [laws_FnExactHasX.f, laws_toOpd.f, specHasX_ok, implHasX_ok, Option.bind_some]
  simp

end Go.Proofs.Ytajkjkdfcegdpaa.Pure
