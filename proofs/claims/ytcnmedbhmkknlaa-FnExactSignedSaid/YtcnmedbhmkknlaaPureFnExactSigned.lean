/- Proved: the law FnExactSigned, as a plain function, answers true at each int; no further conditions. -/
import Derived.Test.YtcnmedbhmkknlaaPFnExactSignedx1
import Derived.Test.YtcnmedbhmkknlaaCommon
namespace Go.Proofs.Ytcnmedbhmkknlaa.Pure
open Go.RowKit Go.Proofs.Ytcnmedbhmkknlaa.PFnExactSigned Go.Proofs.YtcnmedbhmkknlaaW.PrintWords Go.Proofs.YtcnmedbhmkknlaaW.PrintLast Go.Proofs.Ytcnmedbhmkknlaa.Common
theorem FnExactSigned : laws_FnExactSigned.Pure := by
  intro a0 h
  simp only [laws_FnExactSigned.f, spec_Signed.f, impl_Signed.f, spec_Wrap.f, impl_Wrap.f, Option.bind_some, and65535]
  split <;> split <;> simp at * <;> omega

end Go.Proofs.Ytcnmedbhmkknlaa.Pure
