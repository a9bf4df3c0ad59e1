/- Proved: the law FnExactWrap, as a plain function, answers true at each int; no further conditions. -/
import Derived.Test.YtcnmedbhmkknlaaPFnExactWrapx1
import Derived.Test.YtcnmedbhmkknlaaCommon
namespace Go.Proofs.Ytcnmedbhmkknlaa.Pure
open Go.RowKit Go.Proofs.Ytcnmedbhmkknlaa.PFnExactWrap Go.Proofs.YtcnmedbhmkknlaaW.PrintWords Go.Proofs.YtcnmedbhmkknlaaW.PrintLast Go.Proofs.Ytcnmedbhmkknlaa.Common
theorem FnExactWrap : laws_FnExactWrap.Pure := by
  intro a0 h
  simp only [laws_FnExactWrap.f, spec_Wrap.f, impl_Wrap.f, Option.bind_some]
  simp

end Go.Proofs.Ytcnmedbhmkknlaa.Pure
