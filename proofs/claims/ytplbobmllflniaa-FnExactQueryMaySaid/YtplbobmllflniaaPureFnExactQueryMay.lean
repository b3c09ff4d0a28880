/- The law FnExactQueryMay returns true for every argument: QueryMay of the program and of the reference are one. -/
import Derived.Test.YtplbobmllflniaaEp1
import Derived.Test.YtplbobmllflniaaQMay
set_option linter.unusedVariables false
set_option linter.unusedSimpArgs false
namespace Go.Proofs.Ytplbobmllflniaa.Pure
open Go.RowKit Go.Proofs.Ytplbobmllflniaa.Ep Go.Proofs.YtplbobmllflniaaW.PrintWords Go.Proofs.YtplbobmllflniaaW.PrintLast Go.Proofs.YtplbobmllflniaaW.PrintMore Go.Proofs.Ytplbobmllflniaa.Q
theorem FnExactQueryMay : laws_FnExactQueryMay.Pure := by
  intro a b h1 h2
  unfold laws_FnExactQueryMay.f
  rw [specQueryMay_f, Option.bind_some, implQueryMay_f, Option.bind_some]
  simp

end Go.Proofs.Ytplbobmllflniaa.Pure
