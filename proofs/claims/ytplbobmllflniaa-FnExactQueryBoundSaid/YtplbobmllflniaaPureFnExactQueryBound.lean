/- The law FnExactQueryBound returns true for every argument: QueryBound of the program and of the reference are one. -/
import Derived.Test.YtplbobmllflniaaEp1
import Derived.Test.YtplbobmllflniaaQMay
set_option linter.unusedVariables false
set_option linter.unusedSimpArgs false
namespace Go.Proofs.Ytplbobmllflniaa.Pure
open Go.RowKit Go.Proofs.Ytplbobmllflniaa.Ep Go.Proofs.YtplbobmllflniaaW.PrintWords Go.Proofs.YtplbobmllflniaaW.PrintLast Go.Proofs.YtplbobmllflniaaW.PrintMore Go.Proofs.Ytplbobmllflniaa.Q
theorem FnExactQueryBound : laws_FnExactQueryBound.Pure := by
  intro a h
  unfold laws_FnExactQueryBound.f
  rw [specQueryBound_f, Option.bind_some, implQueryBound_f, Option.bind_some, if_pos rfl]

end Go.Proofs.Ytplbobmllflniaa.Pure
