/- The law FnExactQueryDecide returns true for all arguments: QueryDecide of the program and of the reference are one. -/
import Derived.Test.YtplbobmllflniaaEp3
import Derived.Test.YtplbobmllflniaaEp4
import Derived.Test.YtplbobmllflniaaQDecide
import Derived.Test.YtplbobmllflniaaQList
set_option linter.unusedVariables false
set_option linter.unusedSimpArgs false
namespace Go.Proofs.Ytplbobmllflniaa.Pure
open Go.RowKit Go.Proofs.Ytplbobmllflniaa.Ep Go.Proofs.YtplbobmllflniaaW.PrintWords Go.Proofs.YtplbobmllflniaaW.PrintLast Go.Proofs.YtplbobmllflniaaW.PrintMore Go.Proofs.Ytplbobmllflniaa.Q
theorem FnExactQueryDecide : laws_FnExactQueryDecide.Pure := by
  intro a b _ ha _ _ hb _
  by_cases h1 : (a.length : Int) > 1048576
  · refine ⟨0, ?_⟩; unfold laws_FnExactQueryDecide.f; rw [if_pos h1]
  by_cases h2 : (b.length : Int) > 1048576
  · refine ⟨0, ?_⟩; unfold laws_FnExactQueryDecide.f; rw [if_neg h1, if_pos h2]
  refine ⟨a.length + b.length + 5, ?_⟩
  unfold laws_FnExactQueryDecide.f
  have e1 := toIntS_f (a.length + b.length + 5) a (by omega) (by omega)
  have e2 := toIntS_f (a.length + b.length + 5) b (by omega) (by omega)
  have e3 := eqIntS_f (a.length + b.length + 5) a a (by omega) (by omega)
  have e4 := eqIntS_f (a.length + b.length + 5) b b (by omega) (by omega)
  rw [if_neg h1, if_neg h2, e1, Option.bind_some, e2, Option.bind_some, specQueryDecide_f _ a b (by omega) (by omega) (by omega) (by omega) (by omega)]
  unfold impl_QueryDecide.f
  simp [e3, e4]

end Go.Proofs.Ytplbobmllflniaa.Pure
