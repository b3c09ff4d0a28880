/- The law FnExactQueryChance returns true for all arguments: QueryChance of the program and of the reference are one. -/
import Derived.Test.YtplbobmllflniaaEh11
import Derived.Test.YtplbobmllflniaaQChanceEh
import Derived.Test.YtplbobmllflniaaQIntsEh
import Derived.Test.YtplbobmllflniaaQToEh
set_option linter.unusedVariables false
set_option linter.unusedSimpArgs false
namespace Go.Proofs.Ytplbobmllflniaa.Pure
open Go.RowKit Go.Proofs.Ytplbobmllflniaa.Eh Go.Proofs.YtplbobmllflniaaW.PrintWords Go.Proofs.YtplbobmllflniaaW.PrintLast Go.Proofs.YtplbobmllflniaaW.PrintMore Go.Proofs.Ytplbobmllflniaa.Q
theorem FnExactQueryChance : laws_FnExactQueryChance.Pure := by
  intro kind l _ hl _ _
  refine ⟨l.length + 2300, ?_⟩
  unfold laws_FnExactQueryChance.f
  by_cases h : (l.length : Int) > 1048576
  · rw [if_pos h]
  obtain ⟨e1, e2⟩ := chance_both (l.length + 2300) kind l (by omega) (by omega)
  rw [if_neg h, toIntS_f _ l (by omega) (by omega), Option.bind_some, e1, Option.bind_some, Option.bind_some, e2, Option.bind_some, if_pos rfl, Option.bind_some, eqIntS_f _ l l (by omega) (by omega), Option.bind_some, if_pos (by simp)]

end Go.Proofs.Ytplbobmllflniaa.Pure
