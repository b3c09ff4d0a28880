import Derived.Test.YtplbobmllflniaaEi2
import Derived.Test.YtplbobmllflniaaEi5
import Derived.Test.YtplbobmllflniaaQBaseEi
import Derived.Test.YtplbobmllflniaaQShareEi
set_option linter.unusedVariables false
set_option linter.unusedSimpArgs false
namespace Go.Proofs.Ytplbobmllflniaa.Q
open Go.RowKit Go.Proofs.Ytplbobmllflniaa.Ei Go.Proofs.YtplbobmllflniaaW.PrintWords Go.Proofs.YtplbobmllflniaaW.PrintLast Go.Proofs.YtplbobmllflniaaW.PrintMore
theorem fieldDif_f (a b : Int) (ha : fOk a = true) (hb : fOk b = true) : spec_FieldDif.f a b = some ((a - b) % 31) := by
  unfold spec_FieldDif.f
  have h1 := (fOk_iff a).1 ha
  have h2 := (fOk_iff b).1 hb
  rw [fieldOk_f, Option.bind_some, if_pos ha, fieldOk_f, Option.bind_some, if_pos hb, w64 (a := a + 31) (by omega) (by omega), w64 (by omega) (by omega), Int.tmod_eq_emod_of_nonneg (by omega)]
  congr 1; omega
end Go.Proofs.Ytplbobmllflniaa.Q
