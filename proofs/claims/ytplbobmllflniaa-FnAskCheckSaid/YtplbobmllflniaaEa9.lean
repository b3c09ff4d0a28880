import Derived.Test.YtplbobmllflniaaZ
import Derived.Test.YtplbobmllflniaaEa0
import Derived.Test.YtplbobmllflniaaEa4
import Derived.Test.YtplbobmllflniaaEa5
import Derived.Test.YtplbobmllflniaaEa8
namespace Go.Proofs.Ytplbobmllflniaa.Ea
open Go.RowKit Go.Proofs.YtplbobmllflniaaW.PrintWords Go.Proofs.YtplbobmllflniaaW.PrintLast Go.Proofs.YtplbobmllflniaaW.PrintMore Go.Proofs.Ytplbobmllflniaa.Z
attribute [local go_sem] max2_int min2_int max_two min_two max_three min_three max_four min_four
set_option linter.unusedVariables false
set_option linter.unusedSimpArgs false
mutual
def spec_QueryChance.l0 : Nat → Int → List Int → Int → List Int → Int → Option (Int)
 | 0, _, _, _, _, _ => none
 | k + 1, x0, x1, x5, x6, x7 => if x7 < 31 then (spec_QueryChance.l1 k x0 x1 x5 x6 x7 0) else (some x5)
def spec_QueryChance.l1 : Nat → Int → List Int → Int → List Int → Int → Int → Option (Int)
 | 0, _, _, _, _, _, _ => none
 | k + 1, x0, x1, x5, x6, x7, x8 => if x8 < 31 then ((spec_l13Ask.f k x0 x1 true x7 x8).bind fun t261 => ((spec_l13Decide.f k t261 x6).bind fun t264 => (if t264 = true then (spec_QueryChance.l1 k x0 x1 (wrap64 (x5 + 1)) x6 x7 (wrap64 (x8 + 1))) else (spec_QueryChance.l1 k x0 x1 x5 x6 x7 (wrap64 (x8 + 1)))))) else (spec_QueryChance.l0 k x0 x1 x5 x6 (wrap64 (x7 + 1)))
end
end Go.Proofs.Ytplbobmllflniaa.Ea
