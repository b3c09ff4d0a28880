import Derived.Test.YtlgbblaidohljaaGreatDoorZ
import Derived.Test.YtlgbblaidohljaaGreatDoorZc0
import Derived.Test.YtlgbblaidohljaaGreatDoorZc8
import Derived.Test.YtlgbblaidohljaaGreatDoorZc9
import Derived.Test.YtlgbblaidohljaaGreatDoorZc18
import Derived.Test.YtlgbblaidohljaaGreatDoorZc20
namespace Go.Proofs.YtlgbblaidohljaaGreatDoor.Zc
open Go.RowKit Go.Proofs.YtlgbblaidohljaaGreatDoorU.PrintWords Go.Proofs.YtlgbblaidohljaaGreatDoorU.PrintLast Go.Proofs.YtlgbblaidohljaaGreatDoorU.PrintMore Go.Proofs.YtlgbblaidohljaaGreatDoor.Z
attribute [local go_sem] max2_int min2_int max_two min_two max_three min_three max_four min_four
set_option linter.unusedVariables false
set_option linter.unusedSimpArgs false
mutual
def spec_QueryChance.l0 : Nat → Int → List Int → Int → List Int → Int → Option (Int)
 | 0, _, _, _, _, _ => none
 | k + 1, x0, x1, x5, x6, x7 => if x7 < 31 then (spec_QueryChance.l1 k x0 x1 x5 x6 x7 0) else (some x5)
def spec_QueryChance.l1 : Nat → Int → List Int → Int → List Int → Int → Int → Option (Int)
 | 0, _, _, _, _, _, _ => none
 | k + 1, x0, x1, x5, x6, x7, x8 => if x8 < 31 then ((spec_l13Ask.f k x0 x1 true x7 x8).bind fun t576 => ((spec_l13Decide.f k t576 x6).bind fun t579 => (if t579 = true then (spec_QueryChance.l1 k x0 x1 (wrap64 (x5 + 1)) x6 x7 (wrap64 (x8 + 1))) else (spec_QueryChance.l1 k x0 x1 x5 x6 x7 (wrap64 (x8 + 1)))))) else (spec_QueryChance.l0 k x0 x1 x5 x6 (wrap64 (x7 + 1)))
end
end Go.Proofs.YtlgbblaidohljaaGreatDoor.Zc
