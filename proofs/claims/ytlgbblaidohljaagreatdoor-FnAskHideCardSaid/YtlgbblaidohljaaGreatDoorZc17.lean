import Derived.Test.YtlgbblaidohljaaGreatDoorZ
import Derived.Test.YtlgbblaidohljaaGreatDoorZc0
import Derived.Test.YtlgbblaidohljaaGreatDoorZc1
import Derived.Test.YtlgbblaidohljaaGreatDoorZc9
import Derived.Test.YtlgbblaidohljaaGreatDoorZc15
import Derived.Test.YtlgbblaidohljaaGreatDoorZc16
namespace Go.Proofs.YtlgbblaidohljaaGreatDoor.Zc
open Go.RowKit Go.Proofs.YtlgbblaidohljaaGreatDoorU.PrintWords Go.Proofs.YtlgbblaidohljaaGreatDoorU.PrintLast Go.Proofs.YtlgbblaidohljaaGreatDoorU.PrintMore Go.Proofs.YtlgbblaidohljaaGreatDoor.Z
attribute [local go_sem] max2_int min2_int max_two min_two max_three min_three max_four min_four
set_option linter.unusedVariables false
set_option linter.unusedSimpArgs false
mutual
def impl_QueryChance.l0 : Nat → Int → List Int → Int → Int → Option (Int)
 | 0, _, _, _, _ => none
 | k + 1, x0, x1, x5, x6 => if x6 < 31 then (impl_QueryChance.l1 k x0 x1 x5 x6 0) else (some x5)
def impl_QueryChance.l1 : Nat → Int → List Int → Int → Int → Int → Option (Int)
 | 0, _, _, _, _, _ => none
 | k + 1, x0, x1, x5, x6, x21 => if x21 < 31 then ((impl_ask.f k x0 x1 true x6 x21).bind fun t477 => (if 4 ≤ 35184372088832 then ((impl_QueryDecide.f t477 (List.replicate 4 0)).bind fun t483 => (if t483 = true then (impl_QueryChance.l1 k x0 x1 (wrap64 (x5 + 1)) x6 (wrap64 (x21 + 1))) else (impl_QueryChance.l1 k x0 x1 x5 x6 (wrap64 (x21 + 1))))) else (none))) else (impl_QueryChance.l0 k x0 x1 x5 (wrap64 (x6 + 1)))
end
def spec_FieldSum.f (a0 : Int) (a1 : Int) : Option (Int) := (spec_FieldOk.f a0).bind fun t484 => (if t484 = true then ((spec_FieldOk.f a1).bind fun t485 => (if t485 = true then (some (Int.tmod (wrap64 (a0 + a1)) 31)) else (some 0))) else (some 0))
end Go.Proofs.YtlgbblaidohljaaGreatDoor.Zc
