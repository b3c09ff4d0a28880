import Derived.Test.YtlgbblaidohljaaGreatDoorZ
import Derived.Test.YtlgbblaidohljaaGreatDoorZc0
import Derived.Test.YtlgbblaidohljaaGreatDoorZc10
import Derived.Test.YtlgbblaidohljaaGreatDoorZc17
namespace Go.Proofs.YtlgbblaidohljaaGreatDoor.Zc
open Go.RowKit Go.Proofs.YtlgbblaidohljaaGreatDoorU.PrintWords Go.Proofs.YtlgbblaidohljaaGreatDoorU.PrintLast Go.Proofs.YtlgbblaidohljaaGreatDoorU.PrintMore Go.Proofs.YtlgbblaidohljaaGreatDoor.Z
attribute [local go_sem] max2_int min2_int max_two min_two max_three min_three max_four min_four
set_option linter.unusedVariables false
set_option linter.unusedSimpArgs false
def spec_l3Sum.l0 : Nat → List Int → List Int → List Int → Int → Option (List Int)
 | 0, _, _, _, _ => none
 | k + 1, x0, x1, x5, x6 => if x6 < (x0.length : Int) then (if 0 ≤ x6 then (if x6 < (x1.length : Int) then ((spec_FieldSum.f (rd x0 x6) (rd x1 x6)).bind fun t491 => (if x5.length < 17592186044416 then (spec_l3Sum.l0 k x0 x1 (x5 ++ [t491]) (wrap64 (x6 + 1))) else (none))) else (none)) else (none)) else (some x5)
def spec_l3Sum.f (k : Nat) (l0 : List Int) (l1 : List Int) : Option (List Int) := spec_l3Sum.l0 k l0 l1 (([] : List Int)) 0
def spec_l13Decide.f (k : Nat) (l0 : List Int) (l1 : List Int) : Option (Bool) := (spec_l3Sum.f k l0 l1).bind fun t495 => (if 0 < (t495.length : Int) then (if 1 < (t495.length : Int) then ((spec_FieldMul.f (rd t495 0) (rd t495 1)).bind fun t500 => (if 2 < (t495.length : Int) then (if t500 = (rd t495 2) then (if 3 < (t495.length : Int) then (some ((rd t495 3) == 0)) else (none)) else (some false)) else (none))) else (none)) else (none))
end Go.Proofs.YtlgbblaidohljaaGreatDoor.Zc
