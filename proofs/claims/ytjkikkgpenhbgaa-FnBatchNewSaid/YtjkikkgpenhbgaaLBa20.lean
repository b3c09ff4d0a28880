import Derived.Test.YtjkikkgpenhbgaaLZ
import Derived.Test.YtjkikkgpenhbgaaLBa0
import Derived.Test.YtjkikkgpenhbgaaLBa1
import Derived.Test.YtjkikkgpenhbgaaLBa3
import Derived.Test.YtjkikkgpenhbgaaLBa12
namespace Go.Proofs.Ytjkikkgpenhbgaa.Ba
open Go.RowKit Go.Proofs.YtjkikkgpenhbgaaW.PrintWords Go.Proofs.YtjkikkgpenhbgaaW.PrintLast Go.Proofs.YtjkikkgpenhbgaaW.PrintMore Go.Proofs.Ytjkikkgpenhbgaa.Z
attribute [local go_sem] max2_int min2_int max_two min_two zaJ zaK max_four min_four
set_option linter.unusedVariables false
set_option linter.unusedSimpArgs false
def spec_l22Has.l0 : Nat → List Int → Int → Int → Option (Bool)
 | 0, _, _, _ => none
 | k + 1, x0, x1, x5 => if x5 < (x0.length : Int) then (if 0 ≤ x5 then (if (rd x0 x5) = x1 then (some true) else (spec_l22Has.l0 k x0 x1 (wrap64 (x5 + 1)))) else (none)) else (some false)
def spec_l22Has.f (k : Nat) (l0 : List Int) (a1 : Int) : Option (Bool) := spec_l22Has.l0 k l0 a1 0
def spec_l11Vec.f (k : Nat) (a0 : Int) (l1 : List Int) : Option (Bool) := (spec_l11Kind.f a0).bind fun t408 => (if t408 = true then ((spec_ShareOk.f k l1).bind fun t409 => (if t409 = true then ((spec_TypeLen.f a0).bind fun t410 => (some ((l1.length : Int) == t410))) else (some false))) else (some false))
def spec_ColOk.l0 : Nat → Int → Int → Int → List Int → List Int → Option (Bool)
 | 0, _, _, _, _, _ => none
 | k + 1, x3, x412000, x412001, x412002, x412003 => if x3 < (x412003.length : Int) then (if 0 ≤ x3 then ((spec_l6In.f (rd x412003 x3) 1 99).bind fun t415 => (if t415 = true then (if x3 ≤ (x412003.length : Int) then ((spec_l22Has.f k (x412003.take (x3 : Int).toNat) (rd x412003 x3)).bind fun t418 => (if t418 = true then (some false) else (spec_ColOk.l0 k (wrap64 (x3 + 1)) x412000 x412001 x412002 x412003))) else (none)) else (some false))) else (none)) else ((spec_l6In.f x412000 1 2).bind fun t412 => (if t412 = true then ((spec_l11Vec.f k x412001 x412002).bind fun t413 => (if t413 = true then (some (decide ((x412003.length : Int) ≤ 9))) else (some false))) else (some false)))
def spec_ColOk.f (k : Nat) (a0_0 : Int) (a0_1 : Int) (l0_2 : List Int) (l0_3 : List Int) : Option (Bool) := spec_ColOk.l0 k 0 a0_0 a0_1 l0_2 l0_3
def spec_l12Same.l0 : Nat → List Int → List Int → Int → Option (Bool)
 | 0, _, _, _ => none
 | k + 1, x0, x1, x5 => if x5 < (x0.length : Int) then (if 0 ≤ x5 then (if x5 < (x1.length : Int) then (if (rd x0 x5) = (rd x1 x5) then (spec_l12Same.l0 k x0 x1 (wrap64 (x5 + 1))) else (some false)) else (none)) else (none)) else (some true)
def spec_l12Same.f (k : Nat) (l0 : List Int) (l1 : List Int) : Option (Bool) := if (l0.length : Int) = (l1.length : Int) then (spec_l12Same.l0 k l0 l1 0) else (some false)
end Go.Proofs.Ytjkikkgpenhbgaa.Ba
