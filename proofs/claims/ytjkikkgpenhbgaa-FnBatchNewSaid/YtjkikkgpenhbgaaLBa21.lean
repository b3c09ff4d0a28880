import Derived.Test.YtjkikkgpenhbgaaLBa0
import Derived.Test.YtjkikkgpenhbgaaLBa1
import Derived.Test.YtjkikkgpenhbgaaLBa4
import Derived.Test.YtjkikkgpenhbgaaLBa20
namespace Go.Proofs.Ytjkikkgpenhbgaa.Ba
open Go.RowKit Go.Proofs.YtjkikkgpenhbgaaW.PrintWords Go.Proofs.YtjkikkgpenhbgaaW.PrintLast Go.Proofs.YtjkikkgpenhbgaaW.PrintMore
attribute [local go_sem] max2_int min2_int max_two min_two zaJ zaK max_four min_four
set_option linter.unusedVariables false
set_option linter.unusedSimpArgs false
def spec_BatchOk.f (k : Nat) (a0_0 : Int) (a0_1 : Int) (l0_2 : List Int) (l0_3 : List Int) (a0_4 : Int) (a0_5 : Int) (l0_6 : List Int) (l0_7 : List Int) (a0_8 : Int) : Option (Bool) := (spec_ColOk.f k a0_0 a0_1 l0_2 l0_3).bind fun t422 => (if t422 = true then ((spec_ColOk.f k a0_4 a0_5 l0_6 l0_7).bind fun t423 => (if t423 = true then (if a0_0 = 1 then (if a0_4 = 2 then (if a0_1 = a0_5 then ((spec_l12Same.f k l0_3 l0_7).bind fun t424 => (if t424 = true then ((spec_l6In.f a0_8 1 9).bind fun t425 => (some t425)) else (some false))) else (some false)) else (some false)) else (some false)) else (some false))) else (some false))
def spec_l23Sums.f (k : Nat) (a0_0 : Int) (a0_1 : Int) (l0_2 : List Int) (l0_3 : List Int) (a0_4 : Int) (a0_5 : Int) (l0_6 : List Int) (l0_7 : List Int) (a0_8 : Int) : Option (List Int) := (spec_l3Sum.f k l0_2 l0_6).bind fun t427 => (some t427)
def spec_BatchTell.f (k : Nat) (a0_0 : Int) (a0_1 : Int) (l0_2 : List Int) (l0_3 : List Int) (a0_4 : Int) (a0_5 : Int) (l0_6 : List Int) (l0_7 : List Int) (a0_8 : Int) : Option (List Int × Int × Bool) := (spec_BatchOk.f k a0_0 a0_1 l0_2 l0_3 a0_4 a0_5 l0_6 l0_7 a0_8).bind fun t431 => (if t431 = true then (if (l0_3.length : Int) < a0_8 then (some ((([] : List Int)), 0, false)) else ((spec_l23Sums.f k a0_0 a0_1 l0_2 l0_3 a0_4 a0_5 l0_6 l0_7 a0_8).bind fun t435 => (some (t435, (l0_3.length : Int), true)))) else (some ((([] : List Int)), 0, false)))
end Go.Proofs.Ytjkikkgpenhbgaa.Ba
