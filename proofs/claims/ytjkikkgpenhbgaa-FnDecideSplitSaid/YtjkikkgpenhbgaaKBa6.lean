import Derived.Test.YtjkikkgpenhbgaaKBa0
namespace Go.Proofs.Ytjkikkgpenhbgaa.Ba
open Go.RowKit Go.Proofs.YtjkikkgpenhbgaaW.PrintWords Go.Proofs.YtjkikkgpenhbgaaW.PrintLast Go.Proofs.YtjkikkgpenhbgaaW.PrintMore
attribute [local go_sem] max2_int min2_int max_two min_two max_three min_three max_four min_four
set_option linter.unusedVariables false
set_option linter.unusedSimpArgs false
def laws_loNum.f (a0 : Int) : Option (Int) := some (Int.tmod a0 31)
set_option maxHeartbeats 8000000 in
set_option maxRecDepth 100000 in
theorem laws_loNum.calls (a0 : Int) (r : Int) (w : World) (h : laws_loNum.f a0 = some r) :
  Calls Tru.prog 43 #[.int .i64 a0] w fun e w' => e = .returned (.int .i64 r) ∧ Drawn0 w w' := by
 have H : (some (Int.tmod a0 31)) = some r := h
 clear h
 obtain rfl := Option.some.inj H
 go_enter Tru.func43, Try.ntmps43
 go_wp2
 go_ret
 exact ⟨by first | rfl | (simp; done) | (simp [*]; done), by repeat (first | exact Drawn0.refl _ | apply Drawn0.step)⟩
end Go.Proofs.Ytjkikkgpenhbgaa.Ba
