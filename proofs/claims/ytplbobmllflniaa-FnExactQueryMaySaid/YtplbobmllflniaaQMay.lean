/- Plain lemmas about the Lean functions of the program's printed text; each theorem states its own conditions. -/
import Derived.Test.YtplbobmllflniaaEp1
import Derived.Test.YtplbobmllflniaaQBase
set_option linter.unusedVariables false
set_option linter.unusedSimpArgs false
namespace Go.Proofs.Ytplbobmllflniaa.Q
open Go.RowKit Go.Proofs.Ytplbobmllflniaa.Ep Go.Proofs.YtplbobmllflniaaW.PrintWords Go.Proofs.YtplbobmllflniaaW.PrintLast Go.Proofs.YtplbobmllflniaaW.PrintMore
theorem specQueryBound_f (a : Int) : spec_QueryBound.f a = some (2 * tLen a * 31) := by
  unfold spec_QueryBound.f
  rw [l11Kind_f, Option.bind_some, specTypeLen_f, Option.bind_some]
  have := tLen_le a
  cases h : kOk a
  · rw [if_neg (by simp), tLen_0 h]; rfl
  · rw [if_pos rfl, w64 (a := 2 * tLen a) (by omega) (by omega), w64 (by omega) (by omega)]
theorem implQueryBound_f (a : Int) : impl_QueryBound.f a = some (2 * tLen a * 31) := by
  unfold impl_QueryBound.f impl_TypeLen.f
  have := tLen_le a
  rw [Option.bind_some, w64 (a := 2 * tLen a) (by omega) (by omega), w64 (by omega) (by omega)]
theorem specQueryMay_f (a at_ : Int) : spec_QueryMay.f a at_ = some (kOk a && (decide (tLen a + 1 ≤ at_) && decide (at_ ≤ 30))) := by
  unfold spec_QueryMay.f
  rw [l11Kind_f, Option.bind_some]
  have := tLen_le a
  cases h : kOk a
  · rw [if_neg (by simp)]; rfl
  · rw [if_pos rfl, specTypeLen_f, Option.bind_some, w64 (by omega) (by omega), l6In_f]; rfl
theorem implQueryMay_f (a at_ : Int) : impl_QueryMay.f a at_ = some (kOk a && (decide (tLen a + 1 ≤ at_) && decide (at_ ≤ 30))) := by
  unfold impl_QueryMay.f impl_kindOk.f impl_TypeLen.f
  rw [Option.bind_some]
  have := tLen_le a
  cases h : kOk a
  · rw [if_neg (by simp)]; rfl
  · rw [if_pos rfl, Option.bind_some, w64 (by omega) (by omega), within_f]; rfl


end Go.Proofs.Ytplbobmllflniaa.Q
