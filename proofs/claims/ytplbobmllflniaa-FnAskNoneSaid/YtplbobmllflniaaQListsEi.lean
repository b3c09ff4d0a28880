import Derived.KernelRfl
import Derived.Test.YtplbobmllflniaaEi1
import Derived.Test.YtplbobmllflniaaEi5
set_option linter.unusedVariables false
set_option linter.unusedSimpArgs false
namespace Go.Proofs.Ytplbobmllflniaa.Q
open Go.RowKit Go.Proofs.Ytplbobmllflniaa.Ei Go.Proofs.YtplbobmllflniaaW.PrintWords Go.Proofs.YtplbobmllflniaaW.PrintLast Go.Proofs.YtplbobmllflniaaW.PrintMore
theorem list2 (l : List Int) (h : l.length = 2) : ∃ a b, l = [a, b] := by
  match l, h with
  | [a, b], _ => exact ⟨a, b, rfl⟩
theorem list4' (l : List Int) (h : l.length = 4) : ∃ a b c d, l = [a, b, c, d] := by
  match l, h with
  | [a, b, c, d], _ => exact ⟨a, b, c, d, rfl⟩
theorem list5 (l : List Int) (h : l.length = 5) : ∃ a b c d e, l = [a, b, c, d, e] := by
  match l, h with
  | [a, b, c, d, e], _ => exact ⟨a, b, c, d, e, rfl⟩
theorem ahead_f (u : Int) (v : List Int) (h : v.length ≤ 1000) : impl_ahead.f u v = some (u :: v) := by
  unfold impl_ahead.f
  rw [Option.bind_some, if_pos (by simp; omega)]
  rfl
theorem first_f (u : Int) (v : List Int) (h : v.length ≤ 1000) : spec_l12First.f v u = some (u :: v) := ahead_f u v h
end Go.Proofs.Ytplbobmllflniaa.Q
