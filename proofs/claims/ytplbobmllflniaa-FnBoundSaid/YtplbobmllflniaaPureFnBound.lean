/- The law FnBound returns true for every code: QueryBound is 2*TypeLen*FieldSize. -/
import Derived.Test.YtplbobmllflniaaEp1
import Derived.Test.YtplbobmllflniaaEp2
import Derived.Test.YtplbobmllflniaaQBase
import Derived.Test.YtplbobmllflniaaQDraw
import Derived.Test.YtplbobmllflniaaQMay
set_option linter.unusedVariables false
set_option linter.unusedSimpArgs false
namespace Go.Proofs.Ytplbobmllflniaa.Pure
open Go.RowKit Go.Proofs.Ytplbobmllflniaa.Ep Go.Proofs.YtplbobmllflniaaW.PrintWords Go.Proofs.YtplbobmllflniaaW.PrintLast Go.Proofs.YtplbobmllflniaaW.PrintMore Go.Proofs.Ytplbobmllflniaa.Q
theorem FnBound : laws_FnBound.Pure := by
  intro l _ _ hb
  refine ⟨1, ?_⟩
  unfold laws_FnBound.f
  by_cases h : (l.length : Int) > 1048576
  · rw [if_pos h]
  rw [if_neg h]
  obtain ⟨b, e, r0⟩ := l6Open_f l (bytes_of hb)
  unfold spec_DrawQueryBound.f
  rw [e, Option.bind_some]
  obtain ⟨v, e1, r1, h0, h1, _⟩ := pick_f r0 (by omega) 6 0
  simp only [Nat.zero_add] at e1
  rw [e1]
  simp only [Option.bind_some, implQueryBound_f, specQueryBound_f, if_true, impl_TypeLen.f]
  have hl := tLen_le (wrap64 (v - 1))
  generalize tLen (wrap64 (v - 1)) = z at hl ⊢
  rw [w64 (a := 2 * z) (by omega) (by omega), w64 (by omega) (by omega)]
  simp

end Go.Proofs.Ytplbobmllflniaa.Pure
