/- The law FnMay returns true for every code: QueryMay is true for just the field elements beyond the points of the vector. -/
import Derived.Test.YtplbobmllflniaaEp1
import Derived.Test.YtplbobmllflniaaEp2
import Derived.Test.YtplbobmllflniaaQBase
import Derived.Test.YtplbobmllflniaaQDraw
import Derived.Test.YtplbobmllflniaaQMay
set_option linter.unusedVariables false
set_option linter.unusedSimpArgs false
namespace Go.Proofs.Ytplbobmllflniaa.Pure
open Go.RowKit Go.Proofs.Ytplbobmllflniaa.Ep Go.Proofs.YtplbobmllflniaaW.PrintWords Go.Proofs.YtplbobmllflniaaW.PrintLast Go.Proofs.YtplbobmllflniaaW.PrintMore Go.Proofs.Ytplbobmllflniaa.Q
theorem FnMay : laws_FnMay.Pure := by
  intro l _ _ hb
  refine ⟨1, ?_⟩
  unfold laws_FnMay.f
  by_cases h : (l.length : Int) > 1048576
  · rw [if_pos h]
  rw [if_neg h]
  obtain ⟨b, e, r0⟩ := l6Open_f l (bytes_of hb)
  unfold spec_DrawQueryMay.f
  rw [e, Option.bind_some]
  obtain ⟨kind, q, e1, r1, h0, h1⟩ := l91Kind_f r0 (by omega) 0
  simp only [Nat.zero_add] at e1
  simp only [e1, Option.bind_some]
  obtain ⟨v, e2, r2, g0, g1, _⟩ := pick_f r1 (by omega) 34 0
  simp only [Nat.zero_add] at e2
  simp only [e2, Option.bind_some, implQueryMay_f, specQueryMay_f, impl_TypeLen.f]
  generalize wrap64 (v - 1) = at_
  rw [if_neg (by simp)]
  have hl := tLen_le kind
  cases hk : kOk kind
  · rw [tLen_0 hk, if_neg (by omega)]; rfl
  · have := tLen_pos.2 hk
    rw [if_pos (by omega)]
    by_cases ha : at_ > tLen kind
    · rw [if_pos ha]
      simp
      rw [Bool.eq_iff_iff]; simp; omega
    · rw [if_neg ha]
      simp; omega

end Go.Proofs.Ytplbobmllflniaa.Pure
