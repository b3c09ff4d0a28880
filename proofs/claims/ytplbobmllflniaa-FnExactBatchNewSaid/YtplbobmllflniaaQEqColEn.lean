/- Plain lemmas about the Lean functions of the program's printed text; each theorem states its own conditions. -/
import Derived.Test.YtplbobmllflniaaEn1
import Derived.Test.YtplbobmllflniaaQIntsEn
set_option linter.unusedVariables false
set_option linter.unusedSimpArgs false
namespace Go.Proofs.Ytplbobmllflniaa.Q
open Go.RowKit Go.Proofs.Ytplbobmllflniaa.En Go.Proofs.YtplbobmllflniaaW.PrintWords Go.Proofs.YtplbobmllflniaaW.PrintLast Go.Proofs.YtplbobmllflniaaW.PrintMore
theorem eqCol_f (k : Nat) (a b : Int) (s i : List Int) (a' b' : Int) (s' i' : List Int) (hs : s.length ≤ 1048576000) (hi : i.length ≤ 1048576000) (hk : s.length < k) (hk2 : i.length < k) :
    laws_eqCol.f k a b s i a' b' s' i' = some (decide (a = a') && decide (b = b') && decide (s = s') && decide (i = i')) := by
  unfold laws_eqCol.f
  by_cases h1 : a = a'
  · by_cases h2 : b = b'
    · rw [if_pos h1, if_pos h2, eqIntS_f k s s' hs hk, Option.bind_some]
      by_cases h3 : s = s'
      · rw [if_pos (by simp [h3]), eqIntS_f k i i' hi hk2, Option.bind_some]
        by_cases h4 : i = i' <;> simp [h1, h2, h3, h4]
      · rw [if_neg (by simp [h3])]; simp [h3]
    · rw [if_pos h1, if_neg h2]; simp [h2]
  · rw [if_neg h1]; simp [h1]

end Go.Proofs.Ytplbobmllflniaa.Q
