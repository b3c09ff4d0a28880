/- Plain lemmas about the Lean functions of the program's printed text; each theorem states its own conditions. -/
import Derived.Test.YtplbobmllflniaaEz9
import Derived.Test.YtplbobmllflniaaQLoEz
set_option linter.unusedVariables false
set_option linter.unusedSimpArgs false
namespace Go.Proofs.Ytplbobmllflniaa.Q
open Go.RowKit Go.Proofs.Ytplbobmllflniaa.Ez Go.Proofs.YtplbobmllflniaaW.PrintWords Go.Proofs.YtplbobmllflniaaW.PrintLast Go.Proofs.YtplbobmllflniaaW.PrintMore
theorem loProof_f (k : Nat) (a b : Int) (s : List Int) (a' b' : Int) (s' : List Int) (hs : s.length ≤ 1048576000) (hk : s.length < k) :
    laws_loProof.f k a b s a' b' s' = some (decide (a = a') && decide (b = b') && decide (s = s')) := by
  unfold laws_loProof.f
  by_cases h1 : a = a'
  · by_cases h2 : b = b'
    · rw [if_pos h1, if_pos h2, loInts_f k s s' hs hk, Option.bind_some]
      simp [h1, h2]
    · rw [if_pos h1, if_neg h2]; simp [h2]
  · rw [if_neg h1]; simp [h1]

end Go.Proofs.Ytplbobmllflniaa.Q
