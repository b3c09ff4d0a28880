/- Plain lemmas about the Lean functions of the program's printed text; each theorem states its own conditions. -/
import Derived.Test.YtplbobmllflniaaEz6
import Derived.Test.YtplbobmllflniaaQListEz
set_option linter.unusedVariables false
set_option linter.unusedSimpArgs false
namespace Go.Proofs.Ytplbobmllflniaa.Q
open Go.RowKit Go.Proofs.Ytplbobmllflniaa.Ez Go.Proofs.YtplbobmllflniaaW.PrintWords Go.Proofs.YtplbobmllflniaaW.PrintLast Go.Proofs.YtplbobmllflniaaW.PrintMore
theorem eqProof_f (k : Nat) (a b : Int) (s : List Int) (a' b' : Int) (s' : List Int) (hs : s.length ≤ 1048576000) (hk : s.length < k) :
    laws_eqProof.f k a b s a' b' s' = some (decide (a = a') && decide (b = b') && decide (s = s')) := by
  unfold laws_eqProof.f
  by_cases h1 : a = a'
  · by_cases h2 : b = b'
    · rw [if_pos h1, if_pos h2, eqIntS_f k s s' hs hk, Option.bind_some]
      by_cases h3 : s = s' <;> simp [h1, h2, h3]
    · rw [if_pos h1, if_neg h2]; simp [h2]
  · rw [if_neg h1]; simp [h1]
theorem markProof_f (k : Nat) (a b : Int) (s : List Int) (m : Int) (hm : 0 ≤ m) (hm2 : m ≤ 1000000000) (hs : s.length ≤ 1048576000) (hk : s.length < k) : laws_markProof.f k a b s m = some (m + s.length, marks m s.length) := by
  unfold laws_markProof.f
  rw [markIntS_f k s m (by omega) (by omega) hs hk, Option.bind_some]
theorem heldProof_f (k : Nat) (a b : Int) (m : Int) (n : Nat) (hm : 0 ≤ m) (hm2 : m ≤ 1000000000) (hs : n ≤ 1048576000) (hk : n < k) : laws_heldProof.f k a b (marks m n) m = some (m + n) := by
  unfold laws_heldProof.f
  rw [heldIntS_f k n m (by omega) (by omega) hs hk, Option.bind_some, if_neg (by omega)]

end Go.Proofs.Ytplbobmllflniaa.Q
