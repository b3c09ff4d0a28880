import Derived.Test.YtplbobmllflniaaEi4
import Derived.Test.YtplbobmllflniaaEi5
import Derived.Test.YtplbobmllflniaaEi9
import Derived.Test.YtplbobmllflniaaQBaseEi
import Derived.Test.YtplbobmllflniaaQShareEi
set_option linter.unusedVariables false
set_option linter.unusedSimpArgs false
namespace Go.Proofs.Ytplbobmllflniaa.Q
open Go.RowKit Go.Proofs.Ytplbobmllflniaa.Ei Go.Proofs.YtplbobmllflniaaW.PrintWords Go.Proofs.YtplbobmllflniaaW.PrintLast Go.Proofs.YtplbobmllflniaaW.PrintMore
def vecOk (kind : Int) (s : List Int) : Bool := kOk kind && decide ((s.length : Int) = tLen kind) && s.all fOk
theorem l11Vec_f (k : Nat) (kind : Int) (s : List Int) (hl : s.length ≤ 1048576000) (hk : s.length < k) : spec_l11Vec.f k kind s = some (vecOk kind s) := by
  unfold spec_l11Vec.f vecOk
  rw [l11Kind_f, Option.bind_some]
  cases h : kOk kind
  · rfl
  · rw [if_pos rfl, shareOk_f k s hl hk, Option.bind_some]
    have ht := tLen_le kind
    cases h2 : s.all fOk
    · simp
    · by_cases h3 : (s.length : Int) ≤ 20
      · rw [if_pos (by simp [h3]), specTypeLen_f, Option.bind_some]
        simp only [Bool.true_and, Bool.and_true]
        rfl
      · rw [if_neg (by simp; omega)]
        have : ¬ ((s.length : Int) = tLen kind) := by omega
        simp [this]
end Go.Proofs.Ytplbobmllflniaa.Q
