/- The law FnExactColOk returns true for all arguments: ColOk of the program and of the reference are one, and it leaves its argument alone. -/
import Derived.Test.YtplbobmllflniaaEc8
import Derived.Test.YtplbobmllflniaaQColEc
import Derived.Test.YtplbobmllflniaaQColOkEc
set_option linter.unusedVariables false
set_option linter.unusedSimpArgs false
namespace Go.Proofs.Ytplbobmllflniaa.Pure
open Go.RowKit Go.Proofs.Ytplbobmllflniaa.Ec Go.Proofs.YtplbobmllflniaaW.PrintWords Go.Proofs.YtplbobmllflniaaW.PrintLast Go.Proofs.YtplbobmllflniaaW.PrintMore Go.Proofs.Ytplbobmllflniaa.Q
theorem FnExactColOk : ∀ (a0_0 a0_1 : Int) (l0_2 l0_3 : List Int), (Lit.int .i64 a0_0).wf = true → (Lit.int .i64 a0_1).wf = true → l0_2.length ≤ maxLen → (∀ x ∈ l0_2, (Lit.int .i64 x).wf = true) → l0_3.length ≤ maxLen → (∀ x ∈ l0_3, (Lit.int .i64 x).wf = true) → ∃ k, laws_FnExactColOk.f k a0_0 a0_1 l0_2 l0_3 = some true := by
  intro a b s i _ _ hs _ hi hwi
  refine ⟨2 * i.length + s.length + 2, ?_⟩
  unfold laws_FnExactColOk.f
  rw [szCol_f a b s i _ (by omega) (by omega) hs hi, Option.bind_some]
  by_cases h : (1048576 : Int) - (s.length : Int) - (i.length : Int) < 0
  · rw [if_pos (by rw [if_pos h]; omega)]
  · rw [if_neg (by rw [if_neg h]; omega), toCol_f _ a b s i (by omega) (by omega) (by omega) (by omega), Option.bind_some]
    simp only
    rw [specColOk_f _ a b s i (by omega) (by omega) (by omega) (by omega)]
    simp only [Option.bind_some]
    rw [implColOk_f a b s i (by omega) (List.all_eq_true.2 hwi)]
    simp only [Option.bind_some]
    rw [if_neg (by simp), eqCol_f _ a b s i _ _ _ _ (by omega) (by omega) (by omega) (by omega), Option.bind_some, if_pos (by simp)]

end Go.Proofs.Ytplbobmllflniaa.Pure
