/- The law FnExactColHas returns true for all arguments: ColHas of the program and of the reference are one, and it leaves its argument alone. -/
import Derived.Test.YtplbobmllflniaaEc4
import Derived.Test.YtplbobmllflniaaEc8
import Derived.Test.YtplbobmllflniaaEc9
import Derived.Test.YtplbobmllflniaaQColEc
import Derived.Test.YtplbobmllflniaaQColOkEc
set_option linter.unusedVariables false
set_option linter.unusedSimpArgs false
namespace Go.Proofs.Ytplbobmllflniaa.Pure
open Go.RowKit Go.Proofs.Ytplbobmllflniaa.Ec Go.Proofs.YtplbobmllflniaaW.PrintWords Go.Proofs.YtplbobmllflniaaW.PrintLast Go.Proofs.YtplbobmllflniaaW.PrintMore Go.Proofs.Ytplbobmllflniaa.Q
theorem FnExactColHas : ∀ (a0_0 a0_1 : Int) (l0_2 l0_3 : List Int) (a1 : Int), (Lit.int .i64 a0_0).wf = true → (Lit.int .i64 a0_1).wf = true → l0_2.length ≤ maxLen → (∀ x ∈ l0_2, (Lit.int .i64 x).wf = true) → l0_3.length ≤ maxLen → (∀ x ∈ l0_3, (Lit.int .i64 x).wf = true) → (Lit.int .i64 a1).wf = true → ∃ k, laws_FnExactColHas.f k a0_0 a0_1 l0_2 l0_3 a1 = some true := by
  intro a b s i n _ _ hs _ hi hwi hn
  refine ⟨2 * i.length + s.length + 2, ?_⟩
  unfold laws_FnExactColHas.f
  rw [szCol_f a b s i _ (by omega) (by omega) hs hi, Option.bind_some]
  by_cases h : (1048576 : Int) - (s.length : Int) - (i.length : Int) < 0
  · rw [if_pos (by rw [if_pos h]; omega)]
  · rw [if_neg (by rw [if_neg h]; omega), toCol_f _ a b s i (by omega) (by omega) (by omega) (by omega), Option.bind_some]
    simp only
    unfold spec_ColHas.f impl_ColHas.f
    have hai : allWf i = true := List.all_eq_true.2 hwi
    have e : (if (allWf i && decide (i.length ≤ 1048576000) && (Lit.int .i64 n).wf) = true then some (i.contains n) else none) = some (i.contains n) := if_pos (by rw [hai, hn]; simp; omega)
    rw [specColOk_f _ a b s i (by omega) (by omega) (by omega) (by omega)]
    simp only [Option.bind_some]
    rw [implColOk_f a b s i (by omega) hai]
    simp only [Option.bind_some]
    rw [l22Has_f _ i n (by omega) (by omega), e, eqCol_f _ a b s i _ _ _ _ (by omega) (by omega) (by omega) (by omega)]
    cases colOk a b s i <;> simp

end Go.Proofs.Ytplbobmllflniaa.Pure
