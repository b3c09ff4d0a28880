/- The law FnExactColNew returns true for all arguments: ColNew of the program and of the reference are one, and what it hands back is new memory. -/
import Derived.Test.YtplbobmllflniaaEc2
import Derived.Test.YtplbobmllflniaaQColEc
set_option linter.unusedVariables false
set_option linter.unusedSimpArgs false
namespace Go.Proofs.Ytplbobmllflniaa.Pure
open Go.RowKit Go.Proofs.Ytplbobmllflniaa.Ec Go.Proofs.YtplbobmllflniaaW.PrintWords Go.Proofs.YtplbobmllflniaaW.PrintLast Go.Proofs.YtplbobmllflniaaW.PrintMore Go.Proofs.Ytplbobmllflniaa.Q
theorem FnExactColNew : laws_FnExactColNew.Pure := by
  intro a b _ _
  refine ⟨20, ?_⟩
  unfold laws_FnExactColNew.f
  rw [specColNew_f, Option.bind_some, implColNew_f, Option.bind_some]
  have hsh := colNew_short a b
  have hi := implColNew_f a b
  generalize colNew a b = c at hsh hi ⊢
  obtain ⟨c1, c2, s, i, ok⟩ := c
  simp only at hsh ⊢
  rw [eqCol_f _ _ _ _ _ _ _ _ _ (by omega) (by omega) (by omega) (by omega), Option.bind_some, if_pos (by simp)]
  simp only [bne_self_eq_false]
  simp only [laws_FnExactColNew.j0]
  rw [if_neg (by simp), markCol_f _ _ _ _ _ 1 (by omega) (by omega) (by omega) (by omega) (by omega) (by omega), Option.bind_some]
  simp only
  rw [heldCol_f _ _ _ 1 _ _ (by omega) (by omega) (by omega) (by omega) (by omega) (by omega), Option.bind_some, if_neg (by omega), if_pos rfl, hi, Option.bind_some]
  simp only
  rw [eqCol_f _ _ _ _ _ _ _ _ _ (by omega) (by omega) (by omega) (by omega), Option.bind_some, if_pos (by simp)]
  simp only [bne_self_eq_false, laws_FnExactColNew.j1]
  rw [if_neg (by simp), heldCol_f _ _ _ 1 _ _ (by omega) (by omega) (by omega) (by omega) (by omega) (by omega), Option.bind_some, if_neg (by omega), if_pos rfl]

end Go.Proofs.Ytplbobmllflniaa.Pure
