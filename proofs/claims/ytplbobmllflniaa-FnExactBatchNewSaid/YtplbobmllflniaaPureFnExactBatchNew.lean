/- The law FnExactBatchNew returns true for all arguments: BatchNew of the program and of the reference are one, and what it hands back is new memory. -/
import Derived.Test.YtplbobmllflniaaEn3
import Derived.Test.YtplbobmllflniaaQBatchEn
set_option linter.unusedVariables false
set_option linter.unusedSimpArgs false
namespace Go.Proofs.Ytplbobmllflniaa.Pure
open Go.RowKit Go.Proofs.Ytplbobmllflniaa.En Go.Proofs.YtplbobmllflniaaW.PrintWords Go.Proofs.YtplbobmllflniaaW.PrintLast Go.Proofs.YtplbobmllflniaaW.PrintMore Go.Proofs.Ytplbobmllflniaa.Q
theorem FnExactBatchNew : laws_FnExactBatchNew.Pure := by
  intro a b _ _
  refine ⟨40, ?_⟩
  unfold laws_FnExactBatchNew.f
  rw [specBatchNew_f, Option.bind_some, implBatchNew_f, Option.bind_some]
  obtain ⟨h1, h2, h3, h4⟩ := batchNew_short a b
  have hi := implBatchNew_f a b
  generalize batchNew a b = c at h1 h2 h3 h4 hi ⊢
  obtain ⟨a1, b1, s, i, c1, d1, t, j, n, ok⟩ := c
  simp only at h1 h2 h3 h4 ⊢
  rw [eqBatch_f _ _ _ _ _ _ _ _ _ _ _ _ _ _ _ _ _ _ _ (by omega) (by omega) (by omega) (by omega) (by omega) (by omega) (by omega) (by omega), Option.bind_some, if_pos (by simp)]
  simp only [bne_self_eq_false]
  simp only [laws_FnExactBatchNew.j0]
  rw [if_neg (by simp), markBatch_f _ _ _ _ _ _ _ _ _ _ 1 (by omega) (by omega) (by omega) (by omega) (by omega) (by omega) (by omega) (by omega) (by omega) (by omega), Option.bind_some]
  simp only
  rw [heldBatch_f _ _ _ _ _ _ _ _ _ _ 1 (by omega) (by omega) (by omega) (by omega) (by omega) (by omega) (by omega) (by omega) (by omega) (by omega), Option.bind_some, if_neg (by omega), if_pos rfl, hi, Option.bind_some]
  simp only
  rw [eqBatch_f _ _ _ _ _ _ _ _ _ _ _ _ _ _ _ _ _ _ _ (by omega) (by omega) (by omega) (by omega) (by omega) (by omega) (by omega) (by omega), Option.bind_some, if_pos (by simp)]
  simp only [bne_self_eq_false, laws_FnExactBatchNew.j1]
  rw [if_neg (by simp), heldBatch_f _ _ _ _ _ _ _ _ _ _ 1 (by omega) (by omega) (by omega) (by omega) (by omega) (by omega) (by omega) (by omega) (by omega) (by omega), Option.bind_some, if_neg (by omega), if_pos rfl]

end Go.Proofs.Ytplbobmllflniaa.Pure
