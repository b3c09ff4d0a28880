import Derived.Test.YtahbooeioigbgaaDoorDp3
import Derived.Test.YtahbooeioigbgaaDoorDp5
import Derived.Test.YtahbooeioigbgaaDoorQPartDp
set_option linter.unusedVariables false
set_option linter.unusedSimpArgs false
namespace Go.Proofs.YtahbooeioigbgaaDoor.Pure
open Go.RowKit Go.Proofs.YtahbooeioigbgaaDoor.Dp Go.Proofs.YtahbooeioigbgaaDoorV.PrintWords Go.Proofs.YtahbooeioigbgaaDoorV.PrintLast Go.Proofs.YtahbooeioigbgaaDoorV.PrintMore Go.Proofs.YtahbooeioigbgaaDoor.Q
theorem FnExactPartOk : ∀ (a0_0 a0_1 a0_2 : Int) (l0_3 : List Int), (Lit.int .i64 a0_0).wf = true → (Lit.int .i64 a0_1).wf = true → (Lit.int .i64 a0_2).wf = true → l0_3.length ≤ maxLen → (∀ x ∈ l0_3, (Lit.int .i64 x).wf = true) → ∃ k, laws_FnExactPartOk.f k a0_0 a0_1 a0_2 l0_3 = some true := by
  intro a b c l _ _ _ hm _
  refine ⟨l.length + 10, ?_⟩
  unfold laws_FnExactPartOk.f
  rw [szPart_f a b c l 1048576 (by omega) (by omega) hm, Option.bind_some]
  by_cases h : (1048576 : Int) - (l.length : Int) < 0
  · rw [if_pos h, if_pos (by omega)]
  rw [if_neg h, if_neg h, toPart_f _ a b c l (by omega) (by omega), Option.bind_some]
  simp only
  rw [specPartOk_f _ a b c l (by omega) (by omega), Option.bind_some, Option.bind_some]
  unfold impl_PartOk.f
  simp only [Option.bind_some]
  rw [if_neg (by simp), eqPart_f _ a b c l (by omega) (by omega), Option.bind_some, if_pos rfl]
end Go.Proofs.YtahbooeioigbgaaDoor.Pure
