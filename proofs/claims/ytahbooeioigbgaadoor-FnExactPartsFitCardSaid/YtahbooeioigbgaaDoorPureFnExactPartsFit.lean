import Derived.Test.YtahbooeioigbgaaDoorDp7
import Derived.Test.YtahbooeioigbgaaDoorQFitDp
import Derived.Test.YtahbooeioigbgaaDoorQPartDp
set_option linter.unusedVariables false
set_option linter.unusedSimpArgs false
namespace Go.Proofs.YtahbooeioigbgaaDoor.Pure
open Go.RowKit Go.Proofs.YtahbooeioigbgaaDoor.Dp Go.Proofs.YtahbooeioigbgaaDoorV.PrintWords Go.Proofs.YtahbooeioigbgaaDoorV.PrintLast Go.Proofs.YtahbooeioigbgaaDoorV.PrintMore Go.Proofs.YtahbooeioigbgaaDoor.Q
theorem FnExactPartsFit : ∀ (a0_0 a0_1 a0_2 : Int) (l0_3 : List Int) (a1_0 a1_1 a1_2 : Int) (l1_3 : List Int), (Lit.int .i64 a0_0).wf = true → (Lit.int .i64 a0_1).wf = true → (Lit.int .i64 a0_2).wf = true → l0_3.length ≤ maxLen → (∀ x ∈ l0_3, (Lit.int .i64 x).wf = true) → (Lit.int .i64 a1_0).wf = true → (Lit.int .i64 a1_1).wf = true → (Lit.int .i64 a1_2).wf = true → l1_3.length ≤ maxLen → (∀ x ∈ l1_3, (Lit.int .i64 x).wf = true) → ∃ k, laws_FnExactPartsFit.f k a0_0 a0_1 a0_2 l0_3 a1_0 a1_1 a1_2 l1_3 = some true := by
  intro a b c l a' b' c' l' _ _ _ hm _ _ _ _ hm' _
  refine ⟨l.length + l'.length + 10, ?_⟩
  unfold laws_FnExactPartsFit.f
  rw [szPart_f a b c l 1048576 (by omega) (by omega) hm, Option.bind_some]
  by_cases h : (1048576 : Int) - (l.length : Int) < 0
  · rw [if_pos h, if_pos (by omega)]
  rw [if_neg h, if_neg h, szPart_f a' b' c' l' _ (by omega) (by omega) hm', Option.bind_some]
  by_cases h' : (1048576 : Int) - (l.length : Int) - (l'.length : Int) < 0
  · rw [if_pos h', if_pos (by omega)]
  rw [if_neg h', if_neg h', toPart_f _ a b c l (by omega) (by omega), Option.bind_some, toPart_f _ a' b' c' l' (by omega) (by omega), Option.bind_some]
  obtain ⟨e1, e2⟩ := partsFit_f (l.length + l'.length + 10) a b c l a' b' c' l' (by omega) (by omega) (by omega) (by omega)
  simp only
  rw [e1, Option.bind_some, Option.bind_some, Option.bind_some, e2, Option.bind_some, if_neg (by simp), Option.bind_some, eqPart_f _ a b c l (by omega) (by omega), Option.bind_some, if_pos rfl, Option.bind_some, eqPart_f _ a' b' c' l' (by omega) (by omega), Option.bind_some, if_pos rfl]
end Go.Proofs.YtahbooeioigbgaaDoor.Pure
