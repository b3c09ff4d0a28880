import Derived.Test.YtahbooeioigbgaaDoorDa1
import Derived.Test.YtahbooeioigbgaaDoorDa11
import Derived.Test.YtahbooeioigbgaaDoorQGaDa
import Derived.Test.YtahbooeioigbgaaDoorQGbDa
set_option linter.unusedVariables false
set_option linter.unusedSimpArgs false
namespace Go.Proofs.YtahbooeioigbgaaDoor.Pure
open Go.RowKit Go.Proofs.YtahbooeioigbgaaDoor.Da Go.Proofs.YtahbooeioigbgaaDoorW.PrintWords Go.Proofs.YtahbooeioigbgaaDoorW.PrintLast Go.Proofs.YtahbooeioigbgaaDoorW.PrintMore Go.Proofs.YtahbooeioigbgaaDoor.Q
theorem FnExactProofOk : ∀ (a0 : Int) (l1 : List Int) (a2_0 a2_1 : Int) (l2_2 : List Int), (Lit.int .i64 a0).wf = true → l1.length ≤ maxLen → (∀ x ∈ l1, (Lit.int .i64 x).wf = true) → (Lit.int .i64 a2_0).wf = true → (Lit.int .i64 a2_1).wf = true → l2_2.length ≤ maxLen → (∀ x ∈ l2_2, (Lit.int .i64 x).wf = true) → ∃ k, laws_FnExactProofOk.f k a0 l1 a2_0 a2_1 l2_2 = some true := by
  intro kind v u w h _ _ _ _ _ hm _
  refine ⟨v.length + h.length + 300, ?_⟩
  unfold laws_FnExactProofOk.f
  by_cases h1 : (v.length : Int) > 1048576
  · rw [if_pos h1]
  have hm' : (h.length : Int) ≤ maxLen := by omega
  rw [if_neg h1]
  unfold laws_szProof.f
  rw [szIntS_f h 1048576 (by omega) (by omega) hm, Option.bind_some]
  by_cases h2 : (1048576 : Int) - (h.length : Int) < 0
  · rw [if_pos h2, if_pos (by omega), Option.bind_some, if_pos (by omega)]
  rw [if_neg h2, if_neg h2, Option.bind_some, if_neg h2, toIntS_f _ v (by omega) (by omega), Option.bind_some]
  unfold laws_toProof.f
  rw [toIntS_f _ h (by omega) (by omega), Option.bind_some, Option.bind_some]
  obtain ⟨e1, e2⟩ := pok_f (v.length + h.length + 300) kind v u w h (by omega) (by omega) (by omega)
  simp only
  rw [e2, Option.bind_some, Option.bind_some, Option.bind_some, e1, Option.bind_some, if_neg (by simp), Option.bind_some, eqIntS_f _ v v (by omega) (by omega), Option.bind_some, if_pos (by simp), Option.bind_some]
  simp only
  rw [eqProof_f _ _ _ _ _ _ _ (by omega) (by omega), Option.bind_some, if_pos (by simp)]
end Go.Proofs.YtahbooeioigbgaaDoor.Pure
