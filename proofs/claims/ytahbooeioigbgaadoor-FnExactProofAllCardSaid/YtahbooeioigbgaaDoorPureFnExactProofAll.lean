import Derived.Test.YtahbooeioigbgaaDoorDr1
import Derived.Test.YtahbooeioigbgaaDoorDr2
import Derived.Test.YtahbooeioigbgaaDoorDr8
import Derived.Test.YtahbooeioigbgaaDoorQAllFDr
import Derived.Test.YtahbooeioigbgaaDoorQGaDr
set_option linter.unusedVariables false
set_option linter.unusedSimpArgs false
namespace Go.Proofs.YtahbooeioigbgaaDoor.Pure
open Go.RowKit Go.Proofs.YtahbooeioigbgaaDoor.Dr Go.Proofs.YtahbooeioigbgaaDoorU.PrintWords Go.Proofs.YtahbooeioigbgaaDoorU.PrintLast Go.Proofs.YtahbooeioigbgaaDoorU.PrintMore Go.Proofs.YtahbooeioigbgaaDoor.Q
theorem FnExactProofAll : ∀ (a0 : Int) (l1 : List Int) (a2_0 a2_1 : Int) (l2_2 : List Int), (Lit.int .i64 a0).wf = true → l1.length ≤ maxLen → (∀ x ∈ l1, (Lit.int .i64 x).wf = true) → (Lit.int .i64 a2_0).wf = true → (Lit.int .i64 a2_1).wf = true → l2_2.length ≤ maxLen → (∀ x ∈ l2_2, (Lit.int .i64 x).wf = true) → ∃ k, laws_FnExactProofAll.f k a0 l1 a2_0 a2_1 l2_2 = some true := by
  intro kind v u w h _ _ _ _ _ hm _
  refine ⟨v.length + h.length + 300, ?_⟩
  unfold laws_FnExactProofAll.f
  by_cases h1 : (v.length : Int) > 1048576
  · rw [if_pos h1]
  rw [if_neg h1]
  unfold laws_szProof.f
  rw [szIntS_f h 1048576 (by omega) (by omega) hm, Option.bind_some]
  by_cases h2 : (1048576 : Int) - (h.length : Int) < 0
  · rw [if_pos h2, if_pos (by omega), Option.bind_some, if_pos (by omega)]
  rw [if_neg h2, if_neg h2, Option.bind_some, if_neg h2, toIntS_f _ v (by omega) (by omega), Option.bind_some]
  have tp : ∀ k, h.length < k → laws_toProof.f k u w h = some (u, w, h) := fun k hk => by
    unfold laws_toProof.f
    rw [toIntS_f _ h (by omega) hk, Option.bind_some]
  obtain ⟨e1, e2⟩ := allF_f (v.length + h.length + 300) kind v u w h (by omega) (by omega) (by omega) (by omega)
  rw [tp _ (by omega), Option.bind_some]
  simp only
  rw [e1, Option.bind_some, Option.bind_some, Option.bind_some, e2, Option.bind_some]
  have hl : (if allOk kind v u w h = true then (v ++ [u, w] ++ h, true) else ([], false)).1.length ≤ v.length + h.length + 2 := by
    split
    · simp; omega
    · simp
  generalize (if allOk kind v u w h = true then (v ++ [u, w] ++ h, true) else ([], false)) = X at hl e2
  obtain ⟨g, b⟩ := X
  simp only at hl ⊢
  rw [eqIntS_f _ g g (by omega) (by omega), Option.bind_some, if_pos (by simp)]
  simp only [bne_self_eq_false]
  simp only [laws_FnExactProofAll.j0]
  rw [if_neg (by simp), toIntS_f _ v (by omega) (by omega), Option.bind_some, eqIntS_f _ v v (by omega) (by omega), Option.bind_some, if_pos (by simp), tp _ (by omega), Option.bind_some]
  simp only
  rw [eqProof_f _ _ _ _ _ _ _ (by omega) (by omega), Option.bind_some, if_pos (by simp), markIntS_f _ v 1 (by omega) (by omega) (by omega) (by omega), Option.bind_some]
  simp only
  rw [markProof_f _ _ _ _ _ (by omega) (by omega) (by omega) (by omega), Option.bind_some]
  simp only
  rw [if_neg (by omega), eqIntS_f _ g g (by omega) (by omega), Option.bind_some, if_pos (by simp)]
  simp only [laws_FnExactProofAll.j1]
  rw [if_neg (by simp), markIntS_f _ g 1 (by omega) (by omega) (by omega) (by omega), Option.bind_some]
  simp only
  rw [heldIntS_f _ _ 1 (by omega) (by omega) (by omega) (by omega), Option.bind_some, if_neg (by omega), if_pos rfl, toIntS_f _ v (by omega) (by omega), Option.bind_some, tp _ (by omega), Option.bind_some]
  simp only
  rw [e2, Option.bind_some]
  simp only
  rw [eqIntS_f _ g g (by omega) (by omega), Option.bind_some, if_pos (by simp)]
  simp only [bne_self_eq_false, laws_FnExactProofAll.j2]
  rw [if_neg (by simp), heldIntS_f _ _ 1 (by omega) (by omega) (by omega) (by omega), Option.bind_some, if_neg (by omega), if_pos rfl]
end Go.Proofs.YtahbooeioigbgaaDoor.Pure
