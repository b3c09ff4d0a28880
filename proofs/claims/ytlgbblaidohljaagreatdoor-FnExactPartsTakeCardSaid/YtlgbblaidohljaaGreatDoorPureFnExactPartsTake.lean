/- The law FnExactPartsTake returns true for all arguments: PartsTake of the program and of the reference are one, and the arguments stay as they are. -/
import Derived.Test.YtlgbblaidohljaaGreatDoorQGaZt
import Derived.Test.YtlgbblaidohljaaGreatDoorQGeZt
import Derived.Test.YtlgbblaidohljaaGreatDoorZt13
set_option linter.unusedVariables false
set_option linter.unusedSimpArgs false
namespace Go.Proofs.YtlgbblaidohljaaGreatDoor.Pure
open Go.RowKit Go.Proofs.YtlgbblaidohljaaGreatDoor.Zt Go.Proofs.YtlgbblaidohljaaGreatDoorV.PrintWords Go.Proofs.YtlgbblaidohljaaGreatDoorV.PrintLast Go.Proofs.YtlgbblaidohljaaGreatDoorV.PrintMore Go.Proofs.YtlgbblaidohljaaGreatDoor.Q
theorem FnExactPartsTake : ∀ (a0_0 a0_1 a0_2 : Int) (l0_3 : List Int) (a1_0 a1_1 a1_2 : Int) (l1_3 : List Int) (a2 a3 : Int), (Lit.int .i64 a0_0).wf = true → (Lit.int .i64 a0_1).wf = true → (Lit.int .i64 a0_2).wf = true → l0_3.length ≤ maxLen → (∀ x ∈ l0_3, (Lit.int .i64 x).wf = true) → (Lit.int .i64 a1_0).wf = true → (Lit.int .i64 a1_1).wf = true → (Lit.int .i64 a1_2).wf = true → l1_3.length ≤ maxLen → (∀ x ∈ l1_3, (Lit.int .i64 x).wf = true) → (Lit.int .i64 a2).wf = true → (Lit.int .i64 a3).wf = true → ∃ k, laws_FnExactPartsTake.f k a0_0 a0_1 a0_2 l0_3 a1_0 a1_1 a1_2 l1_3 a2 a3 = some true := by
  intro a b c l a' b' c' l' a2 a3 _ _ _ hm _ _ _ _ hm' _ _ _
  refine ⟨l.length + l'.length + 300, ?_⟩
  unfold laws_FnExactPartsTake.f
  rw [szPart_f a b c l 1048576 (by omega) (by omega) hm, Option.bind_some]
  by_cases h : (1048576 : Int) - (l.length : Int) < 0
  · rw [if_pos h, if_pos (by omega)]
  rw [if_neg h, if_neg h, szPart_f a' b' c' l' _ (by omega) (by omega) hm', Option.bind_some]
  by_cases h' : (1048576 : Int) - (l.length : Int) - (l'.length : Int) < 0
  · rw [if_pos h', if_pos (by omega)]
  rw [if_neg h', if_neg h', toPart_f _ a b c l (by omega) (by omega), Option.bind_some, toPart_f _ a' b' c' l' (by omega) (by omega), Option.bind_some]
  obtain ⟨e1, e2⟩ := partsTake_both (l.length + l'.length + 300) a b c l a' b' c' l' a2 a3 (by omega) (by omega) (by omega) (by omega)
  simp only
  rw [e1, Option.bind_some, Option.bind_some, Option.bind_some, e2, Option.bind_some, if_neg (by simp), Option.bind_some, eqPart_f _ a b c l (by omega) (by omega), Option.bind_some, if_pos rfl, Option.bind_some, eqPart_f _ a' b' c' l' (by omega) (by omega), Option.bind_some, if_pos rfl]

end Go.Proofs.YtlgbblaidohljaaGreatDoor.Pure
