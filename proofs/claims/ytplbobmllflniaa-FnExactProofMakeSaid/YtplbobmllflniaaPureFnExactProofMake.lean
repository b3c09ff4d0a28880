/- The law FnExactProofMake returns true for all arguments: ProofMake of the program and of the reference are one, and what it hands back is new memory. -/
import Derived.Test.YtplbobmllflniaaEz3
import Derived.Test.YtplbobmllflniaaEz5
import Derived.Test.YtplbobmllflniaaEz7
import Derived.Test.YtplbobmllflniaaQEqProofEz
import Derived.Test.YtplbobmllflniaaQListEz
import Derived.Test.YtplbobmllflniaaQProofEz
import Derived.Test.YtplbobmllflniaaQProofMakeEz
set_option linter.unusedVariables false
set_option linter.unusedSimpArgs false
namespace Go.Proofs.Ytplbobmllflniaa.Pure
open Go.RowKit Go.Proofs.Ytplbobmllflniaa.Ez Go.Proofs.YtplbobmllflniaaW.PrintWords Go.Proofs.YtplbobmllflniaaW.PrintLast Go.Proofs.YtplbobmllflniaaW.PrintMore Go.Proofs.Ytplbobmllflniaa.Q
theorem FnExactProofMake : laws_FnExactProofMake.Pure := by
  intro kind v u w _ hl _ _ _ _
  refine ⟨v.length + 200, ?_⟩
  unfold laws_FnExactProofMake.f
  by_cases h : (v.length : Int) > 1048576
  · rw [if_pos h]
  rw [if_neg h, toIntS_f _ v (by omega) (by omega)]
  simp only [Option.bind_some]
  obtain ⟨H, h1, h2, h3⟩ := proofMake_both (v.length + 200) kind v u w (by omega) (by omega)
  obtain ⟨H', h1', h2', h3'⟩ := proofMake_both (v.length + 198) kind v u w (by omega) (by omega)
  have key : ∃ (x y : Int) (b : Bool), spec_ProofMake.f (v.length + 200) kind v u w = some (x, y, H, b) ∧ impl_ProofMake.f (v.length + 200) kind v u w = some (x, y, H, b) ∧ impl_ProofMake.f (v.length + 198) kind v u w = some (x, y, H, b) := by
    have hs : ∀ r, impl_ProofMake.f (v.length + 198) kind v u w = some r → impl_ProofMake.f (v.length + 200) kind v u w = some r := fun r hr => leO_le (fun k => impl_ProofMake.mono _ _ _ _ k) (by omega) hr
    rcases h3 with ⟨a1, a2, _⟩ | ⟨a1, a2, _⟩
    · rcases h3' with ⟨_, b2, _⟩ | ⟨_, b2, _⟩
      · have := hs _ b2; rw [a2] at this; obtain rfl : H = H' := by simpa using this
        exact ⟨_, _, _, a1, a2, b2⟩
      · have := hs _ b2; rw [a2] at this; simp at this
    · rcases h3' with ⟨_, b2, _⟩ | ⟨_, b2, _⟩
      · have := hs _ b2; rw [a2] at this; simp at this
      · have := hs _ b2; rw [a2] at this; obtain rfl : H = H' := by simpa using this
        exact ⟨_, _, _, a1, a2, b2⟩
  obtain ⟨x, y, b, e1, e2, e3⟩ := key
  rw [e1, Option.bind_some, e2, Option.bind_some]
  simp only
  rw [eqProof_f _ _ _ _ _ _ _ (by omega) (by omega), Option.bind_some, if_pos (by simp)]
  simp only [bne_self_eq_false]
  simp only [laws_FnExactProofMake.j0]
  rw [if_neg (by simp), toIntS_f _ v (by omega) (by omega), Option.bind_some, eqIntS_f _ v v (by omega) (by omega), Option.bind_some, if_pos (by simp), markIntS_f _ v 1 (by omega) (by omega) (by omega) (by omega), Option.bind_some]
  simp only
  rw [if_neg (by omega), eqProof_f _ _ _ _ _ _ _ (by omega) (by omega), Option.bind_some, if_pos (by simp)]
  simp only [bne_self_eq_false]
  simp only [laws_FnExactProofMake.j1]
  rw [if_neg (by simp), markProof_f _ _ _ _ _ (by omega) (by omega) (by omega) (by omega), Option.bind_some]
  simp only
  rw [heldProof_f _ _ _ 1 _ (by omega) (by omega) (by omega) (by omega), Option.bind_some, if_neg (by omega), if_pos rfl, toIntS_f _ v (by omega) (by omega), Option.bind_some, e3, Option.bind_some]
  simp only
  rw [eqProof_f _ _ _ _ _ _ _ (by omega) (by omega), Option.bind_some, if_pos (by simp)]
  simp only [bne_self_eq_false, laws_FnExactProofMake.j2]
  rw [if_neg (by simp), heldProof_f _ _ _ 1 _ (by omega) (by omega) (by omega) (by omega), Option.bind_some, if_neg (by omega), if_pos rfl]

end Go.Proofs.Ytplbobmllflniaa.Pure
