import Derived.Test.YtahbooeioigbgaaDoorDa28
import Derived.Test.YtahbooeioigbgaaDoorQGeDa
import Derived.Test.YtahbooeioigbgaaDoorQNumDa
set_option linter.unusedVariables false
set_option linter.unusedSimpArgs false
namespace Go.Proofs.YtahbooeioigbgaaDoor.Q
open Go.RowKit Go.Proofs.YtahbooeioigbgaaDoor.Da Go.Proofs.YtahbooeioigbgaaDoorW.PrintWords Go.Proofs.YtahbooeioigbgaaDoorW.PrintLast Go.Proofs.YtahbooeioigbgaaDoorW.PrintMore
theorem drawProofMake_f (l0 : List Int) (hb : Bytes l0) (K : Nat) (hK : 60 ≤ K) : ∃ kind l u w, spec_DrawProofMake.f K l0 = some (kind, l, u, w) ∧ l.length ≤ 5 := by
  obtain ⟨b, e, r0⟩ := l6Open_f l0 hb
  unfold spec_DrawProofMake.f
  rw [e, Option.bind_some]
  simp only
  obtain ⟨kind, l, q, e1, hl, r1⟩ := vec_f r0 (by omega) K (by omega)
  obtain ⟨k, rfl⟩ : ∃ j, K = j + 1 := ⟨K - 1, by omega⟩
  obtain ⟨u, q2, e2, r2⟩ := num_f r1 (by omega) k
  obtain ⟨w, q3, e3, r3⟩ := num_f r2 (by omega) k
  rw [e1, Option.bind_some]
  simp only
  rw [e2, Option.bind_some]
  simp only
  rw [e3, Option.bind_some]
  exact ⟨_, _, _, _, rfl, hl⟩
end Go.Proofs.YtahbooeioigbgaaDoor.Q
