import Derived.Test.YtahbooeioigbgaaDoorDa24
import Derived.Test.YtahbooeioigbgaaDoorQDrawAlDa
import Derived.Test.YtahbooeioigbgaaDoorQGeDa
set_option linter.unusedVariables false
set_option linter.unusedSimpArgs false
namespace Go.Proofs.YtahbooeioigbgaaDoor.Q
open Go.RowKit Go.Proofs.YtahbooeioigbgaaDoor.Da Go.Proofs.YtahbooeioigbgaaDoorW.PrintWords Go.Proofs.YtahbooeioigbgaaDoorW.PrintLast Go.Proofs.YtahbooeioigbgaaDoorW.PrintMore
theorem drawProofCut_f (l0 : List Int) (hb : Bytes l0) (K : Nat) (hK : 1400 ≤ K) : ∃ kind l, spec_DrawProofCut.f K l0 = some (kind, l) ∧ l.length ≤ 20 := by
  obtain ⟨b, e, r0⟩ := l6Open_f l0 hb
  unfold spec_DrawProofCut.f
  rw [e, Option.bind_some]
  simp only
  obtain ⟨kind, l, q, e1, hl, _⟩ := drawAll_f r0 (by omega) K (by omega)
  rw [e1, Option.bind_some]
  exact ⟨_, _, rfl, hl⟩
end Go.Proofs.YtahbooeioigbgaaDoor.Q
