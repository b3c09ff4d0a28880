import Derived.Test.YtahbooeioigbgaaDoorDa31
import Derived.Test.YtahbooeioigbgaaDoorQDrawADa
import Derived.Test.YtahbooeioigbgaaDoorQGeDa
set_option linter.unusedVariables false
set_option linter.unusedSimpArgs false
namespace Go.Proofs.YtahbooeioigbgaaDoor.Q
open Go.RowKit Go.Proofs.YtahbooeioigbgaaDoor.Da Go.Proofs.YtahbooeioigbgaaDoorW.PrintWords Go.Proofs.YtahbooeioigbgaaDoorW.PrintLast Go.Proofs.YtahbooeioigbgaaDoorW.PrintMore
theorem drawProofOk_f (l0 : List Int) (hb : Bytes l0) (K : Nat) (hK : 1200 ≤ K) : ∃ kind v u w H, spec_DrawProofOk.f K l0 = some (kind, v, u, w, H) ∧ v.length ≤ 5 ∧ H.length ≤ 9 := by
  obtain ⟨b, e, r0⟩ := l6Open_f l0 hb
  unfold spec_DrawProofOk.f
  rw [e, Option.bind_some]
  simp only
  obtain ⟨kind, v, u, w, H, q, e1, lv, lH, _⟩ := drawProof_f r0 (by omega) K (by omega)
  rw [e1, Option.bind_some]
  exact ⟨_, _, _, _, _, rfl, lv, lH⟩
end Go.Proofs.YtahbooeioigbgaaDoor.Q
