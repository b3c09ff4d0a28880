import Derived.Test.YtahbooeioigbgaaDoorDf11
import Derived.Test.YtahbooeioigbgaaDoorQGeDf
import Derived.Test.YtahbooeioigbgaaDoorQTwoDf
set_option linter.unusedVariables false
set_option linter.unusedSimpArgs false
namespace Go.Proofs.YtahbooeioigbgaaDoor.Q
open Go.RowKit Go.Proofs.YtahbooeioigbgaaDoor.Df Go.Proofs.YtahbooeioigbgaaDoorS.PrintWords Go.Proofs.YtahbooeioigbgaaDoorS.PrintLast Go.Proofs.YtahbooeioigbgaaDoorS.PrintMore
theorem drawPartsFit_f (l0 : List Int) (hb : Bytes l0) (K : Nat) (hK : 1500 ≤ K) : ∃ a0 a1 a2 x b0 b1 b2 y, spec_DrawPartsFit.f K l0 = some (a0, a1, a2, x, b0, b1, b2, y) ∧ x.length ≤ 20 ∧ y.length ≤ 20 := by
  obtain ⟨b, e, r0⟩ := l6Open_f l0 hb
  unfold spec_DrawPartsFit.f
  rw [e, Option.bind_some]
  simp only
  obtain ⟨a0, a1, a2, x, b0, b1, b2, y, q, e1, l1, l2, _⟩ := l92Two_f r0 (by omega) K (by omega)
  rw [e1, Option.bind_some]
  exact ⟨_, _, _, _, _, _, _, _, rfl, l1, l2⟩
end Go.Proofs.YtahbooeioigbgaaDoor.Q
