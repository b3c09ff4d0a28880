import Derived.Test.YtahbooeioigbgaaDoorDq1
import Derived.Test.YtahbooeioigbgaaDoorDq2
import Derived.Test.YtahbooeioigbgaaDoorQGaDq
set_option linter.unusedVariables false
set_option linter.unusedSimpArgs false
namespace Go.Proofs.YtahbooeioigbgaaDoor.Q
open Go.RowKit Go.Proofs.YtahbooeioigbgaaDoor.Dq Go.Proofs.YtahbooeioigbgaaDoorT.PrintWords Go.Proofs.YtahbooeioigbgaaDoorT.PrintLast Go.Proofs.YtahbooeioigbgaaDoorT.PrintMore
theorem iProofLen_f (kind : Int) : impl_ProofLen.f kind = some (if kOk kind = true then 3 * tLen kind + 3 else 0) := by
  have ht := tLen_le kind
  unfold impl_ProofLen.f impl_kindOk.f impl_TypeLen.f
  rw [Option.bind_some]
  split
  · rw [Option.bind_some, w64 (a := 3 * tLen kind) (by omega) (by omega), w64 (by omega) (by omega)]
  · rfl
end Go.Proofs.YtahbooeioigbgaaDoor.Q
