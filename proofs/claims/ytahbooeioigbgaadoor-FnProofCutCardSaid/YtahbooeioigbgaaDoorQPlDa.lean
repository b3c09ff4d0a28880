import Derived.Test.YtahbooeioigbgaaDoorDa20
import Derived.Test.YtahbooeioigbgaaDoorDa25
import Derived.Test.YtahbooeioigbgaaDoorDa6
import Derived.Test.YtahbooeioigbgaaDoorQGaDa
import Derived.Test.YtahbooeioigbgaaDoorQGfDa
set_option linter.unusedVariables false
set_option linter.unusedSimpArgs false
namespace Go.Proofs.YtahbooeioigbgaaDoor.Q
open Go.RowKit Go.Proofs.YtahbooeioigbgaaDoor.Da Go.Proofs.YtahbooeioigbgaaDoorW.PrintWords Go.Proofs.YtahbooeioigbgaaDoorW.PrintLast Go.Proofs.YtahbooeioigbgaaDoorW.PrintMore
theorem proofLen_f (kind : Int) : spec_ProofLen.f kind = some (if kOk kind = true then 3 * tLen kind + 3 else 0) ∧ impl_ProofLen.f kind = some (if kOk kind = true then 3 * tLen kind + 3 else 0) := by
  have ht := tLen_le kind
  refine ⟨?_, iProofLen_f kind⟩
  unfold spec_ProofLen.f
  rw [l11Kind_f, Option.bind_some]
  split
  · rw [specTypeLen_f, Option.bind_some, w64 (a := 3 * tLen kind) (by omega) (by omega), w64 (by omega) (by omega)]
  · rfl
end Go.Proofs.YtahbooeioigbgaaDoor.Q
