import Derived.Test.YtahbooeioigbgaaDoorDa32
import Derived.Test.YtahbooeioigbgaaDoorDa6
import Derived.Test.YtahbooeioigbgaaDoorQGaDa
import Derived.Test.YtahbooeioigbgaaDoorQGbDa
set_option linter.unusedVariables false
set_option linter.unusedSimpArgs false
namespace Go.Proofs.YtahbooeioigbgaaDoor.Q
open Go.RowKit Go.Proofs.YtahbooeioigbgaaDoor.Da Go.Proofs.YtahbooeioigbgaaDoorW.PrintWords Go.Proofs.YtahbooeioigbgaaDoorW.PrintLast Go.Proofs.YtahbooeioigbgaaDoorW.PrintMore
theorem iSum (a b : Int) (ha : fOk a = true) (hb : fOk b = true) : impl_FieldSum.f a b = some ((a + b) % 31) := by
  unfold impl_FieldSum.f
  rw [implFieldOk_f, Option.bind_some, if_pos ha, implFieldOk_f, Option.bind_some, if_pos hb, elPlus_f _ _ ((fOk_iff _).1 ha) ((fOk_iff _).1 hb)]; rfl
end Go.Proofs.YtahbooeioigbgaaDoor.Q
