import Derived.Test.YtahbooeioigbgaaDoorDa20
import Derived.Test.YtahbooeioigbgaaDoorDa25
import Derived.Test.YtahbooeioigbgaaDoorDa6
import Derived.Test.YtahbooeioigbgaaDoorQGaDa
import Derived.Test.YtahbooeioigbgaaDoorQGfDa
set_option linter.unusedVariables false
set_option linter.unusedSimpArgs false
namespace Go.Proofs.YtahbooeioigbgaaDoor.Q
open Go.RowKit Go.Proofs.YtahbooeioigbgaaDoor.Da Go.Proofs.YtahbooeioigbgaaDoorW.PrintWords Go.Proofs.YtahbooeioigbgaaDoorW.PrintLast Go.Proofs.YtahbooeioigbgaaDoorW.PrintMore
theorem cut_f (kind : Int) (l : List Int) (hl : (l.length : Int) = 3 * tLen kind + 3) :
    impl_cut.f kind l = some (l.take (tLen kind).toNat, rd l (tLen kind), rd l (tLen kind + 1), l.drop ((tLen kind).toNat + 2)) ∧ spec_l12Cut.f kind l = some (l.take (tLen kind).toNat, rd l (tLen kind), rd l (tLen kind + 1), l.drop ((tLen kind).toNat + 2)) := by
  have ht := tLen_le kind
  have e2 : (tLen kind + 2).toNat = (tLen kind).toNat + 2 := by omega
  have h1 : (l.take (tLen kind).toNat).length < 17592186044416 := by rw [List.length_take]; omega
  have h2 : (l.drop ((tLen kind).toNat + 2)).length < 17592186044416 := by rw [List.length_drop]; omega
  refine ⟨iCut_f kind l hl, ?_⟩
  unfold spec_l12Cut.f
  rw [specTypeLen_f, Option.bind_some, Option.bind_some, if_pos ht.1, if_pos (by omega), if_pos (by simpa using h1), if_pos (by omega), w64 (a := tLen kind + 1) (by omega) (by omega), w64 (a := tLen kind + 2) (by omega) (by omega), if_pos (by omega), if_pos (by omega), Option.bind_some, if_pos (by omega), if_pos (by omega), e2, if_pos (by simpa using h2)]
  simp
end Go.Proofs.YtahbooeioigbgaaDoor.Q
