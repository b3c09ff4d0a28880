import Derived.Test.YtahbooeioigbgaaDoorDf1
import Derived.Test.YtahbooeioigbgaaDoorDf2
import Derived.Test.YtahbooeioigbgaaDoorDf3
import Derived.Test.YtahbooeioigbgaaDoorQGaDf
set_option linter.unusedVariables false
set_option linter.unusedSimpArgs false
namespace Go.Proofs.YtahbooeioigbgaaDoor.Q
open Go.RowKit Go.Proofs.YtahbooeioigbgaaDoor.Df Go.Proofs.YtahbooeioigbgaaDoorS.PrintWords Go.Proofs.YtahbooeioigbgaaDoorS.PrintLast Go.Proofs.YtahbooeioigbgaaDoorS.PrintMore
theorem specProofLen_f (kind : Int) : spec_ProofLen.f kind = some (if kOk kind = true then 3 * tLen kind + 3 else 0) := by
  have ht := tLen_le kind
  unfold spec_ProofLen.f
  rw [l11Kind_f, Option.bind_some]
  split
  · rw [specTypeLen_f, Option.bind_some, w64 (a := 3 * tLen kind) (by omega) (by omega), w64 (by omega) (by omega)]
  · rfl
theorem specPartOk_f (K : Nat) (id kind side : Int) (l : List Int) (hl : l.length ≤ 1048576000) (hK : l.length < K) : spec_PartOk.f K id kind side l = some (partOk id kind side l) := by
  have ht := tLen_le kind
  unfold spec_PartOk.f partOk
  rw [l6In_f, Option.bind_some]
  cases h1 : decide (1 ≤ id) && decide (id ≤ 99)
  · rfl
  rw [if_pos rfl, l11Kind_f, Option.bind_some]
  cases h2 : kOk kind
  · simp
  rw [if_pos rfl, l6In_f, Option.bind_some]
  cases h3 : decide (1 ≤ side) && decide (side ≤ 2)
  · simp
  rw [if_pos rfl, shareOk_f K l hl hK, Option.bind_some]
  cases h4 : l.all fOk
  · simp
  by_cases h5 : (l.length : Int) ≤ 20
  · rw [if_pos (by simp [h5]), specProofLen_f, Option.bind_some, if_pos h2]
    simp; rfl
  · rw [if_neg (by simp; omega)]
    have : ¬ ((l.length : Int) = 3 * tLen kind + 3) := by omega
    simp [this]
end Go.Proofs.YtahbooeioigbgaaDoor.Q
