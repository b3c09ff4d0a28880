import Derived.Test.YtahbooeioigbgaaDoorDf2
import Derived.Test.YtahbooeioigbgaaDoorDf3
import Derived.Test.YtahbooeioigbgaaDoorQPartSDf
set_option linter.unusedVariables false
set_option linter.unusedSimpArgs false
namespace Go.Proofs.YtahbooeioigbgaaDoor.Q
open Go.RowKit Go.Proofs.YtahbooeioigbgaaDoor.Df Go.Proofs.YtahbooeioigbgaaDoorS.PrintWords Go.Proofs.YtahbooeioigbgaaDoorS.PrintLast Go.Proofs.YtahbooeioigbgaaDoorS.PrintMore
def fitOk (a b c : Int) (l : List Int) (a' b' c' : Int) (l' : List Int) : Bool := partOk a b c l && partOk a' b' c' l' && decide (a = a') && decide (b = b') && decide (c = 1) && decide (c' = 2)
theorem partsFit_f (K : Nat) (a b c : Int) (l : List Int) (a' b' c' : Int) (l' : List Int) (hl : l.length ≤ 1048576000) (hl' : l'.length ≤ 1048576000) (hK : l.length < K) (hK' : l'.length < K) :
    spec_PartsFit.f K a b c l a' b' c' l' = some (fitOk a b c l a' b' c' l') ∧ impl_PartsFit.f a b c l a' b' c' l' = some (fitOk a b c l a' b' c' l') := by
  unfold spec_PartsFit.f impl_PartsFit.f spec_l21Fit.f impl_PartOk.f fitOk
  rw [specPartOk_f K a b c l hl hK, specPartOk_f K a' b' c' l' hl' hK']
  simp only [Option.bind_some]
  cases h1 : partOk a b c l
  · exact ⟨rfl, rfl⟩
  cases h2 : partOk a' b' c' l'
  · exact ⟨rfl, rfl⟩
  simp only [if_true, Bool.true_and]
  by_cases e1 : a = a'
  · by_cases e2 : b = b'
    · by_cases e3 : c = 1
      · rw [if_pos e1, if_pos e2, if_pos e3, Option.bind_some]
        simp only [e1, e2, e3, decide_true, Bool.true_and]
        exact ⟨rfl, rfl⟩
      · rw [if_pos e1, if_pos e2, if_neg e3, Option.bind_some]; simp [e3]
    · rw [if_pos e1, if_neg e2, Option.bind_some]; simp [e2]
  · rw [if_neg e1, Option.bind_some]; simp [e1]
end Go.Proofs.YtahbooeioigbgaaDoor.Q
