import Derived.Test.YtahbooeioigbgaaDoorDr2
import Derived.Test.YtahbooeioigbgaaDoorDr3
import Derived.Test.YtahbooeioigbgaaDoorDr4
import Derived.Test.YtahbooeioigbgaaDoorDr6
import Derived.Test.YtahbooeioigbgaaDoorQGaDr
import Derived.Test.YtahbooeioigbgaaDoorQPolySpDr
set_option linter.unusedVariables false
set_option linter.unusedSimpArgs false
namespace Go.Proofs.YtahbooeioigbgaaDoor.Q
open Go.RowKit Go.Proofs.YtahbooeioigbgaaDoor.Dr Go.Proofs.YtahbooeioigbgaaDoorU.PrintWords Go.Proofs.YtahbooeioigbgaaDoorU.PrintLast Go.Proofs.YtahbooeioigbgaaDoorU.PrintMore
def allOk (kind : Int) (v : List Int) (u w : Int) (h : List Int) : Bool := vecOk kind v && formOk kind u w h
theorem formOk_len' {kind u w : Int} {h : List Int} (hf : formOk kind u w h = true) : h.length ≤ 9 := by
  unfold formOk at hf
  simp only [Bool.and_eq_true, decide_eq_true_eq] at hf
  have := hf.1.2.1
  omega
theorem allF_f (K : Nat) (kind : Int) (v : List Int) (u w : Int) (h : List Int) (hl : v.length ≤ 1048576000) (hh : h.length ≤ 1048576000) (hK : v.length < K) (hK2 : h.length < K) :
    spec_ProofAll.f K kind v u w h = some (if allOk kind v u w h = true then (v ++ [u, w] ++ h, true) else ([], false)) ∧ impl_ProofAll.f kind v u w h = some (if allOk kind v u w h = true then (v ++ [u, w] ++ h, true) else ([], false)) := by
  unfold spec_ProofAll.f impl_ProofAll.f allOk
  rw [l12Form_f K kind u w h hh hK2, Option.bind_some, l11Vec_f K kind v hl hK, sized_f, Option.bind_some, Option.bind_some]
  cases hf : formOk kind u w h
  · refine ⟨?_, ?_⟩
    · cases kOk kind <;> simp
    · cases vecOk kind v <;> simp
  cases hV : vecOk kind v
  · refine ⟨?_, ?_⟩
    · cases kOk kind <;> simp
    · simp
  have hk : kOk kind = true := by unfold vecOk at hV; simp only [Bool.and_eq_true] at hV; exact hV.1.1
  have hl9 := formOk_len' hf
  have hl4 : v.length ≤ 4 := by have := tLen_le kind; unfold vecOk at hV; simp only [Bool.and_eq_true, decide_eq_true_eq] at hV; have := hV.1.2; omega
  rw [hk]
  refine ⟨?_, by simp⟩
  simp only [Bool.and_self, if_true]
  unfold spec_l12All.f
  simp only [Option.bind_some, List.nil_append, List.length_nil, List.length_append, List.length_cons]
  rw [if_pos (by omega), if_pos (by omega), if_pos (by omega), Option.bind_some]
end Go.Proofs.YtahbooeioigbgaaDoor.Q
