import Derived.Test.YtahbooeioigbgaaDoorDa12
import Derived.Test.YtahbooeioigbgaaDoorDa13
import Derived.Test.YtahbooeioigbgaaDoorDa20
import Derived.Test.YtahbooeioigbgaaDoorDa6
import Derived.Test.YtahbooeioigbgaaDoorDa9
import Derived.Test.YtahbooeioigbgaaDoorQGaDa
import Derived.Test.YtahbooeioigbgaaDoorQGsDa
set_option linter.unusedVariables false
set_option linter.unusedSimpArgs false
namespace Go.Proofs.YtahbooeioigbgaaDoor.Q
open Go.RowKit Go.Proofs.YtahbooeioigbgaaDoor.Da Go.Proofs.YtahbooeioigbgaaDoorW.PrintWords Go.Proofs.YtahbooeioigbgaaDoorW.PrintLast Go.Proofs.YtahbooeioigbgaaDoorW.PrintMore
theorem iProofLen_f (kind : Int) : impl_ProofLen.f kind = some (if kOk kind = true then 3 * tLen kind + 3 else 0) := by
  have ht := tLen_le kind
  unfold impl_ProofLen.f impl_kindOk.f impl_TypeLen.f
  rw [Option.bind_some]
  split
  · rw [Option.bind_some, w64 (a := 3 * tLen kind) (by omega) (by omega), w64 (by omega) (by omega)]
  · rfl
theorem sizedN_f (kind : Int) (s : List Int) (n : Int) (hn : n ≤ 20) : impl_sized.f kind s n = some (kOk kind && decide ((s.length : Int) = n) && s.all fOk) := by
  unfold impl_sized.f impl_kindOk.f impl_elementsOk.f
  rw [Option.bind_some]
  cases h : kOk kind
  · rfl
  · rw [if_pos rfl]
    by_cases h3 : (s.length : Int) = n
    · rw [if_pos h3, Option.bind_some]
      have : (s.length : Int) ≤ 20 := by omega
      simp [h3, this]; omega
    · rw [if_neg h3]; simp [h3]
theorem iCut_f (kind : Int) (l : List Int) (hl : (l.length : Int) = 3 * tLen kind + 3) :
    impl_cut.f kind l = some (l.take (tLen kind).toNat, rd l (tLen kind), rd l (tLen kind + 1), l.drop ((tLen kind).toNat + 2)) := by
  have ht := tLen_le kind
  have e2 : (tLen kind + 2).toNat = (tLen kind).toNat + 2 := by omega
  have h1 : (l.take (tLen kind).toNat).length < 17592186044416 := by rw [List.length_take]; omega
  have h2 : (l.drop ((tLen kind).toNat + 2)).length < 17592186044416 := by rw [List.length_drop]; omega
  unfold impl_cut.f impl_TypeLen.f slices_Clone_int_int.f slices_Clip_int_int.f
  rw [Option.bind_some, if_pos ht.1, if_pos (by omega), if_pos h1, Option.bind_some, Option.bind_some, if_pos (by omega), w64 (a := tLen kind + 1) (by omega) (by omega), w64 (a := tLen kind + 2) (by omega) (by omega), if_pos (by omega), if_pos (by omega), if_pos (by omega), if_pos (by omega), e2, if_pos h2, Option.bind_some, Option.bind_some]
theorem proofCut_f (kind : Int) (l : List Int) (hk : kOk kind = true) (hl : (l.length : Int) = 3 * tLen kind + 3) (ha : l.all fOk = true) :
    impl_ProofCut.f kind l = some (l.take (tLen kind).toNat, rd l (tLen kind), rd l (tLen kind + 1), l.drop ((tLen kind).toNat + 2), true) := by
  have ht := tLen_le kind
  unfold impl_ProofCut.f
  rw [iProofLen_f kind, Option.bind_some, if_pos hk, sizedN_f _ _ _ (by omega), Option.bind_some, hk, ha, if_pos (by simp; omega), iCut_f kind l hl, Option.bind_some]
def allOk (kind : Int) (v : List Int) (u w : Int) (h : List Int) : Bool := vecOk kind v && formOk kind u w h
theorem formOk_len' {kind u w : Int} {h : List Int} (hf : formOk kind u w h = true) : h.length ≤ 9 := by
  unfold formOk at hf
  simp only [Bool.and_eq_true, decide_eq_true_eq] at hf
  have := hf.1.2.1
  omega
theorem allF_f (K : Nat) (kind : Int) (v : List Int) (u w : Int) (h : List Int) (hl : v.length ≤ 1048576000) (hh : h.length ≤ 1048576000) (hK : v.length < K) (hK2 : h.length < K) :
    spec_ProofAll.f K kind v u w h = some (if allOk kind v u w h = true then (v ++ [u, w] ++ h, true) else ([], false)) ∧ impl_ProofAll.f kind v u w h = some (if allOk kind v u w h = true then (v ++ [u, w] ++ h, true) else ([], false)) := by
  unfold spec_ProofAll.f impl_ProofAll.f allOk
  rw [l12Form_f K kind u w h hh hK2, Option.bind_some, l11Vec_f K kind v hl hK, sized_f, Option.bind_some, Option.bind_some]
  cases hf : formOk kind u w h
  · refine ⟨?_, ?_⟩
    · cases kOk kind <;> simp
    · cases vecOk kind v <;> simp
  cases hV : vecOk kind v
  · refine ⟨?_, ?_⟩
    · cases kOk kind <;> simp
    · simp
  have hk : kOk kind = true := by unfold vecOk at hV; simp only [Bool.and_eq_true] at hV; exact hV.1.1
  have hl9 := formOk_len' hf
  have hl4 : v.length ≤ 4 := by have := tLen_le kind; unfold vecOk at hV; simp only [Bool.and_eq_true, decide_eq_true_eq] at hV; have := hV.1.2; omega
  rw [hk]
  refine ⟨?_, by simp⟩
  simp only [Bool.and_self, if_true]
  unfold spec_l12All.f
  simp only [Option.bind_some, List.nil_append, List.length_nil, List.length_append, List.length_cons]
  rw [if_pos (by omega), if_pos (by omega), if_pos (by omega), Option.bind_some]
theorem take_all (v : List Int) (u w : Int) (h : List Int) (n : Nat) (hn : v.length = n) : (v ++ [u, w] ++ h).take n = v ∧ (v ++ [u, w] ++ h).drop (n + 2) = h ∧ rd (v ++ [u, w] ++ h) (n : Int) = u ∧ rd (v ++ [u, w] ++ h) ((n : Int) + 1) = w := by
  subst hn
  rw [show v ++ [u, w] ++ h = v ++ u :: w :: h by simp]
  refine ⟨List.take_left' rfl, ?_, ?_, ?_⟩
  · rw [← List.drop_drop, List.drop_left' rfl]; rfl
  · rw [rd_nat _ _ (by simp), List.getElem_append_right (Nat.le_refl _)]
    simp
  · rw [show ((v.length : Int) + 1) = ((v.length + 1 : Nat) : Int) by omega, rd_nat _ _ (by simp), List.getElem_append_right (by omega)]
    simp
theorem allOk_parts {kind u w : Int} {v h : List Int} (ha : allOk kind v u w h = true) : kOk kind = true ∧ (v.length : Int) = tLen kind ∧ v.all fOk = true ∧ fOk u = true ∧ fOk w = true ∧ h.all fOk = true ∧ (h.length : Int) = 2 * tLen kind + 1 := by
  unfold allOk vecOk formOk at ha
  simp only [Bool.and_eq_true, decide_eq_true_eq] at ha
  exact ⟨ha.1.1.1, ha.1.1.2, ha.1.2, ha.2.1.1.1, ha.2.1.1.2, ha.2.1.2.2, ha.2.2⟩
end Go.Proofs.YtahbooeioigbgaaDoor.Q
