import Derived.Test.YtahbooeioigbgaaDoorDa20
import Derived.Test.YtahbooeioigbgaaDoorDa25
import Derived.Test.YtahbooeioigbgaaDoorDa26
import Derived.Test.YtahbooeioigbgaaDoorDa6
import Derived.Test.YtahbooeioigbgaaDoorDa9
import Derived.Test.YtahbooeioigbgaaDoorQCutFDa
import Derived.Test.YtahbooeioigbgaaDoorQDrawTDa
import Derived.Test.YtahbooeioigbgaaDoorQGaDa
import Derived.Test.YtahbooeioigbgaaDoorQGeDa
import Derived.Test.YtahbooeioigbgaaDoorQGfDa
import Derived.Test.YtahbooeioigbgaaDoorQGlDa
import Derived.Test.YtahbooeioigbgaaDoorQGsDa
import Derived.Test.YtahbooeioigbgaaDoorQPlDa
set_option linter.unusedVariables false
set_option linter.unusedSimpArgs false
namespace Go.Proofs.YtahbooeioigbgaaDoor.Pure
open Go.RowKit Go.Proofs.YtahbooeioigbgaaDoor.Da Go.Proofs.YtahbooeioigbgaaDoorW.PrintWords Go.Proofs.YtahbooeioigbgaaDoorW.PrintLast Go.Proofs.YtahbooeioigbgaaDoorW.PrintMore Go.Proofs.YtahbooeioigbgaaDoor.Q
theorem FnProofCut : laws_FnProofCut.Pure := by
  intro l0 _ _ hb
  refine ⟨1600, ?_⟩
  unfold laws_FnProofCut.f
  by_cases h : (l0.length : Int) > 1048576
  · rw [if_pos h]
  rw [if_neg h]
  obtain ⟨kind, l, e1, ll⟩ := drawProofCut_f l0 (bytes_of hb) 1600 (by omega)
  rw [e1, Option.bind_some]
  simp only
  have ht := tLen_le kind
  unfold spec_ProofCut.f
  rw [l11Kind_f, Option.bind_some]
  cases hk : kOk kind
  · have e2 : impl_ProofCut.f kind l = some ([], 0, 0, [], false) := by
      unfold impl_ProofCut.f
      rw [(proofLen_f kind).2, Option.bind_some, sizedN_f _ _ _ (by rw [hk]; simp), Option.bind_some, hk]; rfl
    rw [if_neg (by simp), Option.bind_some, e2, Option.bind_some]
    simp only
    rw [if_neg (by simp), loInts_f _ [] [] (by simp) (by simp), Option.bind_some, if_pos (by simp), loProof_f _ _ _ _ _ _ _ (by simp) (by simp), Option.bind_some, if_pos (by simp)]
    simp only [laws_FnProofCut.j0]
    rw [if_pos (by rfl), if_pos (by rfl), loInts_f _ [] [] (by simp) (by simp), Option.bind_some, if_pos (by simp), loProof_f _ _ _ _ _ _ _ (by simp) (by simp), Option.bind_some, if_pos (by simp), if_neg (by simp), (proofLen_f kind).2, Option.bind_some, hk]
    simp only [Bool.false_eq_true, if_false]
    by_cases hz : (l.length : Int) = 0
    · rw [if_pos hz]
      unfold impl_ShareOk.f impl_elementsOk.f
      simp only [Option.bind_some]
      split <;> rfl
    · rw [if_neg hz]
  rw [if_pos rfl, shareOk_f _ _ (by omega) (by omega), Option.bind_some]
  by_cases hok : l.all fOk = true ∧ (l.length : Int) = 3 * tLen kind + 3
  · obtain ⟨hA, hn⟩ := hok
    rw [hA, if_pos (by simp; omega), (proofLen_f kind).1, Option.bind_some, hk, if_pos rfl, if_pos hn, (cut_f kind l hn).2, Option.bind_some, Option.bind_some]
    simp only
    rw [proofCut_f kind l hk hn hA, Option.bind_some]
    simp only
    have lh : (l.drop ((tLen kind).toNat + 2)).length ≤ 20 := by rw [List.length_drop]; omega
    have lv : (l.take (tLen kind).toNat).length ≤ 20 := by rw [List.length_take]; omega
    rw [if_neg (by simp), loInts_f _ _ _ (by omega) (by omega), Option.bind_some, if_pos (by simp), loProof_f _ _ _ _ _ _ _ (by omega) (by omega), Option.bind_some, if_pos (by simp)]
    simp only [laws_FnProofCut.j0]
    rw [if_neg (by simp), (allF_f 1600 kind _ _ _ _ (by omega) (by omega) (by omega) (by omega)).2, Option.bind_some]
    have hall : allOk kind (l.take (tLen kind).toNat) (rd l (tLen kind)) (rd l (tLen kind + 1)) (l.drop ((tLen kind).toNat + 2)) = true := by
      have r1 : fOk (rd l (tLen kind)) = true := (fOk_iff _).2 (rd_fOk hA _)
      have r2 : fOk (rd l (tLen kind + 1)) = true := (fOk_iff _).2 (rd_fOk hA _)
      have r3 := all_take hA (tLen kind).toNat
      have r4 := all_drop hA ((tLen kind).toNat + 2)
      have r5 : ((l.take (tLen kind).toNat).length : Int) = tLen kind := by rw [List.length_take]; omega
      have r6 : ((l.drop ((tLen kind).toNat + 2)).length : Int) = 2 * tLen kind + 1 := by rw [List.length_drop]; omega
      unfold allOk vecOk formOk
      rw [hk, r1, r2, r3, r4, r5, r6]
      simp only [Bool.and_true, Bool.true_and, decide_true]
      exact decide_eq_true (by omega)
    have hback : l.take (tLen kind).toNat ++ [rd l (tLen kind), rd l (tLen kind + 1)] ++ l.drop ((tLen kind).toNat + 2) = l := by
      have g1 : (tLen kind).toNat < l.length := by omega
      have g2 : (tLen kind).toNat + 1 < l.length := by omega
      have e3 : rd l (tLen kind) = l[(tLen kind).toNat] := by rw [← rd_nat l _ g1]; congr 1; omega
      have e4 : rd l (tLen kind + 1) = l[(tLen kind).toNat + 1] := by rw [← rd_nat l _ g2]; congr 1; omega
      rw [e3, e4, List.append_assoc]
      conv => rhs; rw [← List.take_append_drop (tLen kind).toNat l]
      rw [List.drop_eq_getElem_cons g1, List.drop_eq_getElem_cons g2]
      rfl
    rw [hall, if_pos rfl]
    simp only
    rw [if_pos trivial, hback, loInts_f _ _ _ (by omega) (by omega), Option.bind_some, if_pos (by simp), (proofLen_f kind).2, Option.bind_some, hk, if_pos rfl, hn]
    simp
  · have e2 : impl_ProofCut.f kind l = some ([], 0, 0, [], false) := by
      unfold impl_ProofCut.f
      rw [(proofLen_f kind).2, Option.bind_some, hk, if_pos rfl, sizedN_f _ _ _ (by omega), Option.bind_some, hk]
      rw [if_neg]
      intro hc
      simp only [Bool.true_and, Bool.and_eq_true, decide_eq_true_eq] at hc
      exact hok ⟨hc.2, hc.1⟩
    have e3 : (if (l.all fOk && decide ((l.length : Int) ≤ 20)) = true then (spec_ProofLen.f kind).bind fun t657 => (if (l.length : Int) = t657 then ((spec_l12Cut.f kind l).bind fun bt658 => (some (bt658.1, bt658.2.1, bt658.2.2.1, bt658.2.2.2, true))) else (some ((([] : List Int)), 0, 0, ([] : List Int), false))) else (some ((([] : List Int)), 0, 0, ([] : List Int), false))) = some ([], 0, 0, [], false) := by
      by_cases hA : l.all fOk = true
      · rw [hA]
        by_cases h20 : (l.length : Int) ≤ 20
        · rw [if_pos (by simp [h20]), (proofLen_f kind).1, Option.bind_some, hk, if_pos rfl, if_neg (fun hc => hok ⟨hA, hc⟩)]
        · rw [if_neg (by simp; omega)]
      · rw [if_neg (by simp [hA])]
    rw [e3, Option.bind_some, e2, Option.bind_some]
    simp only
    rw [if_neg (by simp), loInts_f _ [] [] (by simp) (by simp), Option.bind_some, if_pos (by simp), loProof_f _ _ _ _ _ _ _ (by simp) (by simp), Option.bind_some, if_pos (by simp)]
    simp only [laws_FnProofCut.j0]
    rw [if_pos (by rfl), if_pos (by rfl), loInts_f _ [] [] (by simp) (by simp), Option.bind_some, if_pos (by simp), loProof_f _ _ _ _ _ _ _ (by simp) (by simp), Option.bind_some, if_pos (by simp), if_neg (by simp), (proofLen_f kind).2, Option.bind_some, hk]
    simp only [if_true]
    by_cases hz : (l.length : Int) = 3 * tLen kind + 3
    · rw [if_pos hz]
      unfold impl_ShareOk.f impl_elementsOk.f
      simp only [Option.bind_some]
      rw [if_neg]
      intro hc
      simp only [Bool.and_eq_true] at hc
      exact hok ⟨hc.2, hz⟩
    · rw [if_neg hz]
end Go.Proofs.YtahbooeioigbgaaDoor.Pure
