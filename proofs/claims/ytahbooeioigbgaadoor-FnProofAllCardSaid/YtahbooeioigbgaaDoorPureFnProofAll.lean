import Derived.Test.YtahbooeioigbgaaDoorDa22
import Derived.Test.YtahbooeioigbgaaDoorDa6
import Derived.Test.YtahbooeioigbgaaDoorQDrawPDa
import Derived.Test.YtahbooeioigbgaaDoorQGaDa
import Derived.Test.YtahbooeioigbgaaDoorQGeDa
import Derived.Test.YtahbooeioigbgaaDoorQGfDa
import Derived.Test.YtahbooeioigbgaaDoorQGlDa
set_option linter.unusedVariables false
set_option linter.unusedSimpArgs false
namespace Go.Proofs.YtahbooeioigbgaaDoor.Pure
open Go.RowKit Go.Proofs.YtahbooeioigbgaaDoor.Da Go.Proofs.YtahbooeioigbgaaDoorW.PrintWords Go.Proofs.YtahbooeioigbgaaDoorW.PrintLast Go.Proofs.YtahbooeioigbgaaDoorW.PrintMore Go.Proofs.YtahbooeioigbgaaDoor.Q
theorem FnProofAll : laws_FnProofAll.Pure := by
  intro l _ _ hb
  refine ⟨1600, ?_⟩
  unfold laws_FnProofAll.f
  by_cases h : (l.length : Int) > 1048576
  · rw [if_pos h]
  rw [if_neg h]
  obtain ⟨kind, v, u, w, H, e1, lv, lH⟩ := drawProofAll_f l (bytes_of hb) 1600 (by omega)
  rw [e1, Option.bind_some]
  simp only
  obtain ⟨q1, q2⟩ := allF_f 1600 kind v u w H (by omega) (by omega) (by omega) (by omega)
  rw [q1, Option.bind_some, q2, Option.bind_some]
  cases ha : allOk kind v u w H
  · rw [if_neg (by simp), if_neg (by simp)]
    rw [loInts_f _ [] [] (by simp) (by simp), Option.bind_some, if_pos (by simp)]
    simp only [laws_FnProofAll.j0]
    rw [if_pos (by rfl), if_pos (by rfl), loInts_f _ [] [] (by simp) (by simp), Option.bind_some]
    simp
  · rw [if_pos rfl, if_neg (by simp)]
    obtain ⟨hk, l1, a1, hu, hw, a2, l2⟩ := allOk_parts ha
    have ht := tLen_le kind
    have lt : v.length = (tLen kind).toNat := by omega
    obtain ⟨t1, t2, t3, t4⟩ := take_all v u w H (tLen kind).toNat lt
    have ee : ((tLen kind).toNat : Int) = tLen kind := by omega
    rw [ee] at t3 t4
    have hal : (v ++ [u, w] ++ H).all fOk = true := by simp only [List.all_append, List.all_cons, List.all_nil, a1, a2, hu, hw]; rfl
    have hln : ((v ++ [u, w] ++ H).length : Int) = 3 * tLen kind + 3 := by simp only [List.length_append, List.length_cons, List.length_nil]; omega
    simp only
    rw [loInts_f _ _ _ (by omega) (by omega), Option.bind_some, if_pos (by simp)]
    simp only [laws_FnProofAll.j0]
    rw [if_neg (by simp), proofCut_f kind _ hk hln hal, Option.bind_some, t1, t2, t3, t4]
    simp only
    rw [if_pos trivial, loInts_f _ _ _ (by omega) (by omega), Option.bind_some, if_pos (by simp), loProof_f _ _ _ _ _ _ _ (by omega) (by omega), Option.bind_some, if_pos (by simp), iProofLen_f kind, Option.bind_some, if_pos hk, hln]
    simp
end Go.Proofs.YtahbooeioigbgaaDoor.Pure
