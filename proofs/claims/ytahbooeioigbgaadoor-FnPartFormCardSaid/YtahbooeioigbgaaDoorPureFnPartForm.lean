import Derived.Test.YtahbooeioigbgaaDoorDq1
import Derived.Test.YtahbooeioigbgaaDoorDq12
import Derived.Test.YtahbooeioigbgaaDoorDq3
import Derived.Test.YtahbooeioigbgaaDoorQDrawPkDq
import Derived.Test.YtahbooeioigbgaaDoorQGaDq
import Derived.Test.YtahbooeioigbgaaDoorQGeDq
import Derived.Test.YtahbooeioigbgaaDoorQPartSDq
import Derived.Test.YtahbooeioigbgaaDoorQPlIDq
set_option linter.unusedVariables false
set_option linter.unusedSimpArgs false
namespace Go.Proofs.YtahbooeioigbgaaDoor.Pure
open Go.RowKit Go.Proofs.YtahbooeioigbgaaDoor.Dq Go.Proofs.YtahbooeioigbgaaDoorT.PrintWords Go.Proofs.YtahbooeioigbgaaDoorT.PrintLast Go.Proofs.YtahbooeioigbgaaDoorT.PrintMore Go.Proofs.YtahbooeioigbgaaDoor.Q
theorem FnPartForm : laws_FnPartForm.Pure := by
  intro l0 _ _ hb
  refine ⟨1600, ?_⟩
  unfold laws_FnPartForm.f
  by_cases h : (l0.length : Int) > 1048576
  · rw [if_pos h]
  rw [if_neg h]
  obtain ⟨i, kd, s, l, e1, ll⟩ := drawPartOk_f l0 (bytes_of hb) 1600 (by omega)
  rw [e1, Option.bind_some]
  simp only
  unfold impl_PartOk.f
  rw [Option.bind_some, specPartOk_f _ i kd s l (by omega) (by omega), Option.bind_some, if_neg (by simp)]
  have ht := tLen_le kd
  cases hp : partOk i kd s l
  · simp only [laws_FnPartForm.j0]
    rw [if_pos (by rfl), specPartOk_f _ i kd s l (by omega) (by omega), Option.bind_some, hp]
    rfl
  simp only [laws_FnPartForm.j0]
  have hp' := hp
  unfold partOk at hp'
  simp only [Bool.and_eq_true, decide_eq_true_eq] at hp'
  obtain ⟨⟨⟨i1, i2⟩, s1, s2⟩, ⟨hk, hl⟩, ha⟩ := hp'
  have g1 : partOk i kd 3 l = false := by unfold partOk; simp
  have g2 : partOk 0 kd s l = false := by unfold partOk; simp
  have g3 : partOk i kd s (l ++ [0]) = false := by
    unfold partOk
    have : ¬ (((l ++ [0]).length : Int) = 3 * tLen kd + 3) := by simp only [List.length_append, List.length_cons, List.length_nil]; omega
    rw [decide_eq_false this]; simp
  unfold impl_PartOk.f
  rw [if_neg (by simp), Option.bind_some, List.nil_append, if_pos (by simp; omega), Option.bind_some, if_pos (by omega), Option.bind_some, g1, if_neg (by simp), Option.bind_some, g2, if_neg (by simp), Option.bind_some, g3, if_neg (by simp), iProofLen_f, Option.bind_some, if_pos hk, hl]
  simp
end Go.Proofs.YtahbooeioigbgaaDoor.Pure
