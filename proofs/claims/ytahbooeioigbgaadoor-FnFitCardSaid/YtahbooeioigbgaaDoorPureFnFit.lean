import Derived.Test.YtahbooeioigbgaaDoorDf12
import Derived.Test.YtahbooeioigbgaaDoorDf2
import Derived.Test.YtahbooeioigbgaaDoorDf3
import Derived.Test.YtahbooeioigbgaaDoorQDrawFtDf
import Derived.Test.YtahbooeioigbgaaDoorQFitDf
import Derived.Test.YtahbooeioigbgaaDoorQGeDf
set_option linter.unusedVariables false
set_option linter.unusedSimpArgs false
namespace Go.Proofs.YtahbooeioigbgaaDoor.Pure
open Go.RowKit Go.Proofs.YtahbooeioigbgaaDoor.Df Go.Proofs.YtahbooeioigbgaaDoorS.PrintWords Go.Proofs.YtahbooeioigbgaaDoorS.PrintLast Go.Proofs.YtahbooeioigbgaaDoorS.PrintMore Go.Proofs.YtahbooeioigbgaaDoor.Q
theorem FnFit : laws_FnFit.Pure := by
  intro l0 _ _ hb
  refine ⟨1600, ?_⟩
  unfold laws_FnFit.f
  by_cases h : (l0.length : Int) > 1048576
  · rw [if_pos h]
  rw [if_neg h]
  obtain ⟨a, b, c, l, a', b', c', l', e1, ll, ll'⟩ := drawPartsFit_f l0 (bytes_of hb) 1600 (by omega)
  rw [e1, Option.bind_some]
  simp only
  obtain ⟨q1, q2⟩ := partsFit_f 1600 a b c l a' b' c' l' (by omega) (by omega) (by omega) (by omega)
  rw [q2, Option.bind_some, q1, Option.bind_some, if_neg (by simp)]
  have fb : ∀ t : Bool, fitOk a b c l a' b' c' l' = t → (t = true → c = 1 ∧ c' = 2) := by
    intro t ht h1
    subst h1
    unfold fitOk at ht
    simp only [Bool.and_eq_true, decide_eq_true_eq] at ht
    exact ⟨ht.1.2, ht.2⟩
  have hpf : ∀ u v x y u' v' x' y', impl_PartsFit.f u v x y u' v' x' y' = some (fitOk u v x y u' v' x' y') := by
    intro u v x y u' v' x' y'
    unfold impl_PartsFit.f impl_PartOk.f fitOk
    simp only [Option.bind_some]
    cases partOk u v x y
    · rfl
    cases partOk u' v' x' y'
    · rfl
    simp only [if_true, Bool.true_and]
    by_cases e1 : u = u'
    · by_cases e2 : v = v'
      · by_cases e3 : x = 1
        · rw [if_pos e1, if_pos e2, if_pos e3]
          simp only [e1, e2, e3, decide_true, Bool.true_and]
          rfl
        · rw [if_pos e1, if_pos e2, if_neg e3]; simp [e3]
      · rw [if_pos e1, if_neg e2]; simp [e2]
    · rw [if_neg e1]; simp [e1]
  have hback : c = 1 → fitOk a' b' c' l' a b c l = false := by
    intro h1
    unfold fitOk
    have : decide (c = 2) = false := decide_eq_false (by omega)
    rw [this]; simp
  unfold impl_PartOk.f
  rw [Option.bind_some]
  cases p1 : partOk a b c l
  · have hf : fitOk a b c l a' b' c' l' = false := by unfold fitOk; rw [p1]; rfl
    rw [hf, if_neg (by simp), if_pos (by rfl), if_neg (by simp)]
    rfl
  rw [if_pos rfl, Option.bind_some]
  cases p2 : partOk a' b' c' l'
  · have hf : fitOk a b c l a' b' c' l' = false := by unfold fitOk; rw [p1, p2]; rfl
    rw [hf, if_neg (by simp), if_pos (by rfl), if_neg (by simp)]
    rfl
  rw [if_pos rfl]
  by_cases e1 : a = a'
  · rw [if_pos e1]
    by_cases e2 : b = b'
    · rw [if_pos e2]
      by_cases e3 : c = 1
      · rw [if_pos e3]
        have hf : fitOk a b c l a' b' c' l' = (c' == 2) := by
          unfold fitOk
          rw [p1, p2, decide_eq_true e1, decide_eq_true e2, decide_eq_true e3]
          rfl
        rw [hf, if_pos (by simp)]
        by_cases e4 : (c' == 2) = true
        · rw [if_pos e4, hpf, hback e3]
          rfl
        · rw [if_neg e4]
          rfl
      · have hf : fitOk a b c l a' b' c' l' = false := by unfold fitOk; rw [decide_eq_false e3]; simp
        rw [hf, if_neg e3, if_pos (by rfl), if_neg (by simp)]
        rfl
    · have hf : fitOk a b c l a' b' c' l' = false := by unfold fitOk; rw [decide_eq_false e2]; simp
      rw [hf, if_neg e2, if_pos (by rfl), if_neg (by simp)]
      rfl
  · have hf : fitOk a b c l a' b' c' l' = false := by unfold fitOk; rw [decide_eq_false e1]; simp
    rw [hf, if_neg e1, if_pos (by rfl), if_neg (by simp)]
    rfl
end Go.Proofs.YtahbooeioigbgaaDoor.Pure
