import Derived.Test.YtlgbblaidohljaaGreatDoorQAsk3Zc
import Derived.Test.YtlgbblaidohljaaGreatDoorQGaZc
import Derived.Test.YtlgbblaidohljaaGreatDoorQGcZc
import Derived.Test.YtlgbblaidohljaaGreatDoorQGdZc
import Derived.Test.YtlgbblaidohljaaGreatDoorQGeZc
import Derived.Test.YtlgbblaidohljaaGreatDoorQGfZc
import Derived.Test.YtlgbblaidohljaaGreatDoorZc1
import Derived.Test.YtlgbblaidohljaaGreatDoorZc28
set_option linter.unusedVariables false
set_option linter.unusedSimpArgs false
namespace Go.Proofs.YtlgbblaidohljaaGreatDoor.Pure
open Go.RowKit Go.Proofs.YtlgbblaidohljaaGreatDoor.Zc Go.Proofs.YtlgbblaidohljaaGreatDoorU.PrintWords Go.Proofs.YtlgbblaidohljaaGreatDoorU.PrintLast Go.Proofs.YtlgbblaidohljaaGreatDoorU.PrintMore Go.Proofs.YtlgbblaidohljaaGreatDoor.Q
theorem FnAskTold : laws_FnAskTold.Pure := by
  intro l _ _ hb
  refine ⟨1700, ?_⟩
  unfold laws_FnAskTold.f
  by_cases h : (l.length : Int) > 1048576
  · rw [if_pos h]
  rw [if_neg h]
  obtain ⟨kind, v, first, a, w, e1, hl⟩ := drawQueryAsk_f l (bytes_of hb) 1700 (by omega)
  rw [e1, Option.bind_some]
  simp only
  obtain ⟨q1, q2⟩ := queryAsk_both 1700 kind v (by omega) (by omega) first a w
  rw [q1, Option.bind_some, q2, Option.bind_some]
  cases hm : askMay kind v a w
  · rw [if_neg (by simp)]
    rw [if_neg (by simp), loInts_f _ [] [] (by simp) (by simp), Option.bind_some, if_pos (by simp)]
    simp only [laws_FnAskTold.j0]
    rw [if_pos (by rfl), if_pos (by rfl), loInts_f _ [] [] (by simp) (by simp), Option.bind_some]
    simp
  · rw [if_pos rfl]
    simp only
    have l4 := askV_length kind v first a w
    rw [if_neg (by simp), loInts_f _ _ _ (by omega) (by omega), Option.bind_some, if_pos (by simp)]
    simp only [laws_FnAskTold.j0]
    rw [if_neg (by simp)]
    have hm' := hm
    unfold askMay at hm'
    simp only [Bool.and_eq_true, decide_eq_true_eq] at hm'
    obtain ⟨⟨⟨⟨hk, h2, h3⟩, h4⟩, h5⟩, h6⟩ := hm'
    have ht := tLen_le kind
    have ha : 0 ≤ a ∧ a ≤ 30 := by omega
    have lh : (v.drop ((tLen kind).toNat + 2)).length ≤ 20 := by rw [List.length_drop]; omega
    have lt : (v.take (tLen kind).toNat).length ≤ 20 := by rw [List.length_take]; omega
    obtain ⟨_, q3⟩ := queryAsk_both 1699 kind v (by omega) (by omega) true a w
    rw [proofCut_f kind v hk h5 h6, Option.bind_some]
    simp only
    rw [q3, Option.bind_some, if_pos hm]
    simp only
    rw [pok_i 1699 kind _ _ _ _ (by omega) (by omega) (by omega), Option.bind_some]
    cases hp : pok kind (v.take (tLen kind).toNat) (rd v (tLen kind)) (rd v (tLen kind + 1)) (v.drop ((tLen kind).toNat + 2))
    · rw [if_neg (by simp)]
    · rw [if_pos rfl]
      obtain ⟨x, y, e, hx, hy⟩ := right_ask kind v hk h5 h6 hp a w ha h4
      rw [e]
      simp only [List.length_cons, List.length_nil]
      have r0 : rd [x, y, (x * y) % 31, 0] 0 = x := rfl
      have r1 : rd [x, y, (x * y) % 31, 0] 1 = y := rfl
      have r2 : rd [x, y, (x * y) % 31, 0] 2 = (x * y) % 31 := rfl
      have r3 : rd [x, y, (x * y) % 31, 0] 3 = 0 := rfl
      simp only [r0, r1, r2, r3]
      rw [iMul x y ((fOk_iff _).2 hx) ((fOk_iff _).2 hy)]
      simp
end Go.Proofs.YtlgbblaidohljaaGreatDoor.Pure
