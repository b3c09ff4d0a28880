import Derived.Test.YtplbobmllflniaaEi5
import Derived.Test.YtplbobmllflniaaQShareEi
import Derived.Test.YtplbobmllflniaaQThroughEi
set_option linter.unusedVariables false
set_option linter.unusedSimpArgs false
namespace Go.Proofs.Ytplbobmllflniaa.Q
open Go.RowKit Go.Proofs.Ytplbobmllflniaa.Ei Go.Proofs.YtplbobmllflniaaW.PrintWords Go.Proofs.YtplbobmllflniaaW.PrintLast Go.Proofs.YtplbobmllflniaaW.PrintMore
theorem elMinus_f (a b : Int) (ha : 0 ≤ a ∧ a ≤ 30) (hb : 0 ≤ b ∧ b ≤ 30) : impl_element_minus.f a b = some ((a - b) % 31) := by
  rw [eMinus_f, eMinus_v a b ha hb]
theorem elPlus_f (a b : Int) (ha : 0 ≤ a ∧ a ≤ 30) (hb : 0 ≤ b ∧ b ≤ 30) : impl_element_plus.f a b = some ((a + b) % 31) := by
  rw [ePlus_f, ePlus_v a b ha hb]
theorem elTimes_f (a b : Int) (ha : 0 ≤ a ∧ a ≤ 30) (hb : 0 ≤ b ∧ b ≤ 30) : impl_element_times.f a b = some ((a * b) % 31) := by
  rw [eTimes_f, eTimes_v a b ha hb]
theorem rd_fOk {l : List Int} (h : l.all fOk = true) (i : Int) : 0 ≤ rd l i ∧ rd l i ≤ 30 := by
  unfold rd
  rw [List.getD_eq_getElem?_getD]
  rcases Nat.lt_or_ge i.toNat l.length with hi | hi
  · rw [List.getElem?_eq_getElem hi]; exact (fOk_iff _).1 (all_get h _ hi)
  · rw [List.getElem?_eq_none hi]; simp
theorem leO_le {α : Type} {f : Nat → Option α} (h : ∀ k, LeO (f k) (f (k + 1))) {k K : Nat} (hk : k ≤ K) {r : α} (hr : f k = some r) : f K = some r := by
  obtain ⟨d, rfl⟩ : ∃ d, K = k + d := ⟨K - k, by omega⟩
  clear hk
  induction d with
  | zero => exact hr
  | succ d ih => exact h _ _ ih
end Go.Proofs.Ytplbobmllflniaa.Q
