/- The law FnExactBatchOk returns true for all arguments: BatchOk of the program and of the reference are one, and it leaves its argument alone. -/
import Derived.Test.YtplbobmllflniaaEb1
import Derived.Test.YtplbobmllflniaaEb2
import Derived.Test.YtplbobmllflniaaEb3
import Derived.Test.YtplbobmllflniaaEb4
import Derived.Test.YtplbobmllflniaaEb5
import Derived.Test.YtplbobmllflniaaQBaseEb
import Derived.Test.YtplbobmllflniaaQColOkEb
import Derived.Test.YtplbobmllflniaaQEqColEb
import Derived.Test.YtplbobmllflniaaQSameEb
set_option linter.unusedVariables false
set_option linter.unusedSimpArgs false
namespace Go.Proofs.Ytplbobmllflniaa.Pure
open Go.RowKit Go.Proofs.Ytplbobmllflniaa.Eb Go.Proofs.YtplbobmllflniaaW.PrintWords Go.Proofs.YtplbobmllflniaaW.PrintLast Go.Proofs.YtplbobmllflniaaW.PrintMore Go.Proofs.Ytplbobmllflniaa.Q
theorem batch_both (k : Nat) (a b : Int) (s i : List Int) (c d : Int) (t j : List Int) (n : Int) (hs : s.length ≤ 1048576) (hi : i.length ≤ 1048576) (ht : t.length ≤ 1048576) (hj : j.length ≤ 1048576) (hk : 2 * i.length + 2 * j.length + s.length + t.length + 2 < k) (hwi : allWf i = true) (hwj : allWf j = true) :
    ∃ x, spec_BatchOk.f k a b s i c d t j n = some x ∧ impl_BatchOk.f k a b s i c d t j n = some x := by
  unfold spec_BatchOk.f impl_BatchOk.f impl_needOk.f
  rw [specColOk_f k a b s i (by omega) (by omega) (by omega) (by omega), implColOk_f a b s i (by omega) hwi, Option.bind_some, Option.bind_some]
  cases colOk a b s i
  · exact ⟨false, rfl, rfl⟩
  rw [if_pos rfl, if_pos rfl, specColOk_f k c d t j (by omega) (by omega) (by omega) (by omega), implColOk_f c d t j (by omega) hwj, Option.bind_some, Option.bind_some]
  cases colOk c d t j
  · exact ⟨false, rfl, rfl⟩
  rw [if_pos rfl, if_pos rfl, same_f k i j (by omega) (by omega), sEqual_f k i j (by omega) (by omega), within_f, l6In_f]
  refine ⟨decide (a = 1) && decide (c = 2) && decide (b = d) && decide (i = j) && (decide (1 ≤ n) && decide (n ≤ 9)), ?_, ?_⟩ <;>
    (by_cases h1 : a = 1 <;> by_cases h2 : c = 2 <;> by_cases h3 : b = d <;> by_cases h4 : i = j <;> simp [h1, h2, h3, h4])
theorem FnExactBatchOk : ∀ (a0_0 a0_1 : Int) (l0_2 l0_3 : List Int) (a0_4 a0_5 : Int) (l0_6 l0_7 : List Int) (a0_8 : Int), (Lit.int .i64 a0_0).wf = true → (Lit.int .i64 a0_1).wf = true → l0_2.length ≤ maxLen → (∀ x ∈ l0_2, (Lit.int .i64 x).wf = true) → l0_3.length ≤ maxLen → (∀ x ∈ l0_3, (Lit.int .i64 x).wf = true) → (Lit.int .i64 a0_4).wf = true → (Lit.int .i64 a0_5).wf = true → l0_6.length ≤ maxLen → (∀ x ∈ l0_6, (Lit.int .i64 x).wf = true) → l0_7.length ≤ maxLen → (∀ x ∈ l0_7, (Lit.int .i64 x).wf = true) → (Lit.int .i64 a0_8).wf = true → ∃ k, laws_FnExactBatchOk.f k a0_0 a0_1 l0_2 l0_3 a0_4 a0_5 l0_6 l0_7 a0_8 = some true := by
  intro a b s i c d t j n _ _ hs _ hi hwi _ _ ht _ hj hwj _
  refine ⟨2 * i.length + 2 * j.length + s.length + t.length + 3, ?_⟩
  unfold laws_FnExactBatchOk.f laws_szBatch.f
  rw [szCol_f a b s i _ (by omega) (by omega) hs hi, Option.bind_some]
  by_cases h : (1048576 : Int) - (s.length : Int) - (i.length : Int) < 0
  · rw [if_pos h, if_pos (by omega), Option.bind_some, if_pos (by omega)]
  · rw [if_neg h, if_neg h, szCol_f c d t j _ (by omega) (by omega) ht hj, Option.bind_some]
    by_cases h2 : (1048576 : Int) - (s.length : Int) - (i.length : Int) - (t.length : Int) - (j.length : Int) < 0
    · rw [if_pos h2, if_pos (by omega), Option.bind_some, if_pos (by omega)]
    · rw [if_neg h2, if_neg h2, Option.bind_some, if_neg h2]
      have hto : laws_toBatch.f (2 * i.length + 2 * j.length + s.length + t.length + 3) a b s i c d t j n = some (a, b, s, i, c, d, t, j, n) := by
        unfold laws_toBatch.f
        rw [toCol_f _ a b s i (by omega) (by omega) (by omega) (by omega), Option.bind_some, toCol_f _ c d t j (by omega) (by omega) (by omega) (by omega), Option.bind_some]
      rw [hto]
      simp only [Option.bind_some]
      obtain ⟨x, e1, e2⟩ := batch_both (2 * i.length + 2 * j.length + s.length + t.length + 3) a b s i c d t j n (by omega) (by omega) (by omega) (by omega) (by omega) (List.all_eq_true.2 hwi) (List.all_eq_true.2 hwj)
      rw [e1]
      simp only [Option.bind_some]
      rw [e2]
      simp only [Option.bind_some]
      unfold laws_eqBatch.f
      rw [if_neg (by simp), eqCol_f _ a b s i _ _ _ _ (by omega) (by omega) (by omega) (by omega), Option.bind_some, if_pos (by simp), eqCol_f _ c d t j _ _ _ _ (by omega) (by omega) (by omega) (by omega), Option.bind_some, if_pos (by simp), if_pos rfl, Option.bind_some, if_pos rfl]

end Go.Proofs.Ytplbobmllflniaa.Pure
