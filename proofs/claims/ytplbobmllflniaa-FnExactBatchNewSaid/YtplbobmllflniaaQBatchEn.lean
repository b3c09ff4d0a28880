/- Plain lemmas about the Lean functions of the program's printed text; each theorem states its own conditions. -/
import Derived.Test.YtplbobmllflniaaEn1
import Derived.Test.YtplbobmllflniaaEn2
import Derived.Test.YtplbobmllflniaaQBaseEn
import Derived.Test.YtplbobmllflniaaQColEn
import Derived.Test.YtplbobmllflniaaQEqColEn
import Derived.Test.YtplbobmllflniaaQMarkEn
set_option linter.unusedVariables false
set_option linter.unusedSimpArgs false
namespace Go.Proofs.Ytplbobmllflniaa.Q
open Go.RowKit Go.Proofs.Ytplbobmllflniaa.En Go.Proofs.YtplbobmllflniaaW.PrintWords Go.Proofs.YtplbobmllflniaaW.PrintLast Go.Proofs.YtplbobmllflniaaW.PrintMore
/-- a new batch: both collectors, the need, and whether there is one -/
def batchNew (kind need : Int) : Int × Int × List Int × List Int × Int × Int × List Int × List Int × Int × Bool :=
  if (kOk kind && (decide (1 ≤ need) && decide (need ≤ 9))) = true then (1, kind, List.replicate (tLen kind).toNat 0, [], 2, kind, List.replicate (tLen kind).toNat 0, [], need, true) else (0, 0, [], [], 0, 0, [], [], 0, false)
theorem colNew_1 (k : Int) : colNew 1 k = if kOk k = true then (1, k, List.replicate (tLen k).toNat 0, [], true) else (0, 0, [], [], false) := by
  unfold colNew; simp
theorem colNew_2 (k : Int) : colNew 2 k = if kOk k = true then (2, k, List.replicate (tLen k).toNat 0, [], true) else (0, 0, [], [], false) := by
  unfold colNew; simp
theorem specBatchNew_f (a b : Int) : spec_BatchNew.f a b = some (batchNew a b) := by
  unfold spec_BatchNew.f batchNew
  rw [specColNew_f, Option.bind_some, specColNew_f, Option.bind_some, colNew_1, colNew_2]
  cases h : kOk a
  · rfl
  · simp only [if_true]
    rw [l6In_f, Option.bind_some]
    cases h2 : (decide (1 ≤ b) && decide (b ≤ 9))
    · rfl
    · rfl
theorem implBatchNew_f (a b : Int) : impl_BatchNew.f a b = some (batchNew a b) := by
  unfold impl_BatchNew.f batchNew impl_needOk.f
  rw [implColNew_f, Option.bind_some, implColNew_f, Option.bind_some, colNew_1, colNew_2]
  cases h : kOk a
  · rfl
  · simp only [if_true]
    rw [within_f, Option.bind_some]
    cases h2 : (decide (1 ≤ b) && decide (b ≤ 9))
    · rfl
    · rfl
theorem eqBatch_f (k : Nat) (a b : Int) (s i : List Int) (c d : Int) (t j : List Int) (n : Int) (a' b' : Int) (s' i' : List Int) (c' d' : Int) (t' j' : List Int) (n' : Int)
    (hs : s.length ≤ 1048576000) (hi : i.length ≤ 1048576000) (ht : t.length ≤ 1048576000) (hj : j.length ≤ 1048576000) (k1 : s.length < k) (k2 : i.length < k) (k3 : t.length < k) (k4 : j.length < k) :
    laws_eqBatch.f k a b s i c d t j n a' b' s' i' c' d' t' j' n' = some (decide (a = a') && decide (b = b') && decide (s = s') && decide (i = i') && (decide (c = c') && decide (d = d') && decide (t = t') && decide (j = j')) && decide (n = n')) := by
  unfold laws_eqBatch.f
  rw [eqCol_f k a b s i a' b' s' i' hs hi k1 k2, Option.bind_some, eqCol_f k c d t j c' d' t' j' ht hj k3 k4]
  generalize (decide (a = a') && decide (b = b') && decide (s = s') && decide (i = i')) = x
  generalize (decide (c = c') && decide (d = d') && decide (t = t') && decide (j = j')) = y
  cases x
  · rfl
  · rw [if_pos rfl, Option.bind_some]
    cases y
    · rfl
    · rw [if_pos rfl]
      by_cases h : n = n' <;> simp [h]
theorem markBatch_f (k : Nat) (a b : Int) (s i : List Int) (c d : Int) (t j : List Int) (n m : Int) (hm : 0 ≤ m) (hm2 : m ≤ 1000000)
    (hs : s.length ≤ 10000000) (hi : i.length ≤ 10000000) (ht : t.length ≤ 10000000) (hj : j.length ≤ 10000000) (k1 : s.length < k) (k2 : i.length < k) (k3 : t.length < k) (k4 : j.length < k) :
    laws_markBatch.f k a b s i c d t j n m = some (m + s.length + i.length + t.length + j.length, marks m s.length, marks (m + s.length) i.length, marks (m + s.length + i.length) t.length, marks (m + s.length + i.length + t.length) j.length) := by
  unfold laws_markBatch.f
  rw [markCol_f k a b s i m hm (by omega) (by omega) (by omega) k1 k2, Option.bind_some]
  simp only
  rw [markCol_f k c d t j _ (by omega) (by omega) (by omega) (by omega) k3 k4, Option.bind_some]
theorem heldBatch_f (k : Nat) (a b c d n : Int) (n1 n2 n3 n4 : Nat) (m : Int) (hm : 0 ≤ m) (hm2 : m ≤ 1000000)
    (hs : n1 ≤ 10000000) (hi : n2 ≤ 10000000) (ht : n3 ≤ 10000000) (hj : n4 ≤ 10000000) (k1 : n1 < k) (k2 : n2 < k) (k3 : n3 < k) (k4 : n4 < k) :
    laws_heldBatch.f k a b (marks m n1) (marks (m + n1) n2) c d (marks (m + n1 + n2) n3) (marks (m + n1 + n2 + n3) n4) n m = some (m + n1 + n2 + n3 + n4) := by
  unfold laws_heldBatch.f
  rw [heldCol_f k a b m n1 n2 hm (by omega) (by omega) (by omega) k1 k2, Option.bind_some, if_neg (by omega), heldCol_f k c d _ n3 n4 (by omega) (by omega) (by omega) (by omega) k3 k4, Option.bind_some, if_neg (by omega)]
theorem batchNew_short (a b : Int) : (batchNew a b).2.2.1.length ≤ 4 ∧ (batchNew a b).2.2.2.1.length ≤ 4 ∧ (batchNew a b).2.2.2.2.2.2.1.length ≤ 4 ∧ (batchNew a b).2.2.2.2.2.2.2.1.length ≤ 4 := by
  unfold batchNew
  have := tLen_le a
  split <;> simp; omega

end Go.Proofs.Ytplbobmllflniaa.Q
