/- Plain lemmas about the Lean functions of the program's printed text; each theorem states its own conditions. -/
import Derived.Test.YtplbobmllflniaaEh2
import Derived.Test.YtplbobmllflniaaEh5
import Derived.Test.YtplbobmllflniaaEh8
import Derived.Test.YtplbobmllflniaaEh9
import Derived.Test.YtplbobmllflniaaQBaseEh
import Derived.Test.YtplbobmllflniaaQIntsEh
import Derived.Test.YtplbobmllflniaaQShareEh
set_option linter.unusedVariables false
set_option linter.unusedSimpArgs false
namespace Go.Proofs.Ytplbobmllflniaa.Q
open Go.RowKit Go.Proofs.Ytplbobmllflniaa.Eh Go.Proofs.YtplbobmllflniaaW.PrintWords Go.Proofs.YtplbobmllflniaaW.PrintLast Go.Proofs.YtplbobmllflniaaW.PrintMore
theorem fieldSum_f (a b : Int) (ha : fOk a = true) (hb : fOk b = true) : spec_FieldSum.f a b = some ((a + b) % 31) := by
  unfold spec_FieldSum.f
  have h1 := (fOk_iff a).1 ha
  have h2 := (fOk_iff b).1 hb
  rw [fieldOk_f, Option.bind_some, if_pos ha, fieldOk_f, Option.bind_some, if_pos hb, w64 (by omega) (by omega), Int.tmod_eq_emod_of_nonneg (by omega)]
theorem mul_bd {a b : Int} (ha : 0 ≤ a ∧ a ≤ 30) (hb : 0 ≤ b ∧ b ≤ 30) : 0 ≤ a * b ∧ a * b ≤ 900 := by
  have h1 : 0 ≤ a * b := Int.mul_nonneg ha.1 hb.1
  have h2 : a * b ≤ 30 * 30 := Int.mul_le_mul ha.2 hb.2 hb.1 (by omega)
  omega
theorem fieldMul_f (a b : Int) (ha : fOk a = true) (hb : fOk b = true) : spec_FieldMul.f a b = some ((a * b) % 31) := by
  unfold spec_FieldMul.f
  have h1 := (fOk_iff a).1 ha
  have h2 := (fOk_iff b).1 hb
  have h3 := mul_bd h1 h2
  rw [fieldOk_f, Option.bind_some, if_pos ha, fieldOk_f, Option.bind_some, if_pos hb, w64 (by omega) (by omega), Int.tmod_eq_emod_of_nonneg (by omega)]
/-- element-wise, modulo 31 -/
def sumL (a b : List Int) : List Int := List.zipWith (fun x y => (x + y) % 31) a b
def difL (a b : List Int) : List Int := List.zipWith (fun x y => (x - y) % 31) a b
theorem sumL_length (a b : List Int) (h : a.length = b.length) : (sumL a b).length = a.length := by simp [sumL, h]
theorem sumL_all (a b : List Int) : (sumL a b).all fOk = true := by
  rw [List.all_eq_true]
  intro x hx
  unfold sumL at hx
  obtain ⟨i, hi, rfl⟩ := List.getElem_of_mem hx
  rw [List.getElem_zipWith]
  exact fOk_mod _
theorem l3Sum_loop (a b : List Int) (hl : a.length = b.length) (hn : a.length ≤ 1048576000) (ha : a.all fOk = true) (hb : b.all fOk = true) (d : Nat) : ∀ (k : Nat) (i : Nat), i + d = a.length → d < k → spec_l3Sum.l0 k a b ((sumL a b).take i) (i : Int) = some (sumL a b) := by
  have hs := sumL_length a b hl
  induction d with
  | zero =>
    intro k i hi hk
    obtain ⟨k, rfl⟩ : ∃ j, k = j + 1 := ⟨k - 1, by omega⟩
    simp only [spec_l3Sum.l0]
    rw [if_neg (by omega), List.take_of_length_le (by omega)]
  | succ d ih =>
    intro k i hi hk
    obtain ⟨k, rfl⟩ : ∃ j, k = j + 1 := ⟨k - 1, by omega⟩
    simp only [spec_l3Sum.l0]
    have h1 : i < a.length := by omega
    have h2 : i < b.length := by omega
    rw [if_pos (by omega), if_pos (by omega), if_pos (by omega), rd_nat a i h1, rd_nat b i h2, fieldSum_f _ _ (all_get ha i h1) (all_get hb i h2), Option.bind_some, if_pos (by rw [List.length_take]; omega), w64 (by omega) (by omega)]
    have := ih k (i + 1) (by omega) (by omega)
    have h3 : i < (sumL a b).length := by omega
    rw [List.take_succ_eq_append_getElem h3] at this
    have e : (sumL a b)[i] = (a[i] + b[i]) % 31 := by simp [sumL]
    rw [e] at this
    simpa using this
theorem l3Sum_f (k : Nat) (a b : List Int) (hl : a.length = b.length) (hn : a.length ≤ 1048576000) (ha : a.all fOk = true) (hb : b.all fOk = true) (hk : a.length < k) : spec_l3Sum.f k a b = some (sumL a b) := by
  have := l3Sum_loop a b hl hn ha hb a.length k 0 (by omega) hk
  unfold spec_l3Sum.f
  simpa using this

end Go.Proofs.Ytplbobmllflniaa.Q
