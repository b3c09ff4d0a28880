/- Plain lemmas about the Lean functions of the program's printed text; each theorem states its own conditions. -/
import Derived.Test.YtplbobmllflniaaEh10
import Derived.Test.YtplbobmllflniaaEh5
import Derived.Test.YtplbobmllflniaaEh9
import Derived.Test.YtplbobmllflniaaQFieldEh
import Derived.Test.YtplbobmllflniaaQShareEh
set_option linter.unusedVariables false
set_option linter.unusedSimpArgs false
namespace Go.Proofs.Ytplbobmllflniaa.Q
open Go.RowKit Go.Proofs.Ytplbobmllflniaa.Eh Go.Proofs.YtplbobmllflniaaW.PrintWords Go.Proofs.YtplbobmllflniaaW.PrintLast Go.Proofs.YtplbobmllflniaaW.PrintMore
theorem list4 (l : List Int) (h : l.length = 4) : ∃ a b c d, l = [a, b, c, d] := by
  match l, h with
  | [a, b, c, d], _ => exact ⟨a, b, c, d, rfl⟩
theorem l13Decide_f (k : Nat) (a b : List Int) (ha4 : a.length = 4) (hb4 : b.length = 4) (ha : a.all fOk = true) (hb : b.all fOk = true) (hk : 4 < k) : spec_l13Decide.f k a b = some (dec4 a b) := by
  unfold spec_l13Decide.f
  rw [l3Sum_f k a b (by omega) (by omega) ha hb (by omega), Option.bind_some]
  have hs := sumL_length a b (by omega)
  obtain ⟨a0, a1, a2, a3, rfl⟩ := list4 a ha4
  obtain ⟨b0, b1, b2, b3, rfl⟩ := list4 b hb4
  simp only [sumL, List.zipWith_cons_cons, List.zipWith_nil_right, List.length_cons, List.length_nil, dec4, s4, rd]
  rw [if_pos (by omega), if_pos (by omega)]
  simp only [Int.toNat_zero, Int.toNat_one, List.getD_cons_zero, List.getD_cons_succ, Int.reduceToNat, Int.toNat_natCast]
  rw [fieldMul_f _ _ (fOk_mod _) (fOk_mod _), Option.bind_some, if_pos (by omega)]
  by_cases h : (a0 + b0) % 31 * ((a1 + b1) % 31) % 31 = (a2 + b2) % 31
  · rw [if_pos h, if_pos (by omega)]
    simp [h]
  · rw [if_neg h]
    simp [h]

end Go.Proofs.Ytplbobmllflniaa.Q
