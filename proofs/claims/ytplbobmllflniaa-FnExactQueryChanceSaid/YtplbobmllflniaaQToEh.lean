/- Plain lemmas about the Lean functions of the program's printed text; each theorem states its own conditions. -/
import Derived.Test.YtplbobmllflniaaEh1
import Derived.Test.YtplbobmllflniaaQBaseEh
import Derived.Test.YtplbobmllflniaaQIntsEh
set_option linter.unusedVariables false
set_option linter.unusedSimpArgs false
namespace Go.Proofs.Ytplbobmllflniaa.Q
open Go.RowKit Go.Proofs.Ytplbobmllflniaa.Eh Go.Proofs.YtplbobmllflniaaW.PrintWords Go.Proofs.YtplbobmllflniaaW.PrintLast Go.Proofs.YtplbobmllflniaaW.PrintMore
/-! the laws' helpers -/
theorem toIntS_loop (l : List Int) (hl : l.length ≤ 1048576000) (d : Nat) : ∀ (k : Nat) (i : Nat) (m : List Int), i + d = l.length → m.length = l.length → m.take i = l.take i → d < k → laws_toIntS.l0 k l m (i : Int) = some l := by
  induction d with
  | zero =>
    intro k i m hi hm ht hk
    obtain ⟨k, rfl⟩ : ∃ j, k = j + 1 := ⟨k - 1, by omega⟩
    simp only [laws_toIntS.l0]
    rw [if_neg (by omega)]
    obtain rfl : i = l.length := by omega
    rw [List.take_length, ← hm, List.take_length] at ht
    rw [ht]
  | succ d ih =>
    intro k i m hi hm ht hk
    obtain ⟨k, rfl⟩ : ∃ j, k = j + 1 := ⟨k - 1, by omega⟩
    simp only [laws_toIntS.l0]
    rw [if_pos (by omega), if_pos (by omega), if_pos (by omega), w64 (by omega) (by omega)]
    have hlt : i < l.length := by omega
    have := ih k (i + 1) (m.set i l[i]) (by omega) (by simpa using hm) (by
      have h2 : i < m.length := by omega
      rw [List.take_succ_eq_append_getElem (by simpa using h2), List.take_succ_eq_append_getElem hlt, List.take_set_of_le (Nat.le_refl _), ht]
      simp) (by omega)
    rw [rd_nat l i hlt]
    simpa using this
theorem toIntS_f (k : Nat) (l : List Int) (hl : l.length ≤ 1048576000) (hk : l.length < k) : laws_toIntS.f k l = some l := by
  unfold laws_toIntS.f
  rw [if_pos (by omega), if_pos (by simp; omega)]
  exact toIntS_loop l hl l.length k 0 _ (by omega) (by simp) (by simp) hk


end Go.Proofs.Ytplbobmllflniaa.Q
