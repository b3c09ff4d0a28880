import Derived.Test.YtplbobmllflniaaEi1
import Derived.Test.YtplbobmllflniaaEi5
import Derived.Test.YtplbobmllflniaaQBaseEi
import Derived.Test.YtplbobmllflniaaQRdEi
set_option linter.unusedVariables false
set_option linter.unusedSimpArgs false
namespace Go.Proofs.Ytplbobmllflniaa.Q
open Go.RowKit Go.Proofs.Ytplbobmllflniaa.Ei Go.Proofs.YtplbobmllflniaaW.PrintWords Go.Proofs.YtplbobmllflniaaW.PrintLast Go.Proofs.YtplbobmllflniaaW.PrintMore
theorem fieldOk_f (a : Int) : spec_FieldOk.f a = some (fOk a) := by
  unfold spec_FieldOk.f; rw [l6In_f]; rfl
theorem fOk_iff (a : Int) : fOk a = true ↔ 0 ≤ a ∧ a ≤ 30 := by simp [fOk]
theorem all_get {l : List Int} (h : l.all fOk = true) (i : Nat) (hi : i < l.length) : fOk l[i] = true := List.all_eq_true.1 h _ (List.getElem_mem hi)
theorem fOk_mod (a : Int) : fOk (a % 31) = true := by rw [fOk_iff]; omega
theorem shareOk_loop (l : List Int) (hl : l.length ≤ 1048576000) (d : Nat) : ∀ (k : Nat) (i : Nat), i + d = l.length → (l.take i).all fOk = true → d < k → spec_ShareOk.l0 k l (i : Int) = some (l.all fOk && decide ((l.length : Int) ≤ 20)) := by
  induction d with
  | zero =>
    intro k i hi ht hk
    obtain ⟨k, rfl⟩ : ∃ j, k = j + 1 := ⟨k - 1, by omega⟩
    simp only [spec_ShareOk.l0]
    rw [if_neg (by omega)]
    obtain rfl : i = l.length := by omega
    rw [List.take_length] at ht
    simp [ht]
  | succ d ih =>
    intro k i hi ht hk
    obtain ⟨k, rfl⟩ : ∃ j, k = j + 1 := ⟨k - 1, by omega⟩
    simp only [spec_ShareOk.l0]
    have h1 : i < l.length := by omega
    rw [if_pos (by omega), if_pos (by omega), fieldOk_f, Option.bind_some, rd_nat l i h1, w64 (by omega) (by omega)]
    cases e : fOk l[i]
    · rw [if_neg (by simp)]
      have : l.all fOk = false := by
        cases h : l.all fOk
        · rfl
        · rw [all_get h i h1] at e; cases e
      rw [this]; rfl
    · rw [if_pos rfl]
      have := ih k (i + 1) (by omega) (by rw [List.take_succ_eq_append_getElem h1, List.all_append, ht]; simp [e]) (by omega)
      simpa using this
theorem shareOk_f (k : Nat) (l : List Int) (hl : l.length ≤ 1048576000) (hk : l.length < k) : spec_ShareOk.f k l = some (l.all fOk && decide ((l.length : Int) ≤ 20)) :=
  shareOk_loop l hl l.length k 0 (by omega) (by simp) hk
end Go.Proofs.Ytplbobmllflniaa.Q
