import Derived.Test.YtahbooeioigbgaaDoorDr1
import Derived.Test.YtahbooeioigbgaaDoorDr2
import Derived.Test.YtahbooeioigbgaaDoorDr3
import Derived.Test.YtahbooeioigbgaaDoorDr4
import Derived.Test.YtahbooeioigbgaaDoorQGaDr
set_option linter.unusedVariables false
set_option linter.unusedSimpArgs false
namespace Go.Proofs.YtahbooeioigbgaaDoor.Q
open Go.RowKit Go.Proofs.YtahbooeioigbgaaDoor.Dr Go.Proofs.YtahbooeioigbgaaDoorU.PrintWords Go.Proofs.YtahbooeioigbgaaDoorU.PrintLast Go.Proofs.YtahbooeioigbgaaDoorU.PrintMore
theorem polyOkS_loop (l : List Int) (hl : l.length ≤ 1048576000) (d : Nat) : ∀ (k : Nat) (i : Nat), i + d = l.length → (l.take i).all fOk = true → d < k → spec_PolyOk.l0 k l (i : Int) = some (l.all fOk && decide ((l.length : Int) ≤ 9)) := by
  induction d with
  | zero =>
    intro k i hi ht hk
    obtain ⟨k, rfl⟩ : ∃ j, k = j + 1 := ⟨k - 1, by omega⟩
    simp only [spec_PolyOk.l0]
    rw [if_neg (by omega)]
    obtain rfl : i = l.length := by omega
    rw [List.take_length] at ht
    simp [ht]
  | succ d ih =>
    intro k i hi ht hk
    obtain ⟨k, rfl⟩ : ∃ j, k = j + 1 := ⟨k - 1, by omega⟩
    simp only [spec_PolyOk.l0]
    have h1 : i < l.length := by omega
    rw [if_pos (by omega), if_pos (by omega), fieldOk_f, Option.bind_some, rd_nat l i h1, w64 (by omega) (by omega)]
    cases e : fOk l[i]
    · rw [if_neg (by simp)]
      have : l.all fOk = false := by
        cases h : l.all fOk
        · rfl
        · rw [all_get h i h1] at e; cases e
      rw [this]; rfl
    · rw [if_pos rfl]
      have := ih k (i + 1) (by omega) (by rw [List.take_succ_eq_append_getElem h1, List.all_append, ht]; simp [e]) (by omega)
      simpa using this
theorem polyOkS_f (k : Nat) (l : List Int) (hl : l.length ≤ 1048576000) (hk : l.length < k) : spec_PolyOk.f k l = some (l.all fOk && decide ((l.length : Int) ≤ 9)) :=
  polyOkS_loop l hl l.length k 0 (by omega) (by simp) hk
theorem l12Form_f (K : Nat) (kind a b : Int) (l : List Int) (hl : l.length ≤ 1048576000) (hK : l.length < K) : spec_l12Form.f K kind a b l = some (kOk kind && formOk kind a b l) := by
  unfold spec_l12Form.f
  have ht := tLen_le kind
  rw [l11Kind_f, Option.bind_some]
  cases hk : kOk kind
  · rfl
  rw [if_pos rfl, fieldOk_f, Option.bind_some]
  unfold formOk
  cases ha : fOk a
  · rfl
  rw [if_pos rfl, fieldOk_f, Option.bind_some]
  cases hb : fOk b
  · rfl
  rw [if_pos rfl, polyOkS_f K l hl hK, Option.bind_some]
  cases hA : l.all fOk
  · simp
  by_cases h9 : (l.length : Int) ≤ 9
  · rw [if_pos (by simp [h9]), specTypeLen_f, Option.bind_some, w64 (a := 2 * tLen kind) (by omega) (by omega), w64 (a := 2 * tLen kind + 1) (by omega) (by omega)]
    simp [h9]; rfl
  · rw [if_neg (by simp; omega)]; simp [h9]
end Go.Proofs.YtahbooeioigbgaaDoor.Q
