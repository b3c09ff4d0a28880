import Derived.Test.YtahbooeioigbgaaDoorDf1
import Derived.Test.YtahbooeioigbgaaDoorDf2
import Derived.Test.YtahbooeioigbgaaDoorDf3
set_option linter.unusedVariables false
set_option linter.unusedSimpArgs false
namespace Go.Proofs.YtahbooeioigbgaaDoor.Q
open Go.RowKit Go.Proofs.YtahbooeioigbgaaDoor.Df Go.Proofs.YtahbooeioigbgaaDoorS.PrintWords Go.Proofs.YtahbooeioigbgaaDoorS.PrintLast Go.Proofs.YtahbooeioigbgaaDoorS.PrintMore
theorem wf8 {a : Int} (h : (Lit.int .u8 a).wf = true) : 0 ≤ a ∧ a ≤ 255 := by
  simpa [Lit.wf, IntKind.min, IntKind.max, IntKind.signed, IntKind.bits] using h
theorem w64 {a : Int} (h1 : -9223372036854775808 ≤ a) (h2 : a ≤ 9223372036854775807) : wrap64 a = a := by unfold wrap64; omega
theorem l6In_f (a b c : Int) : spec_l6In.f a b c = some (decide (b ≤ a) && decide (a ≤ c)) := by
  unfold spec_l6In.f
  by_cases h : a ≥ b
  · rw [if_pos h]; have : decide (b ≤ a) = true := decide_eq_true h; rw [this]; rfl
  · rw [if_neg h]; have : decide (b ≤ a) = false := decide_eq_false h; rw [this]; rfl
theorem kOk_iff (n : Int) : kOk n = (decide (1 ≤ n) && decide (n ≤ 3)) := by
  unfold kOk
  rw [Bool.eq_iff_iff]; simp; omega
theorem l11Kind_f (a : Int) : spec_l11Kind.f a = some (kOk a) := by
  unfold spec_l11Kind.f; rw [l6In_f, kOk_iff]; rfl
theorem specTypeLen_f (a : Int) : spec_TypeLen.f a = some (tLen a) := by
  unfold spec_TypeLen.f tLen
  split
  · rfl
  split
  · rfl
  split <;> rfl
theorem tLen_cases {a : Int} (h : kOk a = true) : (a = 1 ∧ tLen a = 1) ∨ (a = 2 ∧ tLen a = 4) ∨ (a = 3 ∧ tLen a = 3) := by
  simp [kOk] at h
  rcases h with rfl | rfl | rfl <;> simp [tLen]
theorem tLen_le (a : Int) : 0 ≤ tLen a ∧ tLen a ≤ 4 := by
  unfold tLen; split <;> (try split) <;> (try split) <;> omega
theorem rd_nat (l : List Int) (i : Nat) (h : i < l.length) : rd l (i : Int) = l[i] := by
  simp [rd, h]
theorem fieldOk_f (a : Int) : spec_FieldOk.f a = some (fOk a) := by
  unfold spec_FieldOk.f; rw [l6In_f]; rfl
theorem fOk_iff (a : Int) : fOk a = true ↔ 0 ≤ a ∧ a ≤ 30 := by simp [fOk]
theorem all_get {l : List Int} (h : l.all fOk = true) (i : Nat) (hi : i < l.length) : fOk l[i] = true := List.all_eq_true.1 h _ (List.getElem_mem hi)
theorem fOk_mod (a : Int) : fOk (a % 31) = true := by rw [fOk_iff]; omega
theorem shareOk_loop (l : List Int) (hl : l.length ≤ 1048576000) (d : Nat) : ∀ (k : Nat) (i : Nat), i + d = l.length → (l.take i).all fOk = true → d < k → spec_ShareOk.l0 k l (i : Int) = some (l.all fOk && decide ((l.length : Int) ≤ 20)) := by
  induction d with
  | zero =>
    intro k i hi ht hk
    obtain ⟨k, rfl⟩ : ∃ j, k = j + 1 := ⟨k - 1, by omega⟩
    simp only [spec_ShareOk.l0]
    rw [if_neg (by omega)]
    obtain rfl : i = l.length := by omega
    rw [List.take_length] at ht
    simp [ht]
  | succ d ih =>
    intro k i hi ht hk
    obtain ⟨k, rfl⟩ : ∃ j, k = j + 1 := ⟨k - 1, by omega⟩
    simp only [spec_ShareOk.l0]
    have h1 : i < l.length := by omega
    rw [if_pos (by omega), if_pos (by omega), fieldOk_f, Option.bind_some, rd_nat l i h1, w64 (by omega) (by omega)]
    cases e : fOk l[i]
    · rw [if_neg (by simp)]
      have : l.all fOk = false := by
        cases h : l.all fOk
        · rfl
        · rw [all_get h i h1] at e; cases e
      rw [this]; rfl
    · rw [if_pos rfl]
      have := ih k (i + 1) (by omega) (by rw [List.take_succ_eq_append_getElem h1, List.all_append, ht]; simp [e]) (by omega)
      simpa using this
theorem shareOk_f (k : Nat) (l : List Int) (hl : l.length ≤ 1048576000) (hk : l.length < k) : spec_ShareOk.f k l = some (l.all fOk && decide ((l.length : Int) ≤ 20)) :=
  shareOk_loop l hl l.length k 0 (by omega) (by simp) hk
end Go.Proofs.YtahbooeioigbgaaDoor.Q
