import Derived.Test.YtahbooeioigbgaaDoorDa19
import Derived.Test.YtahbooeioigbgaaDoorDa21
import Derived.Test.YtahbooeioigbgaaDoorQGaDa
set_option linter.unusedVariables false
set_option linter.unusedSimpArgs false
namespace Go.Proofs.YtahbooeioigbgaaDoor.Q
open Go.RowKit Go.Proofs.YtahbooeioigbgaaDoor.Da Go.Proofs.YtahbooeioigbgaaDoorW.PrintWords Go.Proofs.YtahbooeioigbgaaDoorW.PrintLast Go.Proofs.YtahbooeioigbgaaDoorW.PrintMore
theorem loInts_loop (l m : List Int) (hl : l.length ≤ 1048576000) (hm : m.length = l.length) (d : Nat) : ∀ (k : Nat) (i : Nat), i + d = l.length → l.take i = m.take i → d < k → laws_loInts.l0 k l m (i : Int) = some (decide (l = m)) := by
  induction d with
  | zero =>
    intro k i hi ht hk
    obtain ⟨k, rfl⟩ : ∃ j, k = j + 1 := ⟨k - 1, by omega⟩
    simp only [laws_loInts.l0]
    rw [if_neg (by omega)]
    obtain rfl : i = l.length := by omega
    rw [List.take_length, ← hm, List.take_length] at ht
    simp [ht]
  | succ d ih =>
    intro k i hi ht hk
    obtain ⟨k, rfl⟩ : ∃ j, k = j + 1 := ⟨k - 1, by omega⟩
    simp only [laws_loInts.l0]
    have h1 : i < l.length := by omega
    have h2 : i < m.length := by omega
    rw [if_pos (by omega), if_pos (by omega), if_pos (by omega), w64 (by omega) (by omega), rd_nat l i h1, rd_nat m i h2]
    by_cases e : l[i] = m[i]
    · rw [if_pos e]
      have := ih k (i + 1) (by omega) (by rw [List.take_succ_eq_append_getElem h1, List.take_succ_eq_append_getElem h2, ht, e]) (by omega)
      simpa using this
    · rw [if_neg e]
      have : l ≠ m := fun h => by subst h; exact e rfl
      simp [this]
theorem loInts_f (k : Nat) (l m : List Int) (hl : l.length ≤ 1048576000) (hk : l.length < k) : laws_loInts.f k l m = some (decide (l = m)) := by
  unfold laws_loInts.f
  by_cases e : l.length = m.length
  · rw [if_pos (by omega)]
    exact loInts_loop l m hl e.symm l.length k 0 (by omega) (by simp) hk
  · rw [if_neg (by omega)]
    have : l ≠ m := fun h => by subst h; exact e rfl
    simp [this]
theorem loProof_f (k : Nat) (a b : Int) (s : List Int) (a' b' : Int) (s' : List Int) (hs : s.length ≤ 1048576000) (hk : s.length < k) :
    laws_loProof.f k a b s a' b' s' = some (decide (a = a') && decide (b = b') && decide (s = s')) := by
  unfold laws_loProof.f
  by_cases h1 : a = a'
  · by_cases h2 : b = b'
    · rw [if_pos h1, if_pos h2, loInts_f k s s' hs hk, Option.bind_some]
      simp [h1, h2]
    · rw [if_pos h1, if_neg h2]; simp [h2]
  · rw [if_neg h1]; simp [h1]
end Go.Proofs.YtahbooeioigbgaaDoor.Q
