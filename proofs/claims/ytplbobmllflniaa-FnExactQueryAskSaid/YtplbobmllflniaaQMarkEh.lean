/- Plain lemmas about the Lean functions of the program's printed text; each theorem states its own conditions. -/
import Derived.Test.YtplbobmllflniaaEh1
import Derived.Test.YtplbobmllflniaaEh8
import Derived.Test.YtplbobmllflniaaQBaseEh
import Derived.Test.YtplbobmllflniaaQIntsEh
set_option linter.unusedVariables false
set_option linter.unusedSimpArgs false
namespace Go.Proofs.Ytplbobmllflniaa.Q
open Go.RowKit Go.Proofs.Ytplbobmllflniaa.Eh Go.Proofs.YtplbobmllflniaaW.PrintWords Go.Proofs.YtplbobmllflniaaW.PrintLast Go.Proofs.YtplbobmllflniaaW.PrintMore
/-- so many from a on, one by one -/
def marks : Int → Nat → List Int
  | _, 0 => []
  | a, n + 1 => a :: marks (a + 1) n
theorem marks_length (a : Int) (n : Nat) : (marks a n).length = n := by
  induction n generalizing a with
  | zero => rfl
  | succ n ih => simp [marks, ih]
theorem marks_get (a : Int) (n i : Nat) (h : i < (marks a n).length) : (marks a n)[i] = a + i := by
  induction n generalizing a i with
  | zero => simp [marks] at h
  | succ n ih =>
    cases i with
    | zero => simp [marks]
    | succ i =>
      simp only [marks, List.getElem_cons_succ]
      rw [ih]; omega

theorem markIntS_loop (n : Nat) (a : Int) (ha : -1000000000000 ≤ a) (hb : a + n ≤ 1000000000000) (hn : n ≤ 1048576000) (d : Nat) : ∀ (k : Nat) (i : Nat) (m : List Int), i + d = n → m.length = n → m.take i = marks a i → d < k → laws_markIntS.l0 k m (a + i) (i : Int) = some (a + n, marks a n) := by
  induction d with
  | zero =>
    intro k i m hi hm ht hk
    obtain ⟨k, rfl⟩ : ∃ j, k = j + 1 := ⟨k - 1, by omega⟩
    simp only [laws_markIntS.l0]
    rw [if_neg (by omega)]
    obtain rfl : i = n := by omega
    rw [← hm, List.take_length, hm] at ht
    rw [ht]
  | succ d ih =>
    intro k i m hi hm ht hk
    obtain ⟨k, rfl⟩ : ∃ j, k = j + 1 := ⟨k - 1, by omega⟩
    simp only [laws_markIntS.l0]
    rw [if_pos (by omega), if_pos (by omega), w64 (a := a + i + 1) (by omega) (by omega), w64 (a := (i : Int) + 1) (by omega) (by omega)]
    have hs : ∀ j : Nat, marks a (j + 1) = marks a j ++ [a + j] := by
      intro j
      apply List.ext_getElem
      · simp [marks_length]
      · intro q h1 h2
        rw [marks_get]
        rcases Nat.lt_or_ge q j with h | h
        · rw [List.getElem_append_left (by rw [marks_length]; exact h), marks_get]
        · rw [marks_length] at h1
          obtain rfl : q = j := by omega
          rw [List.getElem_append_right (by rw [marks_length]; omega)]
          simp [marks_length]
    have := ih k (i + 1) (m.set i (a + i)) (by omega) (by simpa using hm) (by
      have h2 : i < m.length := by omega
      rw [List.take_succ_eq_append_getElem (by simpa using h2), List.take_set_of_le (Nat.le_refl _), ht, hs]
      simp) (by omega)
    have e : a + ((i + 1 : Nat) : Int) = a + i + 1 := by omega
    rw [e] at this
    simpa using this
theorem markIntS_f (k : Nat) (l : List Int) (a : Int) (ha : -1000000000000 ≤ a) (hb : a + l.length ≤ 1000000000000) (hn : l.length ≤ 1048576000) (hk : l.length < k) : laws_markIntS.f k l a = some (a + l.length, marks a l.length) := by
  unfold laws_markIntS.f
  have := markIntS_loop l.length a ha hb hn l.length k 0 l (by omega) rfl (by simp [marks]) hk
  simpa using this

theorem heldIntS_loop (n : Nat) (a : Int) (ha : -1000000000000 ≤ a) (hb : a + n ≤ 1000000000000) (hn : n ≤ 1048576000) (d : Nat) : ∀ (k : Nat) (i : Nat), i + d = n → d < k → laws_heldIntS.l0 k (marks a n) (a + i) (i : Int) = some (a + n) := by
  induction d with
  | zero =>
    intro k i hi hk
    obtain ⟨k, rfl⟩ : ∃ j, k = j + 1 := ⟨k - 1, by omega⟩
    simp only [laws_heldIntS.l0]
    rw [marks_length, if_neg (by omega)]
    obtain rfl : i = n := by omega
    rfl
  | succ d ih =>
    intro k i hi hk
    obtain ⟨k, rfl⟩ : ∃ j, k = j + 1 := ⟨k - 1, by omega⟩
    simp only [laws_heldIntS.l0]
    have h1 : i < (marks a n).length := by rw [marks_length]; omega
    rw [rd_nat _ i h1, marks_get, marks_length, if_pos (by omega), if_pos (by omega), if_pos rfl, w64 (a := a + i + 1) (by omega) (by omega), w64 (a := (i : Int) + 1) (by omega) (by omega)]
    have := ih k (i + 1) (by omega) (by omega)
    have e : a + ((i + 1 : Nat) : Int) = a + i + 1 := by omega
    rw [e] at this
    simpa using this
theorem heldIntS_f (k n : Nat) (a : Int) (ha : -1000000000000 ≤ a) (hb : a + n ≤ 1000000000000) (hn : n ≤ 1048576000) (hk : n < k) : laws_heldIntS.f k (marks a n) a = some (a + n) := by
  unfold laws_heldIntS.f
  have := heldIntS_loop n a ha hb hn n k 0 (by omega) hk
  simpa using this

end Go.Proofs.Ytplbobmllflniaa.Q
