/- Plain lemmas about the Lean functions of the program's printed text; each theorem states its own conditions. -/
import Derived.Test.YtlgbblaidohljaaGreatDoorZt1
import Derived.Test.YtlgbblaidohljaaGreatDoorZt12
import Derived.Test.YtlgbblaidohljaaGreatDoorZt6
set_option linter.unusedVariables false
set_option linter.unusedSimpArgs false
namespace Go.Proofs.YtlgbblaidohljaaGreatDoor.Q
open Go.RowKit Go.Proofs.YtlgbblaidohljaaGreatDoor.Zt Go.Proofs.YtlgbblaidohljaaGreatDoorV.PrintWords Go.Proofs.YtlgbblaidohljaaGreatDoorV.PrintLast Go.Proofs.YtlgbblaidohljaaGreatDoorV.PrintMore
theorem wf64 {a : Int} (h : (Lit.int .i64 a).wf = true) : -9223372036854775808 ≤ a ∧ a ≤ 9223372036854775807 := by
  simpa [Lit.wf, IntKind.min, IntKind.max, IntKind.signed, IntKind.bits] using h
theorem wf8 {a : Int} (h : (Lit.int .u8 a).wf = true) : 0 ≤ a ∧ a ≤ 255 := by
  simpa [Lit.wf, IntKind.min, IntKind.max, IntKind.signed, IntKind.bits] using h
theorem w64 {a : Int} (h1 : -9223372036854775808 ≤ a) (h2 : a ≤ 9223372036854775807) : wrap64 a = a := by unfold wrap64; omega

theorem l6In_f (a b c : Int) : spec_l6In.f a b c = some (decide (b ≤ a) && decide (a ≤ c)) := by
  unfold spec_l6In.f
  by_cases h : a ≥ b
  · rw [if_pos h]; have : decide (b ≤ a) = true := decide_eq_true h; rw [this]; rfl
  · rw [if_neg h]; have : decide (b ≤ a) = false := decide_eq_false h; rw [this]; rfl
theorem within_f (a b c : Int) : impl_within.f a b c = some (decide (b ≤ a) && decide (a ≤ c)) := l6In_f a b c
theorem kOk_iff (n : Int) : kOk n = (decide (1 ≤ n) && decide (n ≤ 3)) := by
  unfold kOk
  rw [Bool.eq_iff_iff]; simp; omega
theorem l11Kind_f (a : Int) : spec_l11Kind.f a = some (kOk a) := by
  unfold spec_l11Kind.f; rw [l6In_f, kOk_iff]; rfl
theorem specTypeLen_f (a : Int) : spec_TypeLen.f a = some (tLen a) := by
  unfold spec_TypeLen.f tLen
  split
  · rfl
  split
  · rfl
  split <;> rfl
theorem tLen_0 {a : Int} (h : kOk a = false) : tLen a = 0 := by
  simp [kOk] at h; simp [tLen, h]
theorem tLen_cases {a : Int} (h : kOk a = true) : (a = 1 ∧ tLen a = 1) ∨ (a = 2 ∧ tLen a = 4) ∨ (a = 3 ∧ tLen a = 3) := by
  simp [kOk] at h
  rcases h with rfl | rfl | rfl <;> simp [tLen]
theorem tLen_le (a : Int) : 0 ≤ tLen a ∧ tLen a ≤ 4 := by
  unfold tLen; split <;> (try split) <;> (try split) <;> omega
theorem tLen_pos {a : Int} : 0 < tLen a ↔ kOk a = true := by
  unfold tLen kOk; simp; split <;> (try split) <;> (try split) <;> simp_all
theorem rd_nat (l : List Int) (i : Nat) (h : i < l.length) : rd l (i : Int) = l[i] := by
  simp [rd, h]
theorem eqIntS_loop (l m : List Int) (hl : l.length ≤ 1048576000) (hm : m.length = l.length) (d : Nat) : ∀ (k : Nat) (i : Nat), i + d = l.length → l.take i = m.take i → d < k → laws_eqIntS.l0 k l m (i : Int) = some (decide (l = m)) := by
  induction d with
  | zero =>
    intro k i hi ht hk
    obtain ⟨k, rfl⟩ : ∃ j, k = j + 1 := ⟨k - 1, by omega⟩
    simp only [laws_eqIntS.l0]
    rw [if_neg (by omega)]
    obtain rfl : i = l.length := by omega
    rw [List.take_length, ← hm, List.take_length] at ht
    simp [ht]
  | succ d ih =>
    intro k i hi ht hk
    obtain ⟨k, rfl⟩ : ∃ j, k = j + 1 := ⟨k - 1, by omega⟩
    simp only [laws_eqIntS.l0]
    have h1 : i < l.length := by omega
    have h2 : i < m.length := by omega
    rw [if_pos (by omega), if_pos (by omega), if_pos (by omega), w64 (by omega) (by omega), rd_nat l i h1, rd_nat m i h2]
    by_cases e : l[i] = m[i]
    · rw [if_pos e]
      have := ih k (i + 1) (by omega) (by rw [List.take_succ_eq_append_getElem h1, List.take_succ_eq_append_getElem h2, ht, e]) (by omega)
      simpa using this
    · rw [if_neg e]
      have : l ≠ m := fun h => by subst h; exact e rfl
      simp [this]
theorem eqIntS_f (k : Nat) (l m : List Int) (hl : l.length ≤ 1048576000) (hk : l.length < k) : laws_eqIntS.f k l m = some (decide (l = m)) := by
  unfold laws_eqIntS.f
  by_cases e : l.length = m.length
  · rw [if_pos (by omega)]
    exact eqIntS_loop l m hl e.symm l.length k 0 (by omega) (by simp) hk
  · rw [if_neg (by omega)]
    have : l ≠ m := fun h => by subst h; exact e rfl
    simp [this]
theorem szIntS_f (l : List Int) (a : Int) (h0 : 0 ≤ a) (h : a ≤ 1048576) (hl : l.length ≤ maxLen) : laws_szIntS.f l a = some (if a - (l.length : Int) < 0 then -1 else a - (l.length : Int)) := by
  unfold laws_szIntS.f
  unfold maxLen at hl
  rw [w64 (by omega) (by omega)]
  split <;> rfl
/-! the laws' helpers -/
theorem toIntS_loop (l : List Int) (hl : l.length ≤ 1048576000) (d : Nat) : ∀ (k : Nat) (i : Nat) (m : List Int), i + d = l.length → m.length = l.length → m.take i = l.take i → d < k → laws_toIntS.l0 k l m (i : Int) = some l := by
  induction d with
  | zero =>
    intro k i m hi hm ht hk
    obtain ⟨k, rfl⟩ : ∃ j, k = j + 1 := ⟨k - 1, by omega⟩
    simp only [laws_toIntS.l0]
    rw [if_neg (by omega)]
    obtain rfl : i = l.length := by omega
    rw [List.take_length, ← hm, List.take_length] at ht
    rw [ht]
  | succ d ih =>
    intro k i m hi hm ht hk
    obtain ⟨k, rfl⟩ : ∃ j, k = j + 1 := ⟨k - 1, by omega⟩
    simp only [laws_toIntS.l0]
    rw [if_pos (by omega), if_pos (by omega), if_pos (by omega), w64 (by omega) (by omega)]
    have hlt : i < l.length := by omega
    have := ih k (i + 1) (m.set i l[i]) (by omega) (by simpa using hm) (by
      have h2 : i < m.length := by omega
      rw [List.take_succ_eq_append_getElem (by simpa using h2), List.take_succ_eq_append_getElem hlt, List.take_set_of_le (Nat.le_refl _), ht]
      simp) (by omega)
    rw [rd_nat l i hlt]
    simpa using this
theorem toIntS_f (k : Nat) (l : List Int) (hl : l.length ≤ 1048576000) (hk : l.length < k) : laws_toIntS.f k l = some l := by
  unfold laws_toIntS.f
  rw [if_pos (by omega), if_pos (by simp; omega)]
  exact toIntS_loop l hl l.length k 0 _ (by omega) (by simp) (by simp) hk
theorem toPart_f (k : Nat) (a b c : Int) (l : List Int) (hl : l.length ≤ 1048576000) (hk : l.length < k) : laws_toPart.f k a b c l = some (a, b, c, l) := by
  unfold laws_toPart.f
  rw [toIntS_f _ l hl hk]; rfl
theorem szPart_f (a b c : Int) (l : List Int) (m : Int) (h0 : 0 ≤ m) (h : m ≤ 1048576) (hl : l.length ≤ maxLen) : laws_szPart.f a b c l m = some (if m - (l.length : Int) < 0 then -1 else m - (l.length : Int)) := by
  unfold laws_szPart.f
  rw [szIntS_f l m h0 h hl, Option.bind_some]
  by_cases e : m - (l.length : Int) < 0
  · rw [if_pos e, if_pos (by omega)]
  · rw [if_neg e, if_neg e]
theorem eqPart_f (k : Nat) (a b c : Int) (l : List Int) (hl : l.length ≤ 1048576000) (hk : l.length < k) : laws_eqPart.f k a b c l a b c l = some true := by
  unfold laws_eqPart.f
  rw [if_pos rfl, if_pos rfl, if_pos rfl, eqIntS_f _ l l hl hk, Option.bind_some, if_pos (by simp)]

end Go.Proofs.YtlgbblaidohljaaGreatDoor.Q
