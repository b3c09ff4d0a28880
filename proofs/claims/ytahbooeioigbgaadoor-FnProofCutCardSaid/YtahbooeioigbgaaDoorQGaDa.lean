import Derived.Test.YtahbooeioigbgaaDoorDa1
import Derived.Test.YtahbooeioigbgaaDoorDa2
import Derived.Test.YtahbooeioigbgaaDoorDa6
import Derived.Test.YtahbooeioigbgaaDoorDa8
set_option linter.unusedVariables false
set_option linter.unusedSimpArgs false
namespace Go.Proofs.YtahbooeioigbgaaDoor.Q
open Go.RowKit Go.Proofs.YtahbooeioigbgaaDoor.Da Go.Proofs.YtahbooeioigbgaaDoorW.PrintWords Go.Proofs.YtahbooeioigbgaaDoorW.PrintLast Go.Proofs.YtahbooeioigbgaaDoorW.PrintMore
theorem wf8 {a : Int} (h : (Lit.int .u8 a).wf = true) : 0 ≤ a ∧ a ≤ 255 := by
  simpa [Lit.wf, IntKind.min, IntKind.max, IntKind.signed, IntKind.bits] using h
theorem w64 {a : Int} (h1 : -9223372036854775808 ≤ a) (h2 : a ≤ 9223372036854775807) : wrap64 a = a := by unfold wrap64; omega
theorem l6In_f (a b c : Int) : spec_l6In.f a b c = some (decide (b ≤ a) && decide (a ≤ c)) := by
  unfold spec_l6In.f
  by_cases h : a ≥ b
  · rw [if_pos h]; have : decide (b ≤ a) = true := decide_eq_true h; rw [this]; rfl
  · rw [if_neg h]; have : decide (b ≤ a) = false := decide_eq_false h; rw [this]; rfl
theorem within_f (a b c : Int) : impl_within.f a b c = some (decide (b ≤ a) && decide (a ≤ c)) := l6In_f a b c
theorem kOk_iff (n : Int) : kOk n = (decide (1 ≤ n) && decide (n ≤ 3)) := by
  unfold kOk
  rw [Bool.eq_iff_iff]; simp; omega
theorem l11Kind_f (a : Int) : spec_l11Kind.f a = some (kOk a) := by
  unfold spec_l11Kind.f; rw [l6In_f, kOk_iff]; rfl
theorem specTypeLen_f (a : Int) : spec_TypeLen.f a = some (tLen a) := by
  unfold spec_TypeLen.f tLen
  split
  · rfl
  split
  · rfl
  split <;> rfl
theorem tLen_cases {a : Int} (h : kOk a = true) : (a = 1 ∧ tLen a = 1) ∨ (a = 2 ∧ tLen a = 4) ∨ (a = 3 ∧ tLen a = 3) := by
  simp [kOk] at h
  rcases h with rfl | rfl | rfl <;> simp [tLen]
theorem tLen_le (a : Int) : 0 ≤ tLen a ∧ tLen a ≤ 4 := by
  unfold tLen; split <;> (try split) <;> (try split) <;> omega
theorem rd_nat (l : List Int) (i : Nat) (h : i < l.length) : rd l (i : Int) = l[i] := by
  simp [rd, h]
theorem eqIntS_loop (l m : List Int) (hl : l.length ≤ 1048576000) (hm : m.length = l.length) (d : Nat) : ∀ (k : Nat) (i : Nat), i + d = l.length → l.take i = m.take i → d < k → laws_eqIntS.l0 k l m (i : Int) = some (decide (l = m)) := by
  induction d with
  | zero =>
    intro k i hi ht hk
    obtain ⟨k, rfl⟩ : ∃ j, k = j + 1 := ⟨k - 1, by omega⟩
    simp only [laws_eqIntS.l0]
    rw [if_neg (by omega)]
    obtain rfl : i = l.length := by omega
    rw [List.take_length, ← hm, List.take_length] at ht
    simp [ht]
  | succ d ih =>
    intro k i hi ht hk
    obtain ⟨k, rfl⟩ : ∃ j, k = j + 1 := ⟨k - 1, by omega⟩
    simp only [laws_eqIntS.l0]
    have h1 : i < l.length := by omega
    have h2 : i < m.length := by omega
    rw [if_pos (by omega), if_pos (by omega), if_pos (by omega), w64 (by omega) (by omega), rd_nat l i h1, rd_nat m i h2]
    by_cases e : l[i] = m[i]
    · rw [if_pos e]
      have := ih k (i + 1) (by omega) (by rw [List.take_succ_eq_append_getElem h1, List.take_succ_eq_append_getElem h2, ht, e]) (by omega)
      simpa using this
    · rw [if_neg e]
      have : l ≠ m := fun h => by subst h; exact e rfl
      simp [this]
theorem eqIntS_f (k : Nat) (l m : List Int) (hl : l.length ≤ 1048576000) (hk : l.length < k) : laws_eqIntS.f k l m = some (decide (l = m)) := by
  unfold laws_eqIntS.f
  by_cases e : l.length = m.length
  · rw [if_pos (by omega)]
    exact eqIntS_loop l m hl e.symm l.length k 0 (by omega) (by simp) hk
  · rw [if_neg (by omega)]
    have : l ≠ m := fun h => by subst h; exact e rfl
    simp [this]
theorem toIntS_loop (l : List Int) (hl : l.length ≤ 1048576000) (d : Nat) : ∀ (k : Nat) (i : Nat) (m : List Int), i + d = l.length → m.length = l.length → m.take i = l.take i → d < k → laws_toIntS.l0 k l m (i : Int) = some l := by
  induction d with
  | zero =>
    intro k i m hi hm ht hk
    obtain ⟨k, rfl⟩ : ∃ j, k = j + 1 := ⟨k - 1, by omega⟩
    simp only [laws_toIntS.l0]
    rw [if_neg (by omega)]
    obtain rfl : i = l.length := by omega
    rw [List.take_length, ← hm, List.take_length] at ht
    rw [ht]
  | succ d ih =>
    intro k i m hi hm ht hk
    obtain ⟨k, rfl⟩ : ∃ j, k = j + 1 := ⟨k - 1, by omega⟩
    simp only [laws_toIntS.l0]
    rw [if_pos (by omega), if_pos (by omega), if_pos (by omega), w64 (by omega) (by omega)]
    have hlt : i < l.length := by omega
    have := ih k (i + 1) (m.set i l[i]) (by omega) (by simpa using hm) (by
      have h2 : i < m.length := by omega
      rw [List.take_succ_eq_append_getElem (by simpa using h2), List.take_succ_eq_append_getElem hlt, List.take_set_of_le (Nat.le_refl _), ht]
      simp) (by omega)
    rw [rd_nat l i hlt]
    simpa using this
theorem toIntS_f (k : Nat) (l : List Int) (hl : l.length ≤ 1048576000) (hk : l.length < k) : laws_toIntS.f k l = some l := by
  unfold laws_toIntS.f
  rw [if_pos (by omega), if_pos (by simp; omega)]
  exact toIntS_loop l hl l.length k 0 _ (by omega) (by simp) (by simp) hk
theorem fieldOk_f (a : Int) : spec_FieldOk.f a = some (fOk a) := by
  unfold spec_FieldOk.f; rw [l6In_f]; rfl
theorem fOk_iff (a : Int) : fOk a = true ↔ 0 ≤ a ∧ a ≤ 30 := by simp [fOk]
theorem all_get {l : List Int} (h : l.all fOk = true) (i : Nat) (hi : i < l.length) : fOk l[i] = true := List.all_eq_true.1 h _ (List.getElem_mem hi)
theorem fOk_mod (a : Int) : fOk (a % 31) = true := by rw [fOk_iff]; omega
theorem shareOk_loop (l : List Int) (hl : l.length ≤ 1048576000) (d : Nat) : ∀ (k : Nat) (i : Nat), i + d = l.length → (l.take i).all fOk = true → d < k → spec_ShareOk.l0 k l (i : Int) = some (l.all fOk && decide ((l.length : Int) ≤ 20)) := by
  induction d with
  | zero =>
    intro k i hi ht hk
    obtain ⟨k, rfl⟩ : ∃ j, k = j + 1 := ⟨k - 1, by omega⟩
    simp only [spec_ShareOk.l0]
    rw [if_neg (by omega)]
    obtain rfl : i = l.length := by omega
    rw [List.take_length] at ht
    simp [ht]
  | succ d ih =>
    intro k i hi ht hk
    obtain ⟨k, rfl⟩ : ∃ j, k = j + 1 := ⟨k - 1, by omega⟩
    simp only [spec_ShareOk.l0]
    have h1 : i < l.length := by omega
    rw [if_pos (by omega), if_pos (by omega), fieldOk_f, Option.bind_some, rd_nat l i h1, w64 (by omega) (by omega)]
    cases e : fOk l[i]
    · rw [if_neg (by simp)]
      have : l.all fOk = false := by
        cases h : l.all fOk
        · rfl
        · rw [all_get h i h1] at e; cases e
      rw [this]; rfl
    · rw [if_pos rfl]
      have := ih k (i + 1) (by omega) (by rw [List.take_succ_eq_append_getElem h1, List.all_append, ht]; simp [e]) (by omega)
      simpa using this
theorem shareOk_f (k : Nat) (l : List Int) (hl : l.length ≤ 1048576000) (hk : l.length < k) : spec_ShareOk.f k l = some (l.all fOk && decide ((l.length : Int) ≤ 20)) :=
  shareOk_loop l hl l.length k 0 (by omega) (by simp) hk
def vecOk (kind : Int) (s : List Int) : Bool := kOk kind && decide ((s.length : Int) = tLen kind) && s.all fOk
theorem l11Vec_f (k : Nat) (kind : Int) (s : List Int) (hl : s.length ≤ 1048576000) (hk : s.length < k) : spec_l11Vec.f k kind s = some (vecOk kind s) := by
  unfold spec_l11Vec.f vecOk
  rw [l11Kind_f, Option.bind_some]
  cases h : kOk kind
  · rfl
  · rw [if_pos rfl, shareOk_f k s hl hk, Option.bind_some]
    have ht := tLen_le kind
    cases h2 : s.all fOk
    · simp
    · by_cases h3 : (s.length : Int) ≤ 20
      · rw [if_pos (by simp [h3]), specTypeLen_f, Option.bind_some]
        simp only [Bool.true_and, Bool.and_true]
        rfl
      · rw [if_neg (by simp; omega)]
        have : ¬ ((s.length : Int) = tLen kind) := by omega
        simp [this]
theorem sized_f (kind : Int) (s : List Int) : impl_sized.f kind s (tLen kind) = some (vecOk kind s) := by
  unfold impl_sized.f vecOk impl_kindOk.f impl_elementsOk.f
  have ht := tLen_le kind
  rw [Option.bind_some]
  cases h : kOk kind
  · rfl
  · rw [if_pos rfl]
    by_cases h3 : (s.length : Int) = tLen kind
    · rw [if_pos h3, Option.bind_some]
      have : (s.length : Int) ≤ 20 := by omega
      simp [h3]; omega
    · rw [if_neg h3]; simp [h3]
theorem same_loop (l m : List Int) (hl : l.length ≤ 1048576000) (hm : m.length = l.length) (d : Nat) : ∀ (k : Nat) (i : Nat), i + d = l.length → l.take i = m.take i → d < k → spec_l12Same.l0 k l m (i : Int) = some (decide (l = m)) := by
  induction d with
  | zero =>
    intro k i hi ht hk
    obtain ⟨k, rfl⟩ : ∃ j, k = j + 1 := ⟨k - 1, by omega⟩
    simp only [spec_l12Same.l0]
    rw [if_neg (by omega)]
    obtain rfl : i = l.length := by omega
    rw [List.take_length, ← hm, List.take_length] at ht
    simp [ht]
  | succ d ih =>
    intro k i hi ht hk
    obtain ⟨k, rfl⟩ : ∃ j, k = j + 1 := ⟨k - 1, by omega⟩
    simp only [spec_l12Same.l0]
    have h1 : i < l.length := by omega
    have h2 : i < m.length := by omega
    rw [if_pos (by omega), if_pos (by omega), if_pos (by omega), w64 (by omega) (by omega), rd_nat l i h1, rd_nat m i h2]
    by_cases e : l[i] = m[i]
    · rw [if_pos e]
      have := ih k (i + 1) (by omega) (by rw [List.take_succ_eq_append_getElem h1, List.take_succ_eq_append_getElem h2, ht, e]) (by omega)
      simpa using this
    · rw [if_neg e]
      have : l ≠ m := fun h => by subst h; exact e rfl
      simp [this]
theorem same_f (k : Nat) (l m : List Int) (hl : l.length ≤ 1048576000) (hk : l.length < k) : spec_l12Same.f k l m = some (decide (l = m)) := by
  unfold spec_l12Same.f
  by_cases e : l.length = m.length
  · rw [if_pos (by omega)]
    exact same_loop l m hl e.symm l.length k 0 (by omega) (by simp) hk
  · rw [if_neg (by omega)]
    have : l ≠ m := fun h => by subst h; exact e rfl
    simp [this]
theorem sEqual_loop (l m : List Int) (hl : l.length ≤ 1048576000) (hm : m.length = l.length) (d : Nat) : ∀ (k : Nat) (i : Nat), i + d = l.length → l.take i = m.take i → d < k → slices_Equal_int_int.l0 k l m (l.length : Int) (i : Int) = some (decide (l = m)) := by
  induction d with
  | zero =>
    intro k i hi ht hk
    obtain ⟨k, rfl⟩ : ∃ j, k = j + 1 := ⟨k - 1, by omega⟩
    simp only [slices_Equal_int_int.l0]
    rw [if_neg (by omega)]
    obtain rfl : i = l.length := by omega
    rw [List.take_length, ← hm, List.take_length] at ht
    simp [ht]
  | succ d ih =>
    intro k i hi ht hk
    obtain ⟨k, rfl⟩ : ∃ j, k = j + 1 := ⟨k - 1, by omega⟩
    simp only [slices_Equal_int_int.l0]
    have h1 : i < l.length := by omega
    have h2 : i < m.length := by omega
    rw [if_pos (by omega), if_pos (by omega), if_pos (by omega), if_pos (by omega), w64 (by omega) (by omega), rd_nat l i h1, rd_nat m i h2]
    by_cases e : l[i] = m[i]
    · rw [if_pos e]
      have := ih k (i + 1) (by omega) (by rw [List.take_succ_eq_append_getElem h1, List.take_succ_eq_append_getElem h2, ht, e]) (by omega)
      simpa using this
    · rw [if_neg e]
      have : l ≠ m := fun h => by subst h; exact e rfl
      simp [this]
theorem sEqual_f (k : Nat) (l m : List Int) (hl : l.length ≤ 1048576000) (hk : l.length < k) : slices_Equal_int_int.f k l m = some (decide (l = m)) := by
  unfold slices_Equal_int_int.f
  by_cases e : l.length = m.length
  · rw [if_pos (by omega)]
    exact sEqual_loop l m hl e.symm l.length k 0 (by omega) (by simp) hk
  · rw [if_neg (by omega)]
    have : l ≠ m := fun h => by subst h; exact e rfl
    simp [this]
theorem szIntS_f (l : List Int) (a : Int) (h0 : 0 ≤ a) (h : a ≤ 1048576) (hl : l.length ≤ maxLen) : laws_szIntS.f l a = some (if a - (l.length : Int) < 0 then -1 else a - (l.length : Int)) := by
  unfold laws_szIntS.f
  unfold maxLen at hl
  rw [w64 (by omega) (by omega)]
  split <;> rfl
theorem implFieldOk_f (a : Int) : impl_FieldOk.f a = some (fOk a) := by unfold impl_FieldOk.f; rw [within_f]; rfl
theorem all_take {l : List Int} (h : l.all fOk = true) (n : Nat) : (l.take n).all fOk = true := by
  rw [List.all_eq_true] at h ⊢
  exact fun x hx => h x (List.mem_of_mem_take hx)
theorem all_drop {l : List Int} (h : l.all fOk = true) (n : Nat) : (l.drop n).all fOk = true := by
  rw [List.all_eq_true] at h ⊢
  exact fun x hx => h x (List.mem_of_mem_drop hx)
theorem eqProof_f (k : Nat) (a b : Int) (s : List Int) (a' b' : Int) (s' : List Int) (hs : s.length ≤ 1048576000) (hk : s.length < k) :
    laws_eqProof.f k a b s a' b' s' = some (decide (a = a') && decide (b = b') && decide (s = s')) := by
  unfold laws_eqProof.f
  by_cases h1 : a = a'
  · by_cases h2 : b = b'
    · rw [if_pos h1, if_pos h2, eqIntS_f k s s' hs hk, Option.bind_some]
      by_cases h3 : s = s' <;> simp [h1, h2, h3]
    · rw [if_pos h1, if_neg h2]; simp [h2]
  · rw [if_neg h1]; simp [h1]
end Go.Proofs.YtahbooeioigbgaaDoor.Q
