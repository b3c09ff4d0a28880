import Derived.Test.YtlgbblaidohljaaGreatDoorQAsk3Zc
import Derived.Test.YtlgbblaidohljaaGreatDoorQGaZc
import Derived.Test.YtlgbblaidohljaaGreatDoorQGbZc
import Derived.Test.YtlgbblaidohljaaGreatDoorZc1
import Derived.Test.YtlgbblaidohljaaGreatDoorZc10
import Derived.Test.YtlgbblaidohljaaGreatDoorZc15
import Derived.Test.YtlgbblaidohljaaGreatDoorZc17
import Derived.Test.YtlgbblaidohljaaGreatDoorZc18
import Derived.Test.YtlgbblaidohljaaGreatDoorZc2
import Derived.Test.YtlgbblaidohljaaGreatDoorZc21
import Derived.Test.YtlgbblaidohljaaGreatDoorZc6
import Derived.Test.YtlgbblaidohljaaGreatDoorZc9
set_option linter.unusedVariables false
set_option linter.unusedSimpArgs false
namespace Go.Proofs.YtlgbblaidohljaaGreatDoor.Q
open Go.RowKit Go.Proofs.YtlgbblaidohljaaGreatDoor.Zc Go.Proofs.YtlgbblaidohljaaGreatDoorU.PrintWords Go.Proofs.YtlgbblaidohljaaGreatDoorU.PrintLast Go.Proofs.YtlgbblaidohljaaGreatDoorU.PrintMore
theorem sEqual_loop (l m : List Int) (hl : l.length ≤ 1048576000) (hm : m.length = l.length) (d : Nat) : ∀ (k : Nat) (i : Nat), i + d = l.length → l.take i = m.take i → d < k → slices_Equal_int_int.l0 k l m (l.length : Int) (i : Int) = some (decide (l = m)) := by
  induction d with
  | zero =>
    intro k i hi ht hk
    obtain ⟨k, rfl⟩ : ∃ j, k = j + 1 := ⟨k - 1, by omega⟩
    simp only [slices_Equal_int_int.l0]
    rw [if_neg (by omega)]
    obtain rfl : i = l.length := by omega
    rw [List.take_length, ← hm, List.take_length] at ht
    simp [ht]
  | succ d ih =>
    intro k i hi ht hk
    obtain ⟨k, rfl⟩ : ∃ j, k = j + 1 := ⟨k - 1, by omega⟩
    simp only [slices_Equal_int_int.l0]
    have h1 : i < l.length := by omega
    have h2 : i < m.length := by omega
    rw [if_pos (by omega), if_pos (by omega), if_pos (by omega), if_pos (by omega), w64 (by omega) (by omega), rd_nat l i h1, rd_nat m i h2]
    by_cases e : l[i] = m[i]
    · rw [if_pos e]
      have := ih k (i + 1) (by omega) (by rw [List.take_succ_eq_append_getElem h1, List.take_succ_eq_append_getElem h2, ht, e]) (by omega)
      simpa using this
    · rw [if_neg e]
      have : l ≠ m := fun h => by subst h; exact e rfl
      simp [this]
theorem sEqual_f (k : Nat) (l m : List Int) (hl : l.length ≤ 1048576000) (hk : l.length < k) : slices_Equal_int_int.f k l m = some (decide (l = m)) := by
  unfold slices_Equal_int_int.f
  by_cases e : l.length = m.length
  · rw [if_pos (by omega)]
    exact sEqual_loop l m hl e.symm l.length k 0 (by omega) (by simp) hk
  · rw [if_neg (by omega)]
    have : l ≠ m := fun h => by subst h; exact e rfl
    simp [this]
def vecOk (kind : Int) (s : List Int) : Bool := kOk kind && decide ((s.length : Int) = tLen kind) && s.all fOk
theorem l11Vec_f (k : Nat) (kind : Int) (s : List Int) (hl : s.length ≤ 1048576000) (hk : s.length < k) : spec_l11Vec.f k kind s = some (vecOk kind s) := by
  unfold spec_l11Vec.f vecOk
  rw [l11Kind_f, Option.bind_some]
  cases h : kOk kind
  · rfl
  · rw [if_pos rfl, shareOk_f k s hl hk, Option.bind_some]
    have ht := tLen_le kind
    cases h2 : s.all fOk
    · simp
    · by_cases h3 : (s.length : Int) ≤ 20
      · rw [if_pos (by simp [h3]), specTypeLen_f, Option.bind_some]
        simp only [Bool.true_and, Bool.and_true]
        rfl
      · rw [if_neg (by simp; omega)]
        have : ¬ ((s.length : Int) = tLen kind) := by omega
        simp [this]
theorem sized_f (kind : Int) (s : List Int) : impl_sized.f kind s (tLen kind) = some (vecOk kind s) := by
  unfold impl_sized.f vecOk impl_kindOk.f impl_elementsOk.f
  have ht := tLen_le kind
  rw [Option.bind_some]
  cases h : kOk kind
  · rfl
  · rw [if_pos rfl]
    by_cases h3 : (s.length : Int) = tLen kind
    · rw [if_pos h3, Option.bind_some]
      have : (s.length : Int) ≤ 20 := by omega
      simp [h3]; omega
    · rw [if_neg h3]; simp [h3]
def hotOk (kind : Int) (v : List Int) : Bool := v.all (fun x => decide (x ≤ 1)) && (decide (kind ≠ 2) || decide (v.sum = 1))
def tvFrom (kind : Int) (v : List Int) : Nat → Int → Int × Bool
  | 0, _ => (0, false)
  | d + 1, val => if encV kind val = v then (val, true) else tvFrom kind v d (val + 1)
theorem encV_length (kind val : Int) : (encV kind val).length ≤ 4 := by
  unfold encV; split
  · simp
  · split <;> simp
theorem mVals_bd (kind : Int) : 0 ≤ mVals kind ∧ mVals kind ≤ 8 := by unfold mVals; split <;> (try split) <;> (try split) <;> omega
theorem mVals_0 {kind : Int} (h : kOk kind = false) : mVals kind = 0 := by
  unfold kOk at h; simp only [decide_eq_false_iff_not] at h
  unfold mVals
  rw [if_neg (fun e => h (.inl e)), if_neg (fun e => h (.inr (.inl e))), if_neg (fun e => h (.inr (.inr e)))]
theorem typeVal_loop (kind : Int) (v : List Int) (d : Nat) : ∀ (k : Nat) (val : Int), 0 ≤ val → val + d = mVals kind → d + 10 < k → impl_TypeVal.l0 k kind v val = some (tvFrom kind v d val) := by
  have hm := mVals_bd kind
  induction d with
  | zero =>
    intro k val h0 hd hk
    obtain ⟨k, rfl⟩ : ∃ j, k = j + 1 := ⟨k - 1, by omega⟩
    simp only [impl_TypeVal.l0, impl_TypeMake.f, Option.bind_some]
    cases h : kOk kind
    · rfl
    · rw [if_pos rfl, if_neg (show ¬ (0 ≤ val ∧ val < mVals kind) by omega)]
      rfl
  | succ d ih =>
    intro k val h0 hd hk
    obtain ⟨k, rfl⟩ : ∃ j, k = j + 1 := ⟨k - 1, by omega⟩
    simp only [impl_TypeVal.l0, impl_TypeMake.f, Option.bind_some]
    have h : kOk kind = true := by
      cases h : kOk kind
      · have := mVals_0 h; omega
      · rfl
    have hl := encV_length kind val
    rw [h, if_pos rfl, if_pos (show 0 ≤ val ∧ val < mVals kind by omega)]
    simp only
    rw [if_pos trivial, sEqual_f k _ v (by omega) (by omega), Option.bind_some, w64 (by omega) (by omega), ih k (val + 1) (by omega) (by omega) (by omega)]
    simp only [tvFrom]
    by_cases e : encV kind val = v
    · rw [if_pos e, if_pos (by simp [e])]
    · rw [if_neg e, if_neg (by simp [e])]
theorem typeVal_f (K : Nat) (hK : 30 ≤ K) (kind : Int) (v : List Int) : impl_TypeVal.f K kind v = some (tvFrom kind v (mVals kind).toNat 0) := by
  have hm := mVals_bd kind
  exact typeVal_loop kind v (mVals kind).toNat K 0 (by omega) (by omega) (by omega)
theorem tv_true (kind : Int) (v : List Int) (d : Nat) : ∀ val : Int, (tvFrom kind v d val).2 = true → ∃ w, val ≤ w ∧ w < val + d ∧ encV kind w = v ∧ (tvFrom kind v d val).1 = w := by
  induction d with
  | zero => intro val h; cases h
  | succ d ih =>
    intro val h
    simp only [tvFrom] at h ⊢
    by_cases e : encV kind val = v
    · rw [if_pos e]; exact ⟨val, by omega, by omega, e, rfl⟩
    · rw [if_neg e] at h ⊢
      obtain ⟨w, h1, h2, h3, h4⟩ := ih _ h
      exact ⟨w, by omega, by omega, h3, h4⟩
theorem list1 (l : List Int) (h : l.length = 1) : ∃ a, l = [a] := by
  match l, h with
  | [a], _ => exact ⟨a, rfl⟩
theorem list3 (l : List Int) (h : l.length = 3) : ∃ a b c, l = [a, b, c] := by
  match l, h with
  | [a, b, c], _ => exact ⟨a, b, c, rfl⟩
theorem list4 (l : List Int) (h : l.length = 4) : ∃ a b c d, l = [a, b, c, d] := by
  match l, h with
  | [a, b, c, d], _ => exact ⟨a, b, c, d, rfl⟩
theorem bit_of {x : Int} (h : fOk x = true) (h1 : decide (x ≤ 1) = true) : x = 0 ∨ x = 1 := by
  have := (fOk_iff x).1 h
  have := of_decide_eq_true h1
  omega
theorem tv_ok (kind : Int) (v : List Int) : (tvFrom kind v (mVals kind).toNat 0).2 = (vecOk kind v && hotOk kind v) := by
  cases h : vecOk kind v && hotOk kind v
  · cases h2 : (tvFrom kind v (mVals kind).toNat 0).2
    · rfl
    · exfalso
      obtain ⟨w, w0, w1, e, _⟩ := tv_true _ _ _ _ h2
      have hm := mVals_bd kind
      cases hk : kOk kind
      · have := mVals_0 hk; omega
      · rcases tLen_cases hk with ⟨rfl, _⟩ | ⟨rfl, _⟩ | ⟨rfl, _⟩
        · have hw : w = 0 ∨ w = 1 := by have : mVals 1 = 2 := rfl; omega
          rcases hw with rfl | rfl <;> subst e <;> revert h <;> decide +kernel
        · have hw : w = 0 ∨ w = 1 ∨ w = 2 ∨ w = 3 := by have : mVals 2 = 4 := rfl; omega
          rcases hw with rfl | rfl | rfl | rfl <;> subst e <;> revert h <;> decide +kernel
        · have hw : w = 0 ∨ w = 1 ∨ w = 2 ∨ w = 3 ∨ w = 4 ∨ w = 5 ∨ w = 6 ∨ w = 7 := by have : mVals 3 = 8 := rfl; omega
          rcases hw with rfl | rfl | rfl | rfl | rfl | rfl | rfl | rfl <;> subst e <;> revert h <;> decide +kernel
  · simp only [Bool.and_eq_true] at h
    obtain ⟨hVec, hh⟩ := h
    have hVec' := hVec
    unfold vecOk at hVec'
    simp only [Bool.and_eq_true, decide_eq_true_eq] at hVec'
    obtain ⟨⟨hk, hlen⟩, hall⟩ := hVec'
    have hh' := hh
    unfold hotOk at hh'
    simp only [Bool.and_eq_true] at hh'
    obtain ⟨h1, h2⟩ := hh'
    rcases tLen_cases hk with ⟨rfl, e⟩ | ⟨rfl, e⟩ | ⟨rfl, e⟩
    · obtain ⟨a, rfl⟩ := list1 v (by omega)
      simp only [List.all_cons, List.all_nil, Bool.and_true] at hall h1
      rcases bit_of hall h1 with rfl | rfl <;> decide +kernel
    · obtain ⟨a, b, c, d, rfl⟩ := list4 v (by omega)
      simp only [List.all_cons, List.all_nil, Bool.and_true, Bool.and_eq_true] at hall h1
      obtain ⟨q1, q2, q3, q4⟩ := hall
      obtain ⟨p1, p2, p3, p4⟩ := h1
      rcases bit_of q1 p1 with rfl | rfl <;> rcases bit_of q2 p2 with rfl | rfl <;> rcases bit_of q3 p3 with rfl | rfl <;> rcases bit_of q4 p4 with rfl | rfl <;> first | (revert h2; decide +kernel) | decide +kernel
    · obtain ⟨a, b, c, rfl⟩ := list3 v (by omega)
      simp only [List.all_cons, List.all_nil, Bool.and_true, Bool.and_eq_true] at hall h1
      obtain ⟨q1, q2, q3⟩ := hall
      obtain ⟨p1, p2, p3⟩ := h1
      rcases bit_of q1 p1 with rfl | rfl <;> rcases bit_of q2 p2 with rfl | rfl <;> rcases bit_of q3 p3 with rfl | rfl <;> decide +kernel
theorem typeOk_f (K : Nat) (hK : 30 ≤ K) (kind : Int) (v : List Int) : impl_TypeOk.f K kind v = some (vecOk kind v && hotOk kind v) := by
  unfold impl_TypeOk.f
  rw [typeVal_f K hK, Option.bind_some, tv_ok]
section
variable {kind : Int} {l : List Int} (hkind : kOk kind = true) (hl : (l.length : Int) = 3 * tLen kind + 3) (ha : l.all fOk = true)
include hkind hl ha
end
theorem proofCut_f (kind : Int) (l : List Int) (hk : kOk kind = true) (hl : (l.length : Int) = 3 * tLen kind + 3) (ha : l.all fOk = true) :
    impl_ProofCut.f kind l = some (l.take (tLen kind).toNat, rd l (tLen kind), rd l (tLen kind + 1), l.drop ((tLen kind).toNat + 2), true) := by
  have ht := tLen_le kind
  unfold impl_ProofCut.f
  rw [iProofLen_f kind, Option.bind_some, if_pos hk, sizedN_f _ _ _ (by omega), Option.bind_some, hk, ha, if_pos (by simp; omega), iCut_f kind l hl, Option.bind_some]
end Go.Proofs.YtlgbblaidohljaaGreatDoor.Q
