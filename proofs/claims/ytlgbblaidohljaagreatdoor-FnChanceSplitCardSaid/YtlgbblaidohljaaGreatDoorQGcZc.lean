import Derived.Test.YtlgbblaidohljaaGreatDoorQAsk3Zc
import Derived.Test.YtlgbblaidohljaaGreatDoorQGaZc
import Derived.Test.YtlgbblaidohljaaGreatDoorQGbZc
import Derived.Test.YtlgbblaidohljaaGreatDoorZc1
import Derived.Test.YtlgbblaidohljaaGreatDoorZc10
import Derived.Test.YtlgbblaidohljaaGreatDoorZc15
import Derived.Test.YtlgbblaidohljaaGreatDoorZc17
import Derived.Test.YtlgbblaidohljaaGreatDoorZc18
import Derived.Test.YtlgbblaidohljaaGreatDoorZc2
import Derived.Test.YtlgbblaidohljaaGreatDoorZc21
import Derived.Test.YtlgbblaidohljaaGreatDoorZc6
import Derived.Test.YtlgbblaidohljaaGreatDoorZc9
set_option linter.unusedVariables false
set_option linter.unusedSimpArgs false
namespace Go.Proofs.YtlgbblaidohljaaGreatDoor.Q
open Go.RowKit Go.Proofs.YtlgbblaidohljaaGreatDoor.Zc Go.Proofs.YtlgbblaidohljaaGreatDoorU.PrintWords Go.Proofs.YtlgbblaidohljaaGreatDoorU.PrintLast Go.Proofs.YtlgbblaidohljaaGreatDoorU.PrintMore
theorem fieldSum_f (a b : Int) (ha : fOk a = true) (hb : fOk b = true) : spec_FieldSum.f a b = some ((a + b) % 31) := by
  unfold spec_FieldSum.f
  have h1 := (fOk_iff a).1 ha
  have h2 := (fOk_iff b).1 hb
  rw [fieldOk_f, Option.bind_some, if_pos ha, fieldOk_f, Option.bind_some, if_pos hb, w64 (by omega) (by omega), Int.tmod_eq_emod_of_nonneg (by omega)]
theorem mul_bd {a b : Int} (ha : 0 ≤ a ∧ a ≤ 30) (hb : 0 ≤ b ∧ b ≤ 30) : 0 ≤ a * b ∧ a * b ≤ 900 := by
  have h1 : 0 ≤ a * b := Int.mul_nonneg ha.1 hb.1
  have h2 : a * b ≤ 30 * 30 := Int.mul_le_mul ha.2 hb.2 hb.1 (by omega)
  omega
theorem fieldMul_f (a b : Int) (ha : fOk a = true) (hb : fOk b = true) : spec_FieldMul.f a b = some ((a * b) % 31) := by
  unfold spec_FieldMul.f
  have h1 := (fOk_iff a).1 ha
  have h2 := (fOk_iff b).1 hb
  have h3 := mul_bd h1 h2
  rw [fieldOk_f, Option.bind_some, if_pos ha, fieldOk_f, Option.bind_some, if_pos hb, w64 (by omega) (by omega), Int.tmod_eq_emod_of_nonneg (by omega)]
def sumL (a b : List Int) : List Int := List.zipWith (fun x y => (x + y) % 31) a b
theorem sumL_length (a b : List Int) (h : a.length = b.length) : (sumL a b).length = a.length := by simp [sumL, h]
theorem l3Sum_loop (a b : List Int) (hl : a.length = b.length) (hn : a.length ≤ 1048576000) (ha : a.all fOk = true) (hb : b.all fOk = true) (d : Nat) : ∀ (k : Nat) (i : Nat), i + d = a.length → d < k → spec_l3Sum.l0 k a b ((sumL a b).take i) (i : Int) = some (sumL a b) := by
  have hs := sumL_length a b hl
  induction d with
  | zero =>
    intro k i hi hk
    obtain ⟨k, rfl⟩ : ∃ j, k = j + 1 := ⟨k - 1, by omega⟩
    simp only [spec_l3Sum.l0]
    rw [if_neg (by omega), List.take_of_length_le (by omega)]
  | succ d ih =>
    intro k i hi hk
    obtain ⟨k, rfl⟩ : ∃ j, k = j + 1 := ⟨k - 1, by omega⟩
    simp only [spec_l3Sum.l0]
    have h1 : i < a.length := by omega
    have h2 : i < b.length := by omega
    rw [if_pos (by omega), if_pos (by omega), if_pos (by omega), rd_nat a i h1, rd_nat b i h2, fieldSum_f _ _ (all_get ha i h1) (all_get hb i h2), Option.bind_some, if_pos (by rw [List.length_take]; omega), w64 (by omega) (by omega)]
    have := ih k (i + 1) (by omega) (by omega)
    have h3 : i < (sumL a b).length := by omega
    rw [List.take_succ_eq_append_getElem h3] at this
    have e : (sumL a b)[i] = (a[i] + b[i]) % 31 := by simp [sumL]
    rw [e] at this
    simpa using this
theorem l3Sum_f (k : Nat) (a b : List Int) (hl : a.length = b.length) (hn : a.length ≤ 1048576000) (ha : a.all fOk = true) (hb : b.all fOk = true) (hk : a.length < k) : spec_l3Sum.f k a b = some (sumL a b) := by
  have := l3Sum_loop a b hl hn ha hb a.length k 0 (by omega) hk
  unfold spec_l3Sum.f
  simpa using this
theorem sEqual_loop (l m : List Int) (hl : l.length ≤ 1048576000) (hm : m.length = l.length) (d : Nat) : ∀ (k : Nat) (i : Nat), i + d = l.length → l.take i = m.take i → d < k → slices_Equal_int_int.l0 k l m (l.length : Int) (i : Int) = some (decide (l = m)) := by
  induction d with
  | zero =>
    intro k i hi ht hk
    obtain ⟨k, rfl⟩ : ∃ j, k = j + 1 := ⟨k - 1, by omega⟩
    simp only [slices_Equal_int_int.l0]
    rw [if_neg (by omega)]
    obtain rfl : i = l.length := by omega
    rw [List.take_length, ← hm, List.take_length] at ht
    simp [ht]
  | succ d ih =>
    intro k i hi ht hk
    obtain ⟨k, rfl⟩ : ∃ j, k = j + 1 := ⟨k - 1, by omega⟩
    simp only [slices_Equal_int_int.l0]
    have h1 : i < l.length := by omega
    have h2 : i < m.length := by omega
    rw [if_pos (by omega), if_pos (by omega), if_pos (by omega), if_pos (by omega), w64 (by omega) (by omega), rd_nat l i h1, rd_nat m i h2]
    by_cases e : l[i] = m[i]
    · rw [if_pos e]
      have := ih k (i + 1) (by omega) (by rw [List.take_succ_eq_append_getElem h1, List.take_succ_eq_append_getElem h2, ht, e]) (by omega)
      simpa using this
    · rw [if_neg e]
      have : l ≠ m := fun h => by subst h; exact e rfl
      simp [this]
theorem sEqual_f (k : Nat) (l m : List Int) (hl : l.length ≤ 1048576000) (hk : l.length < k) : slices_Equal_int_int.f k l m = some (decide (l = m)) := by
  unfold slices_Equal_int_int.f
  by_cases e : l.length = m.length
  · rw [if_pos (by omega)]
    exact sEqual_loop l m hl e.symm l.length k 0 (by omega) (by simp) hk
  · rw [if_neg (by omega)]
    have : l ≠ m := fun h => by subst h; exact e rfl
    simp [this]
def vecOk (kind : Int) (s : List Int) : Bool := kOk kind && decide ((s.length : Int) = tLen kind) && s.all fOk
theorem l11Vec_f (k : Nat) (kind : Int) (s : List Int) (hl : s.length ≤ 1048576000) (hk : s.length < k) : spec_l11Vec.f k kind s = some (vecOk kind s) := by
  unfold spec_l11Vec.f vecOk
  rw [l11Kind_f, Option.bind_some]
  cases h : kOk kind
  · rfl
  · rw [if_pos rfl, shareOk_f k s hl hk, Option.bind_some]
    have ht := tLen_le kind
    cases h2 : s.all fOk
    · simp
    · by_cases h3 : (s.length : Int) ≤ 20
      · rw [if_pos (by simp [h3]), specTypeLen_f, Option.bind_some]
        simp only [Bool.true_and, Bool.and_true]
        rfl
      · rw [if_neg (by simp; omega)]
        have : ¬ ((s.length : Int) = tLen kind) := by omega
        simp [this]
theorem sized_f (kind : Int) (s : List Int) : impl_sized.f kind s (tLen kind) = some (vecOk kind s) := by
  unfold impl_sized.f vecOk impl_kindOk.f impl_elementsOk.f
  have ht := tLen_le kind
  rw [Option.bind_some]
  cases h : kOk kind
  · rfl
  · rw [if_pos rfl]
    by_cases h3 : (s.length : Int) = tLen kind
    · rw [if_pos h3, Option.bind_some]
      have : (s.length : Int) ≤ 20 := by omega
      simp [h3]; omega
    · rw [if_neg h3]; simp [h3]
def hotOk (kind : Int) (v : List Int) : Bool := v.all (fun x => decide (x ≤ 1)) && (decide (kind ≠ 2) || decide (v.sum = 1))
def tvFrom (kind : Int) (v : List Int) : Nat → Int → Int × Bool
  | 0, _ => (0, false)
  | d + 1, val => if encV kind val = v then (val, true) else tvFrom kind v d (val + 1)
theorem encV_length (kind val : Int) : (encV kind val).length ≤ 4 := by
  unfold encV; split
  · simp
  · split <;> simp
theorem mVals_bd (kind : Int) : 0 ≤ mVals kind ∧ mVals kind ≤ 8 := by unfold mVals; split <;> (try split) <;> (try split) <;> omega
theorem mVals_0 {kind : Int} (h : kOk kind = false) : mVals kind = 0 := by
  unfold kOk at h; simp only [decide_eq_false_iff_not] at h
  unfold mVals
  rw [if_neg (fun e => h (.inl e)), if_neg (fun e => h (.inr (.inl e))), if_neg (fun e => h (.inr (.inr e)))]
theorem typeVal_loop (kind : Int) (v : List Int) (d : Nat) : ∀ (k : Nat) (val : Int), 0 ≤ val → val + d = mVals kind → d + 10 < k → impl_TypeVal.l0 k kind v val = some (tvFrom kind v d val) := by
  have hm := mVals_bd kind
  induction d with
  | zero =>
    intro k val h0 hd hk
    obtain ⟨k, rfl⟩ : ∃ j, k = j + 1 := ⟨k - 1, by omega⟩
    simp only [impl_TypeVal.l0, impl_TypeMake.f, Option.bind_some]
    cases h : kOk kind
    · rfl
    · rw [if_pos rfl, if_neg (show ¬ (0 ≤ val ∧ val < mVals kind) by omega)]
      rfl
  | succ d ih =>
    intro k val h0 hd hk
    obtain ⟨k, rfl⟩ : ∃ j, k = j + 1 := ⟨k - 1, by omega⟩
    simp only [impl_TypeVal.l0, impl_TypeMake.f, Option.bind_some]
    have h : kOk kind = true := by
      cases h : kOk kind
      · have := mVals_0 h; omega
      · rfl
    have hl := encV_length kind val
    rw [h, if_pos rfl, if_pos (show 0 ≤ val ∧ val < mVals kind by omega)]
    simp only
    rw [if_pos trivial, sEqual_f k _ v (by omega) (by omega), Option.bind_some, w64 (by omega) (by omega), ih k (val + 1) (by omega) (by omega) (by omega)]
    simp only [tvFrom]
    by_cases e : encV kind val = v
    · rw [if_pos e, if_pos (by simp [e])]
    · rw [if_neg e, if_neg (by simp [e])]
theorem typeVal_f (K : Nat) (hK : 30 ≤ K) (kind : Int) (v : List Int) : impl_TypeVal.f K kind v = some (tvFrom kind v (mVals kind).toNat 0) := by
  have hm := mVals_bd kind
  exact typeVal_loop kind v (mVals kind).toNat K 0 (by omega) (by omega) (by omega)
theorem tv_true (kind : Int) (v : List Int) (d : Nat) : ∀ val : Int, (tvFrom kind v d val).2 = true → ∃ w, val ≤ w ∧ w < val + d ∧ encV kind w = v ∧ (tvFrom kind v d val).1 = w := by
  induction d with
  | zero => intro val h; cases h
  | succ d ih =>
    intro val h
    simp only [tvFrom] at h ⊢
    by_cases e : encV kind val = v
    · rw [if_pos e]; exact ⟨val, by omega, by omega, e, rfl⟩
    · rw [if_neg e] at h ⊢
      obtain ⟨w, h1, h2, h3, h4⟩ := ih _ h
      exact ⟨w, by omega, by omega, h3, h4⟩
theorem list1 (l : List Int) (h : l.length = 1) : ∃ a, l = [a] := by
  match l, h with
  | [a], _ => exact ⟨a, rfl⟩
theorem list3 (l : List Int) (h : l.length = 3) : ∃ a b c, l = [a, b, c] := by
  match l, h with
  | [a, b, c], _ => exact ⟨a, b, c, rfl⟩
theorem list4 (l : List Int) (h : l.length = 4) : ∃ a b c d, l = [a, b, c, d] := by
  match l, h with
  | [a, b, c, d], _ => exact ⟨a, b, c, d, rfl⟩
theorem bit_of {x : Int} (h : fOk x = true) (h1 : decide (x ≤ 1) = true) : x = 0 ∨ x = 1 := by
  have := (fOk_iff x).1 h
  have := of_decide_eq_true h1
  omega
theorem tv_ok (kind : Int) (v : List Int) : (tvFrom kind v (mVals kind).toNat 0).2 = (vecOk kind v && hotOk kind v) := by
  cases h : vecOk kind v && hotOk kind v
  · cases h2 : (tvFrom kind v (mVals kind).toNat 0).2
    · rfl
    · exfalso
      obtain ⟨w, w0, w1, e, _⟩ := tv_true _ _ _ _ h2
      have hm := mVals_bd kind
      cases hk : kOk kind
      · have := mVals_0 hk; omega
      · rcases tLen_cases hk with ⟨rfl, _⟩ | ⟨rfl, _⟩ | ⟨rfl, _⟩
        · have hw : w = 0 ∨ w = 1 := by have : mVals 1 = 2 := rfl; omega
          rcases hw with rfl | rfl <;> subst e <;> revert h <;> decide +kernel
        · have hw : w = 0 ∨ w = 1 ∨ w = 2 ∨ w = 3 := by have : mVals 2 = 4 := rfl; omega
          rcases hw with rfl | rfl | rfl | rfl <;> subst e <;> revert h <;> decide +kernel
        · have hw : w = 0 ∨ w = 1 ∨ w = 2 ∨ w = 3 ∨ w = 4 ∨ w = 5 ∨ w = 6 ∨ w = 7 := by have : mVals 3 = 8 := rfl; omega
          rcases hw with rfl | rfl | rfl | rfl | rfl | rfl | rfl | rfl <;> subst e <;> revert h <;> decide +kernel
  · simp only [Bool.and_eq_true] at h
    obtain ⟨hVec, hh⟩ := h
    have hVec' := hVec
    unfold vecOk at hVec'
    simp only [Bool.and_eq_true, decide_eq_true_eq] at hVec'
    obtain ⟨⟨hk, hlen⟩, hall⟩ := hVec'
    have hh' := hh
    unfold hotOk at hh'
    simp only [Bool.and_eq_true] at hh'
    obtain ⟨h1, h2⟩ := hh'
    rcases tLen_cases hk with ⟨rfl, e⟩ | ⟨rfl, e⟩ | ⟨rfl, e⟩
    · obtain ⟨a, rfl⟩ := list1 v (by omega)
      simp only [List.all_cons, List.all_nil, Bool.and_true] at hall h1
      rcases bit_of hall h1 with rfl | rfl <;> decide +kernel
    · obtain ⟨a, b, c, d, rfl⟩ := list4 v (by omega)
      simp only [List.all_cons, List.all_nil, Bool.and_true, Bool.and_eq_true] at hall h1
      obtain ⟨q1, q2, q3, q4⟩ := hall
      obtain ⟨p1, p2, p3, p4⟩ := h1
      rcases bit_of q1 p1 with rfl | rfl <;> rcases bit_of q2 p2 with rfl | rfl <;> rcases bit_of q3 p3 with rfl | rfl <;> rcases bit_of q4 p4 with rfl | rfl <;> first | (revert h2; decide +kernel) | decide +kernel
    · obtain ⟨a, b, c, rfl⟩ := list3 v (by omega)
      simp only [List.all_cons, List.all_nil, Bool.and_true, Bool.and_eq_true] at hall h1
      obtain ⟨q1, q2, q3⟩ := hall
      obtain ⟨p1, p2, p3⟩ := h1
      rcases bit_of q1 p1 with rfl | rfl <;> rcases bit_of q2 p2 with rfl | rfl <;> rcases bit_of q3 p3 with rfl | rfl <;> decide +kernel
theorem typeOk_f (K : Nat) (hK : 30 ≤ K) (kind : Int) (v : List Int) : impl_TypeOk.f K kind v = some (vecOk kind v && hotOk kind v) := by
  unfold impl_TypeOk.f
  rw [typeVal_f K hK, Option.bind_some, tv_ok]
theorem list4d (l : List Int) (h : l.length = 4) : ∃ a b c d, l = [a, b, c, d] := by
  match l, h with
  | [a, b, c, d], _ => exact ⟨a, b, c, d, rfl⟩
theorem l13Decide_f (k : Nat) (a b : List Int) (ha4 : a.length = 4) (hb4 : b.length = 4) (ha : a.all fOk = true) (hb : b.all fOk = true) (hk : 4 < k) : spec_l13Decide.f k a b = some (dec4 a b) := by
  unfold spec_l13Decide.f
  rw [l3Sum_f k a b (by omega) (by omega) ha hb (by omega), Option.bind_some]
  have hs := sumL_length a b (by omega)
  obtain ⟨a0, a1, a2, a3, rfl⟩ := list4d a ha4
  obtain ⟨b0, b1, b2, b3, rfl⟩ := list4d b hb4
  simp only [sumL, List.zipWith_cons_cons, List.zipWith_nil_right, List.length_cons, List.length_nil, dec4, fourSum, rd]
  rw [if_pos (by omega), if_pos (by omega)]
  simp only [Int.toNat_zero, Int.toNat_one, List.getD_cons_zero, List.getD_cons_succ, Int.reduceToNat, Int.toNat_natCast]
  rw [fieldMul_f _ _ (fOk_mod _) (fOk_mod _), Option.bind_some, if_pos (by omega)]
  by_cases h : (a0 + b0) % 31 * ((a1 + b1) % 31) % 31 = (a2 + b2) % 31
  · rw [if_pos h, if_pos (by omega)]
    simp [h]
  · rw [if_neg h]
    simp [h]
def took (kind : Int) (l : List Int) (a w : Int) : Bool := dec4 (askV kind l true a w) [0, 0, 0, 0]
def cw (kind : Int) (l : List Int) (a : Int) : Nat → Nat → Int
  | 0, _ => 0
  | d + 1, w => (if took kind l a (w : Int) = true then 1 else 0) + cw kind l a d (w + 1)
def ca (kind : Int) (l : List Int) : Nat → Nat → Int
  | 0, _ => 0
  | d + 1, a => cw kind l (a : Int) 31 0 + ca kind l d (a + 1)
theorem cw_bd (kind : Int) (l : List Int) (a : Int) (d : Nat) : ∀ w, 0 ≤ cw kind l a d w ∧ cw kind l a d w ≤ d := by
  induction d with
  | zero => intro w; simp [cw]
  | succ d ih => intro w; have := ih (w + 1); simp only [cw]; split <;> omega
theorem ca_bd (kind : Int) (l : List Int) (d : Nat) : ∀ a, 0 ≤ ca kind l d a ∧ ca kind l d a ≤ 31 * d := by
  induction d with
  | zero => intro a; simp [ca]
  | succ d ih => intro a; have := ih (a + 1); have := cw_bd kind l (a : Int) 31 0; simp only [ca]; omega
theorem zeros4 : (List.replicate 4 (0 : Int)) = [0, 0, 0, 0] := rfl
section
variable {kind : Int} {l : List Int} (hkind : kOk kind = true) (hl : (l.length : Int) = 3 * tLen kind + 3) (ha : l.all fOk = true)
include hkind hl ha
theorem specChanceW (a : Nat) (h30 : a ≤ 30) (K d : Nat) (hK : 300 ≤ K) : ∀ (k w : Nat) (n : Int), w + d = 31 → 0 ≤ n ∧ n + (d : Int) ≤ 100000 → d + K < k →
    ∃ k', K ≤ k' ∧ spec_QueryChance.l1 k kind l n [0, 0, 0, 0] (a : Int) (w : Int) = spec_QueryChance.l0 k' kind l (n + cw kind l (a : Int) d w) [0, 0, 0, 0] ((a + 1 : Nat) : Int) := by
  induction d with
  | zero =>
    intro k w n hw hn hk
    obtain ⟨k, rfl⟩ : ∃ m, k = m + 1 := ⟨k - 1, by omega⟩
    refine ⟨k, by omega, ?_⟩
    simp only [spec_QueryChance.l1]
    rw [if_neg (by omega), w64 (by omega) (by omega)]
    simp [cw]
  | succ d ih =>
    intro k w n hw hn hk
    obtain ⟨k, rfl⟩ : ∃ m, k = m + 1 := ⟨k - 1, by omega⟩
    simp only [spec_QueryChance.l1]
    obtain ⟨b1, _⟩ := ask_both k (by omega) kind hkind l hl ha true (a : Int) (w : Int) (by omega) ((fOk_iff _).2 (by omega))
    rw [if_pos (by omega), b1, Option.bind_some, l13Decide_f k _ _ (askV_length _ _ _ _ _) rfl (askV_all _ _ _ _ _) rfl (by omega), Option.bind_some, w64 (a := n + 1) (by omega) (by omega), w64 (by omega) (by omega)]
    have e : dec4 (askV kind l true (a : Int) (w : Int)) [0, 0, 0, 0] = took kind l (a : Int) (w : Int) := rfl
    rw [e]
    simp only [cw]
    cases ht : took kind l (a : Int) (w : Int)
    · obtain ⟨k', hk', e2⟩ := ih k (w + 1) n (by omega) (by omega) (by omega)
      refine ⟨k', hk', ?_⟩
      rw [if_neg (by simp), if_neg (by simp), Int.zero_add]
      exact e2
    · obtain ⟨k', hk', e2⟩ := ih k (w + 1) (n + 1) (by omega) (by omega) (by omega)
      refine ⟨k', hk', ?_⟩
      rw [if_pos rfl, if_pos rfl, ← Int.add_assoc]
      exact e2
theorem implChanceW (a : Nat) (h30 : a ≤ 30) (K d : Nat) (hK : 300 ≤ K) : ∀ (k w : Nat) (n : Int), w + d = 31 → 0 ≤ n ∧ n + (d : Int) ≤ 100000 → d + K < k →
    ∃ k', K ≤ k' ∧ impl_QueryChance.l1 k kind l n (a : Int) (w : Int) = impl_QueryChance.l0 k' kind l (n + cw kind l (a : Int) d w) ((a + 1 : Nat) : Int) := by
  induction d with
  | zero =>
    intro k w n hw hn hk
    obtain ⟨k, rfl⟩ : ∃ m, k = m + 1 := ⟨k - 1, by omega⟩
    refine ⟨k, by omega, ?_⟩
    simp only [impl_QueryChance.l1]
    rw [if_neg (by omega), w64 (by omega) (by omega)]
    simp [cw]
  | succ d ih =>
    intro k w n hw hn hk
    obtain ⟨k, rfl⟩ : ∃ m, k = m + 1 := ⟨k - 1, by omega⟩
    simp only [impl_QueryChance.l1]
    obtain ⟨_, b1⟩ := ask_both k (by omega) kind hkind l hl ha true (a : Int) (w : Int) (by omega) ((fOk_iff _).2 (by omega))
    have hd : impl_QueryDecide.f (askV kind l true (a : Int) (w : Int)) (List.replicate 4 0) = some (took kind l (a : Int) (w : Int)) := by
      unfold impl_QueryDecide.f
      rw [zeros4, askV_length, askV_all]; rfl
    rw [if_pos (by omega), b1, Option.bind_some, if_pos (by omega), hd, Option.bind_some, w64 (a := n + 1) (by omega) (by omega), w64 (by omega) (by omega)]
    simp only [cw]
    cases ht : took kind l (a : Int) (w : Int)
    · obtain ⟨k', hk', e2⟩ := ih k (w + 1) n (by omega) (by omega) (by omega)
      refine ⟨k', hk', ?_⟩
      rw [if_neg (by simp), if_neg (by simp), Int.zero_add]
      exact e2
    · obtain ⟨k', hk', e2⟩ := ih k (w + 1) (n + 1) (by omega) (by omega) (by omega)
      refine ⟨k', hk', ?_⟩
      rw [if_pos rfl, if_pos rfl, ← Int.add_assoc]
      exact e2
set_option maxRecDepth 20000 in
theorem specChanceA (d : Nat) : ∀ (k a : Nat) (n : Int), a + d = 31 → 0 ≤ n ∧ n + 31 * (d : Int) ≤ 90000 → 33 * d + 400 < k → spec_QueryChance.l0 k kind l n [0, 0, 0, 0] (a : Int) = some (n + ca kind l d a) := by
  induction d with
  | zero =>
    intro k a n hw hn hk
    obtain ⟨k, rfl⟩ : ∃ m, k = m + 1 := ⟨k - 1, by omega⟩
    simp only [spec_QueryChance.l0]
    rw [if_neg (by omega)]
    simp [ca]
  | succ d ih =>
    intro k a n hw hn hk
    obtain ⟨k, rfl⟩ : ∃ m, k = m + 1 := ⟨k - 1, by omega⟩
    simp only [spec_QueryChance.l0]
    rw [if_pos (by omega)]
    have hb := cw_bd kind l (a : Int) 31 0
    have o1 : a ≤ 30 := by omega
    have o2 : 300 ≤ 33 * d + 401 := by omega
    have o3 : 0 ≤ n ∧ n + ((31 : Nat) : Int) ≤ 100000 := by omega
    have o4 : 31 + (33 * d + 401) < k := by omega
    have o5 : a + 1 + d = 31 := by omega
    have o6 : 0 ≤ n + cw kind l (a : Int) 31 0 ∧ n + cw kind l (a : Int) 31 0 + 31 * (d : Int) ≤ 90000 := by
      generalize cw kind l (a : Int) 31 0 = z at *
      omega
    clear hb
    generalize hM : 33 * d + 401 = M at o2 o4
    obtain ⟨k', hk', e⟩ := specChanceW hkind hl ha a o1 M 31 o2 k 0 n (Nat.zero_add _) o3 o4
    have e' := Aside0.mk e
    clear e
    have o7 : 33 * d + 400 < k' := by omega
    refine Eq.trans e'.out ?_
    rw [ih k' (a + 1) _ o5 o6 o7]
    simp only [ca]
    rw [Int.add_assoc]
set_option maxRecDepth 20000 in
theorem implChanceA (d : Nat) : ∀ (k a : Nat) (n : Int), a + d = 31 → 0 ≤ n ∧ n + 31 * (d : Int) ≤ 90000 → 33 * d + 400 < k → impl_QueryChance.l0 k kind l n (a : Int) = some (n + ca kind l d a) := by
  induction d with
  | zero =>
    intro k a n hw hn hk
    obtain ⟨k, rfl⟩ : ∃ m, k = m + 1 := ⟨k - 1, by omega⟩
    simp only [impl_QueryChance.l0]
    rw [if_neg (by omega)]
    simp [ca]
  | succ d ih =>
    intro k a n hw hn hk
    obtain ⟨k, rfl⟩ : ∃ m, k = m + 1 := ⟨k - 1, by omega⟩
    simp only [impl_QueryChance.l0]
    rw [if_pos (by omega)]
    have hb := cw_bd kind l (a : Int) 31 0
    have o1 : a ≤ 30 := by omega
    have o2 : 300 ≤ 33 * d + 401 := by omega
    have o3 : 0 ≤ n ∧ n + ((31 : Nat) : Int) ≤ 100000 := by omega
    have o4 : 31 + (33 * d + 401) < k := by omega
    have o5 : a + 1 + d = 31 := by omega
    have o6 : 0 ≤ n + cw kind l (a : Int) 31 0 ∧ n + cw kind l (a : Int) 31 0 + 31 * (d : Int) ≤ 90000 := by
      generalize cw kind l (a : Int) 31 0 = z at *
      omega
    clear hb
    generalize hM : 33 * d + 401 = M at o2 o4
    obtain ⟨k', hk', e⟩ := implChanceW hkind hl ha a o1 M 31 o2 k 0 n (Nat.zero_add _) o3 o4
    have e' := Aside0.mk e
    clear e
    have o7 : 33 * d + 400 < k' := by omega
    refine Eq.trans e'.out ?_
    rw [ih k' (a + 1) _ o5 o6 o7]
    simp only [ca]
    rw [Int.add_assoc]
end
def fullOk (kind : Int) (l : List Int) : Bool := kOk kind && decide ((l.length : Int) = 3 * tLen kind + 3) && l.all fOk
def chanceV (kind : Int) (l : List Int) : Int := if fullOk kind l = true then ca kind l (30 - (tLen kind).toNat) ((tLen kind).toNat + 1) else -1
theorem sizedFull_f (kind : Int) (l : List Int) : impl_sized.f kind l (if kOk kind = true then 3 * tLen kind + 3 else 0) = some (fullOk kind l) := by
  have ht := tLen_le kind
  rw [sizedN_f _ _ _ (by split <;> omega)]
  unfold fullOk
  cases h : kOk kind
  · rfl
  · rw [if_pos rfl]
theorem chance_both (k : Nat) (kind : Int) (l : List Int) (hl : l.length ≤ 1048576000) (hk : l.length + 2000 ≤ k) : spec_QueryChance.f k kind l = some (chanceV kind l) ∧ impl_QueryChance.f k kind l = some (chanceV kind l) := by
  have ht := tLen_le kind
  obtain ⟨p1, p2⟩ := proofLen_f kind
  have e : ((tLen kind).toNat : Int) = tLen kind := by omega
  constructor
  · unfold spec_QueryChance.f
    obtain ⟨k, rfl⟩ : ∃ m, k = m + 1 := ⟨k - 1, by omega⟩
    have hj : ∀ k, spec_QueryChance.j0 (k + 1) kind l true = some (-1) := fun k => rfl
    rw [l11Kind_f, Option.bind_some]
    unfold chanceV fullOk
    cases hkind : kOk kind
    · rw [if_neg (by simp), hj]; rfl
    · rw [if_pos rfl, shareOk_f _ l hl (by omega), Option.bind_some, p1, hkind, if_pos rfl]
      by_cases h1 : (l.length : Int) = 3 * tLen kind + 3
      · cases h2 : l.all fOk
        · rw [if_neg (by simp), hj]; simp
        · rw [if_pos (by simp; omega), Option.bind_some]
          have e2 : ((l.length : Int) != 3 * tLen kind + 3) = false := by simp [h1]
          rw [e2]
          simp only [spec_QueryChance.j0]
          rw [if_neg (by simp), if_pos (by omega), specTypeLen_f, Option.bind_some, w64 (by omega) (by omega), zeros4, show tLen kind + 1 = (((tLen kind).toNat + 1 : Nat) : Int) by omega, specChanceA hkind h1 h2 (30 - (tLen kind).toNat) k _ 0 (by omega) (by omega) (by omega), if_pos (by simp; omega)]
          simp
      · have e2 : ((l.length : Int) != 3 * tLen kind + 3) = true := by simp [h1]
        rw [Option.bind_some, e2]
        have : (true && decide ((l.length : Int) = 3 * tLen kind + 3) && l.all fOk) = false := by simp [h1]
        rw [this]
        split <;> exact hj _
  · unfold impl_QueryChance.f
    rw [p2, Option.bind_some, sizedFull_f, Option.bind_some]
    unfold chanceV
    cases hf : fullOk kind l
    · rfl
    · rw [if_pos rfl, if_pos rfl]
      unfold fullOk at hf
      simp only [Bool.and_eq_true, decide_eq_true_eq] at hf
      obtain ⟨⟨hkind, h1⟩, h2⟩ := hf
      unfold impl_TypeLen.f
      rw [Option.bind_some, w64 (by omega) (by omega), show tLen kind + 1 = (((tLen kind).toNat + 1 : Nat) : Int) by omega, implChanceA hkind h1 h2 (30 - (tLen kind).toNat) k _ 0 (by omega) (by omega) (by omega)]
      simp
theorem proofCut_f (kind : Int) (l : List Int) (hk : kOk kind = true) (hl : (l.length : Int) = 3 * tLen kind + 3) (ha : l.all fOk = true) :
    impl_ProofCut.f kind l = some (l.take (tLen kind).toNat, rd l (tLen kind), rd l (tLen kind + 1), l.drop ((tLen kind).toNat + 2), true) := by
  have ht := tLen_le kind
  unfold impl_ProofCut.f
  rw [iProofLen_f kind, Option.bind_some, if_pos hk, sizedN_f _ _ _ (by omega), Option.bind_some, hk, ha, if_pos (by simp; omega), iCut_f kind l hl, Option.bind_some]
end Go.Proofs.YtlgbblaidohljaaGreatDoor.Q
