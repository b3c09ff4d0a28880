import Derived.KernelRfl
import Derived.Test.YtlgbblaidohljaaGreatDoorZk1
import Derived.Test.YtlgbblaidohljaaGreatDoorZk4
import Derived.Test.YtlgbblaidohljaaGreatDoorZk6
import Derived.Test.YtlgbblaidohljaaGreatDoorZk7
import Derived.Test.YtlgbblaidohljaaGreatDoorZk8
set_option linter.unusedVariables false
set_option linter.unusedSimpArgs false
namespace Go.Proofs.YtlgbblaidohljaaGreatDoor.Q
open Go.RowKit Go.Proofs.YtlgbblaidohljaaGreatDoor.Zk Go.Proofs.YtlgbblaidohljaaGreatDoorT.PrintWords Go.Proofs.YtlgbblaidohljaaGreatDoorT.PrintLast Go.Proofs.YtlgbblaidohljaaGreatDoorT.PrintMore
theorem wf8 {a : Int} (h : (Lit.int .u8 a).wf = true) : 0 ≤ a ∧ a ≤ 255 := by
  simpa [Lit.wf, IntKind.min, IntKind.max, IntKind.signed, IntKind.bits] using h
theorem w64 {a : Int} (h1 : -9223372036854775808 ≤ a) (h2 : a ≤ 9223372036854775807) : wrap64 a = a := by unfold wrap64; omega
theorem l6In_f (a b c : Int) : spec_l6In.f a b c = some (decide (b ≤ a) && decide (a ≤ c)) := by
  unfold spec_l6In.f
  by_cases h : a ≥ b
  · rw [if_pos h]; have : decide (b ≤ a) = true := decide_eq_true h; rw [this]; rfl
  · rw [if_neg h]; have : decide (b ≤ a) = false := decide_eq_false h; rw [this]; rfl
theorem within_f (a b c : Int) : impl_within.f a b c = some (decide (b ≤ a) && decide (a ≤ c)) := l6In_f a b c
theorem kOk_iff (n : Int) : kOk n = (decide (1 ≤ n) && decide (n ≤ 3)) := by
  unfold kOk
  rw [Bool.eq_iff_iff]; simp; omega
theorem l11Kind_f (a : Int) : spec_l11Kind.f a = some (kOk a) := by
  unfold spec_l11Kind.f; rw [l6In_f, kOk_iff]; rfl
theorem specTypeLen_f (a : Int) : spec_TypeLen.f a = some (tLen a) := by
  unfold spec_TypeLen.f tLen
  split
  · rfl
  split
  · rfl
  split <;> rfl
theorem tLen_cases {a : Int} (h : kOk a = true) : (a = 1 ∧ tLen a = 1) ∨ (a = 2 ∧ tLen a = 4) ∨ (a = 3 ∧ tLen a = 3) := by
  simp [kOk] at h
  rcases h with rfl | rfl | rfl <;> simp [tLen]
theorem tLen_le (a : Int) : 0 ≤ tLen a ∧ tLen a ≤ 4 := by
  unfold tLen; split <;> (try split) <;> (try split) <;> omega
theorem tLen_n {kind : Int} (hk : kOk kind = true) : (tLen kind).toNat + 1 = 2 ∨ (tLen kind).toNat + 1 = 4 ∨ (tLen kind).toNat + 1 = 5 := by
  rcases tLen_cases hk with ⟨_, h⟩ | ⟨_, h⟩ | ⟨_, h⟩ <;> rw [h] <;> decide
theorem all_take {l : List Int} (h : l.all fOk = true) (n : Nat) : (l.take n).all fOk = true := by
  rw [List.all_eq_true] at h ⊢
  exact fun x hx => h x (List.mem_of_mem_take hx)
theorem all_drop {l : List Int} (h : l.all fOk = true) (n : Nat) : (l.drop n).all fOk = true := by
  rw [List.all_eq_true] at h ⊢
  exact fun x hx => h x (List.mem_of_mem_drop hx)
def lin (o v c : Int) : Int := Int.tmod (wrap64 (o + wrap64 (v * c))) 31
structure LF where
  a : Int
  b : Int
  c : Int
  d : Int
  e : Int
deriving DecidableEq
def LF.zero : LF := ⟨0, 0, 0, 0, 0⟩
def LF.red (f : LF) : LF := ⟨f.a % 31, f.b % 31, f.c % 31, f.d % 31, f.e % 31⟩
def LF.add (f g : LF) : LF := LF.red ⟨f.a + g.a, f.b + g.b, f.c + g.c, f.d + g.d, f.e + g.e⟩
def LF.sub (f g : LF) : LF := LF.red ⟨f.a - g.a, f.b - g.b, f.c - g.c, f.d - g.d, f.e - g.e⟩
def LF.mul (f : LF) (k : Int) : LF := LF.red ⟨f.a * k, f.b * k, f.c * k, f.d * k, f.e * k⟩
def LF.raw (x f : LF) : Int := f.a * x.a + f.b * x.b + f.c * x.c + f.d * x.d + f.e * x.e
def LF.ev (x f : LF) : Int := LF.raw x f % 31
theorem emod_mul (c a : Int) : (c % 31) * a = c * a - 31 * ((c / 31) * a) := by rw [Int.emod_def, Int.sub_mul, Int.mul_assoc]
theorem LF.ev_red (x f : LF) : LF.ev x (LF.red f) = LF.ev x f := by
  simp only [LF.ev, LF.raw, LF.red, emod_mul]
  omega
theorem LF.ev_add (x f g : LF) : LF.ev x (LF.add f g) = (LF.ev x f + LF.ev x g) % 31 := by
  unfold LF.add; rw [LF.ev_red]
  simp only [LF.ev, LF.raw, Int.add_mul]
  omega
theorem LF.ev_sub (x f g : LF) : LF.ev x (LF.sub f g) = (LF.ev x f - LF.ev x g) % 31 := by
  unfold LF.sub; rw [LF.ev_red]
  simp only [LF.ev, LF.raw, Int.sub_mul]
  omega
theorem LF.raw_mul (x f : LF) (k : Int) : LF.raw x ⟨f.a * k, f.b * k, f.c * k, f.d * k, f.e * k⟩ = LF.raw x f * k := by
  simp only [LF.raw, Int.add_mul]
  rw [Int.mul_right_comm f.a k, Int.mul_right_comm f.b k, Int.mul_right_comm f.c k, Int.mul_right_comm f.d k, Int.mul_right_comm f.e k]
theorem LF.ev_mul (x f : LF) (k : Int) : LF.ev x (LF.mul f k) = (LF.ev x f * k) % 31 := by
  unfold LF.mul; rw [LF.ev_red]
  unfold LF.ev
  rw [LF.raw_mul, emod_mul]
  omega
theorem LF.ev_bd (x f : LF) : 0 ≤ LF.ev x f ∧ LF.ev x f ≤ 30 := by unfold LF.ev; omega
theorem LF.ev_zero (x : LF) : LF.ev x LF.zero = 0 := by simp [LF.ev, LF.raw, LF.zero]
theorem tmod31' (n : Int) : -30 ≤ Int.tmod n 31 ∧ Int.tmod n 31 ≤ 30 ∧ Int.tmod n 31 % 31 = n % 31 := by
  have h := @Int.tmod_eq_emod n 31
  split at h <;> simp at h <;> omega
theorem elemOf_f (n : Int) : impl_elementOf.f n = some (n % 31) := by
  unfold impl_elementOf.f
  have h := tmod31' n
  rw [w64 (by omega) (by omega), Int.tmod_eq_emod_of_nonneg (by omega)]
  congr 1; omega
theorem eOf_v (n : Int) : eOf n = n % 31 := by unfold eOf; rw [elemOf_f]; rfl
theorem ePlus_v (a b : Int) (ha : 0 ≤ a ∧ a ≤ 30) (hb : 0 ≤ b ∧ b ≤ 30) : ePlus a b = (a + b) % 31 := by
  unfold ePlus impl_element_plus.f
  rw [w64 (by omega) (by omega), elemOf_f]; rfl
theorem eMinus_v (a b : Int) (ha : 0 ≤ a ∧ a ≤ 30) (hb : 0 ≤ b ∧ b ≤ 30) : eMinus a b = (a - b) % 31 := by
  unfold eMinus impl_element_minus.f
  rw [w64 (by omega) (by omega), elemOf_f]; rfl
theorem mul_bd' {a b : Int} (ha : 0 ≤ a ∧ a ≤ 30) (hb : 0 ≤ b ∧ b ≤ 30) : 0 ≤ a * b ∧ a * b ≤ 900 := by
  have h1 : 0 ≤ a * b := Int.mul_nonneg ha.1 hb.1
  have h2 : a * b ≤ 30 * 30 := Int.mul_le_mul ha.2 hb.2 hb.1 (by omega)
  omega
theorem eTimes_v (a b : Int) (ha : 0 ≤ a ∧ a ≤ 30) (hb : 0 ≤ b ∧ b ≤ 30) : eTimes a b = (a * b) % 31 := by
  have := mul_bd' ha hb
  unfold eTimes impl_element_times.f
  rw [w64 (by omega) (by omega), elemOf_f]; rfl
def fAt (F : List LF) (i : Nat) : LF := F.getD i LF.zero
theorem rd_map (x : LF) (F : List LF) (i : Nat) : rd (F.map (LF.ev x)) (i : Int) = LF.ev x (fAt F i) := by
  unfold rd fAt
  simp only [Int.toNat_natCast, List.getD_eq_getElem?_getD, List.getElem?_map]
  cases F[i]? <;> simp [LF.ev_zero]
def dInL (s : Nat) : Nat → List LF → List LF
  | 0, D => D
  | m + 1, D => dInL s m (D.set (s + m) (LF.mul (LF.sub (fAt D (s + m)) (fAt D (s + m - 1))) (eInv s)))
def dOutL (n : Nat) : Nat → List LF → List LF
  | 0, D => D
  | q + 1, D => dOutL n q (dInL (n - (q + 1)) (q + 1) D)
def oStepL (i m : Nat) (o : List LF) : LF := if 0 < m then LF.add (LF.mul (fAt o m) ((-(i : Int)) % 31)) (fAt o (m - 1)) else LF.mul (fAt o m) ((-(i : Int)) % 31)
def oInL (i : Nat) : Nat → List LF → List LF
  | 0, o => o
  | m + 1, o => oInL i m (o.set m (oStepL i m o))
def oOutL (D : List LF) (n : Nat) : Nat → List LF → List LF
  | 0, o => o
  | m + 1, o => oOutL D n m ((oInL m n o).set 0 (LF.add (fAt (oInL m n o) 0) (fAt D m)))
theorem eInv_bd (s : Nat) (h1 : 1 ≤ s) (h2 : s ≤ 8) : 0 ≤ eInv (s : Int) ∧ eInv (s : Int) ≤ 30 := by
  rcases (show s = 1 ∨ s = 2 ∨ s = 3 ∨ s = 4 ∨ s = 5 ∨ s = 6 ∨ s = 7 ∨ s = 8 by omega) with rfl | rfl | rfl | rfl | rfl | rfl | rfl | rfl <;> decide +kernel
theorem dIn_map (x : LF) (s : Nat) (h1 : 1 ≤ s) (h2 : s ≤ 8) (m : Nat) : ∀ F : List LF, dIn s m (F.map (LF.ev x)) = (dInL s m F).map (LF.ev x) := by
  induction m with
  | zero => intro F; rfl
  | succ m ih =>
    intro F
    unfold dIn dInL
    rw [← ih, List.map_set, LF.ev_mul, LF.ev_sub]
    have e : ((s + m : Nat) : Int) - 1 = ((s + m - 1 : Nat) : Int) := by omega
    rw [rd_map, e, rd_map, eMinus_v _ _ (LF.ev_bd _ _) (LF.ev_bd _ _), eTimes_v _ _ (by omega) (eInv_bd s h1 h2)]
theorem dOut_map (x : LF) (n : Nat) (hn : n ≤ 9) (q : Nat) : ∀ (F : List LF), q + 1 ≤ n → dOut n q (F.map (LF.ev x)) = (dOutL n q F).map (LF.ev x) := by
  induction q with
  | zero => intro F _; rfl
  | succ q ih =>
    intro F hq
    unfold dOut dOutL
    rw [dIn_map x _ (by omega) (by omega), ih _ (by omega)]
theorem oStep_map (x : LF) (i m : Nat) (hi : i ≤ 1000) (F : List LF) : oStep (i : Int) m (F.map (LF.ev x)) = LF.ev x (oStepL i m F) := by
  unfold oStep oStepL
  rw [w64 (by omega) (by omega), eOf_v, rd_map]
  by_cases h : 0 < m
  · rw [if_pos h, if_pos h, LF.ev_add, LF.ev_mul, show (m : Int) - 1 = ((m - 1 : Nat) : Int) by omega, rd_map, eTimes_v _ _ (LF.ev_bd _ _) (by omega), ePlus_v _ _ (by omega) (LF.ev_bd _ _)]
  · rw [if_neg h, if_neg h, LF.ev_mul, eTimes_v _ _ (LF.ev_bd _ _) (by omega)]
theorem oIn_map (x : LF) (i : Nat) (hi : i ≤ 1000) (m : Nat) : ∀ F : List LF, oIn (i : Int) m (F.map (LF.ev x)) = (oInL i m F).map (LF.ev x) := by
  induction m with
  | zero => intro F; rfl
  | succ m ih =>
    intro F
    unfold oIn oInL
    rw [← ih, List.map_set, oStep_map x i m hi]
theorem oOut_map (x : LF) (D : List LF) (n : Nat) (m : Nat) (hm : m ≤ 1000) : ∀ F : List LF, oOut (D.map (LF.ev x)) n m (F.map (LF.ev x)) = (oOutL D n m F).map (LF.ev x) := by
  induction m with
  | zero => intro F; rfl
  | succ m ih =>
    intro F
    unfold oOut oOutL
    rw [oIn_map x m (by omega), ← ih (by omega), List.map_set, LF.ev_add, rd_map, show rd ((oInL m n F).map (LF.ev x)) 0 = LF.ev x (fAt (oInL m n F) 0) from rd_map x _ 0, ePlus_v _ _ (LF.ev_bd _ _) (LF.ev_bd _ _)]
def LF.vars : List LF := [⟨1, 0, 0, 0, 0⟩, ⟨0, 1, 0, 0, 0⟩, ⟨0, 0, 1, 0, 0⟩, ⟨0, 0, 0, 1, 0⟩, ⟨0, 0, 0, 0, 1⟩]
def startL (n : Nat) : List LF := (LF.vars.take n) ++ List.replicate (9 - n) LF.zero
def thrL (n : Nat) : List LF := oOutL (dOutL n (n - 1) (startL n)) n n (List.replicate n LF.zero)
theorem through_map (x : LF) (l : List Int) (n : Nat) (hl : l.length = n) (h1 : 1 ≤ n) (h9 : n ≤ 9) (hf : fillD l n = (startL n).map (LF.ev x)) : impl_through.f l = some ((thrL n).map (LF.ev x)) := by
  unfold impl_through.f diffs thrL
  rw [hl, if_pos ⟨h1, h9⟩, hf, dOut_map x n h9 _ _ (by omega), ← oOut_map x _ n n (by omega), List.map_replicate, LF.ev_zero]
theorem elMinus_f (a b : Int) (ha : 0 ≤ a ∧ a ≤ 30) (hb : 0 ≤ b ∧ b ≤ 30) : impl_element_minus.f a b = some ((a - b) % 31) := by
  rw [eMinus_f, eMinus_v a b ha hb]
theorem elPlus_f (a b : Int) (ha : 0 ≤ a ∧ a ≤ 30) (hb : 0 ≤ b ∧ b ≤ 30) : impl_element_plus.f a b = some ((a + b) % 31) := by
  rw [ePlus_f, ePlus_v a b ha hb]
theorem elTimes_f (a b : Int) (ha : 0 ≤ a ∧ a ≤ 30) (hb : 0 ≤ b ∧ b ≤ 30) : impl_element_times.f a b = some ((a * b) % 31) := by
  rw [eTimes_f, eTimes_v a b ha hb]
theorem rd_nat (l : List Int) (i : Nat) (h : i < l.length) : rd l (i : Int) = l[i] := by
  simp [rd, h]
theorem fieldOk_f (a : Int) : spec_FieldOk.f a = some (fOk a) := by
  unfold spec_FieldOk.f; rw [l6In_f]; rfl
theorem fOk_iff (a : Int) : fOk a = true ↔ 0 ≤ a ∧ a ≤ 30 := by simp [fOk]
theorem all_get {l : List Int} (h : l.all fOk = true) (i : Nat) (hi : i < l.length) : fOk l[i] = true := List.all_eq_true.1 h _ (List.getElem_mem hi)
theorem fOk_mod (a : Int) : fOk (a % 31) = true := by rw [fOk_iff]; omega
theorem shareOk_loop (l : List Int) (hl : l.length ≤ 1048576000) (d : Nat) : ∀ (k : Nat) (i : Nat), i + d = l.length → (l.take i).all fOk = true → d < k → spec_ShareOk.l0 k l (i : Int) = some (l.all fOk && decide ((l.length : Int) ≤ 20)) := by
  induction d with
  | zero =>
    intro k i hi ht hk
    obtain ⟨k, rfl⟩ : ∃ j, k = j + 1 := ⟨k - 1, by omega⟩
    simp only [spec_ShareOk.l0]
    rw [if_neg (by omega)]
    obtain rfl : i = l.length := by omega
    rw [List.take_length] at ht
    simp [ht]
  | succ d ih =>
    intro k i hi ht hk
    obtain ⟨k, rfl⟩ : ∃ j, k = j + 1 := ⟨k - 1, by omega⟩
    simp only [spec_ShareOk.l0]
    have h1 : i < l.length := by omega
    rw [if_pos (by omega), if_pos (by omega), fieldOk_f, Option.bind_some, rd_nat l i h1, w64 (by omega) (by omega)]
    cases e : fOk l[i]
    · rw [if_neg (by simp)]
      have : l.all fOk = false := by
        cases h : l.all fOk
        · rfl
        · rw [all_get h i h1] at e; cases e
      rw [this]; rfl
    · rw [if_pos rfl]
      have := ih k (i + 1) (by omega) (by rw [List.take_succ_eq_append_getElem h1, List.all_append, ht]; simp [e]) (by omega)
      simpa using this
theorem shareOk_f (k : Nat) (l : List Int) (hl : l.length ≤ 1048576000) (hk : l.length < k) : spec_ShareOk.f k l = some (l.all fOk && decide ((l.length : Int) ≤ 20)) :=
  shareOk_loop l hl l.length k 0 (by omega) (by simp) hk
def hv (x : Int) (l : List Int) : Int := l.foldr (fun c acc => (acc * x + c) % 31) 0
def pv (x : Int) (l : List Int) : Int := l.foldr (fun c acc => acc * x + c) 0
theorem hv_cons (x c : Int) (l : List Int) : hv x (c :: l) = (hv x l * x + c) % 31 := rfl
theorem pv_cons (x c : Int) (l : List Int) : pv x (c :: l) = pv x l * x + c := rfl
theorem hv_pv (x : Int) (l : List Int) : hv x l = pv x l % 31 := by
  induction l with
  | nil => rfl
  | cons c l ih => rw [hv_cons, pv_cons, ih, emod_mul]; omega
theorem hv_bd (x : Int) (l : List Int) : 0 ≤ hv x l ∧ hv x l ≤ 30 := by rw [hv_pv]; omega
theorem hStep_v (x acc c : Int) (hx : 0 ≤ x ∧ x ≤ 30) (ha : 0 ≤ acc ∧ acc ≤ 30) (hc : 0 ≤ c ∧ c ≤ 30) : hStep x acc c = (acc * x + c) % 31 := by
  unfold hStep
  rw [elTimes_f _ _ ha hx, Option.bind_some, elPlus_f _ _ (by omega) hc]
  show ((acc * x) % 31 + c) % 31 = _
  omega
theorem bwFold_hv (x : Int) (hx : 0 ≤ x ∧ x ≤ 30) (l : List Int) (hl : l.all fOk = true) (k : Nat) (hk : k ≤ l.length) : bwFold x (bwUpto (bwAt l) k) = hv x (l.drop (l.length - k)) := by
  induction k with
  | zero => rw [Nat.sub_zero, List.drop_length]; rfl
  | succ k ih =>
    have hi : l.length - (k + 1) < l.length := by omega
    rw [bwUpto_succ, bwFold_snoc, ih (by omega), List.drop_eq_getElem_cons hi, hv_cons, show l.length - (k + 1) + 1 = l.length - k by omega]
    have e : (bwAt l k).2 = l[l.length - (k + 1)] := by
      show rd l ((l.length : Int) - 1 - (k : Int)) = _
      rw [show (l.length : Int) - 1 - (k : Int) = ((l.length - (k + 1) : Nat) : Int) by omega, rd_nat l _ hi]
    rw [e, hStep_v x _ _ hx (hv_bd _ _) ((fOk_iff _).1 (all_get hl _ hi))]
theorem value_f (x : Int) (hx : 0 ≤ x ∧ x ≤ 30) (l : List Int) (hl : l.all fOk = true) (hn : l.length ≤ 1000000) : impl_value.f l x = some (hv x l) := by
  unfold impl_value.f
  rw [if_pos (by omega), bwFold_hv x hx l hl _ (Nat.le_refl _), Nat.sub_self]
  rfl
def hvL (x : Int) (F : List LF) : LF := F.foldr (fun c acc => LF.add (LF.mul acc x) c) LF.zero
theorem hv_map (y : LF) (x : Int) (F : List LF) : hv x (F.map (LF.ev y)) = LF.ev y (hvL x F) := by
  induction F with
  | nil => exact (LF.ev_zero y).symm
  | cons c F ih =>
    show (hv x (F.map (LF.ev y)) * x + LF.ev y c) % 31 = LF.ev y (LF.add (LF.mul (hvL x F) x) c)
    rw [ih, LF.ev_add, LF.ev_mul]
    omega
def pw (w : Int) : Nat → Int | 0 => 1 | j + 1 => (pw w j * w) % 31
theorem pw_bd (w : Int) (j : Nat) : 0 ≤ pw w j ∧ pw w j ≤ 30 := by
  cases j with
  | zero => show (0 : Int) ≤ 1 ∧ (1 : Int) ≤ 30; omega
  | succ j => rw [pw]; omega
theorem power_loop (w : Int) (hw : 0 ≤ w ∧ w ≤ 30) (n d : Nat) (hn : n ≤ 1000) : ∀ (k j : Nat), j + d = n → d < k → impl_element_power.l0 k w (pw w j) (n : Int) (j : Int) = some (pw w n) := by
  induction d with
  | zero =>
    intro k j hj hk
    obtain ⟨k, rfl⟩ : ∃ m, k = m + 1 := ⟨k - 1, by omega⟩
    obtain rfl : j = n := by omega
    simp only [impl_element_power.l0]; rw [if_neg (by omega)]
  | succ d ih =>
    intro k j hj hk
    obtain ⟨k, rfl⟩ : ∃ m, k = m + 1 := ⟨k - 1, by omega⟩
    simp only [impl_element_power.l0]
    rw [if_pos (by omega), elTimes_f _ _ (pw_bd w j) hw, Option.bind_some, w64 (by omega) (by omega)]
    exact ih k (j + 1) (by omega) (by omega)
theorem power_f (k : Nat) (w : Int) (hw : 0 ≤ w ∧ w ≤ 30) (n : Nat) (hn : n ≤ 1000) (hk : n < k) : impl_element_power.f k w (n : Int) = some (pw w n) :=
  power_loop w hw n n hn k 0 (by omega) hk
def totv (v : List Int) : Int := v.foldl (fun s x => (s + x) % 31) 0
theorem totv_snoc (v : List Int) (x : Int) : totv (v ++ [x]) = (totv v + x) % 31 := by simp [totv]
theorem fold31 (l : List Int) : ∀ s : Int, 0 ≤ s ∧ s ≤ 30 → 0 ≤ l.foldl (fun s x => (s + x) % 31) s ∧ l.foldl (fun s x => (s + x) % 31) s ≤ 30 := by
  induction l with
  | nil => exact fun s h => h
  | cons x l ih => intro s _; rw [List.foldl_cons]; exact ih _ (by omega)
theorem totv_bd (v : List Int) : 0 ≤ totv v ∧ totv v ≤ 30 := fold31 v 0 (by omega)
theorem total_loop (v : List Int) (hv : v.all fOk = true) (hl : v.length ≤ 1000) (d : Nat) : ∀ (k j : Nat), j + d = v.length → d < k → impl_total.l0 k (totv (v.take j)) v (v.length : Int) (j : Int) = some (totv v) := by
  induction d with
  | zero =>
    intro k j hj hk
    obtain ⟨k, rfl⟩ : ∃ m, k = m + 1 := ⟨k - 1, by omega⟩
    obtain rfl : j = v.length := by omega
    simp only [impl_total.l0]; rw [if_neg (by omega), List.take_length]
  | succ d ih =>
    intro k j hj hk
    obtain ⟨k, rfl⟩ : ∃ m, k = m + 1 := ⟨k - 1, by omega⟩
    simp only [impl_total.l0]
    have h1 : j < v.length := by omega
    rw [if_pos (by omega), if_pos (by omega), if_pos (by omega), rd_nat v j h1, elPlus_f _ _ (totv_bd _) ((fOk_iff _).1 (all_get hv j h1)), Option.bind_some, w64 (by omega) (by omega), ← totv_snoc, ← List.take_succ_eq_append_getElem h1]
    exact ih k (j + 1) (by omega) (by omega)
theorem total_f (k : Nat) (v : List Int) (hv : v.all fOk = true) (hl : v.length ≤ 1000) (hk : v.length < k) : impl_total.f k v = some (totv v) :=
  total_loop v hv hl v.length k 0 (by omega) hk
theorem at_loop (x : Int) (hx : 0 ≤ x ∧ x ≤ 30) (p : List Int) (hp : p.all fOk = true) (hl : p.length ≤ 1000000) (d : Nat) : ∀ (k : Nat), d ≤ p.length → d < k → spec_l2At.l0 k p x (hv x (p.drop d)) ((d : Int) - 1) = some (hv x p) := by
  induction d with
  | zero =>
    intro k _ hk
    obtain ⟨k, rfl⟩ : ∃ m, k = m + 1 := ⟨k - 1, by omega⟩
    simp only [spec_l2At.l0]; rw [if_neg (by omega)]; rfl
  | succ d ih =>
    intro k hd hk
    obtain ⟨k, rfl⟩ : ∃ m, k = m + 1 := ⟨k - 1, by omega⟩
    simp only [spec_l2At.l0]
    have h1 : d < p.length := by omega
    have hb := hv_bd x (p.drop (d + 1))
    have hm := mul_bd' hb hx
    have hc := (fOk_iff _).1 (all_get hp d h1)
    rw [show ((d + 1 : Nat) : Int) - 1 = (d : Int) by omega, if_pos (by omega), if_pos (by omega), if_pos (by omega), rd_nat p d h1, w64 (a := hv x (p.drop (d + 1)) * x) (by omega) (by omega), w64 (a := _ + p[d]) (by omega) (by omega), Int.tmod_eq_emod_of_nonneg (by omega), w64 (a := (d : Int) - 1) (by omega) (by omega)]
    have := ih k (by omega) (by omega)
    rwa [List.drop_eq_getElem_cons h1, hv_cons] at this
theorem at_f (k : Nat) (x : Int) (hx : 0 ≤ x ∧ x ≤ 30) (p : List Int) (hp : p.all fOk = true) (hl : p.length ≤ 1000000) (hk : p.length < k) : spec_l2At.f k p x = some (hv x p) := by
  unfold spec_l2At.f
  rw [w64 (by omega) (by omega)]
  have := at_loop x hx p hp hl p.length k (Nat.le_refl _) hk
  rwa [List.drop_length] at this
def dotv (a b : List Int) : Int := (List.zipWith (· * ·) a b).foldl (fun s x => (s + x) % 31) 0
theorem dotv_snoc (a b : List Int) (x y : Int) (h : a.length = b.length) : dotv (a ++ [x]) (b ++ [y]) = (dotv a b + x * y) % 31 := by
  unfold dotv; rw [List.zipWith_append h]; simp
theorem dotv_bd (a b : List Int) : 0 ≤ dotv a b ∧ dotv a b ≤ 30 := fold31 _ 0 (by omega)
theorem dot_loop (a b : List Int) (ha : a.all fOk = true) (hb : b.all fOk = true) (hl : a.length = b.length) (hn : a.length ≤ 1000) (d : Nat) : ∀ (k j : Nat), j + d = a.length → d < k → spec_l13Dot.l0 k a b (dotv (a.take j) (b.take j)) (j : Int) = some (dotv a b) := by
  induction d with
  | zero =>
    intro k j hj hk
    obtain ⟨k, rfl⟩ : ∃ m, k = m + 1 := ⟨k - 1, by omega⟩
    obtain rfl : j = a.length := by omega
    simp only [spec_l13Dot.l0]; rw [if_neg (by omega), List.take_length, hl, List.take_length]
  | succ d ih =>
    intro k j hj hk
    obtain ⟨k, rfl⟩ : ∃ m, k = m + 1 := ⟨k - 1, by omega⟩
    simp only [spec_l13Dot.l0]
    have h1 : j < a.length := by omega
    have h2 : j < b.length := by omega
    have hp := mul_bd' ((fOk_iff _).1 (all_get ha j h1)) ((fOk_iff _).1 (all_get hb j h2))
    have hd := dotv_bd (a.take j) (b.take j)
    rw [if_pos (by omega), if_pos (by omega), if_pos (by omega), rd_nat a j h1, rd_nat b j h2, w64 (a := a[j] * b[j]) (by omega) (by omega), w64 (a := _ + a[j] * b[j]) (by omega) (by omega), Int.tmod_eq_emod_of_nonneg (by omega), w64 (by omega) (by omega), ← dotv_snoc _ _ _ _ (by simp; omega), ← List.take_succ_eq_append_getElem h1, ← List.take_succ_eq_append_getElem h2]
    exact ih k (j + 1) (by omega) (by omega)
theorem dot_f (k : Nat) (a b : List Int) (ha : a.all fOk = true) (hb : b.all fOk = true) (hl : a.length = b.length) (hn : a.length ≤ 1000) (hk : a.length < k) : spec_l13Dot.f k a b = some (dotv a b) :=
  dot_loop a b ha hb hl hn a.length k 0 (by omega) hk
end Go.Proofs.YtlgbblaidohljaaGreatDoor.Q
