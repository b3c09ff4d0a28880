/- Plain lemmas about the Lean functions of the program's printed text; each theorem states its own conditions. -/
import Derived.Test.YtplbobmllflniaaEa1
import Derived.Test.YtplbobmllflniaaEa4
import Derived.Test.YtplbobmllflniaaEa0
import Derived.Test.YtplbobmllflniaaEa5
import Derived.KernelRfl
import Derived.Test.YtplbobmllflniaaEa2
import Derived.Test.YtplbobmllflniaaEa3
import Derived.Test.YtplbobmllflniaaEa6
import Derived.Test.YtplbobmllflniaaEa7
import Derived.Test.YtplbobmllflniaaEa17
import Derived.Test.YtplbobmllflniaaEa8
import Derived.Test.YtplbobmllflniaaEa18
import Derived.Test.YtplbobmllflniaaEa10
import Derived.Test.YtplbobmllflniaaEa11
import Derived.Test.YtplbobmllflniaaEa13
import Derived.Test.YtplbobmllflniaaEa14
import Derived.Test.YtplbobmllflniaaEa12
import Derived.Test.YtplbobmllflniaaEa15
import Derived.Test.YtplbobmllflniaaEa16
import Derived.Test.YtplbobmllflniaaEa20
import Derived.Test.YtplbobmllflniaaEa21
set_option linter.unusedVariables false
set_option linter.unusedSimpArgs false
namespace Go.Proofs.Ytplbobmllflniaa.Q
open Go.RowKit Go.Proofs.Ytplbobmllflniaa.Ea Go.Proofs.YtplbobmllflniaaW.PrintWords Go.Proofs.YtplbobmllflniaaW.PrintLast Go.Proofs.YtplbobmllflniaaW.PrintMore
theorem wf8 {a : Int} (h : (Lit.int .u8 a).wf = true) : 0 ≤ a ∧ a ≤ 255 := by
  simpa [Lit.wf, IntKind.min, IntKind.max, IntKind.signed, IntKind.bits] using h
theorem w64 {a : Int} (h1 : -9223372036854775808 ≤ a) (h2 : a ≤ 9223372036854775807) : wrap64 a = a := by unfold wrap64; omega
theorem l6In_f (a b c : Int) : spec_l6In.f a b c = some (decide (b ≤ a) && decide (a ≤ c)) := by
  unfold spec_l6In.f
  by_cases h : a ≥ b
  · rw [if_pos h]; have : decide (b ≤ a) = true := decide_eq_true h; rw [this]; rfl
  · rw [if_neg h]; have : decide (b ≤ a) = false := decide_eq_false h; rw [this]; rfl
theorem within_f (a b c : Int) : impl_within.f a b c = some (decide (b ≤ a) && decide (a ≤ c)) := l6In_f a b c
theorem kOk_iff (n : Int) : kOk n = (decide (1 ≤ n) && decide (n ≤ 3)) := by
  unfold kOk
  rw [Bool.eq_iff_iff]; simp; omega
theorem l11Kind_f (a : Int) : spec_l11Kind.f a = some (kOk a) := by
  unfold spec_l11Kind.f; rw [l6In_f, kOk_iff]; rfl
theorem specTypeLen_f (a : Int) : spec_TypeLen.f a = some (tLen a) := by
  unfold spec_TypeLen.f tLen
  split
  · rfl
  split
  · rfl
  split <;> rfl
theorem tLen_cases {a : Int} (h : kOk a = true) : (a = 1 ∧ tLen a = 1) ∨ (a = 2 ∧ tLen a = 4) ∨ (a = 3 ∧ tLen a = 3) := by
  simp [kOk] at h
  rcases h with rfl | rfl | rfl <;> simp [tLen]
theorem tLen_le (a : Int) : 0 ≤ tLen a ∧ tLen a ≤ 4 := by
  unfold tLen; split <;> (try split) <;> (try split) <;> omega
end Go.Proofs.Ytplbobmllflniaa.Q
namespace Go.Proofs.Ytplbobmllflniaa.Q
open Go.RowKit Go.Proofs.Ytplbobmllflniaa.Ea Go.Proofs.YtplbobmllflniaaW.PrintWords Go.Proofs.YtplbobmllflniaaW.PrintLast Go.Proofs.YtplbobmllflniaaW.PrintMore
theorem rd_nat (l : List Int) (i : Nat) (h : i < l.length) : rd l (i : Int) = l[i] := by
  simp [rd, h]
end Go.Proofs.Ytplbobmllflniaa.Q
namespace Go.Proofs.Ytplbobmllflniaa.Q
open Go.RowKit Go.Proofs.Ytplbobmllflniaa.Ea Go.Proofs.YtplbobmllflniaaW.PrintWords Go.Proofs.YtplbobmllflniaaW.PrintLast Go.Proofs.YtplbobmllflniaaW.PrintMore
theorem fieldOk_f (a : Int) : spec_FieldOk.f a = some (fOk a) := by
  unfold spec_FieldOk.f; rw [l6In_f]; rfl
theorem fOk_iff (a : Int) : fOk a = true ↔ 0 ≤ a ∧ a ≤ 30 := by simp [fOk]
theorem all_get {l : List Int} (h : l.all fOk = true) (i : Nat) (hi : i < l.length) : fOk l[i] = true := List.all_eq_true.1 h _ (List.getElem_mem hi)
theorem fOk_mod (a : Int) : fOk (a % 31) = true := by rw [fOk_iff]; omega
theorem shareOk_loop (l : List Int) (hl : l.length ≤ 1048576000) (d : Nat) : ∀ (k : Nat) (i : Nat), i + d = l.length → (l.take i).all fOk = true → d < k → spec_ShareOk.l0 k l (i : Int) = some (l.all fOk && decide ((l.length : Int) ≤ 20)) := by
  induction d with
  | zero =>
    intro k i hi ht hk
    obtain ⟨k, rfl⟩ : ∃ j, k = j + 1 := ⟨k - 1, by omega⟩
    simp only [spec_ShareOk.l0]
    rw [if_neg (by omega)]
    obtain rfl : i = l.length := by omega
    rw [List.take_length] at ht
    simp [ht]
  | succ d ih =>
    intro k i hi ht hk
    obtain ⟨k, rfl⟩ : ∃ j, k = j + 1 := ⟨k - 1, by omega⟩
    simp only [spec_ShareOk.l0]
    have h1 : i < l.length := by omega
    rw [if_pos (by omega), if_pos (by omega), fieldOk_f, Option.bind_some, rd_nat l i h1, w64 (by omega) (by omega)]
    cases e : fOk l[i]
    · rw [if_neg (by simp)]
      have : l.all fOk = false := by
        cases h : l.all fOk
        · rfl
        · rw [all_get h i h1] at e; cases e
      rw [this]; rfl
    · rw [if_pos rfl]
      have := ih k (i + 1) (by omega) (by rw [List.take_succ_eq_append_getElem h1, List.all_append, ht]; simp [e]) (by omega)
      simpa using this
theorem shareOk_f (k : Nat) (l : List Int) (hl : l.length ≤ 1048576000) (hk : l.length < k) : spec_ShareOk.f k l = some (l.all fOk && decide ((l.length : Int) ≤ 20)) :=
  shareOk_loop l hl l.length k 0 (by omega) (by simp) hk
end Go.Proofs.Ytplbobmllflniaa.Q
namespace Go.Proofs.Ytplbobmllflniaa.Q
open Go.RowKit Go.Proofs.Ytplbobmllflniaa.Ea Go.Proofs.YtplbobmllflniaaW.PrintWords Go.Proofs.YtplbobmllflniaaW.PrintLast Go.Proofs.YtplbobmllflniaaW.PrintMore
structure LF where
  a : Int
  b : Int
  c : Int
  d : Int
  e : Int
deriving DecidableEq
def LF.zero : LF := ⟨0, 0, 0, 0, 0⟩
def LF.red (f : LF) : LF := ⟨f.a % 31, f.b % 31, f.c % 31, f.d % 31, f.e % 31⟩
def LF.add (f g : LF) : LF := LF.red ⟨f.a + g.a, f.b + g.b, f.c + g.c, f.d + g.d, f.e + g.e⟩
def LF.sub (f g : LF) : LF := LF.red ⟨f.a - g.a, f.b - g.b, f.c - g.c, f.d - g.d, f.e - g.e⟩
def LF.mul (f : LF) (k : Int) : LF := LF.red ⟨f.a * k, f.b * k, f.c * k, f.d * k, f.e * k⟩
def LF.raw (x f : LF) : Int := f.a * x.a + f.b * x.b + f.c * x.c + f.d * x.d + f.e * x.e
def LF.ev (x f : LF) : Int := LF.raw x f % 31
theorem emod_mul (c a : Int) : (c % 31) * a = c * a - 31 * ((c / 31) * a) := by rw [Int.emod_def, Int.sub_mul, Int.mul_assoc]
theorem LF.ev_red (x f : LF) : LF.ev x (LF.red f) = LF.ev x f := by
  simp only [LF.ev, LF.raw, LF.red, emod_mul]
  omega
theorem LF.ev_add (x f g : LF) : LF.ev x (LF.add f g) = (LF.ev x f + LF.ev x g) % 31 := by
  unfold LF.add; rw [LF.ev_red]
  simp only [LF.ev, LF.raw, Int.add_mul]
  omega
theorem LF.ev_sub (x f g : LF) : LF.ev x (LF.sub f g) = (LF.ev x f - LF.ev x g) % 31 := by
  unfold LF.sub; rw [LF.ev_red]
  simp only [LF.ev, LF.raw, Int.sub_mul]
  omega
theorem LF.raw_mul (x f : LF) (k : Int) : LF.raw x ⟨f.a * k, f.b * k, f.c * k, f.d * k, f.e * k⟩ = LF.raw x f * k := by
  simp only [LF.raw, Int.add_mul]
  rw [Int.mul_right_comm f.a k, Int.mul_right_comm f.b k, Int.mul_right_comm f.c k, Int.mul_right_comm f.d k, Int.mul_right_comm f.e k]
theorem LF.ev_mul (x f : LF) (k : Int) : LF.ev x (LF.mul f k) = (LF.ev x f * k) % 31 := by
  unfold LF.mul; rw [LF.ev_red]
  unfold LF.ev
  rw [LF.raw_mul, emod_mul]
  omega
theorem LF.ev_bd (x f : LF) : 0 ≤ LF.ev x f ∧ LF.ev x f ≤ 30 := by unfold LF.ev; omega
theorem LF.ev_zero (x : LF) : LF.ev x LF.zero = 0 := by simp [LF.ev, LF.raw, LF.zero]
theorem tmod31' (n : Int) : -30 ≤ Int.tmod n 31 ∧ Int.tmod n 31 ≤ 30 ∧ Int.tmod n 31 % 31 = n % 31 := by
  have h := @Int.tmod_eq_emod n 31
  split at h <;> simp at h <;> omega
theorem elemOf_f (n : Int) : impl_elementOf.f n = some (n % 31) := by
  unfold impl_elementOf.f
  have h := tmod31' n
  rw [w64 (by omega) (by omega), Int.tmod_eq_emod_of_nonneg (by omega)]
  congr 1; omega
theorem eOf_v (n : Int) : eOf n = n % 31 := by unfold eOf; rw [elemOf_f]; rfl
theorem ePlus_v (a b : Int) (ha : 0 ≤ a ∧ a ≤ 30) (hb : 0 ≤ b ∧ b ≤ 30) : ePlus a b = (a + b) % 31 := by
  unfold ePlus impl_element_plus.f
  rw [w64 (by omega) (by omega), elemOf_f]; rfl
theorem eMinus_v (a b : Int) (ha : 0 ≤ a ∧ a ≤ 30) (hb : 0 ≤ b ∧ b ≤ 30) : eMinus a b = (a - b) % 31 := by
  unfold eMinus impl_element_minus.f
  rw [w64 (by omega) (by omega), elemOf_f]; rfl
theorem mul_bd' {a b : Int} (ha : 0 ≤ a ∧ a ≤ 30) (hb : 0 ≤ b ∧ b ≤ 30) : 0 ≤ a * b ∧ a * b ≤ 900 := by
  have h1 : 0 ≤ a * b := Int.mul_nonneg ha.1 hb.1
  have h2 : a * b ≤ 30 * 30 := Int.mul_le_mul ha.2 hb.2 hb.1 (by omega)
  omega
theorem eTimes_v (a b : Int) (ha : 0 ≤ a ∧ a ≤ 30) (hb : 0 ≤ b ∧ b ≤ 30) : eTimes a b = (a * b) % 31 := by
  have := mul_bd' ha hb
  unfold eTimes impl_element_times.f
  rw [w64 (by omega) (by omega), elemOf_f]; rfl
def fAt (F : List LF) (i : Nat) : LF := F.getD i LF.zero
theorem rd_map (x : LF) (F : List LF) (i : Nat) : rd (F.map (LF.ev x)) (i : Int) = LF.ev x (fAt F i) := by
  unfold rd fAt
  simp only [Int.toNat_natCast, List.getD_eq_getElem?_getD, List.getElem?_map]
  cases F[i]? <;> simp [LF.ev_zero]
def dInL (s : Nat) : Nat → List LF → List LF
  | 0, D => D
  | m + 1, D => dInL s m (D.set (s + m) (LF.mul (LF.sub (fAt D (s + m)) (fAt D (s + m - 1))) (eInv s)))
def dOutL (n : Nat) : Nat → List LF → List LF
  | 0, D => D
  | q + 1, D => dOutL n q (dInL (n - (q + 1)) (q + 1) D)
def oStepL (i m : Nat) (o : List LF) : LF := if 0 < m then LF.add (LF.mul (fAt o m) ((-(i : Int)) % 31)) (fAt o (m - 1)) else LF.mul (fAt o m) ((-(i : Int)) % 31)
def oInL (i : Nat) : Nat → List LF → List LF
  | 0, o => o
  | m + 1, o => oInL i m (o.set m (oStepL i m o))
def oOutL (D : List LF) (n : Nat) : Nat → List LF → List LF
  | 0, o => o
  | m + 1, o => oOutL D n m ((oInL m n o).set 0 (LF.add (fAt (oInL m n o) 0) (fAt D m)))
theorem eInv_bd (s : Nat) (h1 : 1 ≤ s) (h2 : s ≤ 8) : 0 ≤ eInv (s : Int) ∧ eInv (s : Int) ≤ 30 := by
  rcases (show s = 1 ∨ s = 2 ∨ s = 3 ∨ s = 4 ∨ s = 5 ∨ s = 6 ∨ s = 7 ∨ s = 8 by omega) with rfl | rfl | rfl | rfl | rfl | rfl | rfl | rfl <;> decide +kernel
theorem dIn_map (x : LF) (s : Nat) (h1 : 1 ≤ s) (h2 : s ≤ 8) (m : Nat) : ∀ F : List LF, dIn s m (F.map (LF.ev x)) = (dInL s m F).map (LF.ev x) := by
  induction m with
  | zero => intro F; rfl
  | succ m ih =>
    intro F
    unfold dIn dInL
    rw [← ih, List.map_set, LF.ev_mul, LF.ev_sub]
    have e : ((s + m : Nat) : Int) - 1 = ((s + m - 1 : Nat) : Int) := by omega
    rw [rd_map, e, rd_map, eMinus_v _ _ (LF.ev_bd _ _) (LF.ev_bd _ _), eTimes_v _ _ (by omega) (eInv_bd s h1 h2)]
theorem dOut_map (x : LF) (n : Nat) (hn : n ≤ 9) (q : Nat) : ∀ (F : List LF), q + 1 ≤ n → dOut n q (F.map (LF.ev x)) = (dOutL n q F).map (LF.ev x) := by
  induction q with
  | zero => intro F _; rfl
  | succ q ih =>
    intro F hq
    unfold dOut dOutL
    rw [dIn_map x _ (by omega) (by omega), ih _ (by omega)]
theorem oStep_map (x : LF) (i m : Nat) (hi : i ≤ 1000) (F : List LF) : oStep (i : Int) m (F.map (LF.ev x)) = LF.ev x (oStepL i m F) := by
  unfold oStep oStepL
  rw [w64 (by omega) (by omega), eOf_v, rd_map]
  by_cases h : 0 < m
  · rw [if_pos h, if_pos h, LF.ev_add, LF.ev_mul, show (m : Int) - 1 = ((m - 1 : Nat) : Int) by omega, rd_map, eTimes_v _ _ (LF.ev_bd _ _) (by omega), ePlus_v _ _ (by omega) (LF.ev_bd _ _)]
  · rw [if_neg h, if_neg h, LF.ev_mul, eTimes_v _ _ (LF.ev_bd _ _) (by omega)]
theorem oIn_map (x : LF) (i : Nat) (hi : i ≤ 1000) (m : Nat) : ∀ F : List LF, oIn (i : Int) m (F.map (LF.ev x)) = (oInL i m F).map (LF.ev x) := by
  induction m with
  | zero => intro F; rfl
  | succ m ih =>
    intro F
    unfold oIn oInL
    rw [← ih, List.map_set, oStep_map x i m hi]
theorem oOut_map (x : LF) (D : List LF) (n : Nat) (m : Nat) (hm : m ≤ 1000) : ∀ F : List LF, oOut (D.map (LF.ev x)) n m (F.map (LF.ev x)) = (oOutL D n m F).map (LF.ev x) := by
  induction m with
  | zero => intro F; rfl
  | succ m ih =>
    intro F
    unfold oOut oOutL
    rw [oIn_map x m (by omega), ← ih (by omega), List.map_set, LF.ev_add, rd_map, show rd ((oInL m n F).map (LF.ev x)) 0 = LF.ev x (fAt (oInL m n F) 0) from rd_map x _ 0, ePlus_v _ _ (LF.ev_bd _ _) (LF.ev_bd _ _)]
def LF.vars : List LF := [⟨1, 0, 0, 0, 0⟩, ⟨0, 1, 0, 0, 0⟩, ⟨0, 0, 1, 0, 0⟩, ⟨0, 0, 0, 1, 0⟩, ⟨0, 0, 0, 0, 1⟩]
def startL (n : Nat) : List LF := (LF.vars.take n) ++ List.replicate (9 - n) LF.zero
def thrL (n : Nat) : List LF := oOutL (dOutL n (n - 1) (startL n)) n n (List.replicate n LF.zero)
theorem through_map (x : LF) (l : List Int) (n : Nat) (hl : l.length = n) (h1 : 1 ≤ n) (h9 : n ≤ 9) (hf : fillD l n = (startL n).map (LF.ev x)) : impl_through.f l = some ((thrL n).map (LF.ev x)) := by
  unfold impl_through.f diffs thrL
  rw [hl, if_pos ⟨h1, h9⟩, hf, dOut_map x n h9 _ _ (by omega), ← oOut_map x _ n n (by omega), List.map_replicate, LF.ev_zero]
def lin (o v c : Int) : Int := Int.tmod (wrap64 (o + wrap64 (v * c))) 31
theorem lin_v (y v c : Int) (hV : 0 ≤ v ∧ v ≤ 30) (hc : 0 ≤ c ∧ c ≤ 30) : lin (y % 31) v c = (y + v * c) % 31 := by
  have := mul_bd' hV hc
  unfold lin
  rw [w64 (a := v * c) (by omega) (by omega), w64 (by omega) (by omega), Int.tmod_eq_emod_of_nonneg (by omega)]
  omega
end Go.Proofs.Ytplbobmllflniaa.Q
namespace Go.Proofs.Ytplbobmllflniaa.Q
open Go.RowKit Go.Proofs.Ytplbobmllflniaa.Ea Go.Proofs.YtplbobmllflniaaW.PrintWords Go.Proofs.YtplbobmllflniaaW.PrintLast Go.Proofs.YtplbobmllflniaaW.PrintMore
theorem elMinus_f (a b : Int) (ha : 0 ≤ a ∧ a ≤ 30) (hb : 0 ≤ b ∧ b ≤ 30) : impl_element_minus.f a b = some ((a - b) % 31) := by
  rw [eMinus_f, eMinus_v a b ha hb]
theorem elPlus_f (a b : Int) (ha : 0 ≤ a ∧ a ≤ 30) (hb : 0 ≤ b ∧ b ≤ 30) : impl_element_plus.f a b = some ((a + b) % 31) := by
  rw [ePlus_f, ePlus_v a b ha hb]
theorem elTimes_f (a b : Int) (ha : 0 ≤ a ∧ a ≤ 30) (hb : 0 ≤ b ∧ b ≤ 30) : impl_element_times.f a b = some ((a * b) % 31) := by
  rw [eTimes_f, eTimes_v a b ha hb]
theorem rd_fOk {l : List Int} (h : l.all fOk = true) (i : Int) : 0 ≤ rd l i ∧ rd l i ≤ 30 := by
  unfold rd
  rw [List.getD_eq_getElem?_getD]
  rcases Nat.lt_or_ge i.toNat l.length with hi | hi
  · rw [List.getElem?_eq_getElem hi]; exact (fOk_iff _).1 (all_get h _ hi)
  · rw [List.getElem?_eq_none hi]; simp
theorem all_set {l : List Int} (h : l.all fOk = true) (i : Nat) (x : Int) (hx : fOk x = true) : (l.set i x).all fOk = true := by
  rw [List.all_eq_true] at h ⊢
  intro y hy
  rcases List.mem_or_eq_of_mem_set hy with hy | rfl
  · exact h y hy
  · exact hx
theorem zeros_all (n : Nat) : (List.replicate n (0 : Int)).all fOk = true := by
  rw [List.all_eq_true]; intro x hx; obtain ⟨_, rfl⟩ := List.mem_replicate.1 hx; rfl
theorem leO_le {α : Type} {f : Nat → Option α} (h : ∀ k, LeO (f k) (f (k + 1))) {k K : Nat} (hk : k ≤ K) {r : α} (hr : f k = some r) : f K = some r := by
  obtain ⟨d, rfl⟩ : ∃ d, K = k + d := ⟨K - k, by omega⟩
  clear hk
  induction d with
  | zero => exact hr
  | succ d ih => exact h _ _ ih
end Go.Proofs.Ytplbobmllflniaa.Q
namespace Go.Proofs.Ytplbobmllflniaa.Q
open Go.RowKit Go.Proofs.Ytplbobmllflniaa.Ea Go.Proofs.YtplbobmllflniaaW.PrintWords Go.Proofs.YtplbobmllflniaaW.PrintLast Go.Proofs.YtplbobmllflniaaW.PrintMore
def hv (x : Int) (l : List Int) : Int := l.foldr (fun c acc => (acc * x + c) % 31) 0
def pv (x : Int) (l : List Int) : Int := l.foldr (fun c acc => acc * x + c) 0
theorem hv_cons (x c : Int) (l : List Int) : hv x (c :: l) = (hv x l * x + c) % 31 := rfl
theorem pv_cons (x c : Int) (l : List Int) : pv x (c :: l) = pv x l * x + c := rfl
theorem hv_pv (x : Int) (l : List Int) : hv x l = pv x l % 31 := by
  induction l with
  | nil => rfl
  | cons c l ih => rw [hv_cons, pv_cons, ih, emod_mul]; omega
theorem hv_bd (x : Int) (l : List Int) : 0 ≤ hv x l ∧ hv x l ≤ 30 := by rw [hv_pv]; omega
theorem hStep_v (x acc c : Int) (hx : 0 ≤ x ∧ x ≤ 30) (ha : 0 ≤ acc ∧ acc ≤ 30) (hc : 0 ≤ c ∧ c ≤ 30) : hStep x acc c = (acc * x + c) % 31 := by
  unfold hStep
  rw [elTimes_f _ _ ha hx, Option.bind_some, elPlus_f _ _ (by omega) hc]
  show ((acc * x) % 31 + c) % 31 = _
  omega
theorem bwFold_hv (x : Int) (hx : 0 ≤ x ∧ x ≤ 30) (l : List Int) (hl : l.all fOk = true) (k : Nat) (hk : k ≤ l.length) : bwFold x (bwUpto (bwAt l) k) = hv x (l.drop (l.length - k)) := by
  induction k with
  | zero => rw [Nat.sub_zero, List.drop_length]; rfl
  | succ k ih =>
    have hi : l.length - (k + 1) < l.length := by omega
    rw [bwUpto_succ, bwFold_snoc, ih (by omega), List.drop_eq_getElem_cons hi, hv_cons, show l.length - (k + 1) + 1 = l.length - k by omega]
    have e : (bwAt l k).2 = l[l.length - (k + 1)] := by
      show rd l ((l.length : Int) - 1 - (k : Int)) = _
      rw [show (l.length : Int) - 1 - (k : Int) = ((l.length - (k + 1) : Nat) : Int) by omega, rd_nat l _ hi]
    rw [e, hStep_v x _ _ hx (hv_bd _ _) ((fOk_iff _).1 (all_get hl _ hi))]
theorem value_f (x : Int) (hx : 0 ≤ x ∧ x ≤ 30) (l : List Int) (hl : l.all fOk = true) (hn : l.length ≤ 1000000) : impl_value.f l x = some (hv x l) := by
  unfold impl_value.f
  rw [if_pos (by omega), bwFold_hv x hx l hl _ (Nat.le_refl _), Nat.sub_self]
  rfl
def hvL (x : Int) (F : List LF) : LF := F.foldr (fun c acc => LF.add (LF.mul acc x) c) LF.zero
theorem hv_map (y : LF) (x : Int) (F : List LF) : hv x (F.map (LF.ev y)) = LF.ev y (hvL x F) := by
  induction F with
  | nil => exact (LF.ev_zero y).symm
  | cons c F ih =>
    show (hv x (F.map (LF.ev y)) * x + LF.ev y c) % 31 = LF.ev y (LF.add (LF.mul (hvL x F) x) c)
    rw [ih, LF.ev_add, LF.ev_mul]
    omega
end Go.Proofs.Ytplbobmllflniaa.Q
namespace Go.Proofs.Ytplbobmllflniaa.Q
open Go.RowKit Go.Proofs.Ytplbobmllflniaa.Ea Go.Proofs.YtplbobmllflniaaW.PrintWords Go.Proofs.YtplbobmllflniaaW.PrintLast Go.Proofs.YtplbobmllflniaaW.PrintMore
theorem implFieldOk_f (a : Int) : impl_FieldOk.f a = some (fOk a) := by unfold impl_FieldOk.f; rw [within_f]; rfl
theorem cut_f (kind : Int) (l : List Int) (hl : (l.length : Int) = 3 * tLen kind + 3) :
    impl_cut.f kind l = some (l.take (tLen kind).toNat, rd l (tLen kind), rd l (tLen kind + 1), l.drop ((tLen kind).toNat + 2)) ∧ spec_l12Cut.f kind l = some (l.take (tLen kind).toNat, rd l (tLen kind), rd l (tLen kind + 1), l.drop ((tLen kind).toNat + 2)) := by
  have ht := tLen_le kind
  have e2 : (tLen kind + 2).toNat = (tLen kind).toNat + 2 := by omega
  have h1 : (l.take (tLen kind).toNat).length < 17592186044416 := by rw [List.length_take]; omega
  have h2 : (l.drop ((tLen kind).toNat + 2)).length < 17592186044416 := by rw [List.length_drop]; omega
  constructor
  · unfold impl_cut.f impl_TypeLen.f slices_Clone_int_int.f slices_Clip_int_int.f
    rw [Option.bind_some, if_pos ht.1, if_pos (by omega), if_pos h1, Option.bind_some, Option.bind_some, if_pos (by omega), w64 (a := tLen kind + 1) (by omega) (by omega), w64 (a := tLen kind + 2) (by omega) (by omega), if_pos (by omega), if_pos (by omega), if_pos (by omega), if_pos (by omega), e2, if_pos h2, Option.bind_some, Option.bind_some]
  · unfold spec_l12Cut.f
    rw [specTypeLen_f, Option.bind_some, Option.bind_some, if_pos ht.1, if_pos (by omega), if_pos (by simpa using h1), if_pos (by omega), w64 (a := tLen kind + 1) (by omega) (by omega), w64 (a := tLen kind + 2) (by omega) (by omega), if_pos (by omega), if_pos (by omega), Option.bind_some, if_pos (by omega), if_pos (by omega), e2, if_pos (by simpa using h2)]
    simp
def pw (w : Int) : Nat → Int | 0 => 1 | j + 1 => (pw w j * w) % 31
theorem pw_bd (w : Int) (j : Nat) : 0 ≤ pw w j ∧ pw w j ≤ 30 := by
  cases j with
  | zero => show (0 : Int) ≤ 1 ∧ (1 : Int) ≤ 30; omega
  | succ j => rw [pw]; omega
theorem power_loop (w : Int) (hw : 0 ≤ w ∧ w ≤ 30) (n d : Nat) (hn : n ≤ 1000) : ∀ (k j : Nat), j + d = n → d < k → impl_element_power.l0 k w (pw w j) (n : Int) (j : Int) = some (pw w n) := by
  induction d with
  | zero =>
    intro k j hj hk
    obtain ⟨k, rfl⟩ : ∃ m, k = m + 1 := ⟨k - 1, by omega⟩
    obtain rfl : j = n := by omega
    simp only [impl_element_power.l0]; rw [if_neg (by omega)]
  | succ d ih =>
    intro k j hj hk
    obtain ⟨k, rfl⟩ : ∃ m, k = m + 1 := ⟨k - 1, by omega⟩
    simp only [impl_element_power.l0]
    rw [if_pos (by omega), elTimes_f _ _ (pw_bd w j) hw, Option.bind_some, w64 (by omega) (by omega)]
    exact ih k (j + 1) (by omega) (by omega)
theorem power_f (k : Nat) (w : Int) (hw : 0 ≤ w ∧ w ≤ 30) (n : Nat) (hn : n ≤ 1000) (hk : n < k) : impl_element_power.f k w (n : Int) = some (pw w n) :=
  power_loop w hw n n hn k 0 (by omega) hk
def totv (v : List Int) : Int := v.foldl (fun s x => (s + x) % 31) 0
theorem totv_snoc (v : List Int) (x : Int) : totv (v ++ [x]) = (totv v + x) % 31 := by simp [totv]
theorem fold31 (l : List Int) : ∀ s : Int, 0 ≤ s ∧ s ≤ 30 → 0 ≤ l.foldl (fun s x => (s + x) % 31) s ∧ l.foldl (fun s x => (s + x) % 31) s ≤ 30 := by
  induction l with
  | nil => exact fun s h => h
  | cons x l ih => intro s _; rw [List.foldl_cons]; exact ih _ (by omega)
theorem totv_bd (v : List Int) : 0 ≤ totv v ∧ totv v ≤ 30 := fold31 v 0 (by omega)
theorem total_loop (v : List Int) (hv : v.all fOk = true) (hl : v.length ≤ 1000) (d : Nat) : ∀ (k j : Nat), j + d = v.length → d < k → impl_total.l0 k (totv (v.take j)) v (v.length : Int) (j : Int) = some (totv v) := by
  induction d with
  | zero =>
    intro k j hj hk
    obtain ⟨k, rfl⟩ : ∃ m, k = m + 1 := ⟨k - 1, by omega⟩
    obtain rfl : j = v.length := by omega
    simp only [impl_total.l0]; rw [if_neg (by omega), List.take_length]
  | succ d ih =>
    intro k j hj hk
    obtain ⟨k, rfl⟩ : ∃ m, k = m + 1 := ⟨k - 1, by omega⟩
    simp only [impl_total.l0]
    have h1 : j < v.length := by omega
    rw [if_pos (by omega), if_pos (by omega), if_pos (by omega), rd_nat v j h1, elPlus_f _ _ (totv_bd _) ((fOk_iff _).1 (all_get hv j h1)), Option.bind_some, w64 (by omega) (by omega), ← totv_snoc, ← List.take_succ_eq_append_getElem h1]
    exact ih k (j + 1) (by omega) (by omega)
theorem total_f (k : Nat) (v : List Int) (hv : v.all fOk = true) (hl : v.length ≤ 1000) (hk : v.length < k) : impl_total.f k v = some (totv v) :=
  total_loop v hv hl v.length k 0 (by omega) hk
def decC (c : Int) (v : List Int) : List Int := v.map fun x => (x - c) % 31
theorem decC_length (c : Int) (v : List Int) : (decC c v).length = v.length := by simp [decC]
theorem decC_all (c : Int) (v : List Int) : (decC c v).all fOk = true := by
  rw [List.all_eq_true]
  intro x hx
  obtain ⟨y, _, rfl⟩ := List.mem_map.1 hx
  exact fOk_mod _
theorem decC_snoc (c : Int) (l : List Int) (a : Int) : decC c (l ++ [a]) = decC c l ++ [(a - c) % 31] := by simp [decC]
theorem loweredC_loop (c : Int) (hc : 0 ≤ c ∧ c ≤ 30) (v : List Int) (hl : v.length ≤ 1000) (hv : v.all fOk = true) (d : Nat) : ∀ (k i : Nat), i + d = v.length → d < k → impl_lowered.l0 k c (decC c (v.take i)) v (v.length : Int) (i : Int) = some (decC c v) := by
  induction d with
  | zero =>
    intro k i hi hk
    obtain ⟨k, rfl⟩ : ∃ m, k = m + 1 := ⟨k - 1, by omega⟩
    obtain rfl : i = v.length := by omega
    simp only [impl_lowered.l0]; rw [if_neg (by omega), List.take_length]
  | succ d ih =>
    intro k i hi hk
    obtain ⟨k, rfl⟩ : ∃ m, k = m + 1 := ⟨k - 1, by omega⟩
    simp only [impl_lowered.l0]
    have h1 : i < v.length := by omega
    rw [if_pos (by omega), if_pos (by omega), if_pos (by omega), rd_nat v i h1, elMinus_f _ _ ((fOk_iff _).1 (all_get hv i h1)) hc, Option.bind_some, if_pos (by rw [decC_length, List.length_take]; omega), w64 (by omega) (by omega), ← decC_snoc, ← List.take_succ_eq_append_getElem h1]
    exact ih k (i + 1) (by omega) (by omega)
theorem loweredC_f (k : Nat) (c : Int) (hc : 0 ≤ c ∧ c ≤ 30) (v : List Int) (hl : v.length ≤ 1000) (hv : v.all fOk = true) (hk : v.length < k) : impl_lowered.f k v c = some (decC c v) := by
  unfold impl_lowered.f
  rw [if_pos (by omega), if_pos (by omega)]
  exact loweredC_loop c hc v hl hv v.length k 0 (by omega) hk
theorem at_loop (x : Int) (hx : 0 ≤ x ∧ x ≤ 30) (p : List Int) (hp : p.all fOk = true) (hl : p.length ≤ 1000000) (d : Nat) : ∀ (k : Nat), d ≤ p.length → d < k → spec_l2At.l0 k p x (hv x (p.drop d)) ((d : Int) - 1) = some (hv x p) := by
  induction d with
  | zero =>
    intro k _ hk
    obtain ⟨k, rfl⟩ : ∃ m, k = m + 1 := ⟨k - 1, by omega⟩
    simp only [spec_l2At.l0]; rw [if_neg (by omega)]; rfl
  | succ d ih =>
    intro k hd hk
    obtain ⟨k, rfl⟩ : ∃ m, k = m + 1 := ⟨k - 1, by omega⟩
    simp only [spec_l2At.l0]
    have h1 : d < p.length := by omega
    have hb := hv_bd x (p.drop (d + 1))
    have hm := mul_bd' hb hx
    have hc := (fOk_iff _).1 (all_get hp d h1)
    rw [show ((d + 1 : Nat) : Int) - 1 = (d : Int) by omega, if_pos (by omega), if_pos (by omega), if_pos (by omega), rd_nat p d h1, w64 (a := hv x (p.drop (d + 1)) * x) (by omega) (by omega), w64 (a := _ + p[d]) (by omega) (by omega), Int.tmod_eq_emod_of_nonneg (by omega), w64 (a := (d : Int) - 1) (by omega) (by omega)]
    have := ih k (by omega) (by omega)
    rwa [List.drop_eq_getElem_cons h1, hv_cons] at this
theorem at_f (k : Nat) (x : Int) (hx : 0 ≤ x ∧ x ≤ 30) (p : List Int) (hp : p.all fOk = true) (hl : p.length ≤ 1000000) (hk : p.length < k) : spec_l2At.f k p x = some (hv x p) := by
  unfold spec_l2At.f
  rw [w64 (by omega) (by omega)]
  have := at_loop x hx p hp hl p.length k (Nat.le_refl _) hk
  rwa [List.drop_length] at this
def dotv (a b : List Int) : Int := (List.zipWith (· * ·) a b).foldl (fun s x => (s + x) % 31) 0
theorem dotv_snoc (a b : List Int) (x y : Int) (h : a.length = b.length) : dotv (a ++ [x]) (b ++ [y]) = (dotv a b + x * y) % 31 := by
  unfold dotv; rw [List.zipWith_append h]; simp
theorem dotv_bd (a b : List Int) : 0 ≤ dotv a b ∧ dotv a b ≤ 30 := fold31 _ 0 (by omega)
theorem dot_loop (a b : List Int) (ha : a.all fOk = true) (hb : b.all fOk = true) (hl : a.length = b.length) (hn : a.length ≤ 1000) (d : Nat) : ∀ (k j : Nat), j + d = a.length → d < k → spec_l13Dot.l0 k a b (dotv (a.take j) (b.take j)) (j : Int) = some (dotv a b) := by
  induction d with
  | zero =>
    intro k j hj hk
    obtain ⟨k, rfl⟩ : ∃ m, k = m + 1 := ⟨k - 1, by omega⟩
    obtain rfl : j = a.length := by omega
    simp only [spec_l13Dot.l0]; rw [if_neg (by omega), List.take_length, hl, List.take_length]
  | succ d ih =>
    intro k j hj hk
    obtain ⟨k, rfl⟩ : ∃ m, k = m + 1 := ⟨k - 1, by omega⟩
    simp only [spec_l13Dot.l0]
    have h1 : j < a.length := by omega
    have h2 : j < b.length := by omega
    have hp := mul_bd' ((fOk_iff _).1 (all_get ha j h1)) ((fOk_iff _).1 (all_get hb j h2))
    have hd := dotv_bd (a.take j) (b.take j)
    rw [if_pos (by omega), if_pos (by omega), if_pos (by omega), rd_nat a j h1, rd_nat b j h2, w64 (a := a[j] * b[j]) (by omega) (by omega), w64 (a := _ + a[j] * b[j]) (by omega) (by omega), Int.tmod_eq_emod_of_nonneg (by omega), w64 (by omega) (by omega), ← dotv_snoc _ _ _ _ (by simp; omega), ← List.take_succ_eq_append_getElem h1, ← List.take_succ_eq_append_getElem h2]
    exact ih k (j + 1) (by omega) (by omega)
theorem dot_f (k : Nat) (a b : List Int) (ha : a.all fOk = true) (hb : b.all fOk = true) (hl : a.length = b.length) (hn : a.length ≤ 1000) (hk : a.length < k) : spec_l13Dot.f k a b = some (dotv a b) :=
  dot_loop a b ha hb hl hn a.length k 0 (by omega) hk
end Go.Proofs.Ytplbobmllflniaa.Q
namespace Go.Proofs.Ytplbobmllflniaa.Q
open Go.RowKit Go.Proofs.Ytplbobmllflniaa.Ea Go.Proofs.YtplbobmllflniaaW.PrintWords Go.Proofs.YtplbobmllflniaaW.PrintLast Go.Proofs.YtplbobmllflniaaW.PrintMore
theorem list2 (l : List Int) (h : l.length = 2) : ∃ a b, l = [a, b] := by
  match l, h with
  | [a, b], _ => exact ⟨a, b, rfl⟩
theorem list4' (l : List Int) (h : l.length = 4) : ∃ a b c d, l = [a, b, c, d] := by
  match l, h with
  | [a, b, c, d], _ => exact ⟨a, b, c, d, rfl⟩
theorem list5 (l : List Int) (h : l.length = 5) : ∃ a b c d e, l = [a, b, c, d, e] := by
  match l, h with
  | [a, b, c, d, e], _ => exact ⟨a, b, c, d, e, rfl⟩
theorem ahead_f (u : Int) (v : List Int) (h : v.length ≤ 1000) : impl_ahead.f u v = some (u :: v) := by
  unfold impl_ahead.f
  rw [Option.bind_some, if_pos (by simp; omega)]
  rfl
theorem first_f (u : Int) (v : List Int) (h : v.length ≤ 1000) : spec_l12First.f v u = some (u :: v) := ahead_f u v h
end Go.Proofs.Ytplbobmllflniaa.Q
namespace Go.Proofs.Ytplbobmllflniaa.Q
open Go.RowKit Go.Proofs.Ytplbobmllflniaa.Ea Go.Proofs.YtplbobmllflniaaW.PrintWords Go.Proofs.YtplbobmllflniaaW.PrintLast Go.Proofs.YtplbobmllflniaaW.PrintMore
theorem thrL_2 : thrL 2 = [⟨1, 0, 0, 0, 0⟩, ⟨30, 1, 0, 0, 0⟩] := by decide +kernel
theorem fill2 (a b : Int) (ha : 0 ≤ a ∧ a ≤ 30) (hb : 0 ≤ b ∧ b ≤ 30) : fillD [a, b] 2 = (startL 2).map (LF.ev ⟨a, b, 0, 0, 0⟩) := by
  have e : fillD [a, b] 2 = [a, b, 0, 0, 0, 0, 0, 0, 0] := by kernel_rfl
  have e2 : startL 2 = [⟨1, 0, 0, 0, 0⟩, ⟨0, 1, 0, 0, 0⟩, ⟨0, 0, 0, 0, 0⟩, ⟨0, 0, 0, 0, 0⟩, ⟨0, 0, 0, 0, 0⟩, ⟨0, 0, 0, 0, 0⟩, ⟨0, 0, 0, 0, 0⟩, ⟨0, 0, 0, 0, 0⟩, ⟨0, 0, 0, 0, 0⟩] := by decide +kernel
  rw [e, e2]
  simp only [List.map_cons, List.map_nil, LF.ev, LF.raw]
  refine List.cons_eq_cons.2 ⟨by omega, List.cons_eq_cons.2 ⟨by omega, List.cons_eq_cons.2 ⟨by omega, List.cons_eq_cons.2 ⟨by omega, List.cons_eq_cons.2 ⟨by omega, List.cons_eq_cons.2 ⟨by omega, List.cons_eq_cons.2 ⟨by omega, List.cons_eq_cons.2 ⟨by omega, List.cons_eq_cons.2 ⟨by omega, rfl⟩⟩⟩⟩⟩⟩⟩⟩⟩
theorem thrL_4 : thrL 4 = [⟨1, 0, 0, 0, 0⟩, ⟨24, 3, 14, 21, 0⟩, ⟨1, 13, 2, 15, 0⟩, ⟨5, 16, 15, 26, 0⟩] := by decide +kernel
theorem fill4 (a b c d : Int) (ha : 0 ≤ a ∧ a ≤ 30) (hb : 0 ≤ b ∧ b ≤ 30) (hc : 0 ≤ c ∧ c ≤ 30) (hd : 0 ≤ d ∧ d ≤ 30) : fillD [a, b, c, d] 4 = (startL 4).map (LF.ev ⟨a, b, c, d, 0⟩) := by
  have e : fillD [a, b, c, d] 4 = [a, b, c, d, 0, 0, 0, 0, 0] := by kernel_rfl
  have e2 : startL 4 = [⟨1, 0, 0, 0, 0⟩, ⟨0, 1, 0, 0, 0⟩, ⟨0, 0, 1, 0, 0⟩, ⟨0, 0, 0, 1, 0⟩, ⟨0, 0, 0, 0, 0⟩, ⟨0, 0, 0, 0, 0⟩, ⟨0, 0, 0, 0, 0⟩, ⟨0, 0, 0, 0, 0⟩, ⟨0, 0, 0, 0, 0⟩] := by decide +kernel
  rw [e, e2]
  simp only [List.map_cons, List.map_nil, LF.ev, LF.raw]
  refine List.cons_eq_cons.2 ⟨by omega, List.cons_eq_cons.2 ⟨by omega, List.cons_eq_cons.2 ⟨by omega, List.cons_eq_cons.2 ⟨by omega, List.cons_eq_cons.2 ⟨by omega, List.cons_eq_cons.2 ⟨by omega, List.cons_eq_cons.2 ⟨by omega, List.cons_eq_cons.2 ⟨by omega, List.cons_eq_cons.2 ⟨by omega, rfl⟩⟩⟩⟩⟩⟩⟩⟩⟩
theorem thrL_5 : thrL 5 = [⟨1, 0, 0, 0, 0⟩, ⟨16, 4, 28, 22, 23⟩, ⟨26, 6, 28, 8, 25⟩, ⟨28, 17, 29, 27, 23⟩, ⟨22, 5, 8, 5, 22⟩] := by decide +kernel
theorem fill5 (a b c d e : Int) (ha : 0 ≤ a ∧ a ≤ 30) (hb : 0 ≤ b ∧ b ≤ 30) (hc : 0 ≤ c ∧ c ≤ 30) (hd : 0 ≤ d ∧ d ≤ 30) (he : 0 ≤ e ∧ e ≤ 30) : fillD [a, b, c, d, e] 5 = (startL 5).map (LF.ev ⟨a, b, c, d, e⟩) := by
  have e : fillD [a, b, c, d, e] 5 = [a, b, c, d, e, 0, 0, 0, 0] := by kernel_rfl
  have e2 : startL 5 = [⟨1, 0, 0, 0, 0⟩, ⟨0, 1, 0, 0, 0⟩, ⟨0, 0, 1, 0, 0⟩, ⟨0, 0, 0, 1, 0⟩, ⟨0, 0, 0, 0, 1⟩, ⟨0, 0, 0, 0, 0⟩, ⟨0, 0, 0, 0, 0⟩, ⟨0, 0, 0, 0, 0⟩, ⟨0, 0, 0, 0, 0⟩] := by decide +kernel
  rw [e, e2]
  simp only [List.map_cons, List.map_nil, LF.ev, LF.raw]
  refine List.cons_eq_cons.2 ⟨by omega, List.cons_eq_cons.2 ⟨by omega, List.cons_eq_cons.2 ⟨by omega, List.cons_eq_cons.2 ⟨by omega, List.cons_eq_cons.2 ⟨by omega, List.cons_eq_cons.2 ⟨by omega, List.cons_eq_cons.2 ⟨by omega, List.cons_eq_cons.2 ⟨by omega, List.cons_eq_cons.2 ⟨by omega, rfl⟩⟩⟩⟩⟩⟩⟩⟩⟩
end Go.Proofs.Ytplbobmllflniaa.Q
namespace Go.Proofs.Ytplbobmllflniaa.Q
open Go.RowKit Go.Proofs.Ytplbobmllflniaa.Ea Go.Proofs.YtplbobmllflniaaW.PrintWords Go.Proofs.YtplbobmllflniaaW.PrintLast Go.Proofs.YtplbobmllflniaaW.PrintMore
def lfOf (l : List Int) : LF := ⟨rd l 0, rd l 1, rd l 2, rd l 3, rd l 4⟩
def coefs (F : LF) (n : Nat) : List Int := [F.a, F.b, F.c, F.d, F.e].take n
theorem line_tab2 : ∀ x < 31, spec_l2Line.f 90 2 ((x : Nat) : Int) = some (coefs (hvL ((x : Nat) : Int) (thrL 2)) 2) ∧ ((coefs (hvL ((x : Nat) : Int) (thrL 2)) 2).all fOk = true ∧ (hvL ((x : Nat) : Int) (thrL 2)).c = 0 ∧ (hvL ((x : Nat) : Int) (thrL 2)).d = 0 ∧ (hvL ((x : Nat) : Int) (thrL 2)).e = 0) := by decide +kernel
theorem line_tab4 : ∀ x < 31, spec_l2Line.f 90 4 ((x : Nat) : Int) = some (coefs (hvL ((x : Nat) : Int) (thrL 4)) 4) ∧ ((coefs (hvL ((x : Nat) : Int) (thrL 4)) 4).all fOk = true ∧ (hvL ((x : Nat) : Int) (thrL 4)).e = 0) := by decide +kernel
theorem line_tab5 : ∀ x < 31, spec_l2Line.f 90 5 ((x : Nat) : Int) = some (coefs (hvL ((x : Nat) : Int) (thrL 5)) 5) ∧ (coefs (hvL ((x : Nat) : Int) (thrL 5)) 5).all fOk = true := by decide +kernel
theorem nat31 {x : Int} (hx : 0 ≤ x ∧ x ≤ 30) : ∃ m : Nat, m < 31 ∧ x = (m : Int) := ⟨x.toNat, by omega, by omega⟩
theorem lineDot (n : Nat) (hn : n = 2 ∨ n = 4 ∨ n = 5) (A : List Int) (lA : A.length = n) (hA : A.all fOk = true) (x : Int) (hx : 0 ≤ x ∧ x ≤ 30) :
    ∃ L f : List Int, spec_l2Line.f 90 (n : Int) x = some L ∧ L.length = n ∧ L.all fOk = true ∧ impl_through.f A = some f ∧ f.length = n ∧ f.all fOk = true ∧ dotv L A = hv x f ∧ f = (thrL n).map (LF.ev (lfOf A)) := by
  obtain ⟨m, hm, rfl⟩ := nat31 hx
  have hall : ∀ y, ((thrL n).map (LF.ev y)).all fOk = true := fun y => by rw [List.all_map, List.all_eq_true]; intro f _; exact (fOk_iff _).2 (LF.ev_bd _ _)
  rcases hn with rfl | rfl | rfl
  · obtain ⟨a, b, rfl⟩ := list2 A lA
    obtain ⟨t1, t2, t3, t4, t5⟩ := line_tab2 m hm
    simp only [List.all_cons, List.all_nil, Bool.and_true, Bool.and_eq_true, fOk_iff] at hA
    refine ⟨_, _, t1, rfl, t2, through_map (lfOf [a, b]) _ 2 rfl (by omega) (by omega) (fill2 a b hA.1 hA.2), by rw [thrL_2]; rfl, hall _, ?_, rfl⟩
    rw [hv_map]
    generalize hvL (m : Int) (thrL 2) = F at *
    obtain ⟨fa, fb, fc, fd, fe⟩ := F
    simp only at t3 t4 t5
    subst t3 t4 t5
    show ((0 + fa * a) % 31 + fb * b) % 31 = (fa * a + fb * b + 0 * 0 + 0 * 0 + 0 * 0) % 31
    omega
  · obtain ⟨a, b, c, d, rfl⟩ := list4' A lA
    obtain ⟨t1, t2, t5⟩ := line_tab4 m hm
    simp only [List.all_cons, List.all_nil, Bool.and_true, Bool.and_eq_true, fOk_iff] at hA
    refine ⟨_, _, t1, rfl, t2, through_map (lfOf [a, b, c, d]) _ 4 rfl (by omega) (by omega) (fill4 a b c d hA.1 hA.2.1 hA.2.2.1 hA.2.2.2), by rw [thrL_4]; rfl, hall _, ?_, rfl⟩
    rw [hv_map]
    generalize hvL (m : Int) (thrL 4) = F at *
    obtain ⟨fa, fb, fc, fd, fe⟩ := F
    simp only at t5
    subst t5
    show ((((0 + fa * a) % 31 + fb * b) % 31 + fc * c) % 31 + fd * d) % 31 = (fa * a + fb * b + fc * c + fd * d + 0 * 0) % 31
    omega
  · obtain ⟨a, b, c, d, e, rfl⟩ := list5 A lA
    obtain ⟨t1, t2⟩ := line_tab5 m hm
    simp only [List.all_cons, List.all_nil, Bool.and_true, Bool.and_eq_true, fOk_iff] at hA
    refine ⟨_, _, t1, rfl, t2, through_map (lfOf [a, b, c, d, e]) _ 5 rfl (by omega) (by omega) (fill5 a b c d e hA.1 hA.2.1 hA.2.2.1 hA.2.2.2.1 hA.2.2.2.2), by rw [thrL_5]; rfl, hall _, ?_, rfl⟩
    rw [hv_map]
    generalize hvL (m : Int) (thrL 5) = F at *
    obtain ⟨fa, fb, fc, fd, fe⟩ := F
    show (((((0 + fa * a) % 31 + fb * b) % 31 + fc * c) % 31 + fd * d) % 31 + fe * e) % 31 = (fa * a + fb * b + fc * c + fd * d + fe * e) % 31
    omega
end Go.Proofs.Ytplbobmllflniaa.Q
namespace Go.Proofs.Ytplbobmllflniaa.Q
open Go.RowKit Go.Proofs.Ytplbobmllflniaa.Ea Go.Proofs.YtplbobmllflniaaW.PrintWords Go.Proofs.YtplbobmllflniaaW.PrintLast Go.Proofs.YtplbobmllflniaaW.PrintMore
theorem fieldDif_f (a b : Int) (ha : fOk a = true) (hb : fOk b = true) : spec_FieldDif.f a b = some ((a - b) % 31) := by
  unfold spec_FieldDif.f
  have h1 := (fOk_iff a).1 ha
  have h2 := (fOk_iff b).1 hb
  rw [fieldOk_f, Option.bind_some, if_pos ha, fieldOk_f, Option.bind_some, if_pos hb, w64 (a := a + 31) (by omega) (by omega), w64 (by omega) (by omega), Int.tmod_eq_emod_of_nonneg (by omega)]
  congr 1; omega
end Go.Proofs.Ytplbobmllflniaa.Q
namespace Go.Proofs.Ytplbobmllflniaa.Q
open Go.RowKit Go.Proofs.Ytplbobmllflniaa.Ea Go.Proofs.YtplbobmllflniaaW.PrintWords Go.Proofs.YtplbobmllflniaaW.PrintLast Go.Proofs.YtplbobmllflniaaW.PrintMore
def chk (w : Int) (h : List Int) : Nat → Int | 0 => 0 | j + 1 => (chk w h j + pw w j * hv ((j : Int) + 1) h) % 31
theorem chk_bd (w : Int) (h : List Int) (j : Nat) : 0 ≤ chk w h j ∧ chk w h j ≤ 30 := by
  cases j with
  | zero => show (0 : Int) ≤ 0 ∧ (0 : Int) ≤ 30; omega
  | succ j => rw [chk]; omega
def hotv (kind w c : Int) (v : List Int) (s : Int) : Int := if kind = 2 then (s + pw w v.length * ((totv v - c) % 31)) % 31 else s
def thr (A : List Int) : List Int := (thrL A.length).map (LF.ev (lfOf A))
def askV (kind : Int) (l : List Int) (first : Bool) (a w : Int) : List Int :=
  let n := (tLen kind).toNat; let v := l.take n; let h := l.drop (n + 2); let c : Int := if first then 1 else 0
  [hv a (thr (rd l (tLen kind) :: v)), hv a (thr (rd l (tLen kind + 1) :: decC c v)), hv a h, hotv kind w c v (chk w h n)]
theorem askV_length (kind : Int) (l : List Int) (first : Bool) (a w : Int) : (askV kind l first a w).length = 4 := rfl
theorem mulAdd (s p x : Int) (hs : 0 ≤ s ∧ s ≤ 30) (hp : 0 ≤ p ∧ p ≤ 30) (hx : 0 ≤ x ∧ x ≤ 30) : Int.tmod (wrap64 (s + wrap64 (p * x))) 31 = (s + p * x) % 31 := by
  have := mul_bd' hp hx
  rw [w64 (a := p * x) (by omega) (by omega), w64 (by omega) (by omega), Int.tmod_eq_emod_of_nonneg (by omega)]
theorem askL0 (k : Nat) (w : Int) (hw : 0 ≤ w ∧ w ≤ 30) (h : List Int) (hh : h.all fOk = true) (lh : h.length ≤ 1000) (n : Nat) (hn : n ≤ 4) (hk : 10 < k) (d : Nat) : ∀ j : Nat, j + d = n → impl_ask.l0 k w h d j (chk w h j) = some (chk w h n) := by
  induction d with
  | zero =>
    intro j hj
    obtain rfl : j = n := by omega
    rfl
  | succ d ih =>
    intro j hj
    have hb := hv_bd ((j : Int) + 1) h
    have hc := chk_bd w h j
    have hp := pw_bd w j
    simp only [impl_ask.l0]
    rw [power_f k w hw j (by omega) (by omega), Option.bind_some, value_f _ (by omega) h hh (by omega), Option.bind_some, elTimes_f _ _ hp hb, Option.bind_some, elPlus_f _ _ hc (by omega), Option.bind_some, show (chk w h j + (pw w j * hv ((j : Int) + 1) h) % 31) % 31 = chk w h (j + 1) by rw [chk]; omega]
    exact ih (j + 1) (by omega)
theorem askHot (k : Nat) (kind w c : Int) (hw : 0 ≤ w ∧ w ≤ 30) (hc : 0 ≤ c ∧ c ≤ 30) (v : List Int) (hv' : v.all fOk = true) (lv : v.length ≤ 4) (s : Int) (hs : 0 ≤ s ∧ s ≤ 30) (hk : 10 < k) : impl_ask.hot k kind w c v s = some (hotv kind w c v s) := by
  unfold impl_ask.hot impl_oneHot.f hotv
  rw [Option.bind_some]
  by_cases h : kind = 2
  · have hp := pw_bd w v.length
    rw [if_pos (by simp [h]), power_f k w hw _ (by omega) (by omega), Option.bind_some, total_f k v hv' (by omega) (by omega), Option.bind_some, elMinus_f _ _ (totv_bd v) hc, Option.bind_some, elTimes_f _ _ hp (by omega), Option.bind_some, elPlus_f _ _ hs (by omega), if_pos h]
    congr 1; omega
  · rw [if_neg (by simp [h]), if_neg h]
theorem specLoop (kind a w c u q : Int) (v L h : List Int) (K : Nat) (hw : 0 ≤ w ∧ w ≤ 30) (hc : fOk c = true) (hv' : v.all fOk = true) (lv : v.length ≤ 4) (hh : h.all fOk = true) (lh : h.length ≤ 1000) (d : Nat) : ∀ (k j : Nat), j + d = v.length → d + h.length + K + 20 < k →
    ∃ k', K < k' ∧ spec_l13Ask.l0 k kind a w v c L (q :: decC c (v.take j)) (chk w h j) (pw w j) (totv (v.take j)) (j : Int) u q h = spec_l13Ask.j2 k' a v L (q :: decC c v) (hotv kind w c v (chk w h v.length)) u q h := by
  induction d with
  | zero =>
    intro k j hj hk
    obtain ⟨k, rfl⟩ : ∃ m, k = m + 1 := ⟨k - 1, by omega⟩
    obtain rfl : j = v.length := by omega
    refine ⟨k, by omega, ?_⟩
    simp only [spec_l13Ask.l0]
    rw [if_neg (by omega), List.take_length]
    unfold hotv
    by_cases h2 : kind = 2
    · rw [if_pos h2, if_pos h2, fieldDif_f _ _ ((fOk_iff _).2 (totv_bd v)) hc, Option.bind_some, mulAdd _ _ _ (chk_bd _ _ _) (pw_bd _ _) (by omega)]
    · rw [if_neg h2, if_neg h2]
  | succ d ih =>
    intro k j hj hk
    obtain ⟨k, rfl⟩ : ∃ m, k = m + 1 := ⟨k - 1, by omega⟩
    have h1 : j < v.length := by omega
    have hx := (fOk_iff _).1 (all_get hv' j h1)
    have ht := totv_bd (v.take j)
    have hp := pw_bd w j
    simp only [spec_l13Ask.l0]
    rw [if_pos (by omega), if_pos (by omega), rd_nat v j h1, fieldDif_f _ _ (all_get hv' j h1) hc, Option.bind_some, if_pos (by simp [decC]; omega), w64 (a := (j : Int) + 1) (by omega) (by omega), at_f k _ (by omega) h hh (by omega) (by omega), Option.bind_some,
      mulAdd _ _ _ (chk_bd _ _ _) hp (hv_bd _ _), w64 (a := totv (v.take j) + v[j]) (by omega) (by omega), Int.tmod_eq_emod_of_nonneg (a := totv (v.take j) + v[j]) (by omega)]
    have e1 : Int.tmod (wrap64 (pw w j * w)) 31 = pw w (j + 1) := by
      have := mul_bd' hp hw
      rw [w64 (by omega) (by omega), Int.tmod_eq_emod_of_nonneg (by omega)]; rfl
    obtain ⟨k', hk', e⟩ := ih k (j + 1) (by omega) (by omega)
    refine ⟨k', hk', ?_⟩
    rw [← e, e1, List.take_succ_eq_append_getElem h1, decC_snoc, totv_snoc]
    rfl
theorem tLen_n {kind : Int} (hk : kOk kind = true) : (tLen kind).toNat + 1 = 2 ∨ (tLen kind).toNat + 1 = 4 ∨ (tLen kind).toNat + 1 = 5 := by
  rcases tLen_cases hk with ⟨_, h⟩ | ⟨_, h⟩ | ⟨_, h⟩ <;> rw [h] <;> decide
theorem all_take {l : List Int} (h : l.all fOk = true) (n : Nat) : (l.take n).all fOk = true := by
  rw [List.all_eq_true] at h ⊢
  exact fun x hx => h x (List.mem_of_mem_take hx)
theorem all_drop {l : List Int} (h : l.all fOk = true) (n : Nat) : (l.drop n).all fOk = true := by
  rw [List.all_eq_true] at h ⊢
  exact fun x hx => h x (List.mem_of_mem_drop hx)
theorem specSide (k : Nat) (hk : 199 ≤ k) (kind a w c u q : Int) (v L h : List Int) (n : Nat) (lv : v.length = n) (n4 : n ≤ 4) (lh : h.length ≤ 20) (l1 : spec_l2Line.f 90 ((n + 1 : Nat) : Int) a = some L) (l2 : L.length = n + 1) (l3 : L.all fOk = true)
    (hva : v.all fOk = true) (hh : h.all fOk = true) (hu : fOk u = true) (hq : fOk q = true) (hcf : fOk c = true) (hat : 0 ≤ a ∧ a ≤ 30) (hw : 0 ≤ w ∧ w ≤ 30) :
    spec_l13Ask.j0 (k + 1) kind a w v c u q h = some [dotv L (u :: v), dotv L (q :: decC c v), hv a h, hotv kind w c v (chk w h v.length)] := by
  have o1 : (90 : Nat) ≤ k := by omega
  have o2 : v.length ≤ 4 := by omega
  have o3 : h.length ≤ 1000 := by omega
  have o4 : v.length + h.length + 50 + 20 < k := by omega
  have o5 : v.length ≤ 1000 := by omega
  have o6 : L.length = (u :: v).length := by rw [l2, List.length_cons, lv]
  have o7 : L.length = (q :: decC c v).length := by rw [l2, List.length_cons, decC_length, lv]
  have o8 : L.length ≤ 1000 := by omega
  have o9 : h.length ≤ 1000000 := by omega
  have e : wrap64 ((v.length : Int) + 1) = ((n + 1 : Nat) : Int) := by rw [w64 (by omega) (by omega), lv]; omega
  have u1 : (u :: v).all fOk = true := by simp [hu]; simpa using hva
  have u2 : (q :: decC c v).all fOk = true := by have := decC_all c v; simp [hq]; simpa using this
  have lK := leO_le (fun k => spec_l2Line.mono ((n + 1 : Nat) : Int) a k) o1 l1
  simp only [spec_l13Ask.j0]
  rw [e, lK, Option.bind_some]
  obtain ⟨k', hk', e2⟩ := specLoop kind a w c u q v L h 50 hw hcf hva o2 hh o3 v.length k 0 (Nat.zero_add _) o4
  have q1 : L.length < k' := by omega
  have q2 : h.length < k' := by omega
  obtain ⟨m, rfl⟩ : ∃ m, k' = m + 1 := ⟨k' - 1, by omega⟩
  have q3 : L.length < m := by omega
  have q4 : h.length < m := by omega
  have t0 : decC c (v.take 0) = [] := rfl
  have t1 : chk w h 0 = 0 := rfl
  have t2 : pw w 0 = 1 := rfl
  have t3 : totv (v.take 0) = 0 := rfl
  rw [t0, t1, t2, t3] at e2
  refine Eq.trans e2 ?_
  simp only [spec_l13Ask.j2]
  rw [first_f u v o5, Option.bind_some, dot_f m L (u :: v) l3 u1 o6 o8 q3, Option.bind_some, dot_f m L (q :: decC c v) l3 u2 o7 o8 q3, Option.bind_some, at_f m a hat h hh o9 q4, Option.bind_some]
theorem ask_both (k : Nat) (hk : 200 ≤ k) (kind : Int) (hkind : kOk kind = true) (l : List Int) (hl : (l.length : Int) = 3 * tLen kind + 3) (ha : l.all fOk = true) (first : Bool) (a w : Int) (hat : 0 ≤ a ∧ a ≤ 30) (hw : fOk w = true) :
    spec_l13Ask.f k kind l first a w = some (askV kind l first a w) ∧ impl_ask.f k kind l first a w = some (askV kind l first a w) := by
  have ht := tLen_le kind
  have hn := tLen_n hkind
  have hw' := (fOk_iff _).1 hw
  obtain ⟨c1, c2⟩ := cut_f kind l hl
  have lv : (l.take (tLen kind).toNat).length = (tLen kind).toNat := by rw [List.length_take]; omega
  have hv' := all_take ha (tLen kind).toNat
  have hh := all_drop ha ((tLen kind).toNat + 2)
  have lh : (l.drop ((tLen kind).toNat + 2)).length ≤ 20 := by rw [List.length_drop]; omega
  have hu : fOk (rd l (tLen kind)) = true := (fOk_iff _).2 (rd_fOk ha _)
  have hq : fOk (rd l (tLen kind + 1)) = true := (fOk_iff _).2 (rd_fOk ha _)
  unfold askV
  simp only
  generalize rd l (tLen kind) = u at *
  generalize rd l (tLen kind + 1) = q at *
  generalize hv0 : l.take (tLen kind).toNat = v at *
  generalize l.drop ((tLen kind).toNat + 2) = h at *
  have hc : ∀ c : Int, (c = 0 ∨ c = 1) → (0 ≤ c ∧ c ≤ 30) ∧ fOk c = true := fun c hc => by rcases hc with rfl | rfl <;> exact ⟨by omega, rfl⟩
  have e0 : (if first = true then (1 : Int) else 0) = 0 ∨ (if first = true then (1 : Int) else 0) = 1 := by cases first <;> simp
  obtain ⟨hcb, hcf⟩ := hc _ e0
  have hsp : spec_l13Ask.f k kind l first a w = spec_l13Ask.j0 k kind a w v (if first = true then 1 else 0) u q h := by
    unfold spec_l13Ask.f
    rw [c2, Option.bind_some]
    cases first <;> simp
  generalize hce : (if first = true then (1 : Int) else 0) = c at *
  obtain ⟨L, f, l1, l2, l3, l4, l5, l6, l7, l8⟩ := lineDot _ hn (u :: v) (by simp [lv]) (by simp [hu]; simpa using hv') a hat
  obtain ⟨L', g, m1, m2, m3, m4, m5, m6, m7, m8⟩ := lineDot _ hn (q :: decC c v) (by simp [lv, decC_length]) (by have := decC_all c v; simp [hq]; simpa using this) a hat
  obtain rfl : L = L' := by rw [l1] at m1; exact Option.some.inj m1
  have t1 : thr (u :: v) = f := by rw [l8]; unfold thr; rw [List.length_cons, lv]
  have t2 : thr (q :: decC c v) = g := by rw [m8]; unfold thr; rw [List.length_cons, decC_length, lv]
  rw [t1, t2]
  have lv4 : v.length ≤ 4 := by clear l7 l8 m7 m8; omega
  have L7 := Aside0.mk l7
  have M7 := Aside0.mk m7
  clear l7 m7 l8 m8 t1 t2
  constructor
  · rw [hsp]
    obtain ⟨k, rfl⟩ : ∃ m, k = m + 1 := ⟨k - 1, by omega⟩
    rw [specSide k (by omega) kind a w c u q v L h (tLen kind).toNat lv (by omega) lh l1 l2 l3 hv' hh hu hq hcf hat hw', L7.out, M7.out, lv]
  · unfold impl_ask.f
    rw [c1, Option.bind_some]
    simp only
    rw [hce, ahead_f u v (by omega), Option.bind_some, l4, Option.bind_some, value_f a hat f l6 (by omega), Option.bind_some, loweredC_f k c hcb v (by omega) hv' (by omega), Option.bind_some, ahead_f q _ (by rw [decC_length]; omega), Option.bind_some, m4, Option.bind_some, value_f a hat g m6 (by omega), Option.bind_some, value_f a hat h hh (by omega), Option.bind_some,
      show impl_ask.l0 k w h v.length 0 0 = some (chk w h v.length) from askL0 k w hw' h hh (by omega) v.length lv4 (by omega) v.length 0 (by omega), Option.bind_some, askHot k kind w c hw' hcb v hv' lv4 _ (chk_bd _ _ _) (by omega), Option.bind_some, lv]
def askMay (kind : Int) (l : List Int) (a w : Int) : Bool := kOk kind && (decide (tLen kind + 1 ≤ a) && decide (a ≤ 30)) && fOk w && decide ((l.length : Int) = 3 * tLen kind + 3) && l.all fOk
theorem proofLen_f (kind : Int) : spec_ProofLen.f kind = some (if kOk kind = true then 3 * tLen kind + 3 else 0) ∧ impl_ProofLen.f kind = some (if kOk kind = true then 3 * tLen kind + 3 else 0) := by
  have ht := tLen_le kind
  constructor
  · unfold spec_ProofLen.f
    rw [l11Kind_f, Option.bind_some]
    split
    · rw [specTypeLen_f, Option.bind_some, w64 (a := 3 * tLen kind) (by omega) (by omega), w64 (by omega) (by omega)]
    · rfl
  · unfold impl_ProofLen.f impl_kindOk.f impl_TypeLen.f
    rw [Option.bind_some]
    split
    · rw [Option.bind_some, w64 (a := 3 * tLen kind) (by omega) (by omega), w64 (by omega) (by omega)]
    · rfl
theorem sizedN_f (kind : Int) (s : List Int) (n : Int) (hn : n ≤ 20) : impl_sized.f kind s n = some (kOk kind && decide ((s.length : Int) = n) && s.all fOk) := by
  unfold impl_sized.f impl_kindOk.f impl_elementsOk.f
  rw [Option.bind_some]
  cases h : kOk kind
  · rfl
  · rw [if_pos rfl]
    by_cases h3 : (s.length : Int) = n
    · rw [if_pos h3, Option.bind_some]
      have : (s.length : Int) ≤ 20 := by omega
      simp [h3, this]; omega
    · rw [if_neg h3]; simp [h3]
theorem queryMay_f (kind a : Int) : spec_QueryMay.f kind a = some (kOk kind && (decide (tLen kind + 1 ≤ a) && decide (a ≤ 30))) ∧ impl_QueryMay.f kind a = some (kOk kind && (decide (tLen kind + 1 ≤ a) && decide (a ≤ 30))) := by
  have ht := tLen_le kind
  constructor
  · unfold spec_QueryMay.f
    rw [l11Kind_f, Option.bind_some]
    cases h : kOk kind
    · rfl
    · rw [if_pos rfl, specTypeLen_f, Option.bind_some, w64 (by omega) (by omega), l6In_f]; rfl
  · unfold impl_QueryMay.f impl_kindOk.f impl_TypeLen.f
    rw [Option.bind_some]
    cases h : kOk kind
    · rfl
    · rw [if_pos rfl, Option.bind_some, w64 (by omega) (by omega), within_f]; rfl
theorem queryAsk_both (k : Nat) (kind : Int) (l : List Int) (hl : l.length ≤ 1048576000) (hk : l.length + 200 ≤ k) (first : Bool) (a w : Int) :
    spec_QueryAsk.f k kind l first a w = some (if askMay kind l a w = true then (askV kind l first a w, true) else ([], false)) ∧ impl_QueryAsk.f k kind l first a w = some (if askMay kind l a w = true then (askV kind l first a w, true) else ([], false)) := by
  have ht := tLen_le kind
  obtain ⟨p1, p2⟩ := proofLen_f kind
  obtain ⟨q1, q2⟩ := queryMay_f kind a
  unfold spec_QueryAsk.f impl_QueryAsk.f askMay
  rw [q1, q2, Option.bind_some, Option.bind_some]
  cases hkind : kOk kind
  · exact ⟨rfl, rfl⟩
  cases hat : (decide (tLen kind + 1 ≤ a) && decide (a ≤ 30))
  · exact ⟨rfl, rfl⟩
  have hat' : 0 ≤ a ∧ a ≤ 30 := by simp at hat; omega
  rw [if_pos (show (true && true) = true from rfl), if_pos (show (true && true) = true from rfl), fieldOk_f, implFieldOk_f, Option.bind_some, Option.bind_some]
  cases hw : fOk w
  · exact ⟨rfl, rfl⟩
  rw [if_pos rfl, if_pos rfl, p1, p2, hkind, shareOk_f k l hl (by omega), Option.bind_some, Option.bind_some, Option.bind_some, if_pos rfl, sizedN_f _ _ _ (by omega), hkind, Option.bind_some]
  by_cases h1 : (l.length : Int) = 3 * tLen kind + 3
  · cases h2 : l.all fOk
    · refine ⟨by rw [if_neg (by simp)]; simp, by rw [if_neg (by simp)]; simp⟩
    · obtain ⟨b1, b2⟩ := ask_both k (by omega) kind hkind l h1 h2 first a w hat' hw
      refine ⟨?_, ?_⟩
      · rw [if_pos (by simp; omega), if_pos h1, b1, Option.bind_some, if_pos (by simp [h1])]
      · rw [if_pos (by simp [h1]), b2, Option.bind_some, if_pos (by simp [h1])]
  · refine ⟨?_, by rw [if_neg (by simp [h1]), if_neg (by simp [h1])]⟩
    rw [if_neg h1]
    have : (true && true && true && decide ((l.length : Int) = 3 * tLen kind + 3) && l.all fOk) = false := by simp [h1]
    rw [this]
    split <;> rfl
end Go.Proofs.Ytplbobmllflniaa.Q
namespace Go.Proofs.Ytplbobmllflniaa.Q
open Go.RowKit Go.Proofs.Ytplbobmllflniaa.Ea Go.Proofs.YtplbobmllflniaaW.PrintWords Go.Proofs.YtplbobmllflniaaW.PrintLast Go.Proofs.YtplbobmllflniaaW.PrintMore
theorem proofCut_f (kind : Int) (l : List Int) (hk : kOk kind = true) (hl : (l.length : Int) = 3 * tLen kind + 3) (ha : l.all fOk = true) :
    impl_ProofCut.f kind l = some (l.take (tLen kind).toNat, rd l (tLen kind), rd l (tLen kind + 1), l.drop ((tLen kind).toNat + 2), true) := by
  have ht := tLen_le kind
  unfold impl_ProofCut.f
  rw [(proofLen_f kind).2, Option.bind_some, if_pos hk, sizedN_f _ _ _ (by omega), Option.bind_some, hk, ha, if_pos (by simp; omega), (cut_f kind l hl).1, Option.bind_some]
end Go.Proofs.Ytplbobmllflniaa.Q
namespace Go.Proofs.Ytplbobmllflniaa.Q
open Go.RowKit Go.Proofs.Ytplbobmllflniaa.Ea Go.Proofs.YtplbobmllflniaaW.PrintWords Go.Proofs.YtplbobmllflniaaW.PrintLast Go.Proofs.YtplbobmllflniaaW.PrintMore
theorem xor_i64 (a b : Nat) (ha : a < 9223372036854775808) (hb : b < 9223372036854775808) : Go.bits .xor .i64 (a : Int) (b : Int) = ((a ^^^ b : Nat) : Int) := by
  have hx : a ^^^ b < 2 ^ 63 := Nat.xor_lt_two_pow (by omega) (by omega)
  have h1 : (BitVec.ofInt 64 (a : Int)).toNat = a := by
    rw [BitVec.ofInt_natCast, BitVec.toNat_ofNat]; exact Nat.mod_eq_of_lt (by omega)
  have h2 : (BitVec.ofInt 64 (b : Int)).toNat = b := by
    rw [BitVec.ofInt_natCast, BitVec.toNat_ofNat]; exact Nat.mod_eq_of_lt (by omega)
  show IntKind.i64.wrap ((BitVec.ofInt 64 (a : Int) ^^^ BitVec.ofInt 64 (b : Int)).toNat : Int) = _
  rw [BitVec.toNat_xor, h1, h2]
  simp [IntKind.wrap, IntKind.bits, IntKind.signed]
  omega
theorem xor_nonneg (a b : Int) (h1 : 0 ≤ a) (h2 : a ≤ 9223372036854775807) (h3 : 0 ≤ b) (h4 : b ≤ 9223372036854775807) : 0 ≤ Go.bits .xor .i64 a b := by
  obtain ⟨m, rfl⟩ := Int.eq_ofNat_of_zero_le h1
  obtain ⟨n, rfl⟩ := Int.eq_ofNat_of_zero_le h3
  rw [xor_i64 m n (by omega) (by omega)]
  omega
def Bytes (b : List Int) : Prop := ∀ x ∈ b, 0 ≤ x ∧ x ≤ 255
theorem Bytes.at_ {b : List Int} (h : Bytes b) (i : Int) : 0 ≤ rd b i ∧ rd b i ≤ 255 := by
  unfold rd
  rw [List.getD_eq_getElem?_getD]
  rcases Nat.lt_or_ge i.toNat b.length with hi | hi
  · rw [List.getElem?_eq_getElem hi]; exact h _ (List.getElem_mem hi)
  · rw [List.getElem?_eq_none hi]; simp
theorem Bytes.take {b : List Int} (h : Bytes b) (n : Nat) : Bytes (b.take n) := fun x hx => h x (List.mem_of_mem_take hx)
theorem bytes_of {b : List Int} (h : ∀ x ∈ b, (Lit.int .u8 x).wf = true) : Bytes b := fun x hx => wf8 (h x hx)
theorem tmod_range {x n : Int} (hx : 0 ≤ x) (hn : 1 ≤ n) : 0 ≤ Int.tmod x n ∧ Int.tmod x n < n := by
  rw [Int.tmod_eq_emod_of_nonneg hx]
  exact ⟨Int.emod_nonneg _ (by omega), Int.emod_lt_of_pos _ (by omega)⟩
structure Rdr (b : List Int) (p : Int) (B : Int) : Prop where
  bytes : Bytes b
  len : b.length ≤ 2000
  lo : 0 ≤ p
  hi : p ≤ B
theorem l6Open_f (l : List Int) (h : Bytes l) : ∃ b, spec_l6Open.f l = some (b, 0) ∧ Rdr b 0 0 := by
  unfold spec_l6Open.f
  by_cases h1 : (l.length : Int) > 2000
  · rw [if_pos h1, if_pos (by omega)]
    exact ⟨_, rfl, h.take _, by rw [List.length_take]; omega, by omega, by omega⟩
  · rw [if_neg h1]
    exact ⟨_, rfl, h, by omega, by omega, by omega⟩
theorem pick_f {b : List Int} {p B : Int} (h : Rdr b p B) (hB : B ≤ 1000000) (n : Int) (k : Nat) :
    ∃ v, spec_l6Rd_pick.f (k + 1) b p n = some (v, p + 1) ∧ Rdr b (p + 1) (B + 1) ∧ 0 ≤ v ∧ (1 ≤ n → v < n) ∧ (n < 1 → v = 0) := by
  have hr : Rdr b (p + 1) (B + 1) := ⟨h.bytes, h.len, by have := h.lo; omega, by have := h.hi; omega⟩
  have hlo := h.lo
  have hhi := h.hi
  unfold spec_l6Rd_pick.f
  rw [w64 (a := p + 1) (by omega) (by omega)]
  by_cases hn : n < 1
  · rw [if_pos hn]
    simp only [spec_l6Rd_pick.j0]
    rw [if_pos trivial]
    exact ⟨0, rfl, hr, by omega, fun h => by omega, fun _ => rfl⟩
  · rw [if_neg hn]
    simp only [spec_l6Rd_pick.j0]
    by_cases h0 : (b.length : Int) = 0
    · rw [if_pos (by simp [h0])]
      exact ⟨0, rfl, hr, by omega, fun h => by omega, fun _ => rfl⟩
    · rw [if_neg (by simpa using h0)]
      have e : wrap64 (p + 1 - 1) = p := by rw [w64 (by omega) (by omega)]; omega
      simp only [e]
      by_cases h1 : p < (b.length : Int)
      · rw [if_pos h1, if_pos hlo, if_neg (by omega)]
        have hb := h.bytes.at_ p
        rw [w64 (a := rd b p) (by omega) (by omega)]
        have := tmod_range (x := rd b p) (n := n) hb.1 (by omega)
        exact ⟨_, rfl, hr, this.1, fun _ => this.2, fun h => by omega⟩
      · have hl := h.len
        have r1 := tmod_range (x := p) (n := (b.length : Int)) hlo (by omega)
        have e2 : wrap64 (wrap64 (p * 7) + 3) = p * 7 + 3 := by rw [w64 (a := p * 7) (by omega) (by omega), w64 (by omega) (by omega)]
        have r2 := tmod_range (x := p * 7 + 3) (n := (b.length : Int)) (by omega) (by omega)
        rw [if_neg h1, if_neg h0, if_pos r1.1, if_pos r1.2, e2, if_pos r2.1, if_pos r2.2, if_neg (by omega)]
        have b1 := h.bytes.at_ (Int.tmod p b.length)
        have b2 := h.bytes.at_ (Int.tmod (p * 7 + 3) b.length)
        generalize rd b (Int.tmod p b.length) = x1 at b1 ⊢
        generalize rd b (Int.tmod (p * 7 + 3) b.length) = x2 at b2 ⊢
        have e3 : Int.tdiv p (b.length : Int) = p / (b.length : Int) := Int.tdiv_eq_ediv_of_nonneg hlo
        have d1 : 0 ≤ p / (b.length : Int) := Int.ediv_nonneg hlo (by omega)
        have d2 : p / (b.length : Int) ≤ p := Int.ediv_le_self _ hlo
        rw [e3]
        generalize p / (b.length : Int) = d at d1 d2 ⊢
        rw [w64 (a := x1) (by omega) (by omega), w64 (a := x2) (by omega) (by omega), w64 (a := d) (by omega) (by omega)]
        rw [w64 (a := x1 * 131) (by omega) (by omega), w64 (a := x2 * 1117) (by omega) (by omega), w64 (a := p * 29) (by omega) (by omega), w64 (a := d * 53) (by omega) (by omega)]
        rw [w64 (a := x1 * 131 + x2 * 1117) (by omega) (by omega), w64 (a := x1 * 131 + x2 * 1117 + p * 29) (by omega) (by omega), w64 (a := x1 * 131 + x2 * 1117 + p * 29 + d * 53) (by omega) (by omega)]
        have hy : 0 ≤ x1 * 131 + x2 * 1117 + p * 29 + d * 53 ∧ x1 * 131 + x2 * 1117 + p * 29 + d * 53 ≤ 1000000000 := by omega
        generalize x1 * 131 + x2 * 1117 + p * 29 + d * 53 = y at hy ⊢
        rw [Int.tdiv_eq_ediv_of_nonneg hy.1, w64 (a := y / 64) (by omega) (by omega)]
        have hx := xor_nonneg y (y / 64) hy.1 (by omega) (by omega) (by omega)
        generalize Go.bits .xor .i64 y (y / 64) = z at hx ⊢
        have := tmod_range (x := z) (n := n) hx (by omega)
        exact ⟨_, rfl, hr, this.1, fun _ => this.2, fun h => by omega⟩
theorem l91Kind_f {b : List Int} {p B : Int} (h : Rdr b p B) (hB : B ≤ 999990) (k : Nat) : ∃ v q, spec_l91Kind.f (k + 1) b p = some (v, q) ∧ Rdr b q (B + 2) ∧ 0 ≤ v ∧ v ≤ 4 := by
  unfold spec_l91Kind.f
  obtain ⟨v, e1, r1, h0, h1, _⟩ := pick_f h (by omega) 60 k
  rw [e1, Option.bind_some]
  by_cases hv : v = 0
  · simp only [if_pos hv, Option.bind_some]
    obtain ⟨u, e2, r2, g0, g1, _⟩ := pick_f r1 (by omega) 2 k
    rw [e2, Option.bind_some]
    have g2 := g1 (by omega)
    simp only [List.length_cons, List.length_nil]
    rw [if_pos g0, if_pos (by omega)]
    refine ⟨_, _, rfl, ⟨r2.bytes, r2.len, r2.lo, by have := r2.hi; omega⟩, ?_⟩
    rcases (show u = 0 ∨ u = 1 by omega) with rfl | rfl <;> decide
  · simp only [if_neg hv]
    obtain ⟨u, e2, r2, g0, g1, _⟩ := pick_f r1 (by omega) 3 k
    rw [e2, Option.bind_some]
    have g2 := g1 (by omega)
    simp only
    rw [w64 (by omega) (by omega)]
    exact ⟨_, _, rfl, ⟨r2.bytes, r2.len, r2.lo, by have := r2.hi; omega⟩, by omega, by omega⟩
end Go.Proofs.Ytplbobmllflniaa.Q
namespace Go.Proofs.Ytplbobmllflniaa.Q
open Go.RowKit Go.Proofs.Ytplbobmllflniaa.Ea Go.Proofs.YtplbobmllflniaaW.PrintWords Go.Proofs.YtplbobmllflniaaW.PrintLast Go.Proofs.YtplbobmllflniaaW.PrintMore
theorem most_f (kind : Int) (h1 : 0 ≤ kind) (h2 : kind ≤ 3) : ∃ m, spec_l11Most.f kind = some m ∧ 0 ≤ m ∧ m ≤ 7 := by
  rcases (show kind = 0 ∨ kind = 1 ∨ kind = 2 ∨ kind = 3 by omega) with rfl | rfl | rfl | rfl
  · exact ⟨0, rfl, by omega, by omega⟩
  · exact ⟨1, rfl, by omega, by omega⟩
  · exact ⟨3, rfl, by omega, by omega⟩
  · exact ⟨7, rfl, by omega, by omega⟩
theorem makeLen (kind val : Int) (h1 : 1 ≤ kind) (h2 : kind ≤ 3) (h3 : 0 ≤ val) (h4 : val ≤ 7) : ∃ l, spec_l11Make.f 40 kind val = some l ∧ 1 ≤ l.length ∧ l.length ≤ 4 := by
  have key : ∀ o : Option (List Int), (match o with | some l => decide (1 ≤ l.length) && decide (l.length ≤ 4) | none => false) = true → ∃ l, o = some l ∧ 1 ≤ l.length ∧ l.length ≤ 4 := by
    intro o h
    cases o with
    | none => cases h
    | some l => exact ⟨l, rfl, by simpa using h⟩
  apply key
  rcases (show kind = 1 ∨ kind = 2 ∨ kind = 3 by omega) with rfl | rfl | rfl <;>
    rcases (show val = 0 ∨ val = 1 ∨ val = 2 ∨ val = 3 ∨ val = 4 ∨ val = 5 ∨ val = 6 ∨ val = 7 by omega) with rfl | rfl | rfl | rfl | rfl | rfl | rfl | rfl <;> decide +kernel
theorem num_f {b : List Int} {p B : Int} (h : Rdr b p B) (hB : B ≤ 999990) (k : Nat) : ∃ v q, spec_l91Num.f (k + 1) b p = some (v, q) ∧ Rdr b q (B + 3) := by
  unfold spec_l91Num.f
  obtain ⟨v, e1, r1, h0, h1, _⟩ := pick_f h (by omega) 10 k
  rw [e1, Option.bind_some]
  simp only
  have w1 : Rdr b (p + 1) (B + 3) := ⟨r1.bytes, r1.len, r1.lo, by have := r1.hi; omega⟩
  by_cases c0 : v = 0
  · rw [if_pos c0]; exact ⟨_, _, rfl, w1⟩
  rw [if_neg c0]
  by_cases c1 : v = 1
  · rw [if_pos c1, Option.bind_some]
    obtain ⟨u, e2, r2, g0, g1, _⟩ := pick_f r1 (by omega) 2 k
    have g2 := g1 (by omega)
    rw [e2, Option.bind_some]
    simp only [List.length_cons, List.length_nil]
    rw [if_pos g0, if_pos (by omega)]
    exact ⟨_, _, rfl, ⟨r2.bytes, r2.len, r2.lo, by have := r2.hi; omega⟩⟩
  rw [if_neg c1]
  by_cases c2 : v = 2
  · rw [if_pos c2]
    obtain ⟨u, e2, r2, g0, g1, _⟩ := pick_f r1 (by omega) 5 k
    rw [e2, Option.bind_some]
    simp only
    by_cases c3 : u = 0
    · rw [if_pos c3, Option.bind_some]
      obtain ⟨t, e3, r3, f0, f1, _⟩ := pick_f r2 (by omega) 2 k
      have f2 := f1 (by omega)
      rw [e3, Option.bind_some]
      simp only [List.length_cons, List.length_nil]
      rw [if_pos f0, if_pos (by omega)]
      exact ⟨_, _, rfl, ⟨r3.bytes, r3.len, r3.lo, by have := r3.hi; omega⟩⟩
    · rw [if_neg c3]
      obtain ⟨t, e3, r3, _⟩ := pick_f r2 (by omega) 31 k
      rw [e3, Option.bind_some]
      exact ⟨_, _, rfl, ⟨r3.bytes, r3.len, r3.lo, by have := r3.hi; omega⟩⟩
  · rw [if_neg c2]
    obtain ⟨t, e3, r3, _⟩ := pick_f r1 (by omega) 31 k
    rw [e3, Option.bind_some]
    exact ⟨_, _, rfl, ⟨r3.bytes, r3.len, r3.lo, by have := r3.hi; omega⟩⟩
theorem list_j1 {b : List Int} (k : Nat) (l : List Int) (hl : l.length ≤ 1000) (c : Bool) (hc : c = true → 0 < l.length) {p B : Int} (h : Rdr b p B) (hB : B ≤ 999900) : ∃ m q, spec_l91List.j1 (k + 2) l c b p = some (m, q) ∧ m.length = l.length ∧ Rdr b q (B + 2) := by
  simp only [spec_l91List.j1]
  cases c
  · exact ⟨_, _, rfl, rfl, ⟨h.bytes, h.len, h.lo, by have := h.hi; omega⟩⟩
  · have hp := hc rfl
    obtain ⟨u, e1, r1, g0, g1, _⟩ := pick_f h (by omega) (l.length : Int) k
    have g2 := g1 (by omega)
    obtain ⟨t, e2, r2, f0, f1, _⟩ := pick_f r1 (by omega) 2 k
    have f2 := f1 (by omega)
    rw [if_pos rfl, e1, Option.bind_some, Option.bind_some]
    simp only
    rw [e2, Option.bind_some]
    simp only [List.length_cons, List.length_nil]
    rw [if_pos f0, if_pos (by omega), if_pos g0, if_pos g2]
    exact ⟨_, _, rfl, by simp, ⟨r2.bytes, r2.len, r2.lo, by have := r2.hi; omega⟩⟩
theorem list_loop {b : List Int} (n : Nat) : ∀ (k : Nat) (l : List Int) (p B : Int), l.length + n ≤ 1000 → Rdr b p B → B + n ≤ 990000 → ∃ m q, spec_l91List.l0 (k + n + 4) l (n : Int) b p = some (m, q) ∧ m.length = l.length + n ∧ Rdr b q (B + n + 3) := by
  induction n with
  | zero =>
    intro k l p B hl h hB
    show ∃ m q, spec_l91List.l0 ((k + 3) + 1) l 0 b p = _ ∧ _
    simp only [spec_l91List.l0]
    rw [if_neg (by omega)]
    by_cases h0 : (l.length : Int) > 0
    · rw [if_pos h0]
      obtain ⟨u, e1, r1, _⟩ := pick_f h (by omega) 40 (k + 2)
      rw [e1, Option.bind_some]
      obtain ⟨m, q, e2, e3, r2⟩ := list_j1 (k + 1) l (by omega) (u == 0) (fun _ => by omega) r1 (by omega)
      exact ⟨m, q, e2, by omega, ⟨r2.bytes, r2.len, r2.lo, by have := r2.hi; omega⟩⟩
    · rw [if_neg h0]
      obtain ⟨m, q, e2, e3, r2⟩ := list_j1 (k + 1) l (by omega) false (fun h => by cases h) h (by omega)
      exact ⟨m, q, e2, by omega, ⟨r2.bytes, r2.len, r2.lo, by have := r2.hi; omega⟩⟩
  | succ n ih =>
    intro k l p B hl h hB
    show ∃ m q, spec_l91List.l0 ((k + n + 4) + 1) l ((n + 1 : Nat) : Int) b p = _ ∧ _
    simp only [spec_l91List.l0]
    obtain ⟨u, e1, r1, _⟩ := pick_f h (by omega) 31 (k + n + 3)
    rw [if_pos (by omega), e1, Option.bind_some]
    simp only
    rw [if_pos (by omega), w64 (a := ((n + 1 : Nat) : Int) - 1) (by omega) (by omega), show ((n + 1 : Nat) : Int) - 1 = (n : Int) by omega]
    obtain ⟨m, q, e2, e3, r2⟩ := ih k (l ++ [u]) (p + 1) (B + 1) (by simp; omega) r1 (by omega)
    refine ⟨m, q, e2, by rw [e3]; simp; omega, ⟨r2.bytes, r2.len, r2.lo, by have := r2.hi; omega⟩⟩
theorem list_f {b : List Int} {p B : Int} (h : Rdr b p B) (hB : B ≤ 900000) (n : Nat) (hn : n ≤ 100) (K : Nat) (hK : n + 10 ≤ K) : ∃ m q, spec_l91List.f K b p (n : Int) = some (m, q) ∧ m.length ≤ n ∧ Rdr b q (B + n + 5) := by
  unfold spec_l91List.f
  obtain ⟨K, rfl⟩ : ∃ j, K = j + 1 := ⟨K - 1, by omega⟩
  obtain ⟨v, e1, r1, h0, h1, _⟩ := pick_f h (by omega) ((n : Int) + 1) K
  have h2 := h1 (by omega)
  rw [w64 (by omega) (by omega), e1, Option.bind_some]
  obtain ⟨c, rfl⟩ : ∃ c : Nat, v = c := ⟨v.toNat, by omega⟩
  obtain ⟨m, q, e2, e3, r2⟩ := list_loop c (K + 1 - c - 4) [] (p + 1) (B + 1) (by simp; omega) r1 (by omega)
  rw [show K + 1 - c - 4 + c + 4 = K + 1 by omega] at e2
  exact ⟨m, q, e2, by simp at e3; omega, ⟨r2.bytes, r2.len, r2.lo, by have := r2.hi; omega⟩⟩
theorem vec_f {b : List Int} {p B : Int} (h : Rdr b p B) (hB : B ≤ 800000) (K : Nat) (hK : 50 ≤ K) : ∃ kind l q, spec_l91Vec.f K b p = some (kind, l, q) ∧ l.length ≤ 5 ∧ Rdr b q (B + 30) := by
  obtain ⟨k, rfl⟩ : ∃ j, K = j + 1 := ⟨K - 1, by omega⟩
  unfold spec_l91Vec.f
  obtain ⟨a, e1, r1, h0, h1, _⟩ := pick_f h (by omega) 3 k
  have h2 := h1 (by omega)
  rw [e1, Option.bind_some]
  simp only
  rw [w64 (a := 1 + a) (by omega) (by omega)]
  obtain ⟨m, em, m0, m1⟩ := most_f (1 + a) (by omega) (by omega)
  rw [em, Option.bind_some, w64 (by omega) (by omega)]
  obtain ⟨v, e2, r2, g0, g1, _⟩ := pick_f r1 (by omega) (m + 1) k
  have g2 := g1 (by omega)
  rw [e2, Option.bind_some]
  obtain ⟨l, el, l1, l4⟩ := makeLen (1 + a) v (by omega) (by omega) (by omega) (by omega)
  have elK : spec_l11Make.f (k + 1) (1 + a) v = some l := leO_le (fun k => spec_l11Make.mono _ _ k) (by omega) el
  rw [elK, Option.bind_some]
  obtain ⟨c, e3, r3, _⟩ := pick_f r2 (by omega) 4 k
  rw [e3, Option.bind_some]
  simp only
  by_cases c0 : c = 0
  · rw [if_pos c0]
    obtain ⟨i, e4, r4, i0, i1, _⟩ := pick_f r3 (by omega) (l.length : Int) k
    have i2 := i1 (by omega)
    rw [e4, Option.bind_some]
    obtain ⟨x, e5, r5, _⟩ := pick_f r4 (by omega) 31 k
    rw [e5, Option.bind_some, Option.bind_some]
    obtain ⟨y, e6, r6, y0, y1, _⟩ := pick_f r5 (by omega) 5 k
    have y2 := y1 (by omega)
    rw [e6, Option.bind_some]
    simp only [List.length_cons, List.length_nil]
    rw [if_pos y0, if_pos (by omega), if_pos i0, if_pos i2]
    exact ⟨_, _, _, rfl, by simp; omega, ⟨r6.bytes, r6.len, r6.lo, by have := r6.hi; omega⟩⟩
  rw [if_neg c0]
  by_cases c1 : c = 1
  · rw [if_pos c1]
    obtain ⟨i, e4, r4, _⟩ := pick_f r3 (by omega) 6 k
    rw [e4, Option.bind_some]
    simp only
    by_cases c2 : i = 0
    · rw [if_pos c2]
      obtain ⟨kd, q, e5, r5, _, _⟩ := l91Kind_f r4 (by omega) k
      rw [e5, Option.bind_some]
      simp only
      obtain ⟨m, q2, e6, e7, r6⟩ := list_f r5 (by omega) 5 (by omega) (k + 1) (by omega)
      have e6' : spec_l91List.f (k + 1) b q 5 = some (m, q2) := e6
      rw [e6', Option.bind_some]
      exact ⟨_, _, _, rfl, e7, ⟨r6.bytes, r6.len, r6.lo, by have := r6.hi; omega⟩⟩
    · rw [if_neg c2]
      exact ⟨_, _, _, rfl, by omega, ⟨r4.bytes, r4.len, r4.lo, by have := r4.hi; omega⟩⟩
  · rw [if_neg c1]
    exact ⟨_, _, _, rfl, by omega, ⟨r3.bytes, r3.len, r3.lo, by have := r3.hi; omega⟩⟩
end Go.Proofs.Ytplbobmllflniaa.Q
namespace Go.Proofs.Ytplbobmllflniaa.Q
open Go.RowKit Go.Proofs.Ytplbobmllflniaa.Ea Go.Proofs.YtplbobmllflniaaW.PrintWords Go.Proofs.YtplbobmllflniaaW.PrintLast Go.Proofs.YtplbobmllflniaaW.PrintMore
def dec1 (v : List Int) : List Int := v.map fun x => (x - 1) % 31
theorem dec1_all (v : List Int) : (dec1 v).all fOk = true := by
  rw [List.all_eq_true]
  intro x hx
  obtain ⟨y, _, rfl⟩ := List.mem_map.1 hx
  exact fOk_mod _
theorem dec1_snoc (l : List Int) (a : Int) : dec1 (l ++ [a]) = dec1 l ++ [(a - 1) % 31] := by simp [dec1]
theorem second_loop (v : List Int) (w : Int) (hl : v.length ≤ 1000) (hV : v.all fOk = true) (d : Nat) : ∀ (k i : Nat), i + d = v.length → d < k → spec_l12Second.l0 k v (w :: dec1 (v.take i)) (i : Int) = some (w :: dec1 v) := by
  induction d with
  | zero =>
    intro k i hi hk
    obtain ⟨k, rfl⟩ : ∃ j, k = j + 1 := ⟨k - 1, by omega⟩
    simp only [spec_l12Second.l0]
    rw [if_neg (by omega)]
    obtain rfl : i = v.length := by omega
    rw [List.take_length]
  | succ d ih =>
    intro k i hi hk
    obtain ⟨k, rfl⟩ : ∃ j, k = j + 1 := ⟨k - 1, by omega⟩
    simp only [spec_l12Second.l0]
    have h1 : i < v.length := by omega
    rw [if_pos (by omega), if_pos (by omega), rd_nat v i h1, fieldDif_f _ 1 (all_get hV i h1) rfl, Option.bind_some, if_pos (by simp [dec1]; omega), w64 (by omega) (by omega)]
    have := ih k (i + 1) (by omega) (by omega)
    rw [List.take_succ_eq_append_getElem h1, dec1_snoc] at this
    exact this
theorem second_f (k : Nat) (v : List Int) (w : Int) (hl : v.length ≤ 1000) (hV : v.all fOk = true) (hk : v.length < k) : spec_l12Second.f k v w = some (w :: dec1 v) := by
  unfold spec_l12Second.f
  have := second_loop v w hl hV v.length k 0 (by omega) hk
  simpa [dec1] using this
end Go.Proofs.Ytplbobmllflniaa.Q
namespace Go.Proofs.Ytplbobmllflniaa.Q
open Go.RowKit Go.Proofs.Ytplbobmllflniaa.Ea Go.Proofs.YtplbobmllflniaaW.PrintWords Go.Proofs.YtplbobmllflniaaW.PrintLast Go.Proofs.YtplbobmllflniaaW.PrintMore
def vecOk (kind : Int) (s : List Int) : Bool := kOk kind && decide ((s.length : Int) = tLen kind) && s.all fOk
theorem l11Vec_f (k : Nat) (kind : Int) (s : List Int) (hl : s.length ≤ 1048576000) (hk : s.length < k) : spec_l11Vec.f k kind s = some (vecOk kind s) := by
  unfold spec_l11Vec.f vecOk
  rw [l11Kind_f, Option.bind_some]
  cases h : kOk kind
  · rfl
  · rw [if_pos rfl, shareOk_f k s hl hk, Option.bind_some]
    have ht := tLen_le kind
    cases h2 : s.all fOk
    · simp
    · by_cases h3 : (s.length : Int) ≤ 20
      · rw [if_pos (by simp [h3]), specTypeLen_f, Option.bind_some]
        simp only [Bool.true_and, Bool.and_true]
        rfl
      · rw [if_neg (by simp; omega)]
        have : ¬ ((s.length : Int) = tLen kind) := by omega
        simp [this]
theorem sized_f (kind : Int) (s : List Int) : impl_sized.f kind s (tLen kind) = some (vecOk kind s) := by
  unfold impl_sized.f vecOk impl_kindOk.f impl_elementsOk.f
  have ht := tLen_le kind
  rw [Option.bind_some]
  cases h : kOk kind
  · rfl
  · rw [if_pos rfl]
    by_cases h3 : (s.length : Int) = tLen kind
    · rw [if_pos h3, Option.bind_some]
      have : (s.length : Int) ≤ 20 := by omega
      simp [h3]; omega
    · rw [if_neg h3]; simp [h3]
end Go.Proofs.Ytplbobmllflniaa.Q
namespace Go.Proofs.Ytplbobmllflniaa.Q
open Go.RowKit Go.Proofs.Ytplbobmllflniaa.Ea Go.Proofs.YtplbobmllflniaaW.PrintWords Go.Proofs.YtplbobmllflniaaW.PrintLast Go.Proofs.YtplbobmllflniaaW.PrintMore
theorem lenOf {α : Type} {o : Option α} {g : α → Nat} {n : Nat} (h : o.map g = some n) : ∃ x, o = some x ∧ g x = n := by
  cases o with
  | none => cases h
  | some x => exact ⟨x, rfl, by simpa using h⟩
theorem thrLen2 (a b : Int) : (spec_l2Through.f 90 [a, b]).map List.length = some 2 := by kernel_rfl
theorem thrLen4 (a b c d : Int) : (spec_l2Through.f 90 [a, b, c, d]).map List.length = some 4 := by kernel_rfl
theorem thrLen5 (a b c d e : Int) : (spec_l2Through.f 90 [a, b, c, d, e]).map List.length = some 5 := by kernel_rfl
theorem mulLen2 (a b c d : Int) : (spec_l2Mul.f 90 [a, b] [c, d]).map List.length = some 3 := by kernel_rfl
theorem mulLen4 (a b c d e f g h : Int) : (spec_l2Mul.f 90 [a, b, c, d] [e, f, g, h]).map List.length = some 7 := by kernel_rfl
theorem mulLen5 (a b c d e f g h i j : Int) : (spec_l2Mul.f 90 [a, b, c, d, e] [f, g, h, i, j]).map List.length = some 9 := by kernel_rfl
theorem thrEx (n : Nat) (hn : n = 2 ∨ n = 4 ∨ n = 5) (A : List Int) (hA : A.length = n) : ∃ r, spec_l2Through.f 90 A = some r ∧ r.length = n := by
  rcases hn with rfl | rfl | rfl
  · match A, hA with
    | [a, b], _ => exact lenOf (thrLen2 a b)
  · match A, hA with
    | [a, b, c, d], _ => exact lenOf (thrLen4 a b c d)
  · match A, hA with
    | [a, b, c, d, e], _ => exact lenOf (thrLen5 a b c d e)
theorem mulEx (n : Nat) (hn : n = 2 ∨ n = 4 ∨ n = 5) (A B : List Int) (hA : A.length = n) (hB : B.length = n) : ∃ r, spec_l2Mul.f 90 A B = some r ∧ r.length + 1 = n + n := by
  rcases hn with rfl | rfl | rfl
  · match A, hA, B, hB with
    | [a, b], _, [c, d], _ => obtain ⟨r, e, l⟩ := lenOf (mulLen2 a b c d); exact ⟨r, e, by omega⟩
  · match A, hA, B, hB with
    | [a, b, c, d], _, [e, f, g, h], _ => obtain ⟨r, e, l⟩ := lenOf (mulLen4 a b c d e f g h); exact ⟨r, e, by omega⟩
  · match A, hA, B, hB with
    | [a, b, c, d, e], _, [f, g, h, i, j], _ => obtain ⟨r, e, l⟩ := lenOf (mulLen5 a b c d e f g h i j); exact ⟨r, e, by omega⟩
theorem l12Make_ex (K : Nat) (hK : 95 ≤ K) (v : List Int) (hv' : v.length = 1 ∨ v.length = 3 ∨ v.length = 4) (hV : v.all fOk = true) (u w : Int) : ∃ x, spec_l12Make.f K v u w = some x ∧ 1 ≤ x.2.2.length ∧ x.2.2.length ≤ 9 := by
  have hn : v.length + 1 = 2 ∨ v.length + 1 = 4 ∨ v.length + 1 = 5 := by omega
  have l9 : v.length ≤ 1000 := by omega
  obtain ⟨f, f1, f2⟩ := thrEx _ hn (u :: v) rfl
  obtain ⟨g, g1, g2⟩ := thrEx _ hn (w :: dec1 v) (by simp [dec1])
  obtain ⟨h, h1, h2⟩ := mulEx _ hn f g f2 g2
  have f1K : spec_l2Through.f K (u :: v) = some f := leO_le (fun k => spec_l2Through.mono _ k) (by omega) f1
  have g1K : spec_l2Through.f K (w :: dec1 v) = some g := leO_le (fun k => spec_l2Through.mono _ k) (by omega) g1
  have h1K : spec_l2Mul.f K f g = some h := leO_le (fun k => spec_l2Mul.mono _ _ k) (by omega) h1
  unfold spec_l12Make.f
  rw [first_f _ _ l9, Option.bind_some, f1K, Option.bind_some, second_f K v w l9 hV (by omega), Option.bind_some, g1K, Option.bind_some, h1K, Option.bind_some]
  exact ⟨_, rfl, by simp only; omega, by simp only; omega⟩
theorem specMake_ex (K : Nat) (kind : Int) (v : List Int) (u w : Int) (hl : v.length ≤ 1000) (hK : 1100 ≤ K) :
    ∃ u' w' h b, spec_ProofMake.f K kind v u w = some (u', w', h, b) ∧ h.length ≤ 9 ∧ (b = true → 1 ≤ h.length ∧ 1 ≤ v.length) := by
  unfold spec_ProofMake.f
  rw [l11Vec_f _ _ _ (by omega) (by omega), Option.bind_some]
  cases hV : vecOk kind v
  · exact ⟨_, _, _, _, rfl, by simp, fun h => by cases h⟩
  rw [if_pos rfl, fieldOk_f, Option.bind_some]
  cases fOk u
  · exact ⟨_, _, _, _, rfl, by simp, fun h => by cases h⟩
  rw [if_pos rfl, fieldOk_f, Option.bind_some]
  cases fOk w
  · exact ⟨_, _, _, _, rfl, by simp, fun h => by cases h⟩
  unfold vecOk at hV
  simp only [Bool.and_eq_true, decide_eq_true_eq] at hV
  obtain ⟨⟨hk, hlen⟩, hall⟩ := hV
  have hn : v.length = 1 ∨ v.length = 3 ∨ v.length = 4 := by
    rcases tLen_cases hk with ⟨_, e⟩ | ⟨_, e⟩ | ⟨_, e⟩ <;> omega
  obtain ⟨x, e, h1, h2⟩ := l12Make_ex K (by omega) v hn hall u w
  rw [if_pos rfl, e, Option.bind_some]
  exact ⟨_, _, _, _, rfl, h2, fun _ => ⟨h1, by omega⟩⟩
theorem rdr_le {b : List Int} {p B C : Int} (h : Rdr b p B) (hC : B ≤ C) : Rdr b p C := ⟨h.bytes, h.len, h.lo, by have := h.hi; omega⟩
theorem drawProof_f {b : List Int} {p B : Int} (h : Rdr b p B) (hB : B ≤ 700000) (K : Nat) (hK : 1200 ≤ K) :
    ∃ kind v u w H q, spec_l91Proof.f K b p = some (kind, v, u, w, H, q) ∧ v.length ≤ 5 ∧ H.length ≤ 9 ∧ Rdr b q (B + 40) := by
  obtain ⟨k, rfl⟩ : ∃ j, K = j + 1 := ⟨K - 1, by omega⟩
  unfold spec_l91Proof.f
  obtain ⟨kind, l, q, e1, hl, r1⟩ := vec_f h (by omega) (k + 1) (by omega)
  rw [e1, Option.bind_some]
  obtain ⟨u, e2, r2, _⟩ := pick_f r1 (by omega) 31 k
  rw [e2, Option.bind_some]
  obtain ⟨w, e3, r3, _⟩ := pick_f r2 (by omega) 31 k
  rw [e3, Option.bind_some]
  obtain ⟨u', w', H, ok, e4, lH, hok⟩ := specMake_ex (k + 1) kind l u w (by omega) (by omega)
  simp only
  rw [e4, Option.bind_some]
  cases ok
  · exact ⟨_, _, _, _, _, _, rfl, hl, lH, rdr_le r3 (by omega)⟩
  obtain ⟨lH1, l1⟩ := hok rfl
  obtain ⟨c, e5, r5, _⟩ := pick_f r3 (by omega) 8 k
  rw [if_pos rfl, e5, Option.bind_some]
  simp only
  by_cases c0 : c = 0
  · rw [if_pos c0]
    obtain ⟨i, e6, r6, i0, i1, _⟩ := pick_f r5 (by omega) (H.length : Int) k
    have i2 := i1 (by omega)
    obtain ⟨x, e7, r7, _⟩ := pick_f r6 (by omega) 31 k
    obtain ⟨y, e8, r8, _⟩ := pick_f r7 (by omega) 60 k
    rw [e6, Option.bind_some]
    simp only
    rw [e7, Option.bind_some]
    simp only
    rw [if_pos i0, if_pos i2, Option.bind_some, e8, Option.bind_some]
    simp only
    by_cases y0 : y = 0
    · rw [if_pos y0, if_pos (by omega)]
      exact ⟨_, _, _, _, _, _, rfl, hl, by simp; omega, rdr_le r8 (by omega)⟩
    · rw [if_neg y0]
      exact ⟨_, _, _, _, _, _, rfl, hl, by simp; omega, rdr_le r8 (by omega)⟩
  rw [if_neg c0]
  by_cases c1 : c = 1
  · rw [if_pos c1]
    obtain ⟨x, e7, r7, _⟩ := pick_f r5 (by omega) 32 k
    obtain ⟨y, e8, r8, _⟩ := pick_f r7 (by omega) 60 k
    rw [e7, Option.bind_some]
    simp only
    rw [e8, Option.bind_some]
    simp only
    by_cases y0 : y = 0
    · rw [if_pos y0, if_pos (by omega)]
      exact ⟨_, _, _, _, _, _, rfl, hl, by simp; omega, rdr_le r8 (by omega)⟩
    · rw [if_neg y0]
      exact ⟨_, _, _, _, _, _, rfl, hl, lH, rdr_le r8 (by omega)⟩
  rw [if_neg c1]
  by_cases c2 : c = 2
  · rw [if_pos c2]
    obtain ⟨i, e6, r6, i0, i1, _⟩ := pick_f r5 (by omega) (l.length : Int) k
    have i2 := i1 (by omega)
    obtain ⟨x, e7, r7, _⟩ := pick_f r6 (by omega) 3 k
    obtain ⟨y, e8, r8, _⟩ := pick_f r7 (by omega) 60 k
    rw [e6, Option.bind_some]
    simp only
    rw [e7, Option.bind_some]
    simp only
    rw [if_pos i0, if_pos i2, Option.bind_some, e8, Option.bind_some]
    simp only
    by_cases y0 : y = 0
    · rw [if_pos y0, if_pos (by omega)]
      exact ⟨_, _, _, _, _, _, rfl, by simp; omega, by simp; omega, rdr_le r8 (by omega)⟩
    · rw [if_neg y0]
      exact ⟨_, _, _, _, _, _, rfl, by simp; omega, lH, rdr_le r8 (by omega)⟩
  · rw [if_neg c2]
    obtain ⟨y, e8, r8, _⟩ := pick_f r5 (by omega) 60 k
    rw [e8, Option.bind_some]
    simp only
    by_cases y0 : y = 0
    · rw [if_pos y0, if_pos (by omega)]
      exact ⟨_, _, _, _, _, _, rfl, hl, by simp; omega, rdr_le r8 (by omega)⟩
    · rw [if_neg y0]
      exact ⟨_, _, _, _, _, _, rfl, hl, lH, rdr_le r8 (by omega)⟩
theorem polyOk_loop (l : List Int) (hl : l.length ≤ 1048576000) (d : Nat) : ∀ (k i : Nat), i + d = l.length → d < k → ∃ t, spec_PolyOk.l0 k l (i : Int) = some t := by
  induction d with
  | zero =>
    intro k i hi hk
    obtain ⟨k, rfl⟩ : ∃ j, k = j + 1 := ⟨k - 1, by omega⟩
    simp only [spec_PolyOk.l0]
    rw [if_neg (by omega)]
    exact ⟨_, rfl⟩
  | succ d ih =>
    intro k i hi hk
    obtain ⟨k, rfl⟩ : ∃ j, k = j + 1 := ⟨k - 1, by omega⟩
    simp only [spec_PolyOk.l0]
    rw [if_pos (by omega), if_pos (by omega), fieldOk_f, Option.bind_some, w64 (by omega) (by omega)]
    cases fOk (rd l (i : Int))
    · exact ⟨_, rfl⟩
    · exact ih k (i + 1) (by omega) (by omega)
theorem l12Form_ex (K : Nat) (kind a b : Int) (l : List Int) (hl : l.length ≤ 1048576000) (hK : l.length < K) : ∃ t, spec_l12Form.f K kind a b l = some t := by
  unfold spec_l12Form.f
  rw [l11Kind_f, Option.bind_some]
  cases kOk kind
  · exact ⟨_, rfl⟩
  rw [if_pos rfl, fieldOk_f, Option.bind_some]
  cases fOk a
  · exact ⟨_, rfl⟩
  rw [if_pos rfl, fieldOk_f, Option.bind_some]
  cases fOk b
  · exact ⟨_, rfl⟩
  rw [if_pos rfl]
  obtain ⟨t, e⟩ := polyOk_loop l hl l.length K 0 (by omega) (by omega)
  have e' : spec_PolyOk.f K l = some t := e
  rw [e', Option.bind_some]
  cases t
  · exact ⟨_, rfl⟩
  rw [if_pos rfl, specTypeLen_f, Option.bind_some]
  exact ⟨_, rfl⟩
theorem specProofAll_ex (K : Nat) (kind : Int) (v : List Int) (a b : Int) (l : List Int) (hv' : v.length ≤ 1000) (hl : l.length ≤ 1000) (hK : 1100 ≤ K) :
    ∃ r t, spec_ProofAll.f K kind v a b l = some (r, t) ∧ r.length ≤ v.length + l.length + 2 := by
  unfold spec_ProofAll.f
  obtain ⟨t, e⟩ := l12Form_ex K kind a b l (by omega) (by omega)
  rw [e, Option.bind_some]
  cases t
  · exact ⟨_, _, rfl, by simp⟩
  rw [if_pos rfl, l11Vec_f _ _ _ (by omega) (by omega), Option.bind_some]
  cases vecOk kind v
  · exact ⟨_, _, rfl, by simp⟩
  rw [if_pos rfl]
  unfold spec_l12All.f
  simp only [Option.bind_some, List.nil_append, List.length_nil, List.length_append, List.length_cons]
  rw [if_pos (by omega), if_pos (by omega), if_pos (by omega), Option.bind_some]
  exact ⟨_, _, rfl, by simp; omega⟩
theorem drawAll_f {b : List Int} {p B : Int} (h : Rdr b p B) (hB : B ≤ 600000) (K : Nat) (hK : 1300 ≤ K) :
    ∃ kind l q, spec_l91All.f K b p = some (kind, l, q) ∧ l.length ≤ 20 ∧ Rdr b q (B + 80) := by
  obtain ⟨k, rfl⟩ : ∃ j, K = j + 1 := ⟨K - 1, by omega⟩
  unfold spec_l91All.f
  obtain ⟨kind, v, u, w, H, q, e1, lv, lH, r1⟩ := drawProof_f h (by omega) (k + 1) (by omega)
  rw [e1, Option.bind_some]
  simp only
  obtain ⟨r, t, e2, lr⟩ := specProofAll_ex (k + 1) kind v u w H (by omega) (by omega) (by omega)
  rw [e2, Option.bind_some]
  cases t
  · obtain ⟨m, q2, e3, lm, r3⟩ := list_f r1 (by omega) 15 (by omega) (k + 1) (by omega)
    have e3' : spec_l91List.f (k + 1) b q 15 = some (m, q2) := e3
    simp only
    rw [if_neg (by simp), e3', Option.bind_some]
    exact ⟨kind, m, q2, rfl, by omega, rdr_le r3 (by omega)⟩
  · obtain ⟨y, e4, r4, _⟩ := pick_f r1 (by omega) 30 k
    simp only
    rw [if_pos trivial, e4, Option.bind_some]
    simp only
    by_cases y0 : y = 0
    · obtain ⟨m, q2, e3, lm, r3⟩ := list_f r4 (by omega) 15 (by omega) (k + 1) (by omega)
      have e3' : spec_l91List.f (k + 1) b (q + 1) 15 = some (m, q2) := e3
      rw [if_pos y0, e3', Option.bind_some]
      exact ⟨kind, m, q2, rfl, by omega, rdr_le r3 (by omega)⟩
    · rw [if_neg y0]
      exact ⟨kind, r, _, rfl, by omega, rdr_le r4 (by omega)⟩
end Go.Proofs.Ytplbobmllflniaa.Q
namespace Go.Proofs.Ytplbobmllflniaa.Q
open Go.RowKit Go.Proofs.Ytplbobmllflniaa.Ea Go.Proofs.YtplbobmllflniaaW.PrintWords Go.Proofs.YtplbobmllflniaaW.PrintLast Go.Proofs.YtplbobmllflniaaW.PrintMore
theorem drawQueryAsk_f (l0 : List Int) (hb : Bytes l0) (K : Nat) (hK : 1400 ≤ K) : ∃ kind l first a w, spec_DrawQueryAsk.f K l0 = some (kind, l, first, a, w) ∧ l.length ≤ 20 := by
  obtain ⟨k, rfl⟩ : ∃ j, K = j + 1 := ⟨K - 1, by omega⟩
  obtain ⟨b, e, r0⟩ := l6Open_f l0 hb
  unfold spec_DrawQueryAsk.f
  rw [e, Option.bind_some]
  simp only
  obtain ⟨kind, l, q, e1, hl, r1⟩ := drawAll_f r0 (by omega) (k + 1) (by omega)
  obtain ⟨x, e2, r2, _⟩ := pick_f r1 (by omega) 2 k
  obtain ⟨y, e3, r3, _⟩ := pick_f r2 (by omega) 26 k
  obtain ⟨z, e4, r4, _⟩ := pick_f r3 (by omega) 16 k
  obtain ⟨w, q5, e5, r5⟩ := num_f r4 (by omega) k
  rw [e1, Option.bind_some]
  simp only
  rw [e2, Option.bind_some]
  simp only
  rw [e3, Option.bind_some]
  simp only
  rw [e4, Option.bind_some]
  simp only
  rw [e5, Option.bind_some]
  exact ⟨_, _, _, _, _, rfl, hl⟩
end Go.Proofs.Ytplbobmllflniaa.Q
namespace Go.Proofs.Ytplbobmllflniaa.Q
open Go.RowKit Go.Proofs.Ytplbobmllflniaa.Ea Go.Proofs.YtplbobmllflniaaW.PrintWords Go.Proofs.YtplbobmllflniaaW.PrintLast Go.Proofs.YtplbobmllflniaaW.PrintMore
theorem loInts_loop (l m : List Int) (hl : l.length ≤ 1048576000) (hm : m.length = l.length) (d : Nat) : ∀ (k : Nat) (i : Nat), i + d = l.length → l.take i = m.take i → d < k → laws_loInts.l0 k l m (i : Int) = some (decide (l = m)) := by
  induction d with
  | zero =>
    intro k i hi ht hk
    obtain ⟨k, rfl⟩ : ∃ j, k = j + 1 := ⟨k - 1, by omega⟩
    simp only [laws_loInts.l0]
    rw [if_neg (by omega)]
    obtain rfl : i = l.length := by omega
    rw [List.take_length, ← hm, List.take_length] at ht
    simp [ht]
  | succ d ih =>
    intro k i hi ht hk
    obtain ⟨k, rfl⟩ : ∃ j, k = j + 1 := ⟨k - 1, by omega⟩
    simp only [laws_loInts.l0]
    have h1 : i < l.length := by omega
    have h2 : i < m.length := by omega
    rw [if_pos (by omega), if_pos (by omega), if_pos (by omega), w64 (by omega) (by omega), rd_nat l i h1, rd_nat m i h2]
    by_cases e : l[i] = m[i]
    · rw [if_pos e]
      have := ih k (i + 1) (by omega) (by rw [List.take_succ_eq_append_getElem h1, List.take_succ_eq_append_getElem h2, ht, e]) (by omega)
      simpa using this
    · rw [if_neg e]
      have : l ≠ m := fun h => by subst h; exact e rfl
      simp [this]
theorem loInts_f (k : Nat) (l m : List Int) (hl : l.length ≤ 1048576000) (hk : l.length < k) : laws_loInts.f k l m = some (decide (l = m)) := by
  unfold laws_loInts.f
  by_cases e : l.length = m.length
  · rw [if_pos (by omega)]
    exact loInts_loop l m hl e.symm l.length k 0 (by omega) (by simp) hk
  · rw [if_neg (by omega)]
    have : l ≠ m := fun h => by subst h; exact e rfl
    simp [this]
end Go.Proofs.Ytplbobmllflniaa.Q
namespace Go.Proofs.Ytplbobmllflniaa.Q
open Go.RowKit Go.Proofs.Ytplbobmllflniaa.Ea Go.Proofs.YtplbobmllflniaaW.PrintWords Go.Proofs.YtplbobmllflniaaW.PrintLast Go.Proofs.YtplbobmllflniaaW.PrintMore
theorem loProof_f (k : Nat) (a b : Int) (s : List Int) (a' b' : Int) (s' : List Int) (hs : s.length ≤ 1048576000) (hk : s.length < k) :
    laws_loProof.f k a b s a' b' s' = some (decide (a = a') && decide (b = b') && decide (s = s')) := by
  unfold laws_loProof.f
  by_cases h1 : a = a'
  · by_cases h2 : b = b'
    · rw [if_pos h1, if_pos h2, loInts_f k s s' hs hk, Option.bind_some]
      simp [h1, h2]
    · rw [if_pos h1, if_neg h2]; simp [h2]
  · rw [if_neg h1]; simp [h1]
end Go.Proofs.Ytplbobmllflniaa.Q
namespace Go.Proofs.Ytplbobmllflniaa.Q
open Go.RowKit Go.Proofs.Ytplbobmllflniaa.Ea Go.Proofs.YtplbobmllflniaaW.PrintWords Go.Proofs.YtplbobmllflniaaW.PrintLast Go.Proofs.YtplbobmllflniaaW.PrintMore
theorem lowered_loop (v : List Int) (hl : v.length ≤ 1000) (hV : v.all fOk = true) (d : Nat) : ∀ (k i : Nat), i + d = v.length → d < k → impl_lowered.l0 k 1 (dec1 (v.take i)) v (v.length : Int) (i : Int) = some (dec1 v) := by
  induction d with
  | zero =>
    intro k i hi hk
    obtain ⟨k, rfl⟩ : ∃ j, k = j + 1 := ⟨k - 1, by omega⟩
    simp only [impl_lowered.l0]
    rw [if_neg (by omega)]
    obtain rfl : i = v.length := by omega
    rw [List.take_length]
  | succ d ih =>
    intro k i hi hk
    obtain ⟨k, rfl⟩ : ∃ j, k = j + 1 := ⟨k - 1, by omega⟩
    simp only [impl_lowered.l0]
    have h1 : i < v.length := by omega
    rw [if_pos (by omega), if_pos (by omega), if_pos (by omega), rd_nat v i h1, elMinus_f _ 1 ((fOk_iff _).1 (all_get hV i h1)) (by omega), Option.bind_some, if_pos (by simp [dec1]; omega), w64 (by omega) (by omega)]
    have := ih k (i + 1) (by omega) (by omega)
    rw [List.take_succ_eq_append_getElem h1, dec1_snoc] at this
    exact this
theorem lowered_f (k : Nat) (v : List Int) (hl : v.length ≤ 1000) (hV : v.all fOk = true) (hk : v.length < k) : impl_lowered.f k v 1 = some (dec1 v) := by
  unfold impl_lowered.f
  rw [if_pos (by omega), if_pos (by omega)]
  have := lowered_loop v hl hV v.length k 0 (by omega) hk
  simpa [dec1] using this
theorem mulStep (o a b : Int) (ho : 0 ≤ o ∧ o ≤ 30) (ha : 0 ≤ a ∧ a ≤ 30) (hb : 0 ≤ b ∧ b ≤ 30) : Int.tmod (wrap64 (o + wrap64 (a * b))) 31 = (o + (a * b) % 31) % 31 := by
  have := mul_bd' ha hb
  rw [w64 (a := a * b) (by omega) (by omega), w64 (by omega) (by omega), Int.tmod_eq_emod_of_nonneg (by omega)]
  omega
theorem mul_both (A B : List Int) (hA : A.all fOk = true) (hB : B.all fOk = true) (lA : A.length ≤ 1000) (lB : B.length ≤ 1000) : ∀ k : Nat,
    (∀ (o : List Int) (i j : Int), 0 ≤ i → i < A.length → 0 ≤ j → o.all fOk = true → o.length + 1 = A.length + B.length → spec_l2Mul.l1 k A B o i j = impl_product.l1 k B o i (rd A i) A A.length i B B.length j) ∧
    (∀ (o : List Int) (i : Int), 0 ≤ i → o.all fOk = true → o.length + 1 = A.length + B.length → spec_l2Mul.l0 k A B o i = impl_product.l0 k B o A A.length i) := by
  intro k
  induction k with
  | zero => exact ⟨fun _ _ _ _ _ _ _ _ => rfl, fun _ _ _ _ _ => rfl⟩
  | succ k ih =>
    refine ⟨fun o i j hi hi2 hj ho hl => ?_, fun o i hi ho hl => ?_⟩
    · simp only [spec_l2Mul.l1, impl_product.l1]
      by_cases h : j < (B.length : Int)
      · rw [if_pos h, if_pos h, w64 (a := i + j) (by omega) (by omega), if_pos (by omega), if_pos (by omega), if_pos hi, if_pos hi2, if_pos hj, if_pos hj, if_pos h, if_pos (by omega), if_pos (by omega),
          mulStep _ _ _ (rd_fOk ho _) (rd_fOk hA _) (rd_fOk hB _), elTimes_f _ _ (rd_fOk hA _) (rd_fOk hB _), Option.bind_some, elPlus_f _ _ (rd_fOk ho _) (by omega), Option.bind_some, w64 (a := j + 1) (by omega) (by omega)]
        exact ih.1 _ _ _ hi hi2 (by omega) (all_set ho _ _ (fOk_mod _)) (by rw [List.length_set]; exact hl)
      · rw [if_neg h, if_neg h, w64 (by omega) (by omega)]
        exact ih.2 _ _ (by omega) ho hl
    · simp only [spec_l2Mul.l0, impl_product.l0]
      by_cases h : i < (A.length : Int)
      · rw [if_pos h, if_pos h, if_pos hi, if_pos h]
        exact ih.1 _ _ _ hi h (by omega) ho hl
      · rw [if_neg h, if_neg h]
theorem mul_inv (A B : List Int) (hA : A.all fOk = true) (hB : B.all fOk = true) (lA : A.length ≤ 1000) (lB : B.length ≤ 1000) (r : List Int) : ∀ k : Nat,
    (∀ (o : List Int) (i j : Int), 0 ≤ i → i < A.length → 0 ≤ j → o.all fOk = true → o.length + 1 = A.length + B.length → spec_l2Mul.l1 k A B o i j = some r → r.all fOk = true ∧ r.length = o.length) ∧
    (∀ (o : List Int) (i : Int), 0 ≤ i → o.all fOk = true → o.length + 1 = A.length + B.length → spec_l2Mul.l0 k A B o i = some r → r.all fOk = true ∧ r.length = o.length) := by
  intro k
  induction k with
  | zero => exact ⟨fun _ _ _ _ _ _ _ _ h => by simp [spec_l2Mul.l1] at h, fun _ _ _ _ _ h => by simp [spec_l2Mul.l0] at h⟩
  | succ k ih =>
    refine ⟨fun o i j hi hi2 hj ho hl hr => ?_, fun o i hi ho hl hr => ?_⟩
    · simp only [spec_l2Mul.l1] at hr
      by_cases h : j < (B.length : Int)
      · rw [if_pos h, w64 (a := i + j) (by omega) (by omega), if_pos (by omega), if_pos (by omega), if_pos hi, if_pos hi2, if_pos hj, mulStep _ _ _ (rd_fOk ho _) (rd_fOk hA _) (rd_fOk hB _), w64 (a := j + 1) (by omega) (by omega)] at hr
        have := ih.1 _ _ _ hi hi2 (by omega) (all_set ho _ _ (fOk_mod _)) (by rw [List.length_set]; exact hl) hr
        rw [List.length_set] at this
        exact this
      · rw [if_neg h, w64 (by omega) (by omega)] at hr
        exact ih.2 _ _ (by omega) ho hl hr
    · simp only [spec_l2Mul.l0] at hr
      by_cases h : i < (A.length : Int)
      · rw [if_pos h] at hr
        exact ih.1 _ _ _ hi h (by omega) ho hl hr
      · rw [if_neg h] at hr
        obtain rfl := Option.some.inj hr
        exact ⟨ho, rfl⟩
theorem mul_f (k : Nat) (A B r : List Int) (hA : A.all fOk = true) (hB : B.all fOk = true) (lA : A.length ≤ 1000) (lB : B.length ≤ 1000) (pA : 0 < A.length) (pB : 0 < B.length) (hr : spec_l2Mul.f k A B = some r) :
    impl_product.f k A B = some r ∧ r.all fOk = true ∧ r.length + 1 = A.length + B.length := by
  unfold spec_l2Mul.f at hr
  unfold impl_product.f
  rw [if_neg (by omega)] at hr ⊢
  have eb : ((B.length : Int) == 0) = false := by simp; intro h; rw [h] at pB; simp at pB
  rw [eb] at hr ⊢
  cases k with
  | zero => simp [spec_l2Mul.j0] at hr
  | succ k =>
    simp only [spec_l2Mul.j0, impl_product.j0] at hr ⊢
    rw [w64 (a := (A.length : Int) + B.length) (by omega) (by omega), w64 (by omega) (by omega), if_neg (by simp), if_pos (by omega), if_pos (by omega)] at hr ⊢
    have hl : (List.replicate ((A.length : Int) + B.length - 1).toNat (0 : Int)).length + 1 = A.length + B.length := by rw [List.length_replicate]; omega
    have h1 := (mul_both A B hA hB lA lB k).2 _ 0 (by omega) (zeros_all _) hl
    have h2 := (mul_inv A B hA hB lA lB r k).2 _ 0 (by omega) (zeros_all _) hl hr
    exact ⟨h1 ▸ hr, h2.1, by omega⟩
end Go.Proofs.Ytplbobmllflniaa.Q
namespace Go.Proofs.Ytplbobmllflniaa.Q
open Go.RowKit Go.Proofs.Ytplbobmllflniaa.Ea Go.Proofs.YtplbobmllflniaaW.PrintWords Go.Proofs.YtplbobmllflniaaW.PrintLast Go.Proofs.YtplbobmllflniaaW.PrintMore
theorem l2Through2_raw (a b : Int) : spec_l2Through.f 90 [a, b] = some [(lin (lin 0 a 1) b 0), (lin (lin 0 a 30) b 1)] := by kernel_rfl
theorem l2Through2 (a b : Int) (ha : 0 ≤ a ∧ a ≤ 30) (hb : 0 ≤ b ∧ b ≤ 30) : spec_l2Through.f 90 [a, b] = some ((thrL 2).map (LF.ev ⟨a, b, 0, 0, 0⟩)) := by
  rw [l2Through2_raw, thrL_2]
  simp only [List.map_cons, List.map_nil, LF.ev, LF.raw]
  have z : ∀ v c : Int, 0 ≤ v ∧ v ≤ 30 → 0 ≤ c ∧ c ≤ 30 → lin 0 v c = (v * c) % 31 := fun v c hV hc => by have := lin_v 0 v c hV hc; simpa using this
  have e0 : (lin (lin 0 a 1) b 0) = (a * 1 + b * 0) % 31 := by rw [z a 1 ha (by omega), lin_v _ b 0 hb (by omega)]
  have e1 : (lin (lin 0 a 30) b 1) = (a * 30 + b * 1) % 31 := by rw [z a 30 ha (by omega), lin_v _ b 1 hb (by omega)]
  rw [e0, e1]
  congr 1
  refine List.cons_eq_cons.2 ⟨by omega, List.cons_eq_cons.2 ⟨by omega, rfl⟩⟩
theorem through2 (a b : Int) (ha : 0 ≤ a ∧ a ≤ 30) (hb : 0 ≤ b ∧ b ≤ 30) : ∃ r : List Int, spec_l2Through.f 90 [a, b] = some r ∧ impl_through.f [a, b] = some r ∧ r.length = 2 ∧ r.all fOk = true :=
  ⟨_, l2Through2 a b ha hb, through_map ⟨a, b, 0, 0, 0⟩ _ 2 rfl (by omega) (by omega) (fill2 a b ha hb), by rw [thrL_2]; rfl, by rw [List.all_map, List.all_eq_true]; intro f _; exact (fOk_iff _).2 (LF.ev_bd _ _)⟩
theorem l2Through4_raw (a b c d : Int) : spec_l2Through.f 90 [a, b, c, d] = some [(lin (lin (lin (lin 0 a 1) b 0) c 0) d 0), (lin (lin (lin (lin 0 a 24) b 3) c 14) d 21), (lin (lin (lin (lin 0 a 1) b 13) c 2) d 15), (lin (lin (lin (lin 0 a 5) b 16) c 15) d 26)] := by kernel_rfl
theorem l2Through4 (a b c d : Int) (ha : 0 ≤ a ∧ a ≤ 30) (hb : 0 ≤ b ∧ b ≤ 30) (hc : 0 ≤ c ∧ c ≤ 30) (hd : 0 ≤ d ∧ d ≤ 30) : spec_l2Through.f 90 [a, b, c, d] = some ((thrL 4).map (LF.ev ⟨a, b, c, d, 0⟩)) := by
  rw [l2Through4_raw, thrL_4]
  simp only [List.map_cons, List.map_nil, LF.ev, LF.raw]
  have z : ∀ v c : Int, 0 ≤ v ∧ v ≤ 30 → 0 ≤ c ∧ c ≤ 30 → lin 0 v c = (v * c) % 31 := fun v c hV hc => by have := lin_v 0 v c hV hc; simpa using this
  have e0 : (lin (lin (lin (lin 0 a 1) b 0) c 0) d 0) = (a * 1 + b * 0 + c * 0 + d * 0) % 31 := by rw [z a 1 ha (by omega), lin_v _ b 0 hb (by omega), lin_v _ c 0 hc (by omega), lin_v _ d 0 hd (by omega)]
  have e1 : (lin (lin (lin (lin 0 a 24) b 3) c 14) d 21) = (a * 24 + b * 3 + c * 14 + d * 21) % 31 := by rw [z a 24 ha (by omega), lin_v _ b 3 hb (by omega), lin_v _ c 14 hc (by omega), lin_v _ d 21 hd (by omega)]
  have e2 : (lin (lin (lin (lin 0 a 1) b 13) c 2) d 15) = (a * 1 + b * 13 + c * 2 + d * 15) % 31 := by rw [z a 1 ha (by omega), lin_v _ b 13 hb (by omega), lin_v _ c 2 hc (by omega), lin_v _ d 15 hd (by omega)]
  have e3 : (lin (lin (lin (lin 0 a 5) b 16) c 15) d 26) = (a * 5 + b * 16 + c * 15 + d * 26) % 31 := by rw [z a 5 ha (by omega), lin_v _ b 16 hb (by omega), lin_v _ c 15 hc (by omega), lin_v _ d 26 hd (by omega)]
  rw [e0, e1, e2, e3]
  congr 1
  refine List.cons_eq_cons.2 ⟨by omega, List.cons_eq_cons.2 ⟨by omega, List.cons_eq_cons.2 ⟨by omega, List.cons_eq_cons.2 ⟨by omega, rfl⟩⟩⟩⟩
theorem through4 (a b c d : Int) (ha : 0 ≤ a ∧ a ≤ 30) (hb : 0 ≤ b ∧ b ≤ 30) (hc : 0 ≤ c ∧ c ≤ 30) (hd : 0 ≤ d ∧ d ≤ 30) : ∃ r : List Int, spec_l2Through.f 90 [a, b, c, d] = some r ∧ impl_through.f [a, b, c, d] = some r ∧ r.length = 4 ∧ r.all fOk = true :=
  ⟨_, l2Through4 a b c d ha hb hc hd, through_map ⟨a, b, c, d, 0⟩ _ 4 rfl (by omega) (by omega) (fill4 a b c d ha hb hc hd), by rw [thrL_4]; rfl, by rw [List.all_map, List.all_eq_true]; intro f _; exact (fOk_iff _).2 (LF.ev_bd _ _)⟩
theorem l2Through5_raw (a b c d e : Int) : spec_l2Through.f 90 [a, b, c, d, e] = some [(lin (lin (lin (lin (lin 0 a 1) b 0) c 0) d 0) e 0), (lin (lin (lin (lin (lin 0 a 16) b 4) c 28) d 22) e 23), (lin (lin (lin (lin (lin 0 a 26) b 6) c 28) d 8) e 25), (lin (lin (lin (lin (lin 0 a 28) b 17) c 29) d 27) e 23), (lin (lin (lin (lin (lin 0 a 22) b 5) c 8) d 5) e 22)] := by kernel_rfl
theorem l2Through5 (a b c d e : Int) (ha : 0 ≤ a ∧ a ≤ 30) (hb : 0 ≤ b ∧ b ≤ 30) (hc : 0 ≤ c ∧ c ≤ 30) (hd : 0 ≤ d ∧ d ≤ 30) (he : 0 ≤ e ∧ e ≤ 30) : spec_l2Through.f 90 [a, b, c, d, e] = some ((thrL 5).map (LF.ev ⟨a, b, c, d, e⟩)) := by
  rw [l2Through5_raw, thrL_5]
  simp only [List.map_cons, List.map_nil, LF.ev, LF.raw]
  have z : ∀ v c : Int, 0 ≤ v ∧ v ≤ 30 → 0 ≤ c ∧ c ≤ 30 → lin 0 v c = (v * c) % 31 := fun v c hV hc => by have := lin_v 0 v c hV hc; simpa using this
  have e0 : (lin (lin (lin (lin (lin 0 a 1) b 0) c 0) d 0) e 0) = (a * 1 + b * 0 + c * 0 + d * 0 + e * 0) % 31 := by rw [z a 1 ha (by omega), lin_v _ b 0 hb (by omega), lin_v _ c 0 hc (by omega), lin_v _ d 0 hd (by omega), lin_v _ e 0 he (by omega)]
  have e1 : (lin (lin (lin (lin (lin 0 a 16) b 4) c 28) d 22) e 23) = (a * 16 + b * 4 + c * 28 + d * 22 + e * 23) % 31 := by rw [z a 16 ha (by omega), lin_v _ b 4 hb (by omega), lin_v _ c 28 hc (by omega), lin_v _ d 22 hd (by omega), lin_v _ e 23 he (by omega)]
  have e2 : (lin (lin (lin (lin (lin 0 a 26) b 6) c 28) d 8) e 25) = (a * 26 + b * 6 + c * 28 + d * 8 + e * 25) % 31 := by rw [z a 26 ha (by omega), lin_v _ b 6 hb (by omega), lin_v _ c 28 hc (by omega), lin_v _ d 8 hd (by omega), lin_v _ e 25 he (by omega)]
  have e3 : (lin (lin (lin (lin (lin 0 a 28) b 17) c 29) d 27) e 23) = (a * 28 + b * 17 + c * 29 + d * 27 + e * 23) % 31 := by rw [z a 28 ha (by omega), lin_v _ b 17 hb (by omega), lin_v _ c 29 hc (by omega), lin_v _ d 27 hd (by omega), lin_v _ e 23 he (by omega)]
  have e4 : (lin (lin (lin (lin (lin 0 a 22) b 5) c 8) d 5) e 22) = (a * 22 + b * 5 + c * 8 + d * 5 + e * 22) % 31 := by rw [z a 22 ha (by omega), lin_v _ b 5 hb (by omega), lin_v _ c 8 hc (by omega), lin_v _ d 5 hd (by omega), lin_v _ e 22 he (by omega)]
  rw [e0, e1, e2, e3, e4]
  congr 1
  refine List.cons_eq_cons.2 ⟨by omega, List.cons_eq_cons.2 ⟨by omega, List.cons_eq_cons.2 ⟨by omega, List.cons_eq_cons.2 ⟨by omega, List.cons_eq_cons.2 ⟨by omega, rfl⟩⟩⟩⟩⟩
theorem through5 (a b c d e : Int) (ha : 0 ≤ a ∧ a ≤ 30) (hb : 0 ≤ b ∧ b ≤ 30) (hc : 0 ≤ c ∧ c ≤ 30) (hd : 0 ≤ d ∧ d ≤ 30) (he : 0 ≤ e ∧ e ≤ 30) : ∃ r : List Int, spec_l2Through.f 90 [a, b, c, d, e] = some r ∧ impl_through.f [a, b, c, d, e] = some r ∧ r.length = 5 ∧ r.all fOk = true :=
  ⟨_, l2Through5 a b c d e ha hb hc hd he, through_map ⟨a, b, c, d, e⟩ _ 5 rfl (by omega) (by omega) (fill5 a b c d e ha hb hc hd he), by rw [thrL_5]; rfl, by rw [List.all_map, List.all_eq_true]; intro f _; exact (fOk_iff _).2 (LF.ev_bd _ _)⟩
end Go.Proofs.Ytplbobmllflniaa.Q
namespace Go.Proofs.Ytplbobmllflniaa.Q
open Go.RowKit Go.Proofs.Ytplbobmllflniaa.Ea Go.Proofs.YtplbobmllflniaaW.PrintWords Go.Proofs.YtplbobmllflniaaW.PrintLast Go.Proofs.YtplbobmllflniaaW.PrintMore
theorem mul2 (a b c d : Int) : ∃ r, spec_l2Mul.f 90 [a, b] [c, d] = some r := Option.isSome_iff_exists.1 (by kernel_rfl)
theorem mul4 (a b c d e f g h : Int) : ∃ r, spec_l2Mul.f 90 [a, b, c, d] [e, f, g, h] = some r := Option.isSome_iff_exists.1 (by kernel_rfl)
theorem mul5 (a b c d e f g h i j : Int) : ∃ r, spec_l2Mul.f 90 [a, b, c, d, e] [f, g, h, i, j] = some r := Option.isSome_iff_exists.1 (by kernel_rfl)
theorem mul_ex (n : Nat) (hn : n = 2 ∨ n = 4 ∨ n = 5) (A B : List Int) (lA : A.length = n) (lB : B.length = n) : ∃ r, spec_l2Mul.f 90 A B = some r := by
  rcases hn with rfl | rfl | rfl
  · obtain ⟨a, b, rfl⟩ := list2 A lA
    obtain ⟨c, d, rfl⟩ := list2 B lB
    exact mul2 _ _ _ _
  · obtain ⟨a, b, c, d, rfl⟩ := list4' A lA
    obtain ⟨e, f, g, h, rfl⟩ := list4' B lB
    exact mul4 _ _ _ _ _ _ _ _
  · obtain ⟨a, b, c, d, x, rfl⟩ := list5 A lA
    obtain ⟨e, f, g, h, y, rfl⟩ := list5 B lB
    exact mul5 _ _ _ _ _ _ _ _ _ _
theorem through_ex (n : Nat) (hn : n = 2 ∨ n = 4 ∨ n = 5) (A : List Int) (lA : A.length = n) (hA : A.all fOk = true) : ∃ r : List Int, spec_l2Through.f 90 A = some r ∧ impl_through.f A = some r ∧ r.length = n ∧ r.all fOk = true := by
  rcases hn with rfl | rfl | rfl
  · obtain ⟨a, b, rfl⟩ := list2 A lA
    simp only [List.all_cons, List.all_nil, Bool.and_true, Bool.and_eq_true, fOk_iff] at hA
    exact through2 a b hA.1 hA.2
  · obtain ⟨a, b, c, d, rfl⟩ := list4' A lA
    simp only [List.all_cons, List.all_nil, Bool.and_true, Bool.and_eq_true, fOk_iff] at hA
    exact through4 a b c d hA.1 hA.2.1 hA.2.2.1 hA.2.2.2
  · obtain ⟨a, b, c, d, e, rfl⟩ := list5 A lA
    simp only [List.all_cons, List.all_nil, Bool.and_true, Bool.and_eq_true, fOk_iff] at hA
    exact through5 a b c d e hA.1 hA.2.1 hA.2.2.1 hA.2.2.2.1 hA.2.2.2.2
theorem dec1_length (v : List Int) : (dec1 v).length = v.length := by simp [dec1]
theorem make_both (K : Nat) (hK : 95 ≤ K) (v : List Int) (u w : Int) (n : Nat) (hn : n = 2 ∨ n = 4 ∨ n = 5) (lv : v.length + 1 = n) (hV : v.all fOk = true) (hu : fOk u = true) (hw : fOk w = true) :
    ∃ f g h : List Int, impl_through.f (u :: v) = some f ∧ impl_through.f (w :: dec1 v) = some g ∧ impl_product.f K f g = some h ∧ spec_l12Make.f K v u w = some (u, w, h) ∧ impl_ProofMake.j0 (K + 1) v u w false = some (u, w, h, true) ∧ h.all fOk = true ∧ h.length + 1 = n + n ∧ f.length = n ∧ g.length = n ∧ f.all fOk = true ∧ g.all fOk = true := by
  have l9 : v.length ≤ 1000 := by omega
  obtain ⟨f, f1, f2, f3, f4⟩ := through_ex n hn (u :: v) (by simpa using lv) (by simp [hu]; simpa using hV)
  obtain ⟨g, g1, g2, g3, g4⟩ := through_ex n hn (w :: dec1 v) (by simp [dec1_length]; exact lv) (by have := dec1_all v; simp [hw]; simpa using this)
  obtain ⟨h, h1⟩ := mul_ex n hn f g f3 g3
  have h1K : spec_l2Mul.f K f g = some h := leO_le (fun k => spec_l2Mul.mono _ _ k) (by omega) h1
  have f1K : spec_l2Through.f K (u :: v) = some f := leO_le (fun k => spec_l2Through.mono _ k) (by omega) f1
  have g1K : spec_l2Through.f K (w :: dec1 v) = some g := leO_le (fun k => spec_l2Through.mono _ k) (by omega) g1
  obtain ⟨p1, p2, p3⟩ := mul_f K f g h f4 g4 (by omega) (by omega) (by omega) (by omega) h1K
  refine ⟨f, g, h, f2, g2, p1, ?_, ?_, p2, by omega, f3, g3, f4, g4⟩
  · unfold spec_l12Make.f
    rw [first_f _ _ l9, Option.bind_some, f1K, Option.bind_some, second_f K v w l9 hV (by omega), Option.bind_some, g1K, Option.bind_some, h1K]; rfl
  · simp only [impl_ProofMake.j0]
    rw [if_neg (by simp), ahead_f _ _ l9, Option.bind_some, f2, Option.bind_some, lowered_f K v l9 hV (by omega), Option.bind_some, ahead_f _ _ (by rw [dec1_length]; exact l9), Option.bind_some, g2, Option.bind_some, p1]; rfl
end Go.Proofs.Ytplbobmllflniaa.Q
namespace Go.Proofs.Ytplbobmllflniaa.Q
open Go.RowKit Go.Proofs.Ytplbobmllflniaa.Ea Go.Proofs.YtplbobmllflniaaW.PrintWords Go.Proofs.YtplbobmllflniaaW.PrintLast Go.Proofs.YtplbobmllflniaaW.PrintMore
theorem pv_set (x : Int) (l : List Int) : ∀ (m : Nat) (v : Int), m < l.length → pv x (l.set m v) = pv x l + (v - rd l (m : Int)) * x ^ m := by
  induction l with
  | nil => intro m v h; simp at h
  | cons c l ih =>
    intro m v h
    cases m with
    | zero => show pv x (v :: l) = pv x (c :: l) + (v - c) * x ^ 0; rw [pv_cons, pv_cons]; simp; omega
    | succ m =>
      have h' : m < l.length := by simpa using h
      show pv x (c :: l.set m v) = pv x (c :: l) + (v - rd (c :: l) ((m + 1 : Nat) : Int)) * x ^ (m + 1)
      have e : rd (c :: l) ((m + 1 : Nat) : Int) = rd l (m : Int) := by rw [rd_nat _ _ h, rd_nat _ _ h']; rfl
      rw [pv_cons, pv_cons, ih m v h', e, Int.pow_succ]
      generalize x ^ m = X
      grind
theorem step31 (o a b : Int) : ∃ s, (o + (a * b) % 31) % 31 = o + a * b + 31 * s := ⟨-((a * b) / 31) - (o + (a * b) % 31) / 31, by
  have h1 := Int.emod_def (a * b) 31
  have h2 := Int.emod_def (o + (a * b) % 31) 31
  omega⟩
theorem pv_drop (x : Int) (l : List Int) (i : Nat) (h : i < l.length) : pv x (l.drop i) = pv x (l.drop (i + 1)) * x + rd l (i : Int) := by
  rw [List.drop_eq_getElem_cons h, pv_cons, rd_nat l i h]
theorem mul_pv (x : Int) (A B : List Int) (hA : A.all fOk = true) (hB : B.all fOk = true) (lA : A.length ≤ 1000) (lB : B.length ≤ 1000) (r : List Int) : ∀ k : Nat,
    (∀ (o : List Int) (i j : Nat), i < A.length → j ≤ B.length → o.all fOk = true → o.length + 1 = A.length + B.length → spec_l2Mul.l1 k A B o (i : Int) (j : Int) = some r → ∃ t, pv x r = pv x o + rd A (i : Int) * x ^ (i + j) * pv x (B.drop j) + x ^ (i + 1) * pv x (A.drop (i + 1)) * pv x B + 31 * t) ∧
    (∀ (o : List Int) (i : Nat), i ≤ A.length → o.all fOk = true → o.length + 1 = A.length + B.length → spec_l2Mul.l0 k A B o (i : Int) = some r → ∃ t, pv x r = pv x o + x ^ i * pv x (A.drop i) * pv x B + 31 * t) := by
  intro k
  induction k with
  | zero => exact ⟨fun _ _ _ _ _ _ _ h => by simp [spec_l2Mul.l1] at h, fun _ _ _ _ _ h => by simp [spec_l2Mul.l0] at h⟩
  | succ k ih =>
    refine ⟨fun o i j hi hj ho hl hr => ?_, fun o i hi ho hl hr => ?_⟩
    · simp only [spec_l2Mul.l1] at hr
      by_cases h : j < B.length
      · rw [if_pos (by omega), w64 (a := (i : Int) + j) (by omega) (by omega), if_pos (by omega), if_pos (by omega), if_pos (by omega), if_pos (by omega), if_pos (by omega), mulStep _ _ _ (rd_fOk ho _) (rd_fOk hA _) (rd_fOk hB _), w64 (a := (j : Int) + 1) (by omega) (by omega)] at hr
        obtain ⟨t, ht⟩ := ih.1 _ i (j + 1) hi (by omega) (all_set ho _ _ (fOk_mod _)) (by rw [List.length_set]; exact hl) hr
        obtain ⟨s, hs⟩ := step31 (rd o ((i : Int) + j)) (rd A (i : Int)) (rd B (j : Int))
        rw [show ((i : Int) + (j : Int)).toNat = i + j by omega, pv_set x o (i + j) _ (by omega), hs, show ((i + j : Nat) : Int) = (i : Int) + j by omega, show i + (j + 1) = (i + j) + 1 by omega, Int.pow_succ] at ht
        rw [pv_drop x B j h]
        refine ⟨t + s * x ^ (i + j), ?_⟩
        rw [ht]
        generalize x ^ (i + j) = X
        generalize x ^ (i + 1) = Y
        generalize pv x (B.drop (j + 1)) = Z
        generalize rd A (i : Int) = a
        generalize rd B (j : Int) = b
        generalize rd o ((i : Int) + j) = c
        generalize pv x o = d
        generalize pv x (A.drop (i + 1)) = e
        generalize pv x B = f
        clear ht hs hr ih
        grind
      · rw [if_neg (by omega), w64 (by omega) (by omega)] at hr
        obtain ⟨t, ht⟩ := ih.2 _ (i + 1) (by omega) ho hl hr
        obtain rfl : j = B.length := by omega
        refine ⟨t, ?_⟩
        rw [ht, List.drop_length]
        simp [pv]
    · simp only [spec_l2Mul.l0] at hr
      by_cases h : i < A.length
      · rw [if_pos (by omega)] at hr
        obtain ⟨t, ht⟩ := ih.1 _ i 0 h (by omega) ho hl hr
        refine ⟨t, ?_⟩
        rw [ht, pv_drop x A i h, List.drop_zero, Nat.add_zero, Int.pow_succ]
        generalize x ^ i = X
        generalize pv x (A.drop (i + 1)) = Z
        generalize rd A (i : Int) = a
        generalize pv x o = d
        generalize pv x B = f
        clear ht hr ih
        grind
      · rw [if_neg (by omega)] at hr
        obtain rfl := Option.some.inj hr
        obtain rfl : i = A.length := by omega
        refine ⟨0, ?_⟩
        rw [List.drop_length]
        simp [pv]
theorem pv_zeros (x : Int) (n : Nat) : pv x (List.replicate n 0) = 0 := by
  induction n with
  | zero => rfl
  | succ n ih => rw [List.replicate_succ, pv_cons, ih]; simp
theorem mul_hv (x : Int) (k : Nat) (A B r : List Int) (hA : A.all fOk = true) (hB : B.all fOk = true) (lA : A.length ≤ 1000) (lB : B.length ≤ 1000) (pA : 0 < A.length) (pB : 0 < B.length) (hr : spec_l2Mul.f k A B = some r) :
    hv x r = (hv x A * hv x B) % 31 := by
  unfold spec_l2Mul.f at hr
  rw [if_neg (by omega)] at hr
  have eb : ((B.length : Int) == 0) = false := by simp; intro h; rw [h] at pB; simp at pB
  rw [eb] at hr
  cases k with
  | zero => simp [spec_l2Mul.j0] at hr
  | succ k =>
    simp only [spec_l2Mul.j0] at hr
    rw [w64 (a := (A.length : Int) + B.length) (by omega) (by omega), w64 (by omega) (by omega), if_neg (by simp), if_pos (by omega), if_pos (by omega)] at hr
    have hl : (List.replicate ((A.length : Int) + B.length - 1).toNat (0 : Int)).length + 1 = A.length + B.length := by rw [List.length_replicate]; omega
    obtain ⟨t, ht⟩ := (mul_pv x A B hA hB lA lB r k).2 _ 0 (by omega) (zeros_all _) hl hr
    rw [pv_zeros, List.drop_zero, Int.pow_zero, Int.one_mul] at ht
    rw [hv_pv, hv_pv, hv_pv, ht]
    have e : (pv x A % 31 * (pv x B % 31)) % 31 = (pv x A * pv x B) % 31 := (Int.mul_emod _ _ _).symm
    rw [e]
    omega
end Go.Proofs.Ytplbobmllflniaa.Q
namespace Go.Proofs.Ytplbobmllflniaa.Q
open Go.RowKit Go.Proofs.Ytplbobmllflniaa.Ea Go.Proofs.YtplbobmllflniaaW.PrintWords Go.Proofs.YtplbobmllflniaaW.PrintLast Go.Proofs.YtplbobmllflniaaW.PrintMore
theorem make_val (K : Nat) (hK : 100 ≤ K) (kind : Int) (v : List Int) (u w : Int) (hk : kOk kind = true) (lv : (v.length : Int) = tLen kind) (hV : v.all fOk = true) (hu : fOk u = true) (hw : fOk w = true) :
    ∃ f g h : List Int, impl_through.f (u :: v) = some f ∧ impl_through.f (w :: decC 1 v) = some g ∧ impl_ProofMake.f K kind v u w = some (u, w, h, true) ∧ spec_l12Make.f K v u w = some (u, w, h) ∧ h.all fOk = true ∧ h.length = 2 * v.length + 1 ∧ (∀ x : Int, hv x h = (hv x f * hv x g) % 31) ∧
      f.length = v.length + 1 ∧ g.length = v.length + 1 ∧ f.all fOk = true ∧ g.all fOk = true := by
  obtain ⟨K, rfl⟩ : ∃ j, K = j + 1 := ⟨K - 1, by omega⟩
  have hn : v.length + 1 = 2 ∨ v.length + 1 = 4 ∨ v.length + 1 = 5 := by
    rcases tLen_cases hk with ⟨_, e⟩ | ⟨_, e⟩ | ⟨_, e⟩ <;> omega
  obtain ⟨f, g, h, a1, a2, a3, a4, a5, a6, a7, a8, a9, a10, a11⟩ := make_both K (by omega) v u w (v.length + 1) hn rfl hV hu hw
  obtain ⟨h', h1⟩ := mul_ex (v.length + 1) hn f g a8 a9
  have h1K : spec_l2Mul.f K f g = some h' := leO_le (fun k => spec_l2Mul.mono _ _ k) (by omega) h1
  obtain ⟨p1, p2, p3⟩ := mul_f K f g h' a10 a11 (by omega) (by omega) (by omega) (by omega) h1K
  obtain rfl : h = h' := by rw [a3] at p1; exact Option.some.inj p1
  have hM : spec_l12Make.f (K + 1) v u w = some (u, w, h) := spec_l12Make.mono _ _ _ K _ a4
  refine ⟨f, g, h, a1, a2, ?_, hM, a6, by omega, fun x => mul_hv x 90 f g h a10 a11 (by omega) (by omega) (by omega) (by omega) h1, a8, a9, a10, a11⟩
  have hvec : vecOk kind v = true := by unfold vecOk; rw [hk, hV, decide_eq_true lv]; rfl
  unfold impl_ProofMake.f impl_TypeLen.f
  rw [Option.bind_some, sized_f, Option.bind_some, hvec, if_pos rfl, implFieldOk_f, Option.bind_some, hu, if_pos rfl, implFieldOk_f, Option.bind_some, hw]
  exact a5
end Go.Proofs.Ytplbobmllflniaa.Q
namespace Go.Proofs.Ytplbobmllflniaa.Q
open Go.RowKit Go.Proofs.Ytplbobmllflniaa.Ea Go.Proofs.YtplbobmllflniaaW.PrintWords Go.Proofs.YtplbobmllflniaaW.PrintLast Go.Proofs.YtplbobmllflniaaW.PrintMore
theorem iMul (a b : Int) (ha : fOk a = true) (hb : fOk b = true) : impl_FieldMul.f a b = some ((a * b) % 31) := by
  unfold impl_FieldMul.f
  rw [implFieldOk_f, Option.bind_some, if_pos ha, implFieldOk_f, Option.bind_some, if_pos hb, elTimes_f _ _ ((fOk_iff _).1 ha) ((fOk_iff _).1 hb)]; rfl
end Go.Proofs.Ytplbobmllflniaa.Q
namespace Go.Proofs.Ytplbobmllflniaa.Q
open Go.RowKit Go.Proofs.Ytplbobmllflniaa.Ea Go.Proofs.YtplbobmllflniaaW.PrintWords Go.Proofs.YtplbobmllflniaaW.PrintLast Go.Proofs.YtplbobmllflniaaW.PrintMore
def tck (w : Int) (v : List Int) : Nat → Int | 0 => 0 | j + 1 => (tck w v j + ((pw w j * rd v j) % 31 * ((rd v j - 1) % 31)) % 31) % 31
theorem tck_bd (w : Int) (v : List Int) (j : Nat) : 0 ≤ tck w v j ∧ tck w v j ≤ 30 := by
  cases j with
  | zero => show (0 : Int) ≤ 0 ∧ (0 : Int) ≤ 30; omega
  | succ j => rw [tck]; omega
theorem typeCheck_loop (kind w : Int) (hw : 0 ≤ w ∧ w ≤ 30) (v : List Int) (hv' : v.all fOk = true) (lv : v.length ≤ 4) (d : Nat) : ∀ (k j : Nat), j + d = v.length → d + 20 < k → impl_TypeCheck.l0 k kind v w (tck w v j) v (v.length : Int) (j : Int) = some (hotv kind w 1 v (tck w v v.length)) := by
  induction d with
  | zero =>
    intro k j hj hk
    obtain ⟨k, rfl⟩ : ∃ m, k = m + 1 := ⟨k - 1, by omega⟩
    obtain rfl : j = v.length := by omega
    simp only [impl_TypeCheck.l0]
    rw [if_neg (by omega)]
    unfold impl_oneHot.f hotv
    rw [Option.bind_some]
    by_cases h : kind = 2
    · have hp := pw_bd w v.length
      have hs := tck_bd w v v.length
      rw [if_pos (by simp [h]), power_f k w hw _ (by omega) (by omega), Option.bind_some, total_f k v hv' (by omega) (by omega), Option.bind_some, elMinus_f _ _ (totv_bd v) (by omega), Option.bind_some, elTimes_f _ _ hp (by omega), Option.bind_some, elPlus_f _ _ hs (by omega), if_pos h, Option.bind_some]
      congr 1
      generalize pw w v.length * ((totv v - 1) % 31) = z
      omega
    · rw [if_neg (by simp [h]), if_neg h]
  | succ d ih =>
    intro k j hj hk
    obtain ⟨k, rfl⟩ : ∃ m, k = m + 1 := ⟨k - 1, by omega⟩
    have h1 : j < v.length := by omega
    have hx := (fOk_iff _).1 (rd_nat v j h1 ▸ all_get hv' j h1)
    simp only [impl_TypeCheck.l0]
    rw [if_pos (by omega), if_pos (by omega), if_pos (by omega), power_f k w hw j (by omega) (by omega), Option.bind_some, elTimes_f _ _ (pw_bd w j) hx, Option.bind_some, elMinus_f _ _ hx (by omega), Option.bind_some, elTimes_f _ _ (by omega) (by omega), Option.bind_some, elPlus_f _ _ (tck_bd w v j) (by omega), Option.bind_some, w64 (by omega) (by omega)]
    exact ih k (j + 1) (by omega) (by omega)
theorem typeCheck_f (K : Nat) (hK : 40 ≤ K) (kind w : Int) (v : List Int) (hk : kOk kind = true) (lv : (v.length : Int) = tLen kind) (hV : v.all fOk = true) (hw : fOk w = true) : impl_TypeCheck.f K kind v w = some (hotv kind w 1 v (tck w v v.length)) := by
  have ht := tLen_le kind
  have hvec : vecOk kind v = true := by unfold vecOk; rw [hk, hV, decide_eq_true lv]; rfl
  obtain ⟨K, rfl⟩ : ∃ j, K = j + 1 := ⟨K - 1, by omega⟩
  unfold impl_TypeCheck.f impl_TypeLen.f
  rw [Option.bind_some, sized_f, Option.bind_some, hvec, if_pos rfl, implFieldOk_f, Option.bind_some, hw]
  simp only [impl_TypeCheck.j0]
  rw [if_neg (by simp)]
  exact typeCheck_loop kind w ((fOk_iff _).1 hw) v hV (by omega) v.length K 0 (by omega) (by omega)
theorem chk_tck (w : Int) (v h : List Int) (hh : ∀ j : Nat, j < v.length → hv ((j : Int) + 1) h = (rd v j * ((rd v j - 1) % 31)) % 31) : ∀ j : Nat, j ≤ v.length → chk w h j = tck w v j := by
  intro j
  induction j with
  | zero => intro _; rfl
  | succ j ih =>
    intro hj
    rw [chk, tck, ih (by omega), hh j (by omega)]
    generalize rd v j = x
    generalize pw w j = p
    generalize hy : (x - 1) % 31 = y
    have e1 : (p * x) % 31 * y = x * y * p - 31 * (p * x / 31 * y) := by
      rw [emod_mul, Int.mul_comm p x, Int.mul_assoc, Int.mul_assoc, Int.mul_comm p y]
    have e2 : p * ((x * y) % 31) = x * y * p - 31 * (x * y / 31 * p) := by rw [Int.mul_comm p, emod_mul]
    rw [e1, e2]
    omega
end Go.Proofs.Ytplbobmllflniaa.Q
namespace Go.Proofs.Ytplbobmllflniaa.Q
open Go.RowKit Go.Proofs.Ytplbobmllflniaa.Ea Go.Proofs.YtplbobmllflniaaW.PrintWords Go.Proofs.YtplbobmllflniaaW.PrintLast Go.Proofs.YtplbobmllflniaaW.PrintMore
theorem throughVal2 (a b : Int) (ha : 0 ≤ a ∧ a ≤ 30) (hb : 0 ≤ b ∧ b ≤ 30) : ∃ f, impl_through.f [a, b] = some f ∧ ∀ i : Nat, i < 2 → hv (i : Int) f = rd [a, b] (i : Int) := by
  refine ⟨_, through_map ⟨a, b, 0, 0, 0⟩ _ 2 rfl (by omega) (by omega) (fill2 a b ha hb), ?_⟩
  intro i hi
  rw [hv_map]
  rcases (show i = 0 ∨ i = 1 by omega) with rfl | rfl
  · rw [show hvL ((0 : Nat) : Int) (thrL 2) = ⟨1, 0, 0, 0, 0⟩ by decide +kernel]
    show LF.ev ⟨a, b, 0, 0, 0⟩ _ = a
    simp only [LF.ev, LF.raw]; omega
  · rw [show hvL ((1 : Nat) : Int) (thrL 2) = ⟨0, 1, 0, 0, 0⟩ by decide +kernel]
    show LF.ev ⟨a, b, 0, 0, 0⟩ _ = b
    simp only [LF.ev, LF.raw]; omega
theorem throughVal4 (a b c d : Int) (ha : 0 ≤ a ∧ a ≤ 30) (hb : 0 ≤ b ∧ b ≤ 30) (hc : 0 ≤ c ∧ c ≤ 30) (hd : 0 ≤ d ∧ d ≤ 30) : ∃ f, impl_through.f [a, b, c, d] = some f ∧ ∀ i : Nat, i < 4 → hv (i : Int) f = rd [a, b, c, d] (i : Int) := by
  refine ⟨_, through_map ⟨a, b, c, d, 0⟩ _ 4 rfl (by omega) (by omega) (fill4 a b c d ha hb hc hd), ?_⟩
  intro i hi
  rw [hv_map]
  rcases (show i = 0 ∨ i = 1 ∨ i = 2 ∨ i = 3 by omega) with rfl | rfl | rfl | rfl
  · rw [show hvL ((0 : Nat) : Int) (thrL 4) = ⟨1, 0, 0, 0, 0⟩ by decide +kernel]
    show LF.ev ⟨a, b, c, d, 0⟩ _ = a
    simp only [LF.ev, LF.raw]; omega
  · rw [show hvL ((1 : Nat) : Int) (thrL 4) = ⟨0, 1, 0, 0, 0⟩ by decide +kernel]
    show LF.ev ⟨a, b, c, d, 0⟩ _ = b
    simp only [LF.ev, LF.raw]; omega
  · rw [show hvL ((2 : Nat) : Int) (thrL 4) = ⟨0, 0, 1, 0, 0⟩ by decide +kernel]
    show LF.ev ⟨a, b, c, d, 0⟩ _ = c
    simp only [LF.ev, LF.raw]; omega
  · rw [show hvL ((3 : Nat) : Int) (thrL 4) = ⟨0, 0, 0, 1, 0⟩ by decide +kernel]
    show LF.ev ⟨a, b, c, d, 0⟩ _ = d
    simp only [LF.ev, LF.raw]; omega
theorem throughVal5 (a b c d e : Int) (ha : 0 ≤ a ∧ a ≤ 30) (hb : 0 ≤ b ∧ b ≤ 30) (hc : 0 ≤ c ∧ c ≤ 30) (hd : 0 ≤ d ∧ d ≤ 30) (he : 0 ≤ e ∧ e ≤ 30) : ∃ f, impl_through.f [a, b, c, d, e] = some f ∧ ∀ i : Nat, i < 5 → hv (i : Int) f = rd [a, b, c, d, e] (i : Int) := by
  refine ⟨_, through_map ⟨a, b, c, d, e⟩ _ 5 rfl (by omega) (by omega) (fill5 a b c d e ha hb hc hd he), ?_⟩
  intro i hi
  rw [hv_map]
  rcases (show i = 0 ∨ i = 1 ∨ i = 2 ∨ i = 3 ∨ i = 4 by omega) with rfl | rfl | rfl | rfl | rfl
  · rw [show hvL ((0 : Nat) : Int) (thrL 5) = ⟨1, 0, 0, 0, 0⟩ by decide +kernel]
    show LF.ev ⟨a, b, c, d, e⟩ _ = a
    simp only [LF.ev, LF.raw]; omega
  · rw [show hvL ((1 : Nat) : Int) (thrL 5) = ⟨0, 1, 0, 0, 0⟩ by decide +kernel]
    show LF.ev ⟨a, b, c, d, e⟩ _ = b
    simp only [LF.ev, LF.raw]; omega
  · rw [show hvL ((2 : Nat) : Int) (thrL 5) = ⟨0, 0, 1, 0, 0⟩ by decide +kernel]
    show LF.ev ⟨a, b, c, d, e⟩ _ = c
    simp only [LF.ev, LF.raw]; omega
  · rw [show hvL ((3 : Nat) : Int) (thrL 5) = ⟨0, 0, 0, 1, 0⟩ by decide +kernel]
    show LF.ev ⟨a, b, c, d, e⟩ _ = d
    simp only [LF.ev, LF.raw]; omega
  · rw [show hvL ((4 : Nat) : Int) (thrL 5) = ⟨0, 0, 0, 0, 1⟩ by decide +kernel]
    show LF.ev ⟨a, b, c, d, e⟩ _ = e
    simp only [LF.ev, LF.raw]; omega
theorem through_val (n : Nat) (hn : n = 2 ∨ n = 4 ∨ n = 5) (A : List Int) (lA : A.length = n) (hA : A.all fOk = true) (f : List Int) (hf : impl_through.f A = some f) : ∀ i : Nat, i < n → hv (i : Int) f = rd A (i : Int) := by
  rcases hn with rfl | rfl | rfl
  · obtain ⟨a, b, rfl⟩ := list2 A lA
    simp only [List.all_cons, List.all_nil, Bool.and_true, Bool.and_eq_true, fOk_iff] at hA
    obtain ⟨g, h1, h2⟩ := throughVal2 a b hA.1 hA.2
    rw [h1] at hf; obtain rfl := Option.some.inj hf; exact h2
  · obtain ⟨a, b, c, d, rfl⟩ := list4' A lA
    simp only [List.all_cons, List.all_nil, Bool.and_true, Bool.and_eq_true, fOk_iff] at hA
    obtain ⟨g, h1, h2⟩ := throughVal4 a b c d hA.1 hA.2.1 hA.2.2.1 hA.2.2.2
    rw [h1] at hf; obtain rfl := Option.some.inj hf; exact h2
  · obtain ⟨a, b, c, d, e, rfl⟩ := list5 A lA
    simp only [List.all_cons, List.all_nil, Bool.and_true, Bool.and_eq_true, fOk_iff] at hA
    obtain ⟨g, h1, h2⟩ := throughVal5 a b c d e hA.1 hA.2.1 hA.2.2.1 hA.2.2.2.1 hA.2.2.2.2
    rw [h1] at hf; obtain rfl := Option.some.inj hf; exact h2
end Go.Proofs.Ytplbobmllflniaa.Q
