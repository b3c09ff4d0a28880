import Derived.KernelRfl
import Derived.Test.YtplbobmllflniaaEi5
import Derived.Test.YtplbobmllflniaaQBaseEi
set_option linter.unusedVariables false
set_option linter.unusedSimpArgs false
namespace Go.Proofs.Ytplbobmllflniaa.Q
open Go.RowKit Go.Proofs.Ytplbobmllflniaa.Ei Go.Proofs.YtplbobmllflniaaW.PrintWords Go.Proofs.YtplbobmllflniaaW.PrintLast Go.Proofs.YtplbobmllflniaaW.PrintMore
structure LF where
  a : Int
  b : Int
  c : Int
  d : Int
  e : Int
deriving DecidableEq
def LF.zero : LF := ⟨0, 0, 0, 0, 0⟩
def LF.red (f : LF) : LF := ⟨f.a % 31, f.b % 31, f.c % 31, f.d % 31, f.e % 31⟩
def LF.add (f g : LF) : LF := LF.red ⟨f.a + g.a, f.b + g.b, f.c + g.c, f.d + g.d, f.e + g.e⟩
def LF.sub (f g : LF) : LF := LF.red ⟨f.a - g.a, f.b - g.b, f.c - g.c, f.d - g.d, f.e - g.e⟩
def LF.mul (f : LF) (k : Int) : LF := LF.red ⟨f.a * k, f.b * k, f.c * k, f.d * k, f.e * k⟩
def LF.raw (x f : LF) : Int := f.a * x.a + f.b * x.b + f.c * x.c + f.d * x.d + f.e * x.e
def LF.ev (x f : LF) : Int := LF.raw x f % 31
theorem emod_mul (c a : Int) : (c % 31) * a = c * a - 31 * ((c / 31) * a) := by rw [Int.emod_def, Int.sub_mul, Int.mul_assoc]
theorem LF.ev_red (x f : LF) : LF.ev x (LF.red f) = LF.ev x f := by
  simp only [LF.ev, LF.raw, LF.red, emod_mul]
  omega
theorem LF.ev_add (x f g : LF) : LF.ev x (LF.add f g) = (LF.ev x f + LF.ev x g) % 31 := by
  unfold LF.add; rw [LF.ev_red]
  simp only [LF.ev, LF.raw, Int.add_mul]
  omega
theorem LF.ev_sub (x f g : LF) : LF.ev x (LF.sub f g) = (LF.ev x f - LF.ev x g) % 31 := by
  unfold LF.sub; rw [LF.ev_red]
  simp only [LF.ev, LF.raw, Int.sub_mul]
  omega
theorem LF.raw_mul (x f : LF) (k : Int) : LF.raw x ⟨f.a * k, f.b * k, f.c * k, f.d * k, f.e * k⟩ = LF.raw x f * k := by
  simp only [LF.raw, Int.add_mul]
  rw [Int.mul_right_comm f.a k, Int.mul_right_comm f.b k, Int.mul_right_comm f.c k, Int.mul_right_comm f.d k, Int.mul_right_comm f.e k]
theorem LF.ev_mul (x f : LF) (k : Int) : LF.ev x (LF.mul f k) = (LF.ev x f * k) % 31 := by
  unfold LF.mul; rw [LF.ev_red]
  unfold LF.ev
  rw [LF.raw_mul, emod_mul]
  omega
theorem LF.ev_bd (x f : LF) : 0 ≤ LF.ev x f ∧ LF.ev x f ≤ 30 := by unfold LF.ev; omega
theorem LF.ev_zero (x : LF) : LF.ev x LF.zero = 0 := by simp [LF.ev, LF.raw, LF.zero]
theorem tmod31' (n : Int) : -30 ≤ Int.tmod n 31 ∧ Int.tmod n 31 ≤ 30 ∧ Int.tmod n 31 % 31 = n % 31 := by
  have h := @Int.tmod_eq_emod n 31
  split at h <;> simp at h <;> omega
theorem elemOf_f (n : Int) : impl_elementOf.f n = some (n % 31) := by
  unfold impl_elementOf.f
  have h := tmod31' n
  rw [w64 (by omega) (by omega), Int.tmod_eq_emod_of_nonneg (by omega)]
  congr 1; omega
theorem eOf_v (n : Int) : eOf n = n % 31 := by unfold eOf; rw [elemOf_f]; rfl
theorem ePlus_v (a b : Int) (ha : 0 ≤ a ∧ a ≤ 30) (hb : 0 ≤ b ∧ b ≤ 30) : ePlus a b = (a + b) % 31 := by
  unfold ePlus impl_element_plus.f
  rw [w64 (by omega) (by omega), elemOf_f]; rfl
theorem eMinus_v (a b : Int) (ha : 0 ≤ a ∧ a ≤ 30) (hb : 0 ≤ b ∧ b ≤ 30) : eMinus a b = (a - b) % 31 := by
  unfold eMinus impl_element_minus.f
  rw [w64 (by omega) (by omega), elemOf_f]; rfl
theorem mul_bd' {a b : Int} (ha : 0 ≤ a ∧ a ≤ 30) (hb : 0 ≤ b ∧ b ≤ 30) : 0 ≤ a * b ∧ a * b ≤ 900 := by
  have h1 : 0 ≤ a * b := Int.mul_nonneg ha.1 hb.1
  have h2 : a * b ≤ 30 * 30 := Int.mul_le_mul ha.2 hb.2 hb.1 (by omega)
  omega
theorem eTimes_v (a b : Int) (ha : 0 ≤ a ∧ a ≤ 30) (hb : 0 ≤ b ∧ b ≤ 30) : eTimes a b = (a * b) % 31 := by
  have := mul_bd' ha hb
  unfold eTimes impl_element_times.f
  rw [w64 (by omega) (by omega), elemOf_f]; rfl
def fAt (F : List LF) (i : Nat) : LF := F.getD i LF.zero
theorem rd_map (x : LF) (F : List LF) (i : Nat) : rd (F.map (LF.ev x)) (i : Int) = LF.ev x (fAt F i) := by
  unfold rd fAt
  simp only [Int.toNat_natCast, List.getD_eq_getElem?_getD, List.getElem?_map]
  cases F[i]? <;> simp [LF.ev_zero]
def dInL (s : Nat) : Nat → List LF → List LF
  | 0, D => D
  | m + 1, D => dInL s m (D.set (s + m) (LF.mul (LF.sub (fAt D (s + m)) (fAt D (s + m - 1))) (eInv s)))
def dOutL (n : Nat) : Nat → List LF → List LF
  | 0, D => D
  | q + 1, D => dOutL n q (dInL (n - (q + 1)) (q + 1) D)
def oStepL (i m : Nat) (o : List LF) : LF := if 0 < m then LF.add (LF.mul (fAt o m) ((-(i : Int)) % 31)) (fAt o (m - 1)) else LF.mul (fAt o m) ((-(i : Int)) % 31)
def oInL (i : Nat) : Nat → List LF → List LF
  | 0, o => o
  | m + 1, o => oInL i m (o.set m (oStepL i m o))
def oOutL (D : List LF) (n : Nat) : Nat → List LF → List LF
  | 0, o => o
  | m + 1, o => oOutL D n m ((oInL m n o).set 0 (LF.add (fAt (oInL m n o) 0) (fAt D m)))
theorem eInv_bd (s : Nat) (h1 : 1 ≤ s) (h2 : s ≤ 8) : 0 ≤ eInv (s : Int) ∧ eInv (s : Int) ≤ 30 := by
  rcases (show s = 1 ∨ s = 2 ∨ s = 3 ∨ s = 4 ∨ s = 5 ∨ s = 6 ∨ s = 7 ∨ s = 8 by omega) with rfl | rfl | rfl | rfl | rfl | rfl | rfl | rfl <;> decide +kernel
theorem dIn_map (x : LF) (s : Nat) (h1 : 1 ≤ s) (h2 : s ≤ 8) (m : Nat) : ∀ F : List LF, dIn s m (F.map (LF.ev x)) = (dInL s m F).map (LF.ev x) := by
  induction m with
  | zero => intro F; rfl
  | succ m ih =>
    intro F
    unfold dIn dInL
    rw [← ih, List.map_set, LF.ev_mul, LF.ev_sub]
    have e : ((s + m : Nat) : Int) - 1 = ((s + m - 1 : Nat) : Int) := by omega
    rw [rd_map, e, rd_map, eMinus_v _ _ (LF.ev_bd _ _) (LF.ev_bd _ _), eTimes_v _ _ (by omega) (eInv_bd s h1 h2)]
theorem dOut_map (x : LF) (n : Nat) (hn : n ≤ 9) (q : Nat) : ∀ (F : List LF), q + 1 ≤ n → dOut n q (F.map (LF.ev x)) = (dOutL n q F).map (LF.ev x) := by
  induction q with
  | zero => intro F _; rfl
  | succ q ih =>
    intro F hq
    unfold dOut dOutL
    rw [dIn_map x _ (by omega) (by omega), ih _ (by omega)]
theorem oStep_map (x : LF) (i m : Nat) (hi : i ≤ 1000) (F : List LF) : oStep (i : Int) m (F.map (LF.ev x)) = LF.ev x (oStepL i m F) := by
  unfold oStep oStepL
  rw [w64 (by omega) (by omega), eOf_v, rd_map]
  by_cases h : 0 < m
  · rw [if_pos h, if_pos h, LF.ev_add, LF.ev_mul, show (m : Int) - 1 = ((m - 1 : Nat) : Int) by omega, rd_map, eTimes_v _ _ (LF.ev_bd _ _) (by omega), ePlus_v _ _ (by omega) (LF.ev_bd _ _)]
  · rw [if_neg h, if_neg h, LF.ev_mul, eTimes_v _ _ (LF.ev_bd _ _) (by omega)]
theorem oIn_map (x : LF) (i : Nat) (hi : i ≤ 1000) (m : Nat) : ∀ F : List LF, oIn (i : Int) m (F.map (LF.ev x)) = (oInL i m F).map (LF.ev x) := by
  induction m with
  | zero => intro F; rfl
  | succ m ih =>
    intro F
    unfold oIn oInL
    rw [← ih, List.map_set, oStep_map x i m hi]
theorem oOut_map (x : LF) (D : List LF) (n : Nat) (m : Nat) (hm : m ≤ 1000) : ∀ F : List LF, oOut (D.map (LF.ev x)) n m (F.map (LF.ev x)) = (oOutL D n m F).map (LF.ev x) := by
  induction m with
  | zero => intro F; rfl
  | succ m ih =>
    intro F
    unfold oOut oOutL
    rw [oIn_map x m (by omega), ← ih (by omega), List.map_set, LF.ev_add, rd_map, show rd ((oInL m n F).map (LF.ev x)) 0 = LF.ev x (fAt (oInL m n F) 0) from rd_map x _ 0, ePlus_v _ _ (LF.ev_bd _ _) (LF.ev_bd _ _)]
def LF.vars : List LF := [⟨1, 0, 0, 0, 0⟩, ⟨0, 1, 0, 0, 0⟩, ⟨0, 0, 1, 0, 0⟩, ⟨0, 0, 0, 1, 0⟩, ⟨0, 0, 0, 0, 1⟩]
def startL (n : Nat) : List LF := (LF.vars.take n) ++ List.replicate (9 - n) LF.zero
def thrL (n : Nat) : List LF := oOutL (dOutL n (n - 1) (startL n)) n n (List.replicate n LF.zero)
theorem through_map (x : LF) (l : List Int) (n : Nat) (hl : l.length = n) (h1 : 1 ≤ n) (h9 : n ≤ 9) (hf : fillD l n = (startL n).map (LF.ev x)) : impl_through.f l = some ((thrL n).map (LF.ev x)) := by
  unfold impl_through.f diffs thrL
  rw [hl, if_pos ⟨h1, h9⟩, hf, dOut_map x n h9 _ _ (by omega), ← oOut_map x _ n n (by omega), List.map_replicate, LF.ev_zero]
end Go.Proofs.Ytplbobmllflniaa.Q
