import Derived.KernelRfl
import Derived.Test.YtahbooeioigbgaaDoorDa10
import Derived.Test.YtahbooeioigbgaaDoorDa14
import Derived.Test.YtahbooeioigbgaaDoorDa2
import Derived.Test.YtahbooeioigbgaaDoorDa3
import Derived.Test.YtahbooeioigbgaaDoorDa4
import Derived.Test.YtahbooeioigbgaaDoorDa5
import Derived.Test.YtahbooeioigbgaaDoorDa6
import Derived.Test.YtahbooeioigbgaaDoorDa7
import Derived.Test.YtahbooeioigbgaaDoorDa8
import Derived.Test.YtahbooeioigbgaaDoorDa9
import Derived.Test.YtahbooeioigbgaaDoorQGaDa
import Derived.Test.YtahbooeioigbgaaDoorQGsDa
set_option linter.unusedVariables false
set_option linter.unusedSimpArgs false
namespace Go.Proofs.YtahbooeioigbgaaDoor.Q
open Go.RowKit Go.Proofs.YtahbooeioigbgaaDoor.Da Go.Proofs.YtahbooeioigbgaaDoorW.PrintWords Go.Proofs.YtahbooeioigbgaaDoorW.PrintLast Go.Proofs.YtahbooeioigbgaaDoorW.PrintMore
structure LF where
  a : Int
  b : Int
  c : Int
  d : Int
  e : Int
deriving DecidableEq
def LF.zero : LF := ⟨0, 0, 0, 0, 0⟩
def LF.red (f : LF) : LF := ⟨f.a % 31, f.b % 31, f.c % 31, f.d % 31, f.e % 31⟩
def LF.add (f g : LF) : LF := LF.red ⟨f.a + g.a, f.b + g.b, f.c + g.c, f.d + g.d, f.e + g.e⟩
def LF.sub (f g : LF) : LF := LF.red ⟨f.a - g.a, f.b - g.b, f.c - g.c, f.d - g.d, f.e - g.e⟩
def LF.mul (f : LF) (k : Int) : LF := LF.red ⟨f.a * k, f.b * k, f.c * k, f.d * k, f.e * k⟩
def LF.raw (x f : LF) : Int := f.a * x.a + f.b * x.b + f.c * x.c + f.d * x.d + f.e * x.e
def LF.ev (x f : LF) : Int := LF.raw x f % 31
theorem emod_mul (c a : Int) : (c % 31) * a = c * a - 31 * ((c / 31) * a) := by rw [Int.emod_def, Int.sub_mul, Int.mul_assoc]
theorem LF.ev_red (x f : LF) : LF.ev x (LF.red f) = LF.ev x f := by
  simp only [LF.ev, LF.raw, LF.red, emod_mul]
  omega
theorem LF.ev_add (x f g : LF) : LF.ev x (LF.add f g) = (LF.ev x f + LF.ev x g) % 31 := by
  unfold LF.add; rw [LF.ev_red]
  simp only [LF.ev, LF.raw, Int.add_mul]
  omega
theorem LF.ev_sub (x f g : LF) : LF.ev x (LF.sub f g) = (LF.ev x f - LF.ev x g) % 31 := by
  unfold LF.sub; rw [LF.ev_red]
  simp only [LF.ev, LF.raw, Int.sub_mul]
  omega
theorem LF.raw_mul (x f : LF) (k : Int) : LF.raw x ⟨f.a * k, f.b * k, f.c * k, f.d * k, f.e * k⟩ = LF.raw x f * k := by
  simp only [LF.raw, Int.add_mul]
  rw [Int.mul_right_comm f.a k, Int.mul_right_comm f.b k, Int.mul_right_comm f.c k, Int.mul_right_comm f.d k, Int.mul_right_comm f.e k]
theorem LF.ev_mul (x f : LF) (k : Int) : LF.ev x (LF.mul f k) = (LF.ev x f * k) % 31 := by
  unfold LF.mul; rw [LF.ev_red]
  unfold LF.ev
  rw [LF.raw_mul, emod_mul]
  omega
theorem LF.ev_bd (x f : LF) : 0 ≤ LF.ev x f ∧ LF.ev x f ≤ 30 := by unfold LF.ev; omega
theorem LF.ev_zero (x : LF) : LF.ev x LF.zero = 0 := by simp [LF.ev, LF.raw, LF.zero]
theorem tmod31' (n : Int) : -30 ≤ Int.tmod n 31 ∧ Int.tmod n 31 ≤ 30 ∧ Int.tmod n 31 % 31 = n % 31 := by
  have h := @Int.tmod_eq_emod n 31
  split at h <;> simp at h <;> omega
theorem elemOf_f (n : Int) : impl_elementOf.f n = some (n % 31) := by
  unfold impl_elementOf.f
  have h := tmod31' n
  rw [w64 (by omega) (by omega), Int.tmod_eq_emod_of_nonneg (by omega)]
  congr 1; omega
theorem eOf_v (n : Int) : eOf n = n % 31 := by unfold eOf; rw [elemOf_f]; rfl
theorem ePlus_v (a b : Int) (ha : 0 ≤ a ∧ a ≤ 30) (hb : 0 ≤ b ∧ b ≤ 30) : ePlus a b = (a + b) % 31 := by
  unfold ePlus impl_element_plus.f
  rw [w64 (by omega) (by omega), elemOf_f]; rfl
theorem eMinus_v (a b : Int) (ha : 0 ≤ a ∧ a ≤ 30) (hb : 0 ≤ b ∧ b ≤ 30) : eMinus a b = (a - b) % 31 := by
  unfold eMinus impl_element_minus.f
  rw [w64 (by omega) (by omega), elemOf_f]; rfl
theorem mul_bd' {a b : Int} (ha : 0 ≤ a ∧ a ≤ 30) (hb : 0 ≤ b ∧ b ≤ 30) : 0 ≤ a * b ∧ a * b ≤ 900 := by
  have h1 : 0 ≤ a * b := Int.mul_nonneg ha.1 hb.1
  have h2 : a * b ≤ 30 * 30 := Int.mul_le_mul ha.2 hb.2 hb.1 (by omega)
  omega
theorem eTimes_v (a b : Int) (ha : 0 ≤ a ∧ a ≤ 30) (hb : 0 ≤ b ∧ b ≤ 30) : eTimes a b = (a * b) % 31 := by
  have := mul_bd' ha hb
  unfold eTimes impl_element_times.f
  rw [w64 (by omega) (by omega), elemOf_f]; rfl
def fAt (F : List LF) (i : Nat) : LF := F.getD i LF.zero
theorem rd_map (x : LF) (F : List LF) (i : Nat) : rd (F.map (LF.ev x)) (i : Int) = LF.ev x (fAt F i) := by
  unfold rd fAt
  simp only [Int.toNat_natCast, List.getD_eq_getElem?_getD, List.getElem?_map]
  cases F[i]? <;> simp [LF.ev_zero]
def dInL (s : Nat) : Nat → List LF → List LF
  | 0, D => D
  | m + 1, D => dInL s m (D.set (s + m) (LF.mul (LF.sub (fAt D (s + m)) (fAt D (s + m - 1))) (eInv s)))
def dOutL (n : Nat) : Nat → List LF → List LF
  | 0, D => D
  | q + 1, D => dOutL n q (dInL (n - (q + 1)) (q + 1) D)
def oStepL (i m : Nat) (o : List LF) : LF := if 0 < m then LF.add (LF.mul (fAt o m) ((-(i : Int)) % 31)) (fAt o (m - 1)) else LF.mul (fAt o m) ((-(i : Int)) % 31)
def oInL (i : Nat) : Nat → List LF → List LF
  | 0, o => o
  | m + 1, o => oInL i m (o.set m (oStepL i m o))
def oOutL (D : List LF) (n : Nat) : Nat → List LF → List LF
  | 0, o => o
  | m + 1, o => oOutL D n m ((oInL m n o).set 0 (LF.add (fAt (oInL m n o) 0) (fAt D m)))
theorem eInv_bd (s : Nat) (h1 : 1 ≤ s) (h2 : s ≤ 8) : 0 ≤ eInv (s : Int) ∧ eInv (s : Int) ≤ 30 := by
  rcases (show s = 1 ∨ s = 2 ∨ s = 3 ∨ s = 4 ∨ s = 5 ∨ s = 6 ∨ s = 7 ∨ s = 8 by omega) with rfl | rfl | rfl | rfl | rfl | rfl | rfl | rfl <;> decide +kernel
theorem dIn_map (x : LF) (s : Nat) (h1 : 1 ≤ s) (h2 : s ≤ 8) (m : Nat) : ∀ F : List LF, dIn s m (F.map (LF.ev x)) = (dInL s m F).map (LF.ev x) := by
  induction m with
  | zero => intro F; rfl
  | succ m ih =>
    intro F
    unfold dIn dInL
    rw [← ih, List.map_set, LF.ev_mul, LF.ev_sub]
    have e : ((s + m : Nat) : Int) - 1 = ((s + m - 1 : Nat) : Int) := by omega
    rw [rd_map, e, rd_map, eMinus_v _ _ (LF.ev_bd _ _) (LF.ev_bd _ _), eTimes_v _ _ (by omega) (eInv_bd s h1 h2)]
theorem dOut_map (x : LF) (n : Nat) (hn : n ≤ 9) (q : Nat) : ∀ (F : List LF), q + 1 ≤ n → dOut n q (F.map (LF.ev x)) = (dOutL n q F).map (LF.ev x) := by
  induction q with
  | zero => intro F _; rfl
  | succ q ih =>
    intro F hq
    unfold dOut dOutL
    rw [dIn_map x _ (by omega) (by omega), ih _ (by omega)]
theorem oStep_map (x : LF) (i m : Nat) (hi : i ≤ 1000) (F : List LF) : oStep (i : Int) m (F.map (LF.ev x)) = LF.ev x (oStepL i m F) := by
  unfold oStep oStepL
  rw [w64 (by omega) (by omega), eOf_v, rd_map]
  by_cases h : 0 < m
  · rw [if_pos h, if_pos h, LF.ev_add, LF.ev_mul, show (m : Int) - 1 = ((m - 1 : Nat) : Int) by omega, rd_map, eTimes_v _ _ (LF.ev_bd _ _) (by omega), ePlus_v _ _ (by omega) (LF.ev_bd _ _)]
  · rw [if_neg h, if_neg h, LF.ev_mul, eTimes_v _ _ (LF.ev_bd _ _) (by omega)]
theorem oIn_map (x : LF) (i : Nat) (hi : i ≤ 1000) (m : Nat) : ∀ F : List LF, oIn (i : Int) m (F.map (LF.ev x)) = (oInL i m F).map (LF.ev x) := by
  induction m with
  | zero => intro F; rfl
  | succ m ih =>
    intro F
    unfold oIn oInL
    rw [← ih, List.map_set, oStep_map x i m hi]
theorem oOut_map (x : LF) (D : List LF) (n : Nat) (m : Nat) (hm : m ≤ 1000) : ∀ F : List LF, oOut (D.map (LF.ev x)) n m (F.map (LF.ev x)) = (oOutL D n m F).map (LF.ev x) := by
  induction m with
  | zero => intro F; rfl
  | succ m ih =>
    intro F
    unfold oOut oOutL
    rw [oIn_map x m (by omega), ← ih (by omega), List.map_set, LF.ev_add, rd_map, show rd ((oInL m n F).map (LF.ev x)) 0 = LF.ev x (fAt (oInL m n F) 0) from rd_map x _ 0, ePlus_v _ _ (LF.ev_bd _ _) (LF.ev_bd _ _)]
def LF.vars : List LF := [⟨1, 0, 0, 0, 0⟩, ⟨0, 1, 0, 0, 0⟩, ⟨0, 0, 1, 0, 0⟩, ⟨0, 0, 0, 1, 0⟩, ⟨0, 0, 0, 0, 1⟩]
def startL (n : Nat) : List LF := (LF.vars.take n) ++ List.replicate (9 - n) LF.zero
def thrL (n : Nat) : List LF := oOutL (dOutL n (n - 1) (startL n)) n n (List.replicate n LF.zero)
theorem through_map (x : LF) (l : List Int) (n : Nat) (hl : l.length = n) (h1 : 1 ≤ n) (h9 : n ≤ 9) (hf : fillD l n = (startL n).map (LF.ev x)) : impl_through.f l = some ((thrL n).map (LF.ev x)) := by
  unfold impl_through.f diffs thrL
  rw [hl, if_pos ⟨h1, h9⟩, hf, dOut_map x n h9 _ _ (by omega), ← oOut_map x _ n n (by omega), List.map_replicate, LF.ev_zero]
def lin (o v c : Int) : Int := Int.tmod (wrap64 (o + wrap64 (v * c))) 31
theorem lin_v (y v c : Int) (hV : 0 ≤ v ∧ v ≤ 30) (hc : 0 ≤ c ∧ c ≤ 30) : lin (y % 31) v c = (y + v * c) % 31 := by
  have := mul_bd' hV hc
  unfold lin
  rw [w64 (a := v * c) (by omega) (by omega), w64 (by omega) (by omega), Int.tmod_eq_emod_of_nonneg (by omega)]
  omega
theorem thrL_2 : thrL 2 = [⟨1, 0, 0, 0, 0⟩, ⟨30, 1, 0, 0, 0⟩] := by decide +kernel
theorem fill2 (a b : Int) (ha : 0 ≤ a ∧ a ≤ 30) (hb : 0 ≤ b ∧ b ≤ 30) : fillD [a, b] 2 = (startL 2).map (LF.ev ⟨a, b, 0, 0, 0⟩) := by
  have e : fillD [a, b] 2 = [a, b, 0, 0, 0, 0, 0, 0, 0] := by kernel_rfl
  have e2 : startL 2 = [⟨1, 0, 0, 0, 0⟩, ⟨0, 1, 0, 0, 0⟩, ⟨0, 0, 0, 0, 0⟩, ⟨0, 0, 0, 0, 0⟩, ⟨0, 0, 0, 0, 0⟩, ⟨0, 0, 0, 0, 0⟩, ⟨0, 0, 0, 0, 0⟩, ⟨0, 0, 0, 0, 0⟩, ⟨0, 0, 0, 0, 0⟩] := by decide +kernel
  rw [e, e2]
  simp only [List.map_cons, List.map_nil, LF.ev, LF.raw]
  refine List.cons_eq_cons.2 ⟨by omega, List.cons_eq_cons.2 ⟨by omega, List.cons_eq_cons.2 ⟨by omega, List.cons_eq_cons.2 ⟨by omega, List.cons_eq_cons.2 ⟨by omega, List.cons_eq_cons.2 ⟨by omega, List.cons_eq_cons.2 ⟨by omega, List.cons_eq_cons.2 ⟨by omega, List.cons_eq_cons.2 ⟨by omega, rfl⟩⟩⟩⟩⟩⟩⟩⟩⟩
theorem thrL_4 : thrL 4 = [⟨1, 0, 0, 0, 0⟩, ⟨24, 3, 14, 21, 0⟩, ⟨1, 13, 2, 15, 0⟩, ⟨5, 16, 15, 26, 0⟩] := by decide +kernel
theorem fill4 (a b c d : Int) (ha : 0 ≤ a ∧ a ≤ 30) (hb : 0 ≤ b ∧ b ≤ 30) (hc : 0 ≤ c ∧ c ≤ 30) (hd : 0 ≤ d ∧ d ≤ 30) : fillD [a, b, c, d] 4 = (startL 4).map (LF.ev ⟨a, b, c, d, 0⟩) := by
  have e : fillD [a, b, c, d] 4 = [a, b, c, d, 0, 0, 0, 0, 0] := by kernel_rfl
  have e2 : startL 4 = [⟨1, 0, 0, 0, 0⟩, ⟨0, 1, 0, 0, 0⟩, ⟨0, 0, 1, 0, 0⟩, ⟨0, 0, 0, 1, 0⟩, ⟨0, 0, 0, 0, 0⟩, ⟨0, 0, 0, 0, 0⟩, ⟨0, 0, 0, 0, 0⟩, ⟨0, 0, 0, 0, 0⟩, ⟨0, 0, 0, 0, 0⟩] := by decide +kernel
  rw [e, e2]
  simp only [List.map_cons, List.map_nil, LF.ev, LF.raw]
  refine List.cons_eq_cons.2 ⟨by omega, List.cons_eq_cons.2 ⟨by omega, List.cons_eq_cons.2 ⟨by omega, List.cons_eq_cons.2 ⟨by omega, List.cons_eq_cons.2 ⟨by omega, List.cons_eq_cons.2 ⟨by omega, List.cons_eq_cons.2 ⟨by omega, List.cons_eq_cons.2 ⟨by omega, List.cons_eq_cons.2 ⟨by omega, rfl⟩⟩⟩⟩⟩⟩⟩⟩⟩
theorem thrL_5 : thrL 5 = [⟨1, 0, 0, 0, 0⟩, ⟨16, 4, 28, 22, 23⟩, ⟨26, 6, 28, 8, 25⟩, ⟨28, 17, 29, 27, 23⟩, ⟨22, 5, 8, 5, 22⟩] := by decide +kernel
theorem fill5 (a b c d e : Int) (ha : 0 ≤ a ∧ a ≤ 30) (hb : 0 ≤ b ∧ b ≤ 30) (hc : 0 ≤ c ∧ c ≤ 30) (hd : 0 ≤ d ∧ d ≤ 30) (he : 0 ≤ e ∧ e ≤ 30) : fillD [a, b, c, d, e] 5 = (startL 5).map (LF.ev ⟨a, b, c, d, e⟩) := by
  have e : fillD [a, b, c, d, e] 5 = [a, b, c, d, e, 0, 0, 0, 0] := by kernel_rfl
  have e2 : startL 5 = [⟨1, 0, 0, 0, 0⟩, ⟨0, 1, 0, 0, 0⟩, ⟨0, 0, 1, 0, 0⟩, ⟨0, 0, 0, 1, 0⟩, ⟨0, 0, 0, 0, 1⟩, ⟨0, 0, 0, 0, 0⟩, ⟨0, 0, 0, 0, 0⟩, ⟨0, 0, 0, 0, 0⟩, ⟨0, 0, 0, 0, 0⟩] := by decide +kernel
  rw [e, e2]
  simp only [List.map_cons, List.map_nil, LF.ev, LF.raw]
  refine List.cons_eq_cons.2 ⟨by omega, List.cons_eq_cons.2 ⟨by omega, List.cons_eq_cons.2 ⟨by omega, List.cons_eq_cons.2 ⟨by omega, List.cons_eq_cons.2 ⟨by omega, List.cons_eq_cons.2 ⟨by omega, List.cons_eq_cons.2 ⟨by omega, List.cons_eq_cons.2 ⟨by omega, List.cons_eq_cons.2 ⟨by omega, rfl⟩⟩⟩⟩⟩⟩⟩⟩⟩
theorem elMinus_f (a b : Int) (ha : 0 ≤ a ∧ a ≤ 30) (hb : 0 ≤ b ∧ b ≤ 30) : impl_element_minus.f a b = some ((a - b) % 31) := by
  rw [eMinus_f, eMinus_v a b ha hb]
theorem elPlus_f (a b : Int) (ha : 0 ≤ a ∧ a ≤ 30) (hb : 0 ≤ b ∧ b ≤ 30) : impl_element_plus.f a b = some ((a + b) % 31) := by
  rw [ePlus_f, ePlus_v a b ha hb]
theorem elTimes_f (a b : Int) (ha : 0 ≤ a ∧ a ≤ 30) (hb : 0 ≤ b ∧ b ≤ 30) : impl_element_times.f a b = some ((a * b) % 31) := by
  rw [eTimes_f, eTimes_v a b ha hb]
theorem l2Through2_raw (a b : Int) : spec_l2Through.f 90 [a, b] = some [(lin (lin 0 a 1) b 0), (lin (lin 0 a 30) b 1)] := by kernel_rfl
theorem l2Through2 (a b : Int) (ha : 0 ≤ a ∧ a ≤ 30) (hb : 0 ≤ b ∧ b ≤ 30) : spec_l2Through.f 90 [a, b] = some ((thrL 2).map (LF.ev ⟨a, b, 0, 0, 0⟩)) := by
  rw [l2Through2_raw, thrL_2]
  simp only [List.map_cons, List.map_nil, LF.ev, LF.raw]
  have z : ∀ v c : Int, 0 ≤ v ∧ v ≤ 30 → 0 ≤ c ∧ c ≤ 30 → lin 0 v c = (v * c) % 31 := fun v c hV hc => by have := lin_v 0 v c hV hc; simpa using this
  have e0 : (lin (lin 0 a 1) b 0) = (a * 1 + b * 0) % 31 := by rw [z a 1 ha (by omega), lin_v _ b 0 hb (by omega)]
  have e1 : (lin (lin 0 a 30) b 1) = (a * 30 + b * 1) % 31 := by rw [z a 30 ha (by omega), lin_v _ b 1 hb (by omega)]
  rw [e0, e1]
  congr 1
  refine List.cons_eq_cons.2 ⟨by omega, List.cons_eq_cons.2 ⟨by omega, rfl⟩⟩
theorem through2 (a b : Int) (ha : 0 ≤ a ∧ a ≤ 30) (hb : 0 ≤ b ∧ b ≤ 30) : ∃ r : List Int, spec_l2Through.f 90 [a, b] = some r ∧ impl_through.f [a, b] = some r ∧ r.length = 2 ∧ r.all fOk = true :=
  ⟨_, l2Through2 a b ha hb, through_map ⟨a, b, 0, 0, 0⟩ _ 2 rfl (by omega) (by omega) (fill2 a b ha hb), by rw [thrL_2]; rfl, by rw [List.all_map, List.all_eq_true]; intro f _; exact (fOk_iff _).2 (LF.ev_bd _ _)⟩
theorem l2Through4_raw (a b c d : Int) : spec_l2Through.f 90 [a, b, c, d] = some [(lin (lin (lin (lin 0 a 1) b 0) c 0) d 0), (lin (lin (lin (lin 0 a 24) b 3) c 14) d 21), (lin (lin (lin (lin 0 a 1) b 13) c 2) d 15), (lin (lin (lin (lin 0 a 5) b 16) c 15) d 26)] := by kernel_rfl
theorem l2Through4 (a b c d : Int) (ha : 0 ≤ a ∧ a ≤ 30) (hb : 0 ≤ b ∧ b ≤ 30) (hc : 0 ≤ c ∧ c ≤ 30) (hd : 0 ≤ d ∧ d ≤ 30) : spec_l2Through.f 90 [a, b, c, d] = some ((thrL 4).map (LF.ev ⟨a, b, c, d, 0⟩)) := by
  rw [l2Through4_raw, thrL_4]
  simp only [List.map_cons, List.map_nil, LF.ev, LF.raw]
  have z : ∀ v c : Int, 0 ≤ v ∧ v ≤ 30 → 0 ≤ c ∧ c ≤ 30 → lin 0 v c = (v * c) % 31 := fun v c hV hc => by have := lin_v 0 v c hV hc; simpa using this
  have e0 : (lin (lin (lin (lin 0 a 1) b 0) c 0) d 0) = (a * 1 + b * 0 + c * 0 + d * 0) % 31 := by rw [z a 1 ha (by omega), lin_v _ b 0 hb (by omega), lin_v _ c 0 hc (by omega), lin_v _ d 0 hd (by omega)]
  have e1 : (lin (lin (lin (lin 0 a 24) b 3) c 14) d 21) = (a * 24 + b * 3 + c * 14 + d * 21) % 31 := by rw [z a 24 ha (by omega), lin_v _ b 3 hb (by omega), lin_v _ c 14 hc (by omega), lin_v _ d 21 hd (by omega)]
  have e2 : (lin (lin (lin (lin 0 a 1) b 13) c 2) d 15) = (a * 1 + b * 13 + c * 2 + d * 15) % 31 := by rw [z a 1 ha (by omega), lin_v _ b 13 hb (by omega), lin_v _ c 2 hc (by omega), lin_v _ d 15 hd (by omega)]
  have e3 : (lin (lin (lin (lin 0 a 5) b 16) c 15) d 26) = (a * 5 + b * 16 + c * 15 + d * 26) % 31 := by rw [z a 5 ha (by omega), lin_v _ b 16 hb (by omega), lin_v _ c 15 hc (by omega), lin_v _ d 26 hd (by omega)]
  rw [e0, e1, e2, e3]
  congr 1
  refine List.cons_eq_cons.2 ⟨by omega, List.cons_eq_cons.2 ⟨by omega, List.cons_eq_cons.2 ⟨by omega, List.cons_eq_cons.2 ⟨by omega, rfl⟩⟩⟩⟩
theorem through4 (a b c d : Int) (ha : 0 ≤ a ∧ a ≤ 30) (hb : 0 ≤ b ∧ b ≤ 30) (hc : 0 ≤ c ∧ c ≤ 30) (hd : 0 ≤ d ∧ d ≤ 30) : ∃ r : List Int, spec_l2Through.f 90 [a, b, c, d] = some r ∧ impl_through.f [a, b, c, d] = some r ∧ r.length = 4 ∧ r.all fOk = true :=
  ⟨_, l2Through4 a b c d ha hb hc hd, through_map ⟨a, b, c, d, 0⟩ _ 4 rfl (by omega) (by omega) (fill4 a b c d ha hb hc hd), by rw [thrL_4]; rfl, by rw [List.all_map, List.all_eq_true]; intro f _; exact (fOk_iff _).2 (LF.ev_bd _ _)⟩
theorem l2Through5_raw (a b c d e : Int) : spec_l2Through.f 90 [a, b, c, d, e] = some [(lin (lin (lin (lin (lin 0 a 1) b 0) c 0) d 0) e 0), (lin (lin (lin (lin (lin 0 a 16) b 4) c 28) d 22) e 23), (lin (lin (lin (lin (lin 0 a 26) b 6) c 28) d 8) e 25), (lin (lin (lin (lin (lin 0 a 28) b 17) c 29) d 27) e 23), (lin (lin (lin (lin (lin 0 a 22) b 5) c 8) d 5) e 22)] := by kernel_rfl
theorem l2Through5 (a b c d e : Int) (ha : 0 ≤ a ∧ a ≤ 30) (hb : 0 ≤ b ∧ b ≤ 30) (hc : 0 ≤ c ∧ c ≤ 30) (hd : 0 ≤ d ∧ d ≤ 30) (he : 0 ≤ e ∧ e ≤ 30) : spec_l2Through.f 90 [a, b, c, d, e] = some ((thrL 5).map (LF.ev ⟨a, b, c, d, e⟩)) := by
  rw [l2Through5_raw, thrL_5]
  simp only [List.map_cons, List.map_nil, LF.ev, LF.raw]
  have z : ∀ v c : Int, 0 ≤ v ∧ v ≤ 30 → 0 ≤ c ∧ c ≤ 30 → lin 0 v c = (v * c) % 31 := fun v c hV hc => by have := lin_v 0 v c hV hc; simpa using this
  have e0 : (lin (lin (lin (lin (lin 0 a 1) b 0) c 0) d 0) e 0) = (a * 1 + b * 0 + c * 0 + d * 0 + e * 0) % 31 := by rw [z a 1 ha (by omega), lin_v _ b 0 hb (by omega), lin_v _ c 0 hc (by omega), lin_v _ d 0 hd (by omega), lin_v _ e 0 he (by omega)]
  have e1 : (lin (lin (lin (lin (lin 0 a 16) b 4) c 28) d 22) e 23) = (a * 16 + b * 4 + c * 28 + d * 22 + e * 23) % 31 := by rw [z a 16 ha (by omega), lin_v _ b 4 hb (by omega), lin_v _ c 28 hc (by omega), lin_v _ d 22 hd (by omega), lin_v _ e 23 he (by omega)]
  have e2 : (lin (lin (lin (lin (lin 0 a 26) b 6) c 28) d 8) e 25) = (a * 26 + b * 6 + c * 28 + d * 8 + e * 25) % 31 := by rw [z a 26 ha (by omega), lin_v _ b 6 hb (by omega), lin_v _ c 28 hc (by omega), lin_v _ d 8 hd (by omega), lin_v _ e 25 he (by omega)]
  have e3 : (lin (lin (lin (lin (lin 0 a 28) b 17) c 29) d 27) e 23) = (a * 28 + b * 17 + c * 29 + d * 27 + e * 23) % 31 := by rw [z a 28 ha (by omega), lin_v _ b 17 hb (by omega), lin_v _ c 29 hc (by omega), lin_v _ d 27 hd (by omega), lin_v _ e 23 he (by omega)]
  have e4 : (lin (lin (lin (lin (lin 0 a 22) b 5) c 8) d 5) e 22) = (a * 22 + b * 5 + c * 8 + d * 5 + e * 22) % 31 := by rw [z a 22 ha (by omega), lin_v _ b 5 hb (by omega), lin_v _ c 8 hc (by omega), lin_v _ d 5 hd (by omega), lin_v _ e 22 he (by omega)]
  rw [e0, e1, e2, e3, e4]
  congr 1
  refine List.cons_eq_cons.2 ⟨by omega, List.cons_eq_cons.2 ⟨by omega, List.cons_eq_cons.2 ⟨by omega, List.cons_eq_cons.2 ⟨by omega, List.cons_eq_cons.2 ⟨by omega, rfl⟩⟩⟩⟩⟩
theorem through5 (a b c d e : Int) (ha : 0 ≤ a ∧ a ≤ 30) (hb : 0 ≤ b ∧ b ≤ 30) (hc : 0 ≤ c ∧ c ≤ 30) (hd : 0 ≤ d ∧ d ≤ 30) (he : 0 ≤ e ∧ e ≤ 30) : ∃ r : List Int, spec_l2Through.f 90 [a, b, c, d, e] = some r ∧ impl_through.f [a, b, c, d, e] = some r ∧ r.length = 5 ∧ r.all fOk = true :=
  ⟨_, l2Through5 a b c d e ha hb hc hd he, through_map ⟨a, b, c, d, e⟩ _ 5 rfl (by omega) (by omega) (fill5 a b c d e ha hb hc hd he), by rw [thrL_5]; rfl, by rw [List.all_map, List.all_eq_true]; intro f _; exact (fOk_iff _).2 (LF.ev_bd _ _)⟩
theorem ahead_f (u : Int) (v : List Int) (h : v.length ≤ 1000) : impl_ahead.f u v = some (u :: v) := by
  unfold impl_ahead.f
  rw [Option.bind_some, if_pos (by simp; omega)]
  rfl
theorem lowered_loop (v : List Int) (hl : v.length ≤ 1000) (hV : v.all fOk = true) (d : Nat) : ∀ (k i : Nat), i + d = v.length → d < k → impl_lowered.l0 k 1 (dec1 (v.take i)) v (v.length : Int) (i : Int) = some (dec1 v) := by
  induction d with
  | zero =>
    intro k i hi hk
    obtain ⟨k, rfl⟩ : ∃ j, k = j + 1 := ⟨k - 1, by omega⟩
    simp only [impl_lowered.l0]
    rw [if_neg (by omega)]
    obtain rfl : i = v.length := by omega
    rw [List.take_length]
  | succ d ih =>
    intro k i hi hk
    obtain ⟨k, rfl⟩ : ∃ j, k = j + 1 := ⟨k - 1, by omega⟩
    simp only [impl_lowered.l0]
    have h1 : i < v.length := by omega
    rw [if_pos (by omega), if_pos (by omega), if_pos (by omega), rd_nat v i h1, elMinus_f _ 1 ((fOk_iff _).1 (all_get hV i h1)) (by omega), Option.bind_some, if_pos (by simp [dec1]; omega), w64 (by omega) (by omega)]
    have := ih k (i + 1) (by omega) (by omega)
    rw [List.take_succ_eq_append_getElem h1, dec1_snoc] at this
    exact this
theorem lowered_f (k : Nat) (v : List Int) (hl : v.length ≤ 1000) (hV : v.all fOk = true) (hk : v.length < k) : impl_lowered.f k v 1 = some (dec1 v) := by
  unfold impl_lowered.f
  rw [if_pos (by omega), if_pos (by omega)]
  have := lowered_loop v hl hV v.length k 0 (by omega) hk
  simpa [dec1] using this
theorem mulStep (o a b : Int) (ho : 0 ≤ o ∧ o ≤ 30) (ha : 0 ≤ a ∧ a ≤ 30) (hb : 0 ≤ b ∧ b ≤ 30) : Int.tmod (wrap64 (o + wrap64 (a * b))) 31 = (o + (a * b) % 31) % 31 := by
  have := mul_bd' ha hb
  rw [w64 (a := a * b) (by omega) (by omega), w64 (by omega) (by omega), Int.tmod_eq_emod_of_nonneg (by omega)]
  omega
theorem mul_both (A B : List Int) (hA : A.all fOk = true) (hB : B.all fOk = true) (lA : A.length ≤ 1000) (lB : B.length ≤ 1000) : ∀ k : Nat,
    (∀ (o : List Int) (i j : Int), 0 ≤ i → i < A.length → 0 ≤ j → o.all fOk = true → o.length + 1 = A.length + B.length → spec_l2Mul.l1 k A B o i j = impl_product.l1 k B o i (rd A i) A A.length i B B.length j) ∧
    (∀ (o : List Int) (i : Int), 0 ≤ i → o.all fOk = true → o.length + 1 = A.length + B.length → spec_l2Mul.l0 k A B o i = impl_product.l0 k B o A A.length i) := by
  intro k
  induction k with
  | zero => exact ⟨fun _ _ _ _ _ _ _ _ => rfl, fun _ _ _ _ _ => rfl⟩
  | succ k ih =>
    refine ⟨fun o i j hi hi2 hj ho hl => ?_, fun o i hi ho hl => ?_⟩
    · simp only [spec_l2Mul.l1, impl_product.l1]
      by_cases h : j < (B.length : Int)
      · rw [if_pos h, if_pos h, w64 (a := i + j) (by omega) (by omega), if_pos (by omega), if_pos (by omega), if_pos hi, if_pos hi2, if_pos hj, if_pos hj, if_pos h, if_pos (by omega), if_pos (by omega),
          mulStep _ _ _ (rd_fOk ho _) (rd_fOk hA _) (rd_fOk hB _), elTimes_f _ _ (rd_fOk hA _) (rd_fOk hB _), Option.bind_some, elPlus_f _ _ (rd_fOk ho _) (by omega), Option.bind_some, w64 (a := j + 1) (by omega) (by omega)]
        exact ih.1 _ _ _ hi hi2 (by omega) (all_set ho _ _ (fOk_mod _)) (by rw [List.length_set]; exact hl)
      · rw [if_neg h, if_neg h, w64 (by omega) (by omega)]
        exact ih.2 _ _ (by omega) ho hl
    · simp only [spec_l2Mul.l0, impl_product.l0]
      by_cases h : i < (A.length : Int)
      · rw [if_pos h, if_pos h, if_pos hi, if_pos h]
        exact ih.1 _ _ _ hi h (by omega) ho hl
      · rw [if_neg h, if_neg h]
theorem mul_inv (A B : List Int) (hA : A.all fOk = true) (hB : B.all fOk = true) (lA : A.length ≤ 1000) (lB : B.length ≤ 1000) (r : List Int) : ∀ k : Nat,
    (∀ (o : List Int) (i j : Int), 0 ≤ i → i < A.length → 0 ≤ j → o.all fOk = true → o.length + 1 = A.length + B.length → spec_l2Mul.l1 k A B o i j = some r → r.all fOk = true ∧ r.length = o.length) ∧
    (∀ (o : List Int) (i : Int), 0 ≤ i → o.all fOk = true → o.length + 1 = A.length + B.length → spec_l2Mul.l0 k A B o i = some r → r.all fOk = true ∧ r.length = o.length) := by
  intro k
  induction k with
  | zero => exact ⟨fun _ _ _ _ _ _ _ _ h => by simp [spec_l2Mul.l1] at h, fun _ _ _ _ _ h => by simp [spec_l2Mul.l0] at h⟩
  | succ k ih =>
    refine ⟨fun o i j hi hi2 hj ho hl hr => ?_, fun o i hi ho hl hr => ?_⟩
    · simp only [spec_l2Mul.l1] at hr
      by_cases h : j < (B.length : Int)
      · rw [if_pos h, w64 (a := i + j) (by omega) (by omega), if_pos (by omega), if_pos (by omega), if_pos hi, if_pos hi2, if_pos hj, mulStep _ _ _ (rd_fOk ho _) (rd_fOk hA _) (rd_fOk hB _), w64 (a := j + 1) (by omega) (by omega)] at hr
        have := ih.1 _ _ _ hi hi2 (by omega) (all_set ho _ _ (fOk_mod _)) (by rw [List.length_set]; exact hl) hr
        rw [List.length_set] at this
        exact this
      · rw [if_neg h, w64 (by omega) (by omega)] at hr
        exact ih.2 _ _ (by omega) ho hl hr
    · simp only [spec_l2Mul.l0] at hr
      by_cases h : i < (A.length : Int)
      · rw [if_pos h] at hr
        exact ih.1 _ _ _ hi h (by omega) ho hl hr
      · rw [if_neg h] at hr
        obtain rfl := Option.some.inj hr
        exact ⟨ho, rfl⟩
theorem mul_f (k : Nat) (A B r : List Int) (hA : A.all fOk = true) (hB : B.all fOk = true) (lA : A.length ≤ 1000) (lB : B.length ≤ 1000) (pA : 0 < A.length) (pB : 0 < B.length) (hr : spec_l2Mul.f k A B = some r) :
    impl_product.f k A B = some r ∧ r.all fOk = true ∧ r.length + 1 = A.length + B.length := by
  unfold spec_l2Mul.f at hr
  unfold impl_product.f
  rw [if_neg (by omega)] at hr ⊢
  have eb : ((B.length : Int) == 0) = false := by simp; intro h; rw [h] at pB; simp at pB
  rw [eb] at hr ⊢
  cases k with
  | zero => simp [spec_l2Mul.j0] at hr
  | succ k =>
    simp only [spec_l2Mul.j0, impl_product.j0] at hr ⊢
    rw [w64 (a := (A.length : Int) + B.length) (by omega) (by omega), w64 (by omega) (by omega), if_neg (by simp), if_pos (by omega), if_pos (by omega)] at hr ⊢
    have hl : (List.replicate ((A.length : Int) + B.length - 1).toNat (0 : Int)).length + 1 = A.length + B.length := by rw [List.length_replicate]; omega
    have h1 := (mul_both A B hA hB lA lB k).2 _ 0 (by omega) (zeros_all _) hl
    have h2 := (mul_inv A B hA hB lA lB r k).2 _ 0 (by omega) (zeros_all _) hl hr
    exact ⟨h1 ▸ hr, h2.1, by omega⟩
theorem mul2 (a b c d : Int) : ∃ r, spec_l2Mul.f 90 [a, b] [c, d] = some r := Option.isSome_iff_exists.1 (by kernel_rfl)
theorem mul4 (a b c d e f g h : Int) : ∃ r, spec_l2Mul.f 90 [a, b, c, d] [e, f, g, h] = some r := Option.isSome_iff_exists.1 (by kernel_rfl)
theorem mul5 (a b c d e f g h i j : Int) : ∃ r, spec_l2Mul.f 90 [a, b, c, d, e] [f, g, h, i, j] = some r := Option.isSome_iff_exists.1 (by kernel_rfl)
theorem mul_ex (n : Nat) (hn : n = 2 ∨ n = 4 ∨ n = 5) (A B : List Int) (lA : A.length = n) (lB : B.length = n) : ∃ r, spec_l2Mul.f 90 A B = some r := by
  rcases hn with rfl | rfl | rfl
  · obtain ⟨a, b, rfl⟩ := list2 A lA
    obtain ⟨c, d, rfl⟩ := list2 B lB
    exact mul2 _ _ _ _
  · obtain ⟨a, b, c, d, rfl⟩ := list4' A lA
    obtain ⟨e, f, g, h, rfl⟩ := list4' B lB
    exact mul4 _ _ _ _ _ _ _ _
  · obtain ⟨a, b, c, d, x, rfl⟩ := list5 A lA
    obtain ⟨e, f, g, h, y, rfl⟩ := list5 B lB
    exact mul5 _ _ _ _ _ _ _ _ _ _
theorem through_ex (n : Nat) (hn : n = 2 ∨ n = 4 ∨ n = 5) (A : List Int) (lA : A.length = n) (hA : A.all fOk = true) : ∃ r : List Int, spec_l2Through.f 90 A = some r ∧ impl_through.f A = some r ∧ r.length = n ∧ r.all fOk = true := by
  rcases hn with rfl | rfl | rfl
  · obtain ⟨a, b, rfl⟩ := list2 A lA
    simp only [List.all_cons, List.all_nil, Bool.and_true, Bool.and_eq_true, fOk_iff] at hA
    exact through2 a b hA.1 hA.2
  · obtain ⟨a, b, c, d, rfl⟩ := list4' A lA
    simp only [List.all_cons, List.all_nil, Bool.and_true, Bool.and_eq_true, fOk_iff] at hA
    exact through4 a b c d hA.1 hA.2.1 hA.2.2.1 hA.2.2.2
  · obtain ⟨a, b, c, d, e, rfl⟩ := list5 A lA
    simp only [List.all_cons, List.all_nil, Bool.and_true, Bool.and_eq_true, fOk_iff] at hA
    exact through5 a b c d e hA.1 hA.2.1 hA.2.2.1 hA.2.2.2.1 hA.2.2.2.2
theorem dec1_length (v : List Int) : (dec1 v).length = v.length := by simp [dec1]
theorem make_both (K : Nat) (hK : 95 ≤ K) (v : List Int) (u w : Int) (n : Nat) (hn : n = 2 ∨ n = 4 ∨ n = 5) (lv : v.length + 1 = n) (hV : v.all fOk = true) (hu : fOk u = true) (hw : fOk w = true) :
    ∃ f g h : List Int, impl_through.f (u :: v) = some f ∧ impl_through.f (w :: dec1 v) = some g ∧ impl_product.f K f g = some h ∧ spec_l12Make.f K v u w = some (u, w, h) ∧ impl_ProofMake.j0 (K + 1) v u w false = some (u, w, h, true) ∧ h.all fOk = true ∧ h.length + 1 = n + n ∧ f.length = n ∧ g.length = n ∧ f.all fOk = true ∧ g.all fOk = true := by
  have l9 : v.length ≤ 1000 := by omega
  obtain ⟨f, f1, f2, f3, f4⟩ := through_ex n hn (u :: v) (by simpa using lv) (by simp [hu]; simpa using hV)
  obtain ⟨g, g1, g2, g3, g4⟩ := through_ex n hn (w :: dec1 v) (by simp [dec1_length]; exact lv) (by have := dec1_all v; simp [hw]; simpa using this)
  obtain ⟨h, h1⟩ := mul_ex n hn f g f3 g3
  have h1K : spec_l2Mul.f K f g = some h := leO_le (fun k => spec_l2Mul.mono _ _ k) (by omega) h1
  have f1K : spec_l2Through.f K (u :: v) = some f := leO_le (fun k => spec_l2Through.mono _ k) (by omega) f1
  have g1K : spec_l2Through.f K (w :: dec1 v) = some g := leO_le (fun k => spec_l2Through.mono _ k) (by omega) g1
  obtain ⟨p1, p2, p3⟩ := mul_f K f g h f4 g4 (by omega) (by omega) (by omega) (by omega) h1K
  refine ⟨f, g, h, f2, g2, p1, ?_, ?_, p2, by omega, f3, g3, f4, g4⟩
  · unfold spec_l12Make.f
    rw [first_f _ _ l9, Option.bind_some, f1K, Option.bind_some, second_f K v w l9 hV (by omega), Option.bind_some, g1K, Option.bind_some, h1K]; rfl
  · simp only [impl_ProofMake.j0]
    rw [if_neg (by simp), ahead_f _ _ l9, Option.bind_some, f2, Option.bind_some, lowered_f K v l9 hV (by omega), Option.bind_some, ahead_f _ _ (by rw [dec1_length]; exact l9), Option.bind_some, g2, Option.bind_some, p1]; rfl
theorem proofMake_both (K : Nat) (kind : Int) (v : List Int) (u w : Int) (hl : v.length ≤ 1048576000) (hK : v.length + 100 ≤ K) :
    ∃ h : List Int, h.length ≤ 9 ∧ h.all fOk = true ∧ ((spec_ProofMake.f K kind v u w = some (u, w, h, true) ∧ impl_ProofMake.f K kind v u w = some (u, w, h, true) ∧ vecOk kind v = true ∧ fOk u = true ∧ fOk w = true) ∨
      (spec_ProofMake.f K kind v u w = some (0, 0, h, false) ∧ impl_ProofMake.f K kind v u w = some (0, 0, h, false) ∧ (vecOk kind v && fOk u && fOk w) = false)) := by
  have hff : ∀ k a, impl_ProofMake.j0 (k + 1) v a w true = some (0, 0, [], false) := fun k a => rfl
  obtain ⟨K, rfl⟩ : ∃ j, K = j + 1 := ⟨K - 1, by omega⟩
  unfold spec_ProofMake.f impl_ProofMake.f impl_TypeLen.f
  rw [l11Vec_f _ _ _ hl (by omega), Option.bind_some, Option.bind_some, sized_f, Option.bind_some]
  cases hV : vecOk kind v
  · exact ⟨[], by simp, rfl, .inr ⟨rfl, by rw [if_neg (by simp)]; exact hff _ _, rfl⟩⟩
  · rw [if_pos rfl, if_pos rfl, fieldOk_f, Option.bind_some]
    have hFu : impl_FieldOk.f u = some (fOk u) := by unfold impl_FieldOk.f; rw [within_f]; rfl
    have hFw : impl_FieldOk.f w = some (fOk w) := by unfold impl_FieldOk.f; rw [within_f]; rfl
    rw [hFu, Option.bind_some]
    cases hu : fOk u
    · exact ⟨[], by simp, rfl, .inr ⟨rfl, by rw [if_neg (by simp)]; exact hff _ _, rfl⟩⟩
    · rw [if_pos rfl, if_pos rfl, fieldOk_f, Option.bind_some, hFw, Option.bind_some]
      cases hw : fOk w
      · exact ⟨[], by simp, rfl, .inr ⟨rfl, hff _ _, rfl⟩⟩
      · have hV' := hV
        unfold vecOk at hV'
        simp only [Bool.and_eq_true, decide_eq_true_eq] at hV'
        obtain ⟨⟨hk, hlen⟩, hall⟩ := hV'
        have hn : v.length + 1 = 2 ∨ v.length + 1 = 4 ∨ v.length + 1 = 5 := by
          rcases tLen_cases hk with ⟨_, e⟩ | ⟨_, e⟩ | ⟨_, e⟩ <;> omega
        obtain ⟨f, g, h, _, _, _, s1, _, h2, h3, _⟩ := make_both (K + 1) (by omega) v u w (v.length + 1) hn rfl hall hu hw
        obtain ⟨f', g', h', _, _, _, s1', i1, _⟩ := make_both K (by omega) v u w (v.length + 1) hn rfl hall hu hw
        have hM : spec_l12Make.f (K + 1) v u w = some (u, w, h') := spec_l12Make.mono _ _ _ K _ s1'
        rw [s1] at hM
        obtain rfl : h = h' := by simpa using hM
        exact ⟨h, by omega, h2, .inl ⟨by rw [if_pos rfl, s1]; rfl, i1, rfl, rfl, rfl⟩⟩
def hotOk (kind : Int) (v : List Int) : Bool := v.all (fun x => decide (x ≤ 1)) && (decide (kind ≠ 2) || decide (v.sum = 1))
theorem sum_bd (v : List Int) (h : v.all fOk = true) : 0 ≤ v.sum ∧ v.sum ≤ 30 * (v.length : Int) := by
  induction v with
  | nil => simp
  | cons x v ih =>
    simp only [List.all_cons, Bool.and_eq_true] at h
    have h1 := (fOk_iff x).1 h.1
    have h2 := ih h.2
    simp only [List.sum_cons, List.length_cons]
    omega
theorem l11Ok_loop (kind : Int) (v : List Int) (hV : v.all fOk = true) (hl : v.length ≤ 1000) (d : Nat) : ∀ (k i : Nat), i + d = v.length → (v.take i).all (fun x => decide (x ≤ 1)) = true → d < k → spec_l11Ok.l0 k kind v (v.take i).sum (i : Int) = some (hotOk kind v) := by
  induction d with
  | zero =>
    intro k i hi ht hk
    obtain ⟨k, rfl⟩ : ∃ j, k = j + 1 := ⟨k - 1, by omega⟩
    simp only [spec_l11Ok.l0]
    rw [if_neg (by omega)]
    obtain rfl : i = v.length := by omega
    rw [List.take_length] at ht ⊢
    unfold hotOk
    rw [ht]
    by_cases h2 : kind = 2
    · rw [if_pos h2]; subst h2; simp [BEq.beq]
    · rw [if_neg h2]; simp [h2]
  | succ d ih =>
    intro k i hi ht hk
    obtain ⟨k, rfl⟩ : ∃ j, k = j + 1 := ⟨k - 1, by omega⟩
    simp only [spec_l11Ok.l0]
    have h1 : i < v.length := by omega
    have hx := (fOk_iff _).1 (all_get hV i h1)
    have hb := sum_bd (v.take i) (List.all_eq_true.2 fun y hy => List.all_eq_true.1 hV y (List.mem_of_mem_take hy))
    have hlen : ((v.take i).length : Int) ≤ 1000 := by rw [List.length_take]; omega
    rw [if_pos (by omega), if_pos (by omega), rd_nat v i h1]
    by_cases e : v[i] > 1
    · rw [if_pos e]
      have : v.all (fun x => decide (x ≤ 1)) = false := by
        cases h : v.all (fun x => decide (x ≤ 1))
        · rfl
        · have := List.all_eq_true.1 h _ (List.getElem_mem h1)
          simp at this; omega
      unfold hotOk
      rw [this]; rfl
    · rw [if_neg e, w64 (by omega) (by omega), w64 (by omega) (by omega)]
      have := ih k (i + 1) (by omega) (by rw [List.take_succ_eq_append_getElem h1, List.all_append, ht]; simp; omega) (by omega)
      rw [List.take_succ_eq_append_getElem h1, List.sum_append] at this
      simpa using this
theorem l11Ok_f (K : Nat) (kind : Int) (v : List Int) (hV : v.all fOk = true) (hl : v.length ≤ 1000) (hK : v.length < K) : spec_l11Ok.f K kind v = some (hotOk kind v) :=
  l11Ok_loop kind v hV hl v.length K 0 (by omega) (by simp) hK
def tvFrom (kind : Int) (v : List Int) : Nat → Int → Int × Bool
  | 0, _ => (0, false)
  | d + 1, val => if encV kind val = v then (val, true) else tvFrom kind v d (val + 1)
theorem encV_length (kind val : Int) : (encV kind val).length ≤ 4 := by
  unfold encV; split
  · simp
  · split <;> simp
theorem mVals_bd (kind : Int) : 0 ≤ mVals kind ∧ mVals kind ≤ 8 := by unfold mVals; split <;> (try split) <;> (try split) <;> omega
theorem mVals_0 {kind : Int} (h : kOk kind = false) : mVals kind = 0 := by
  unfold kOk at h; simp only [decide_eq_false_iff_not] at h
  unfold mVals
  rw [if_neg (fun e => h (.inl e)), if_neg (fun e => h (.inr (.inl e))), if_neg (fun e => h (.inr (.inr e)))]
theorem typeVal_loop (kind : Int) (v : List Int) (d : Nat) : ∀ (k : Nat) (val : Int), 0 ≤ val → val + d = mVals kind → d + 10 < k → impl_TypeVal.l0 k kind v val = some (tvFrom kind v d val) := by
  have hm := mVals_bd kind
  induction d with
  | zero =>
    intro k val h0 hd hk
    obtain ⟨k, rfl⟩ : ∃ j, k = j + 1 := ⟨k - 1, by omega⟩
    simp only [impl_TypeVal.l0, impl_TypeMake.f, Option.bind_some]
    cases h : kOk kind
    · rfl
    · rw [if_pos rfl, if_neg (show ¬ (0 ≤ val ∧ val < mVals kind) by omega)]
      rfl
  | succ d ih =>
    intro k val h0 hd hk
    obtain ⟨k, rfl⟩ : ∃ j, k = j + 1 := ⟨k - 1, by omega⟩
    simp only [impl_TypeVal.l0, impl_TypeMake.f, Option.bind_some]
    have h : kOk kind = true := by
      cases h : kOk kind
      · have := mVals_0 h; omega
      · rfl
    have hl := encV_length kind val
    rw [h, if_pos rfl, if_pos (show 0 ≤ val ∧ val < mVals kind by omega)]
    simp only
    rw [if_pos trivial, sEqual_f k _ v (by omega) (by omega), Option.bind_some, w64 (by omega) (by omega), ih k (val + 1) (by omega) (by omega) (by omega)]
    simp only [tvFrom]
    by_cases e : encV kind val = v
    · rw [if_pos e, if_pos (by simp [e])]
    · rw [if_neg e, if_neg (by simp [e])]
theorem typeVal_f (K : Nat) (hK : 30 ≤ K) (kind : Int) (v : List Int) : impl_TypeVal.f K kind v = some (tvFrom kind v (mVals kind).toNat 0) := by
  have hm := mVals_bd kind
  exact typeVal_loop kind v (mVals kind).toNat K 0 (by omega) (by omega) (by omega)
theorem tv_true (kind : Int) (v : List Int) (d : Nat) : ∀ val : Int, (tvFrom kind v d val).2 = true → ∃ w, val ≤ w ∧ w < val + d ∧ encV kind w = v ∧ (tvFrom kind v d val).1 = w := by
  induction d with
  | zero => intro val h; cases h
  | succ d ih =>
    intro val h
    simp only [tvFrom] at h ⊢
    by_cases e : encV kind val = v
    · rw [if_pos e]; exact ⟨val, by omega, by omega, e, rfl⟩
    · rw [if_neg e] at h ⊢
      obtain ⟨w, h1, h2, h3, h4⟩ := ih _ h
      exact ⟨w, by omega, by omega, h3, h4⟩
theorem list1 (l : List Int) (h : l.length = 1) : ∃ a, l = [a] := by
  match l, h with
  | [a], _ => exact ⟨a, rfl⟩
theorem list3 (l : List Int) (h : l.length = 3) : ∃ a b c, l = [a, b, c] := by
  match l, h with
  | [a, b, c], _ => exact ⟨a, b, c, rfl⟩
theorem list4 (l : List Int) (h : l.length = 4) : ∃ a b c d, l = [a, b, c, d] := by
  match l, h with
  | [a, b, c, d], _ => exact ⟨a, b, c, d, rfl⟩
theorem bit_of {x : Int} (h : fOk x = true) (h1 : decide (x ≤ 1) = true) : x = 0 ∨ x = 1 := by
  have := (fOk_iff x).1 h
  have := of_decide_eq_true h1
  omega
theorem tv_ok (kind : Int) (v : List Int) : (tvFrom kind v (mVals kind).toNat 0).2 = (vecOk kind v && hotOk kind v) := by
  cases h : vecOk kind v && hotOk kind v
  · cases h2 : (tvFrom kind v (mVals kind).toNat 0).2
    · rfl
    · exfalso
      obtain ⟨w, w0, w1, e, _⟩ := tv_true _ _ _ _ h2
      have hm := mVals_bd kind
      cases hk : kOk kind
      · have := mVals_0 hk; omega
      · rcases tLen_cases hk with ⟨rfl, _⟩ | ⟨rfl, _⟩ | ⟨rfl, _⟩
        · have hw : w = 0 ∨ w = 1 := by have : mVals 1 = 2 := rfl; omega
          rcases hw with rfl | rfl <;> subst e <;> revert h <;> decide +kernel
        · have hw : w = 0 ∨ w = 1 ∨ w = 2 ∨ w = 3 := by have : mVals 2 = 4 := rfl; omega
          rcases hw with rfl | rfl | rfl | rfl <;> subst e <;> revert h <;> decide +kernel
        · have hw : w = 0 ∨ w = 1 ∨ w = 2 ∨ w = 3 ∨ w = 4 ∨ w = 5 ∨ w = 6 ∨ w = 7 := by have : mVals 3 = 8 := rfl; omega
          rcases hw with rfl | rfl | rfl | rfl | rfl | rfl | rfl | rfl <;> subst e <;> revert h <;> decide +kernel
  · simp only [Bool.and_eq_true] at h
    obtain ⟨hVec, hh⟩ := h
    have hVec' := hVec
    unfold vecOk at hVec'
    simp only [Bool.and_eq_true, decide_eq_true_eq] at hVec'
    obtain ⟨⟨hk, hlen⟩, hall⟩ := hVec'
    have hh' := hh
    unfold hotOk at hh'
    simp only [Bool.and_eq_true] at hh'
    obtain ⟨h1, h2⟩ := hh'
    rcases tLen_cases hk with ⟨rfl, e⟩ | ⟨rfl, e⟩ | ⟨rfl, e⟩
    · obtain ⟨a, rfl⟩ := list1 v (by omega)
      simp only [List.all_cons, List.all_nil, Bool.and_true] at hall h1
      rcases bit_of hall h1 with rfl | rfl <;> decide +kernel
    · obtain ⟨a, b, c, d, rfl⟩ := list4 v (by omega)
      simp only [List.all_cons, List.all_nil, Bool.and_true, Bool.and_eq_true] at hall h1
      obtain ⟨q1, q2, q3, q4⟩ := hall
      obtain ⟨p1, p2, p3, p4⟩ := h1
      rcases bit_of q1 p1 with rfl | rfl <;> rcases bit_of q2 p2 with rfl | rfl <;> rcases bit_of q3 p3 with rfl | rfl <;> rcases bit_of q4 p4 with rfl | rfl <;> first | (revert h2; decide +kernel) | decide +kernel
    · obtain ⟨a, b, c, rfl⟩ := list3 v (by omega)
      simp only [List.all_cons, List.all_nil, Bool.and_true, Bool.and_eq_true] at hall h1
      obtain ⟨q1, q2, q3⟩ := hall
      obtain ⟨p1, p2, p3⟩ := h1
      rcases bit_of q1 p1 with rfl | rfl <;> rcases bit_of q2 p2 with rfl | rfl <;> rcases bit_of q3 p3 with rfl | rfl <;> decide +kernel
theorem typeOk_f (K : Nat) (hK : 30 ≤ K) (kind : Int) (v : List Int) : impl_TypeOk.f K kind v = some (vecOk kind v && hotOk kind v) := by
  unfold impl_TypeOk.f
  rw [typeVal_f K hK, Option.bind_some, tv_ok]
theorem make_ok (K : Nat) (hK : 100 ≤ K) (kind : Int) (v : List Int) (u w : Int) (hk : kOk kind = true) (lv : (v.length : Int) = tLen kind) (hV : v.all fOk = true) (hu : fOk u = true) (hw : fOk w = true) :
    ∃ h : List Int, impl_ProofMake.f K kind v u w = some (u, w, h, true) ∧ spec_l12Make.f K v u w = some (u, w, h) ∧ h.all fOk = true ∧ h.length = 2 * v.length + 1 := by
  obtain ⟨K, rfl⟩ : ∃ j, K = j + 1 := ⟨K - 1, by omega⟩
  have hn : v.length + 1 = 2 ∨ v.length + 1 = 4 ∨ v.length + 1 = 5 := by
    rcases tLen_cases hk with ⟨_, e⟩ | ⟨_, e⟩ | ⟨_, e⟩ <;> omega
  obtain ⟨f, g, h, a1, a2, a3, a4, a5, a6, a7, _⟩ := make_both K (by omega) v u w (v.length + 1) hn rfl hV hu hw
  have hM : spec_l12Make.f (K + 1) v u w = some (u, w, h) := spec_l12Make.mono _ _ _ K _ a4
  refine ⟨h, ?_, hM, a6, by omega⟩
  have hvec : vecOk kind v = true := by unfold vecOk; rw [hk, hV, decide_eq_true lv]; rfl
  unfold impl_ProofMake.f impl_TypeLen.f
  rw [Option.bind_some, sized_f, Option.bind_some, hvec, if_pos rfl, implFieldOk_f, Option.bind_some, hu, if_pos rfl, implFieldOk_f, Option.bind_some, hw]
  exact a5
noncomputable def pok (kind : Int) (v : List Int) (u w : Int) (h : List Int) : Bool := vecOk kind v && hotOk kind v && formOk kind u w h && decide (impl_ProofMake.f 1000 kind v u w = some (u, w, h, true))
theorem formOk_u {kind u w : Int} {h : List Int} (hf : formOk kind u w h = true) : fOk u = true ∧ fOk w = true ∧ h.all fOk = true ∧ (h.length : Int) = 2 * tLen kind + 1 := by
  unfold formOk at hf
  simp only [Bool.and_eq_true, decide_eq_true_eq] at hf
  exact ⟨hf.1.1.1, hf.1.1.2, hf.1.2.2, hf.2⟩
theorem pok_f (K : Nat) (kind : Int) (v : List Int) (u w : Int) (h : List Int) (hl : v.length ≤ 1048576000) (hh : h.length ≤ 1048576000) (hK : v.length + h.length + 200 ≤ K) :
    impl_ProofOk.f K kind v u w h = some (pok kind v u w h) ∧ spec_ProofOk.f K kind v u w h = some (pok kind v u w h) := by
  unfold impl_ProofOk.f spec_ProofOk.f pok
  rw [typeOk_f K (by omega), Option.bind_some, l12Form_f K kind u w h hh (by omega), Option.bind_some, l11Vec_f K kind v hl (by omega)]
  cases hVec : vecOk kind v
  · rw [if_neg (by simp)]
    refine ⟨rfl, ?_⟩
    cases kOk kind && formOk kind u w h <;> rfl
  have hVec' := hVec
  unfold vecOk at hVec'
  simp only [Bool.and_eq_true, decide_eq_true_eq] at hVec'
  obtain ⟨⟨hk, hlen⟩, hall⟩ := hVec'
  have ht := tLen_le kind
  rw [hk, Option.bind_some, l11Ok_f K kind v hall (by omega) (by omega)]
  simp only [Bool.true_and, Option.bind_some, if_true]
  cases hf : formOk kind u w h
  · refine ⟨?_, ?_⟩ <;> cases hotOk kind v <;> rfl
  cases ho : hotOk kind v
  · exact ⟨rfl, rfl⟩
  obtain ⟨hu, hw, ha, hn⟩ := formOk_u hf
  simp only [if_true]
  obtain ⟨H, m1, m2, m3, m4⟩ := make_ok K (by omega) kind v u w hk hlen hall hu hw
  obtain ⟨H', n1, n2, n3, n4⟩ := make_ok 1000 (by omega) kind v u w hk hlen hall hu hw
  have e : H = H' := by
    rcases Nat.le_total K 1000 with hle | hle
    · have := leO_le (fun k => spec_l12Make.mono _ _ _ k) hle m2
      rw [n2] at this; simpa using this.symm
    · have := leO_le (fun k => spec_l12Make.mono _ _ _ k) hle n2
      rw [m2] at this; simpa using this
  subst e
  rw [m1, m2, n1, Option.bind_some, Option.bind_some]
  simp only [if_true]
  rw [sEqual_f K H h (by omega) (by omega), same_f K h H hh (by omega), Option.bind_some, Option.bind_some]
  have e1 : decide (H = h) = decide (some (u, w, H, true) = some (u, w, h, true)) := by simp
  have e2 : decide (h = H) = decide (H = h) := by rw [decide_eq_decide]; exact eq_comm
  exact ⟨by rw [e1]; rfl, by rw [e2, e1]; rfl⟩
end Go.Proofs.YtahbooeioigbgaaDoor.Q
