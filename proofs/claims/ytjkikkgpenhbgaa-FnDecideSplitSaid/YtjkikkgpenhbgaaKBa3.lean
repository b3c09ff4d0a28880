import Derived.Test.YtjkikkgpenhbgaaKBa0
import Derived.Test.YtjkikkgpenhbgaaKBa1
namespace Go.Proofs.Ytjkikkgpenhbgaa.Ba
open Go.RowKit Go.Proofs.YtjkikkgpenhbgaaW.PrintWords Go.Proofs.YtjkikkgpenhbgaaW.PrintLast Go.Proofs.YtjkikkgpenhbgaaW.PrintMore
attribute [local go_sem] max2_int min2_int max_two min_two max_three min_three max_four min_four
set_option linter.unusedVariables false
set_option linter.unusedSimpArgs false
def fOk (n : Int) : Bool := decide (0 ≤ n) && decide (n ≤ 30)
set_option maxHeartbeats 400000 in
set_option maxRecDepth 100000 in
theorem elementsOk1.yes (n : Int) (w : World) (h : fOk n = true) : Calls Tru.prog 65 #[.int .i64 n] w fun e w' => e = .returned (.bool false) ∧ Drawn0 w w' := by
 simp only [fOk, Bool.and_eq_true, decide_eq_true_eq] at h
 obtain ⟨h1, h2⟩ := h
 go_enter Tru.func65, Try.ntmps65
 go_wp2
 go_ret
 exact ⟨rfl, Drawn0.refl _⟩
set_option maxHeartbeats 400000 in
set_option maxRecDepth 100000 in
theorem elementsOk1.no (n : Int) (w : World) (h : fOk n = false) : Calls Tru.prog 65 #[.int .i64 n] w fun e w' => e = .returned (.bool true) ∧ Drawn0 w w' := by
 have h' : n < 0 ∨ 30 < n := by simp only [fOk, Bool.and_eq_false_iff, decide_eq_false_iff_not] at h; omega
 clear h
 rcases h' with h1 | h1
 ·go_enter Tru.func65, Try.ntmps65
  go_wp2
  go_ret
  exact ⟨rfl, Drawn0.refl _⟩
 ·have h0 : decide (0 ≤ n) = true := by simp; omega
  have h2 : decide (n ≤ 30) = false := by simp; omega
  go_enter Tru.func65, Try.ntmps65
  go_wp2
  go_ret
  exact ⟨rfl, Drawn0.refl _⟩
set_option maxHeartbeats 1000000 in
set_option maxRecDepth 100000 in
theorem IndexFunc.ok (A0 : Option Addr) (c0 : Nat) (l0 : List Int) (w : World) (hr0 : Kd.C (Kd.int .i64) w A0 l0.length l0) (hm : l0.length ≤ 9223372036854775807) (h : l0.all fOk = true) :
  Calls Tru.prog 84 #[.slice A0 l0.length c0, .func (.func 65) #[] #[]] w fun e w' => e = .returned (.int .i64 (-1)) ∧ Drawn0 w w' := by
 have HR0 := Aside0.mk hr0
 clear hr0
 have H := Aside0.mk h
 clear h
 go_enter Tru.func84, Try.ntmps84
 go_wp2
 go_loopw [8] (fun i wr => ∃ k : Nat, k ≤ l0.length ∧ i = .int .i64 k ∧ Drawn0 w wr) (fun i _ => l0.length - (intOf i).toNat)
 case atStart => exact ⟨0, Nat.zero_le _, rfl, Drawn0.refl _⟩
 case round =>
  obtain ⟨k, hk, rfl, ⟨m1, rfl⟩⟩ := hrel
  by_cases hlt : k < l0.length
  ·have hok : fOk (rd l0 k) = true := by
    have := List.all_eq_true.1 H.out (l0[k]) (List.getElem_mem hlt)
    simpa [rd, hlt] using this
   have HOK := Aside0.mk hok
   clear hok
   obtain ⟨ad, e, hx⟩ := Kd.at_int HR0.out (k : Int) (by omega) (by omega)
   cases e
   simp only [Int.toNat_natCast] at hx
   go_wp2_with (first | (go_at_call 65; refine (elementsOk1.yes _ _ HOK.out).mono ?_; rintro e w' ⟨rfl, ⟨nd, rfl⟩⟩))
   go_roundw
   case rel => exact ⟨k + 1, by omega, by go_num, by repeat (first | exact Drawn0.refl _ | apply Drawn0.step)⟩
   case measure => simp [intOf]; omega
  ·go_wp2
   go_ret
   exact ⟨rfl, by repeat (first | exact Drawn0.refl _ | apply Drawn0.step)⟩
set_option maxRecDepth 100000 in
theorem all_rd (l : List Int) (h : ∀ i, i < l.length → fOk (rd l i) = true) : l.all fOk = true := by
 rw [List.all_eq_true]
 intro x hx
 obtain ⟨i, hi, rfl⟩ := List.getElem_of_mem hx
 have := h i hi
 simpa [rd, hi] using this
def SomeNat (w : World) (e : Ending) (w' : World) : Prop := ∃ j : Nat, e = .returned (.int .i64 j) ∧ Drawn0 w w'
set_option maxHeartbeats 1000000 in
set_option maxRecDepth 100000 in
theorem IndexFunc.bad (A0 : Option Addr) (c0 : Nat) (l0 : List Int) (w : World) (hr0 : Kd.C (Kd.int .i64) w A0 l0.length l0) (hm : l0.length ≤ 9223372036854775807) (h : l0.all fOk = false) :
  Calls Tru.prog 84 #[.slice A0 l0.length c0, .func (.func 65) #[] #[]] w (SomeNat w) := by
 have HR0 := Aside0.mk hr0
 clear hr0
 have H := Aside0.mk h
 clear h
 go_enter Tru.func84, Try.ntmps84
 go_wp2
 go_loopw [8] (fun i wr => ∃ k : Nat, k ≤ l0.length ∧ i = .int .i64 k ∧ Drawn0 w wr ∧ Aside0 (∀ i, i < k → fOk (rd l0 i) = true)) (fun i _ => l0.length - (intOf i).toNat)
 case atStart => exact ⟨0, Nat.zero_le _, rfl, Drawn0.refl _, ⟨by omega⟩⟩
 case round =>
  obtain ⟨k, hk, rfl, ⟨m1, rfl⟩, hall⟩ := hrel
  by_cases hlt : k < l0.length
  ·obtain ⟨ad, e, hx⟩ := Kd.at_int HR0.out (k : Int) (by omega) (by omega)
   cases e
   simp only [Int.toNat_natCast] at hx
   cases hok : fOk (rd l0 k)
   ·have HOK := Aside0.mk hok
    clear hok
    go_wp2_with (first | (go_at_call 65; refine (elementsOk1.no _ _ HOK.out).mono ?_; rintro e w' ⟨rfl, ⟨nd, rfl⟩⟩))
    go_ret
    exact ⟨k, rfl, by repeat (first | exact Drawn0.refl _ | apply Drawn0.step)⟩
   ·have HOK := Aside0.mk hok
    clear hok
    go_wp2_with (first | (go_at_call 65; refine (elementsOk1.yes _ _ HOK.out).mono ?_; rintro e w' ⟨rfl, ⟨nd, rfl⟩⟩))
    go_roundw
    case rel => exact ⟨k + 1, by omega, by go_num, by repeat (first | exact Drawn0.refl _ | apply Drawn0.step), ⟨fun i hi => by
     rcases Nat.lt_or_ge i k with h1 | h1
     ·exact hall.out i h1
     ·obtain rfl : i = k := by omega
      exact HOK.out⟩⟩
    case measure => simp [intOf]; omega
  ·exfalso
   have := all_rd l0 (fun i hi => hall.out i (by omega))
   rw [H.out] at this
   cases this
set_option maxRecDepth 100000 in
theorem ContainsFunc.ok (A0 : Option Addr) (c0 : Nat) (l0 : List Int) (w : World) (hr0 : Kd.C (Kd.int .i64) w A0 l0.length l0) (hm : l0.length ≤ 9223372036854775807) (h : l0.all fOk = true) :
  Calls Tru.prog 64 #[.slice A0 l0.length c0, .func (.func 65) #[] #[]] w fun e w' => e = .returned (.bool false) ∧ Drawn0 w w' := by
 have HR0 := Aside0.mk hr0
 clear hr0
 have H := Aside0.mk h
 clear h
 go_enter Tru.func64, Try.ntmps64
 go_wp2_with (first | (go_at_call 84; refine (IndexFunc.ok A0 c0 l0 _ HR0.out hm H.out).mono ?_; rintro e w' ⟨rfl, ⟨nd, rfl⟩⟩))
 go_ret
 exact ⟨rfl, by repeat (first | exact Drawn0.refl _ | apply Drawn0.step)⟩
set_option maxRecDepth 100000 in
theorem ContainsFunc.bad (A0 : Option Addr) (c0 : Nat) (l0 : List Int) (w : World) (hr0 : Kd.C (Kd.int .i64) w A0 l0.length l0) (hm : l0.length ≤ 9223372036854775807) (h : l0.all fOk = false) :
  Calls Tru.prog 64 #[.slice A0 l0.length c0, .func (.func 65) #[] #[]] w fun e w' => e = .returned (.bool true) ∧ Drawn0 w w' := by
 have HR0 := Aside0.mk hr0
 clear hr0
 have H := Aside0.mk h
 clear h
 go_enter Tru.func64, Try.ntmps64
 go_wp2_with (first | (go_at_call 84; refine (IndexFunc.bad A0 c0 l0 _ HR0.out hm H.out).mono ?_; rintro e w' ⟨j, rfl, ⟨nd, rfl⟩⟩))
 go_ret
 exact ⟨by simp, by repeat (first | exact Drawn0.refl _ | apply Drawn0.step)⟩
def impl_elementsOk.f (l0 : List Int) (a1 : Int) : Option Bool := some (decide ((l0.length : Int) ≤ a1) && l0.all fOk)
set_option maxHeartbeats 1000000 in
set_option maxRecDepth 100000 in
theorem impl_elementsOk.calls (A0 : Option Addr) (c0 : Nat) (l0 : List Int) (a1 : Int) (r : Bool) (w : World) (hr0 : Kd.C (Kd.int .i64) w A0 l0.length l0) (hc0 : l0.length ≤ c0) (h : impl_elementsOk.f l0 a1 = some r) :
  Calls Tru.prog 36 #[.slice A0 l0.length c0, .int .i64 a1] w fun e w' => e = .returned (.bool r) ∧ Drawn0 w w' := by
 obtain rfl := Option.some.inj h
 clear h
 have hm : l0.length ≤ 9223372036854775807 := hr0.2.1
 have HR0 := Aside0.mk hr0
 clear hr0
 by_cases c2 : (l0.length : Int) ≤ a1
 ·have c2b0 : decide ((l0.length : Int) ≤ a1) = true := decide_eq_true c2
  cases hall : l0.all fOk
  ·have H := Aside0.mk hall
   rw [c2b0]
   clear hall c2
   go_enter Tru.func36, Try.ntmps36
   go_wp2_with (first | (go_at_call 64; refine (ContainsFunc.bad A0 c0 l0 _ HR0.out hm H.out).mono ?_; rintro e w' ⟨rfl, ⟨nd, rfl⟩⟩))
   go_ret
   exact ⟨by first | rfl | (simp; done) | (simp [*]; done), by repeat (first | exact Drawn0.refl _ | apply Drawn0.step)⟩
  ·have H := Aside0.mk hall
   rw [c2b0]
   clear hall c2
   go_enter Tru.func36, Try.ntmps36
   go_wp2_with (first | (go_at_call 64; refine (ContainsFunc.ok A0 c0 l0 _ HR0.out hm H.out).mono ?_; rintro e w' ⟨rfl, ⟨nd, rfl⟩⟩))
   go_ret
   exact ⟨by first | rfl | (simp; done) | (simp [*]; done), by repeat (first | exact Drawn0.refl _ | apply Drawn0.step)⟩
 ·have c2b0 : decide ((l0.length : Int) ≤ a1) = false := decide_eq_false c2
  rw [c2b0]
  clear c2
  go_enter Tru.func36, Try.ntmps36
  go_wp2
  go_ret
  exact ⟨by first | rfl | (simp; done) | (simp [*]; done), by repeat (first | exact Drawn0.refl _ | apply Drawn0.step)⟩
def impl_elementOf.f (a0 : Int) : Option (Int) := some (Int.tmod (wrap64 ((Int.tmod a0 31) + 31)) 31)
def impl_element_plus.f (a0 : Int) (a1 : Int) : Option (Int) := (impl_elementOf.f (wrap64 (a0 + a1))).bind fun t159 => (some t159)
set_option maxRecDepth 100000 in
theorem tmod31 (n : Int) : -30 ≤ Int.tmod n 31 ∧ Int.tmod n 31 ≤ 30 ∧ Int.tmod n 31 % 31 = n % 31 := by
 have h := @Int.tmod_eq_emod n 31
 split at h <;> simp at h <;> omega
set_option maxRecDepth 100000 in
theorem elementOf_f (n : Int) : impl_elementOf.f n = some (n % 31) := by
 unfold impl_elementOf.f
 have h := tmod31 n
 rw [show wrap64 (Int.tmod n 31 + 31) = Int.tmod n 31 + 31 by unfold wrap64; omega, Int.tmod_eq_emod_of_nonneg (by omega)]
 congr 1; omega
set_option maxRecDepth 100000 in
theorem plus_f (a b : Int) (ha : 0 ≤ a ∧ a ≤ 30) (hb : 0 ≤ b ∧ b ≤ 30) : impl_element_plus.f a b = some ((a + b) % 31) := by
 unfold impl_element_plus.f
 rw [show wrap64 (a + b) = a + b by unfold wrap64; omega, elementOf_f]; rfl
set_option maxHeartbeats 1000000 in
set_option maxRecDepth 100000 in
theorem plus_still (a b : Int) (w : World) (ha : 0 ≤ a ∧ a ≤ 30) (hb : 0 ≤ b ∧ b ≤ 30) : Calls Tru.prog 37 #[.int .i64 a, .int .i64 b] w fun e w' => e = .returned (.int .i64 ((a + b) % 31)) ∧ w' = w := by
 obtain ⟨h1, h2⟩ := ha
 obtain ⟨h3, h4⟩ := hb
 have h5 : 0 ≤ a + b := by omega
 go_enter Tru.func37, Try.ntmps37
 go_wp2
 go_ret
 exact ⟨by first | rfl | (simp; done) | (simp; omega), rfl⟩
set_option maxHeartbeats 1000000 in
set_option maxRecDepth 100000 in
theorem times_still (a b : Int) (w : World) (ha : 0 ≤ a ∧ a ≤ 30) (hb : 0 ≤ b ∧ b ≤ 30) : Calls Tru.prog 38 #[.int .i64 a, .int .i64 b] w fun e w' => e = .returned (.int .i64 ((a * b) % 31)) ∧ w' = w := by
 have h5 : 0 ≤ a * b := Int.mul_nonneg ha.1 hb.1
 have h6 : a * b ≤ 30 * 30 := Int.mul_le_mul ha.2 hb.2 hb.1 (by omega)
 obtain ⟨h1, h2⟩ := ha
 obtain ⟨h3, h4⟩ := hb
 go_enter Tru.func38, Try.ntmps38
 go_wp2
 go_ret
 exact ⟨by first | rfl | (simp; done) | (simp; omega), rfl⟩
def cells4 (x0 x1 x2 x3 : Int) : Array Value := #[.int .i64 x0, .int .i64 x1, .int .i64 x2, .int .i64 x3]
def fourSum (l0 l1 : List Int) (j : Nat) : Int := (rd l0 j + rd l1 j) % 31
def dec4 (l0 l1 : List Int) : Bool := (fourSum l0 l1 0 * fourSum l0 l1 1 % 31 == fourSum l0 l1 2) && (fourSum l0 l1 3 == 0)
def Part4 (l0 l1 : List Int) (k : Nat) (x0 x1 x2 x3 : Int) : Prop := (0 < k → x0 = fourSum l0 l1 0) ∧ (1 < k → x1 = fourSum l0 l1 1) ∧ (2 < k → x2 = fourSum l0 l1 2) ∧ (3 < k → x3 = fourSum l0 l1 3)
set_option maxRecDepth 100000 in
theorem rd_ok (l : List Int) (h : l.all fOk = true) (i : Nat) : 0 ≤ rd l i ∧ rd l i ≤ 30 := by
 unfold rd
 simp only [Int.toNat_natCast, List.getD_eq_getElem?_getD]
 rcases Nat.lt_or_ge i l.length with hi | hi
 ·have := List.all_eq_true.1 h l[i] (List.getElem_mem hi)
  rw [List.getElem?_eq_getElem hi]
  simp only [fOk, Bool.and_eq_true, decide_eq_true_eq] at this
  exact this
 ·rw [List.getElem?_eq_none hi]; simp
set_option maxHeartbeats 2000000 in
set_option maxRecDepth 100000 in
theorem QueryDecide.road (A0 A1 : Option Addr) (c0 c1 : Nat) (l0 l1 : List Int) (w : World) (hr0 : Kd.C (Kd.int .i64) w A0 l0.length l0) (hr1 : Kd.C (Kd.int .i64) w A1 l1.length l1)
 (h0 : l0.length = 4) (h1 : l1.length = 4) (ha : l0.all fOk = true) (hb : l1.all fOk = true) (hc0 : l0.length ≤ c0) (hc1 : l1.length ≤ c1) :
  Calls Tru.prog 9 #[.slice A0 l0.length c0, .slice A1 l1.length c1] w fun e w' => e = .returned (.bool (dec4 l0 l1)) ∧ Below w.heap.size w w' := by
 have e0 : impl_elementsOk.f l0 4 = some true := by simp [impl_elementsOk.f, h0, ha]
 have e1 : impl_elementsOk.f l1 4 = some true := by simp [impl_elementsOk.f, h1, hb]
 have PL : Aside0 (∀ k : Nat, impl_element_plus.f (rd l0 k) (rd l1 k) = some (fourSum l0 l1 k)) := ⟨fun k => plus_f _ _ (rd_ok l0 ha k) (rd_ok l1 hb k)⟩
 have E0 := Aside0.mk e0
 have E1 := Aside0.mk e1
 have HR0 := Aside0.mk hr0
 have HR1 := Aside0.mk hr1
 have b0 : ((l0.length : Int) != 4) = false := by simp [h0]
 have b1 : ((l1.length : Int) != 4) = false := by simp [h1]
 have d0 : (l0.length != 4) = false := by simp [h0]
 have d1 : (l1.length != 4) = false := by simp [h1]
 have H0 := Aside0.mk h0
 have H1 := Aside0.mk h1
 have hA0 := Aside0.mk ha
 have hA1 := Aside0.mk hb
 clear e0 e1 hr0 hr1 ha hb h0 h1
 go_enter Tru.func9, Try.ntmps9
 go_wp2_with (first | (go_at_call 36; (with_reducible refine (impl_elementsOk.calls A0 c0 l0 4 true _ HR0.out hc0 E0.out).mono ?_); rintro e w' ⟨rfl, ⟨nd, rfl⟩⟩) | (go_at_call 36; (with_reducible refine (impl_elementsOk.calls A1 c1 l1 4 true _ (Kd.C_below HR1.out (by repeat (first | exact Below.refl _ _ | apply pw_below_drewN | apply below_drew))) hc1 E1.out).mono ?_); rintro e w' ⟨rfl, ⟨nd, rfl⟩⟩))
 go_loopw [25] (fun i wr => ∃ (k : Nat) (x0 x1 x2 x3 : Int), k ≤ 4 ∧ i = .int .i64 k ∧ Aside0 (wr.heap[w.heap.size]? = some (.cells (cells4 x0 x1 x2 x3) 61 (0, 0))) ∧ Aside0 (Below w.heap.size w wr) ∧ Aside0 (Part4 l0 l1 k x0 x1 x2 x3)) (fun i _ => 4 - (intOf i).toNat)
 case atStart => exact ⟨0, 0, 0, 0, 0, by omega, rfl, ⟨by simpa [cells4] using blk_new (w.drewN _) _⟩, ⟨by repeat (first | exact Below.refl _ _ | apply below_alloc | apply pw_below_drewN | apply below_drew)⟩, ⟨by unfold Part4; omega⟩⟩
 case round =>
  obtain ⟨k, x0, x1, x2, x3, hk, rfl, HC, HB, HP⟩ := hrel
  rcases (show k = 0 ∨ k = 1 ∨ k = 2 ∨ k = 3 ∨ k = 4 by omega) with rfl | rfl | rfl | rfl | rfl
  ·have hb0 : (0 : Int) < (l0.length : Int) := by have := H0.out; omega
   have hb1 : (0 : Int) < (l1.length : Int) := by have := H1.out; omega
   obtain ⟨ad0, e0, hx0⟩ := Kd.at_int HR0.out (0 : Int) (by omega) hb0
   cases e0
   obtain ⟨ad1, e1, hx1⟩ := Kd.at_int HR1.out (0 : Int) (by omega) hb1
   cases e1
   replace hx0 := (HB.out.cell (World.block_lt_of_cell? w _ hx0)).trans hx0
   replace hx1 := (HB.out.cell (World.block_lt_of_cell? w _ hx1)).trans hx1
   have hn0 : 0 < l0.length := by have := H0.out; omega
   have hn1 : 0 < l1.length := by have := H1.out; omega
   have hy0 : wr.cell? ad0 = some (.int .i64 (rd l0 0)) := hx0
   have hy1 : wr.cell? ad1 = some (.int .i64 (rd l1 0)) := hx1
   clear hx0 hx1
   go_wp2
   go_still_tail 11, (by kernel_rfl)
   still_call (plus_still _ _ _ (rd_ok l0 hA0.out 0) (rd_ok l1 hA1.out 0))
   repeat still_step
   refine wpStill_nil ?_
   change wpList _ _ _ _ _ wr.drew
   have hcell : wr.drew.cell? ⟨w.heap.size, 0, none⟩ = some (.int .i64 x0) := blk_cell HC.out 0
   have hfro : wr.drew.frozen? ⟨w.heap.size, 0, none⟩ = false := blk_frozen HC.out 0
   have HC2 : Aside0 (wr.drew.heap[w.heap.size]? = some (.cells (cells4 x0 x1 x2 x3) 61 (0, 0))) := ⟨HC.out⟩
   have HB2 : Aside0 (Below w.heap.size w wr.drew) := ⟨below_drew HB.out⟩
   generalize hW : wr.drew = w2 at hcell hfro HC2 HB2
   clear hW
   go_wp2
   go_roundw
   case rel => exact ⟨1, fourSum l0 l1 0, x1, x2, x3, by omega, by first | rfl | go_num, ⟨blk_put HC2.out 0 _ rfl⟩, ⟨below_set HB2.out (Nat.le_refl _)⟩, ⟨by have := HP.out; unfold Part4 at this ⊢; refine ⟨?_, ?_, ?_, ?_⟩ <;> intro hh <;> first | rfl | omega | exact this.1 (by omega) | exact this.2.1 (by omega) | exact this.2.2.1 (by omega)⟩⟩
   case measure => simp [intOf]
  ·have hb0 : (1 : Int) < (l0.length : Int) := by have := H0.out; omega
   have hb1 : (1 : Int) < (l1.length : Int) := by have := H1.out; omega
   obtain ⟨ad0, e0, hx0⟩ := Kd.at_int HR0.out (1 : Int) (by omega) hb0
   cases e0
   obtain ⟨ad1, e1, hx1⟩ := Kd.at_int HR1.out (1 : Int) (by omega) hb1
   cases e1
   replace hx0 := (HB.out.cell (World.block_lt_of_cell? w _ hx0)).trans hx0
   replace hx1 := (HB.out.cell (World.block_lt_of_cell? w _ hx1)).trans hx1
   have hn0 : 1 < l0.length := by have := H0.out; omega
   have hn1 : 1 < l1.length := by have := H1.out; omega
   have hy0 : wr.cell? ⟨ad0.block, ad0.off + 1, none⟩ = some (.int .i64 (rd l0 1)) := hx0
   have hy1 : wr.cell? ⟨ad1.block, ad1.off + 1, none⟩ = some (.int .i64 (rd l1 1)) := hx1
   clear hx0 hx1
   go_wp2
   go_still_tail 11, (by kernel_rfl)
   still_call (plus_still _ _ _ (rd_ok l0 hA0.out 1) (rd_ok l1 hA1.out 1))
   repeat still_step
   refine wpStill_nil ?_
   change wpList _ _ _ _ _ wr.drew
   have hcell : wr.drew.cell? ⟨w.heap.size, 1, none⟩ = some (.int .i64 x1) := blk_cell HC.out 1
   have hfro : wr.drew.frozen? ⟨w.heap.size, 1, none⟩ = false := blk_frozen HC.out 1
   have HC2 : Aside0 (wr.drew.heap[w.heap.size]? = some (.cells (cells4 x0 x1 x2 x3) 61 (0, 0))) := ⟨HC.out⟩
   have HB2 : Aside0 (Below w.heap.size w wr.drew) := ⟨below_drew HB.out⟩
   generalize hW : wr.drew = w2 at hcell hfro HC2 HB2
   clear hW
   go_wp2
   go_roundw
   case rel => exact ⟨2, x0, fourSum l0 l1 1, x2, x3, by omega, by first | rfl | go_num, ⟨blk_put HC2.out 1 _ rfl⟩, ⟨below_set HB2.out (Nat.le_refl _)⟩, ⟨by have := HP.out; unfold Part4 at this ⊢; refine ⟨?_, ?_, ?_, ?_⟩ <;> intro hh <;> first | rfl | omega | exact this.1 (by omega) | exact this.2.1 (by omega) | exact this.2.2.1 (by omega)⟩⟩
   case measure => simp [intOf]
  ·have hb0 : (2 : Int) < (l0.length : Int) := by have := H0.out; omega
   have hb1 : (2 : Int) < (l1.length : Int) := by have := H1.out; omega
   obtain ⟨ad0, e0, hx0⟩ := Kd.at_int HR0.out (2 : Int) (by omega) hb0
   cases e0
   obtain ⟨ad1, e1, hx1⟩ := Kd.at_int HR1.out (2 : Int) (by omega) hb1
   cases e1
   replace hx0 := (HB.out.cell (World.block_lt_of_cell? w _ hx0)).trans hx0
   replace hx1 := (HB.out.cell (World.block_lt_of_cell? w _ hx1)).trans hx1
   have hn0 : 2 < l0.length := by have := H0.out; omega
   have hn1 : 2 < l1.length := by have := H1.out; omega
   have hy0 : wr.cell? ⟨ad0.block, ad0.off + 2, none⟩ = some (.int .i64 (rd l0 2)) := hx0
   have hy1 : wr.cell? ⟨ad1.block, ad1.off + 2, none⟩ = some (.int .i64 (rd l1 2)) := hx1
   clear hx0 hx1
   go_wp2
   go_still_tail 11, (by kernel_rfl)
   still_call (plus_still _ _ _ (rd_ok l0 hA0.out 2) (rd_ok l1 hA1.out 2))
   repeat still_step
   refine wpStill_nil ?_
   change wpList _ _ _ _ _ wr.drew
   have hcell : wr.drew.cell? ⟨w.heap.size, 2, none⟩ = some (.int .i64 x2) := blk_cell HC.out 2
   have hfro : wr.drew.frozen? ⟨w.heap.size, 2, none⟩ = false := blk_frozen HC.out 2
   have HC2 : Aside0 (wr.drew.heap[w.heap.size]? = some (.cells (cells4 x0 x1 x2 x3) 61 (0, 0))) := ⟨HC.out⟩
   have HB2 : Aside0 (Below w.heap.size w wr.drew) := ⟨below_drew HB.out⟩
   generalize hW : wr.drew = w2 at hcell hfro HC2 HB2
   clear hW
   go_wp2
   go_roundw
   case rel => exact ⟨3, x0, x1, fourSum l0 l1 2, x3, by omega, by first | rfl | go_num, ⟨blk_put HC2.out 2 _ rfl⟩, ⟨below_set HB2.out (Nat.le_refl _)⟩, ⟨by have := HP.out; unfold Part4 at this ⊢; refine ⟨?_, ?_, ?_, ?_⟩ <;> intro hh <;> first | rfl | omega | exact this.1 (by omega) | exact this.2.1 (by omega) | exact this.2.2.1 (by omega)⟩⟩
   case measure => simp [intOf]
  ·have hb0 : (3 : Int) < (l0.length : Int) := by have := H0.out; omega
   have hb1 : (3 : Int) < (l1.length : Int) := by have := H1.out; omega
   obtain ⟨ad0, e0, hx0⟩ := Kd.at_int HR0.out (3 : Int) (by omega) hb0
   cases e0
   obtain ⟨ad1, e1, hx1⟩ := Kd.at_int HR1.out (3 : Int) (by omega) hb1
   cases e1
   replace hx0 := (HB.out.cell (World.block_lt_of_cell? w _ hx0)).trans hx0
   replace hx1 := (HB.out.cell (World.block_lt_of_cell? w _ hx1)).trans hx1
   have hn0 : 3 < l0.length := by have := H0.out; omega
   have hn1 : 3 < l1.length := by have := H1.out; omega
   have hy0 : wr.cell? ⟨ad0.block, ad0.off + 3, none⟩ = some (.int .i64 (rd l0 3)) := hx0
   have hy1 : wr.cell? ⟨ad1.block, ad1.off + 3, none⟩ = some (.int .i64 (rd l1 3)) := hx1
   clear hx0 hx1
   go_wp2
   go_still_tail 11, (by kernel_rfl)
   still_call (plus_still _ _ _ (rd_ok l0 hA0.out 3) (rd_ok l1 hA1.out 3))
   repeat still_step
   refine wpStill_nil ?_
   change wpList _ _ _ _ _ wr.drew
   have hcell : wr.drew.cell? ⟨w.heap.size, 3, none⟩ = some (.int .i64 x3) := blk_cell HC.out 3
   have hfro : wr.drew.frozen? ⟨w.heap.size, 3, none⟩ = false := blk_frozen HC.out 3
   have HC2 : Aside0 (wr.drew.heap[w.heap.size]? = some (.cells (cells4 x0 x1 x2 x3) 61 (0, 0))) := ⟨HC.out⟩
   have HB2 : Aside0 (Below w.heap.size w wr.drew) := ⟨below_drew HB.out⟩
   generalize hW : wr.drew = w2 at hcell hfro HC2 HB2
   clear hW
   go_wp2
   go_roundw
   case rel => exact ⟨4, x0, x1, x2, fourSum l0 l1 3, by omega, by first | rfl | go_num, ⟨blk_put HC2.out 3 _ rfl⟩, ⟨below_set HB2.out (Nat.le_refl _)⟩, ⟨by have := HP.out; unfold Part4 at this ⊢; refine ⟨?_, ?_, ?_, ?_⟩ <;> intro hh <;> first | rfl | omega | exact this.1 (by omega) | exact this.2.1 (by omega) | exact this.2.2.1 (by omega)⟩⟩
   case measure => simp [intOf]
  ·have e4 : ((4 : Nat) : Int) = 4 := rfl
   rw [e4]
   clear e4
   obtain ⟨rfl, rfl, rfl, rfl⟩ : x0 = fourSum l0 l1 0 ∧ x1 = fourSum l0 l1 1 ∧ x2 = fourSum l0 l1 2 ∧ x3 = fourSum l0 l1 3 := by have := HP.out; unfold Part4 at this; exact ⟨this.1 (by omega), this.2.1 (by omega), this.2.2.1 (by omega), this.2.2.2 (by omega)⟩
   have g0 : wr.cell? ⟨w.heap.size, 0, none⟩ = some (.int .i64 (fourSum l0 l1 0)) := blk_cell HC.out 0
   have g1 : wr.cell? ⟨w.heap.size, 1, none⟩ = some (.int .i64 (fourSum l0 l1 1)) := blk_cell HC.out 1
   have g2 : wr.cell? ⟨w.heap.size, 2, none⟩ = some (.int .i64 (fourSum l0 l1 2)) := blk_cell HC.out 2
   have g3 : wr.cell? ⟨w.heap.size, 3, none⟩ = some (.int .i64 (fourSum l0 l1 3)) := blk_cell HC.out 3
   have hs : ∀ j, 0 ≤ fourSum l0 l1 j ∧ fourSum l0 l1 j ≤ 30 := fun j => by unfold fourSum; omega
   have HS := Aside0.mk hs
   clear hs
   cases hd : (fourSum l0 l1 0 * fourSum l0 l1 1 % 31 == fourSum l0 l1 2)
   ·have HD := Aside0.mk hd
    go_wp2
    refine wp_region_still_lit (by kernel_rfl) (by kernel_rfl) ?_
    repeat still_step
    still_call (times_still _ _ _ (HS.out 0) (HS.out 1))
    repeat still_step
    refine wpStill_nil ?_
    change Exit.then _ _ _ _ wr.drew
    go_wp2
    go_ret
    exact ⟨by unfold dec4; rw [HD.out]; first | rfl | (simp; done), below_drew HB.out⟩
   ·have HD := Aside0.mk hd
    go_wp2
    refine wp_region_still_lit (by kernel_rfl) (by kernel_rfl) ?_
    repeat still_step
    still_call (times_still _ _ _ (HS.out 0) (HS.out 1))
    repeat still_step
    refine wpStill_nil ?_
    change Exit.then _ _ _ _ wr.drew
    go_wp2
    go_ret
    exact ⟨by unfold dec4; rw [HD.out]; first | rfl | (simp; done), below_drew HB.out⟩
def impl_QueryDecide.f (l0 l1 : List Int) : Option Bool := some (decide (l0.length = 4) && decide (l1.length = 4) && l0.all fOk && l1.all fOk && dec4 l0 l1)
set_option maxHeartbeats 1000000 in
set_option maxRecDepth 100000 in
theorem impl_QueryDecide.calls (A0 : Option Addr) (c0 : Nat) (l0 : List Int) (A1 : Option Addr) (c1 : Nat) (l1 : List Int) (r : Bool) (w : World) (hr0 : Kd.C (Kd.int .i64) w A0 l0.length l0) (hc0 : l0.length ≤ c0) (hr1 : Kd.C (Kd.int .i64) w A1 l1.length l1) (hc1 : l1.length ≤ c1) (h : impl_QueryDecide.f l0 l1 = some r) :
  Calls Tru.prog 9 #[.slice A0 l0.length c0, .slice A1 l1.length c1] w fun e w' => e = .returned (.bool r) ∧ Below w.heap.size w w' := by
 obtain rfl := Option.some.inj h
 clear h
 by_cases h0 : l0.length = 4
 ·by_cases h1 : l1.length = 4
  ·cases ha : l0.all fOk
   ·have e0 : impl_elementsOk.f l0 4 = some false := by simp [impl_elementsOk.f, h0, ha]
    have er : (decide (l0.length = 4) && decide (l1.length = 4) && false && l1.all fOk && dec4 l0 l1) = false := by simp
    rw [er]
    have E0 := Aside0.mk e0
    have HR0 := Aside0.mk hr0
    have b0 : ((l0.length : Int) != 4) = false := by simp [h0]
    have b1 : ((l1.length : Int) != 4) = false := by simp [h1]
    have d0 : (l0.length != 4) = false := by simp [h0]
    have d1 : (l1.length != 4) = false := by simp [h1]
    clear e0 er hr0 ha h0 h1
    go_enter Tru.func9, Try.ntmps9
    go_wp2_with (first | (go_at_call 36; (with_reducible refine (impl_elementsOk.calls A0 c0 l0 4 false _ HR0.out hc0 E0.out).mono ?_); rintro e w' ⟨rfl, ⟨nd, rfl⟩⟩))
    go_ret
    exact ⟨by first | rfl | (simp; done), (by repeat (first | exact Below.refl _ _ | apply pw_below_drewN | apply below_drew))⟩
   ·cases hb : l1.all fOk
    ·have e0 : impl_elementsOk.f l0 4 = some true := by simp [impl_elementsOk.f, h0, ha]
     have e1 : impl_elementsOk.f l1 4 = some false := by simp [impl_elementsOk.f, h1, hb]
     have er : (decide (l0.length = 4) && decide (l1.length = 4) && true && false && dec4 l0 l1) = false := by simp
     rw [er]
     have E0 := Aside0.mk e0
     have E1 := Aside0.mk e1
     have HR0 := Aside0.mk hr0
     have HR1 := Aside0.mk hr1
     have b0 : ((l0.length : Int) != 4) = false := by simp [h0]
     have b1 : ((l1.length : Int) != 4) = false := by simp [h1]
     have d0 : (l0.length != 4) = false := by simp [h0]
     have d1 : (l1.length != 4) = false := by simp [h1]
     clear e0 e1 er hr0 hr1 ha hb h0 h1
     go_enter Tru.func9, Try.ntmps9
     go_wp2_with (first | (go_at_call 36; (with_reducible refine (impl_elementsOk.calls A0 c0 l0 4 true _ HR0.out hc0 E0.out).mono ?_); rintro e w' ⟨rfl, ⟨nd, rfl⟩⟩) | (go_at_call 36; (with_reducible refine (impl_elementsOk.calls A1 c1 l1 4 false _ (Kd.C_below HR1.out (by repeat (first | exact Below.refl _ _ | apply pw_below_drewN | apply below_drew))) hc1 E1.out).mono ?_); rintro e w' ⟨rfl, ⟨nd, rfl⟩⟩))
     go_ret
     exact ⟨by first | rfl | (simp; done), (by repeat (first | exact Below.refl _ _ | apply pw_below_drewN | apply below_drew))⟩
    ·have er : (decide (l0.length = 4) && decide (l1.length = 4) && true && true && dec4 l0 l1) = dec4 l0 l1 := by simp [h0, h1]
     rw [er]
     exact QueryDecide.road A0 A1 c0 c1 l0 l1 w hr0 hr1 h0 h1 ha hb hc0 hc1
  ·have er : (decide (l0.length = 4) && decide (l1.length = 4) && l0.all fOk && l1.all fOk && dec4 l0 l1) = false := by simp [h1]
   rw [er]
   have b0 : ((l0.length : Int) != 4) = false := by simp [h0]
   have b1 : ((l1.length : Int) != 4) = true := by simp; omega
   have d0 : (l0.length != 4) = false := by simp [h0]
   have d1 : (l1.length != 4) = true := by simp [h1]
   clear er h0 h1
   go_enter Tru.func9, Try.ntmps9
   go_wp2
   go_ret
   exact ⟨by first | rfl | (simp; done), (by repeat (first | exact Below.refl _ _ | apply pw_below_drewN | apply below_drew))⟩
 ·have er : (decide (l0.length = 4) && decide (l1.length = 4) && l0.all fOk && l1.all fOk && dec4 l0 l1) = false := by simp [h0]
  rw [er]
  have b0 : ((l0.length : Int) != 4) = true := by simp; omega
  have d0 : (l0.length != 4) = true := by simp [h0]
  clear er h0
  go_enter Tru.func9, Try.ntmps9
  go_wp2
  go_ret
  exact ⟨by first | rfl | (simp; done), (by repeat (first | exact Below.refl _ _ | apply pw_below_drewN | apply below_drew))⟩
def spec_ShareOk.l0 : Nat → List Int → Int → Option (Bool)
 | 0, _, _ => none
 | k + 1, x0, x3 => if x3 < (x0.length : Int) then (if 0 ≤ x3 then ((spec_FieldOk.f (rd x0 x3)).bind fun t162 => (if t162 = true then (spec_ShareOk.l0 k x0 (wrap64 (x3 + 1))) else (some false))) else (none)) else (some (decide ((x0.length : Int) ≤ 20)))
def spec_ShareOk.f (k : Nat) (l0 : List Int) : Option (Bool) := spec_ShareOk.l0 k l0 0
set_option maxHeartbeats 8000000 in
set_option maxRecDepth 100000 in
theorem spec_ShareOk.calls (k : Nat) (A0 : Option Addr) (c0 : Nat) (l0 : List Int) (r : Bool) (w : World) (hr0 : Kd.C (Kd.int .i64) w A0 l0.length l0) (hc0 : l0.length ≤ c0) (h : spec_ShareOk.f k l0 = some r) :
  Calls Tru.prog 39 #[.slice A0 l0.length c0] w fun e w' => e = .returned (.bool r) ∧ Drawn0 w w' := by
 have HR0 := Aside0.mk hr0
 have HC0 := Aside0.mk hc0
 clear hr0 hc0
 have H : (spec_ShareOk.l0 k l0 0) = some r := h
 clear h
 have H' := Aside0.mk H
 clear H
 go_enter Tru.func39, Try.ntmps39
 go_wp2
 go_loopg [3] k (fun kq v3 w' => ∃ (x3_1 : Int), v3 = .int .i64 x3_1 ∧ Aside0 (spec_ShareOk.l0 kq l0 x3_1 = some r) ∧ Aside0 (kq ≤ k) ∧ Drawn0 w w')
 case atStart => exact ⟨(0), (by first | rfl | (simp; done) | (simp [*]; done)), H', ⟨Nat.le_refl _⟩, by repeat (first | exact Drawn0.refl _ | apply Drawn0.step)⟩
 case round =>
  clear H'
  obtain ⟨x3_1, rfl, HA, HK1, ⟨m1, rfl⟩⟩ := hrel
  cases gk with
  | zero => exact absurd HA.out (by simp [spec_ShareOk.l0])
  | succ k1 =>
   have H := HA.out
   clear HA
   simp only [spec_ShareOk.l0] at H
   by_cases c2 : x3_1 < (l0.length : Int)
   ·rw [if_pos c2] at H
    have c2b0 : decide (x3_1 < (l0.length : Int)) = true := decide_eq_true c2
    clear c2
    by_cases c3 : 0 ≤ x3_1
    ·rw [if_pos c3] at H
     have c3b0 : decide (0 ≤ x3_1) = true := decide_eq_true c3
     clear c3
     replace H := Option.bind_eq_some_iff.mp H
     obtain ⟨t162, A40, H⟩ := H
     replace H : (if t162 = true then (spec_ShareOk.l0 k1 l0 (wrap64 (x3_1 + 1))) else (some false)) = some r := H
     have A4 := Aside0.mk A40
     clear A40
     by_cases c5 : t162 = true
     ·subst c5
      have H1 : (spec_ShareOk.l0 k1 l0 (wrap64 (x3_1 + 1))) = some r := by rw [if_pos rfl] at H; exact H
      clear H
      have H := H1
      clear H1
      have H' := Aside0.mk H
      clear H
      have p161 : 0 ≤ (x3_1 : Int) := of_decide_eq_true (by first | (with_reducible assumption) | assumption)
      have q161 : x3_1 < (l0.length : Int) := of_decide_eq_true (by first | (with_reducible assumption) | assumption)
      obtain ⟨ad161, e161, hx161_0⟩ := Kd.at_int HR0.out x3_1 p161 q161
      cases e161
      replace p161 := eq_true p161
      replace q161 := eq_true q161
      go_wp2_with (first | ((with_reducible refine gate_callee (f := 63) rfl ?_); refine goesL_ (some 14) rfl rfl Tru.func63 (by kernel_rfl) rfl #[.int .i64 (rd l0 x3_1)] rfl (by (try simp only [List.map_toArray, List.map_cons, List.map_nil]); first | done | rfl | (simp only [List.length_drop, List.length_take]; rfl)) ?_; (with_reducible refine (spec_FieldOk.calls (rd l0 x3_1) true _ A4.out).mono ?_); rintro e w' ⟨rfl, ⟨nd, rfl⟩⟩; refine ⟨_, rfl, ?_⟩))
      go_roundg k1
      case measure => have := HK1.out; omega
      case rel => exact ⟨(wrap64 (x3_1 + 1)), (by first | rfl | (simp; done) | (simp [*]; done)), H', ⟨by have := HK1.out; omega⟩, by repeat (first | exact Drawn0.refl _ | apply Drawn0.step)⟩
     ·replace c5 := Bool.eq_false_iff.mpr c5
      subst c5
      have H1 : (some false) = some r := by rw [if_neg (show ¬ (false = true) by decide)] at H; exact H
      clear H
      have H := H1
      clear H1
      obtain rfl := Option.some.inj H
      have p161 : 0 ≤ (x3_1 : Int) := of_decide_eq_true (by first | (with_reducible assumption) | assumption)
      have q161 : x3_1 < (l0.length : Int) := of_decide_eq_true (by first | (with_reducible assumption) | assumption)
      obtain ⟨ad161, e161, hx161_0⟩ := Kd.at_int HR0.out x3_1 p161 q161
      cases e161
      replace p161 := eq_true p161
      replace q161 := eq_true q161
      go_wp2_with (first | ((with_reducible refine gate_callee (f := 63) rfl ?_); refine goesL_ (some 14) rfl rfl Tru.func63 (by kernel_rfl) rfl #[.int .i64 (rd l0 x3_1)] rfl (by (try simp only [List.map_toArray, List.map_cons, List.map_nil]); first | done | rfl | (simp only [List.length_drop, List.length_take]; rfl)) ?_; (with_reducible refine (spec_FieldOk.calls (rd l0 x3_1) false _ A4.out).mono ?_); rintro e w' ⟨rfl, ⟨nd, rfl⟩⟩; refine ⟨_, rfl, ?_⟩))
      go_ret
      exact ⟨by first | rfl | (simp; done) | (simp [*]; done), by repeat (first | exact Drawn0.refl _ | apply Drawn0.step)⟩
    ·rw [if_neg c3] at H
     exact absurd H (by simp)
   ·rw [if_neg c2] at H
    have c2b0 : decide (x3_1 < (l0.length : Int)) = false := decide_eq_false c2
    clear c2
    obtain rfl := Option.some.inj H
    go_wp2
    go_ret
    exact ⟨by first | rfl | (simp; done) | (simp [*]; done), by repeat (first | exact Drawn0.refl _ | apply Drawn0.step)⟩
def spec_FieldSum.f (a0 : Int) (a1 : Int) : Option (Int) := (spec_FieldOk.f a0).bind fun t163 => (if t163 = true then ((spec_FieldOk.f a1).bind fun t164 => (if t164 = true then (some (Int.tmod (wrap64 (a0 + a1)) 31)) else (some 0))) else (some 0))
set_option maxHeartbeats 8000000 in
set_option maxRecDepth 100000 in
theorem spec_FieldSum.calls (a0 : Int) (a1 : Int) (r : Int) (w : World) (h : spec_FieldSum.f a0 a1 = some r) :
  Calls Tru.prog 85 #[.int .i64 a0, .int .i64 a1] w fun e w' => e = .returned (.int .i64 r) ∧ Drawn0 w w' := by
 have H : ((spec_FieldOk.f a0).bind fun t163 => (if t163 = true then ((spec_FieldOk.f a1).bind fun t164 => (if t164 = true then (some (Int.tmod (wrap64 (a0 + a1)) 31)) else (some 0))) else (some 0))) = some r := h
 clear h
 replace H := Option.bind_eq_some_iff.mp H
 obtain ⟨t163, A30, H⟩ := H
 replace H : (if t163 = true then ((spec_FieldOk.f a1).bind fun t164 => (if t164 = true then (some (Int.tmod (wrap64 (a0 + a1)) 31)) else (some 0))) else (some 0)) = some r := H
 have A3 := Aside0.mk A30
 clear A30
 by_cases c4 : t163 = true
 ·subst c4
  have H1 : ((spec_FieldOk.f a1).bind fun t164 => (if t164 = true then (some (Int.tmod (wrap64 (a0 + a1)) 31)) else (some 0))) = some r := by rw [if_pos rfl] at H; exact H
  clear H
  have H := H1
  clear H1
  replace H := Option.bind_eq_some_iff.mp H
  obtain ⟨t164, A50, H⟩ := H
  replace H : (if t164 = true then (some (Int.tmod (wrap64 (a0 + a1)) 31)) else (some 0)) = some r := H
  have A5 := Aside0.mk A50
  clear A50
  by_cases c6 : t164 = true
  ·subst c6
   have H1 : (some (Int.tmod (wrap64 (a0 + a1)) 31)) = some r := by rw [if_pos rfl] at H; exact H
   clear H
   have H := H1
   clear H1
   obtain rfl := Option.some.inj H
   go_enter Tru.func85, Try.ntmps85
   go_wp2_with (first | ((with_reducible refine gate_callee (f := 63) rfl ?_); refine goesL_ (some 6) rfl rfl Tru.func63 (by kernel_rfl) rfl #[.int .i64 a0] rfl (by (try simp only [List.map_toArray, List.map_cons, List.map_nil]); first | done | rfl | (simp only [List.length_drop, List.length_take]; rfl)) ?_; (with_reducible refine (spec_FieldOk.calls a0 true _ A3.out).mono ?_); rintro e w' ⟨rfl, ⟨nd, rfl⟩⟩; refine ⟨_, rfl, ?_⟩) | (go_at_call 63; (with_reducible refine (spec_FieldOk.calls a1 true _ A5.out).mono ?_); rintro e w' ⟨rfl, ⟨nd, rfl⟩⟩))
   go_ret
   exact ⟨by first | rfl | (simp; done) | (simp [*]; done), by repeat (first | exact Drawn0.refl _ | apply Drawn0.step)⟩
  ·replace c6 := Bool.eq_false_iff.mpr c6
   subst c6
   have H1 : (some 0) = some r := by rw [if_neg (show ¬ (false = true) by decide)] at H; exact H
   clear H
   have H := H1
   clear H1
   obtain rfl := Option.some.inj H
   go_enter Tru.func85, Try.ntmps85
   go_wp2_with (first | ((with_reducible refine gate_callee (f := 63) rfl ?_); refine goesL_ (some 6) rfl rfl Tru.func63 (by kernel_rfl) rfl #[.int .i64 a0] rfl (by (try simp only [List.map_toArray, List.map_cons, List.map_nil]); first | done | rfl | (simp only [List.length_drop, List.length_take]; rfl)) ?_; (with_reducible refine (spec_FieldOk.calls a0 true _ A3.out).mono ?_); rintro e w' ⟨rfl, ⟨nd, rfl⟩⟩; refine ⟨_, rfl, ?_⟩) | (go_at_call 63; (with_reducible refine (spec_FieldOk.calls a1 false _ A5.out).mono ?_); rintro e w' ⟨rfl, ⟨nd, rfl⟩⟩))
   go_ret
   exact ⟨by first | rfl | (simp; done) | (simp [*]; done), by repeat (first | exact Drawn0.refl _ | apply Drawn0.step)⟩
 ·replace c4 := Bool.eq_false_iff.mpr c4
  subst c4
  have H1 : (some 0) = some r := by rw [if_neg (show ¬ (false = true) by decide)] at H; exact H
  clear H
  have H := H1
  clear H1
  obtain rfl := Option.some.inj H
  go_enter Tru.func85, Try.ntmps85
  go_wp2_with (first | ((with_reducible refine gate_callee (f := 63) rfl ?_); refine goesL_ (some 6) rfl rfl Tru.func63 (by kernel_rfl) rfl #[.int .i64 a0] rfl (by (try simp only [List.map_toArray, List.map_cons, List.map_nil]); first | done | rfl | (simp only [List.length_drop, List.length_take]; rfl)) ?_; (with_reducible refine (spec_FieldOk.calls a0 false _ A3.out).mono ?_); rintro e w' ⟨rfl, ⟨nd, rfl⟩⟩; refine ⟨_, rfl, ?_⟩))
  go_ret
  exact ⟨by first | rfl | (simp; done) | (simp [*]; done), by repeat (first | exact Drawn0.refl _ | apply Drawn0.step)⟩
end Go.Proofs.Ytjkikkgpenhbgaa.Ba
