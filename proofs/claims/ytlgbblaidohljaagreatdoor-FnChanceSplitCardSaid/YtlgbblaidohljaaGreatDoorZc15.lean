import Derived.Test.YtlgbblaidohljaaGreatDoorZ
import Derived.Test.YtlgbblaidohljaaGreatDoorZc0
import Derived.Test.YtlgbblaidohljaaGreatDoorZc1
import Derived.Test.YtlgbblaidohljaaGreatDoorZc2
namespace Go.Proofs.YtlgbblaidohljaaGreatDoor.Zc
open Go.RowKit Go.Proofs.YtlgbblaidohljaaGreatDoorU.PrintWords Go.Proofs.YtlgbblaidohljaaGreatDoorU.PrintLast Go.Proofs.YtlgbblaidohljaaGreatDoorU.PrintMore Go.Proofs.YtlgbblaidohljaaGreatDoor.Z
attribute [local go_sem] max2_int min2_int max_two min_two max_three min_three max_four min_four
set_option linter.unusedVariables false
set_option linter.unusedSimpArgs false
theorem c67x15 : Ent Tryz.prog 67 := ent Tryz.func67 (by kernel_rfl) rfl
theorem c70x15 : Ent Tryz.prog 70 := ent Tryz.func70 (by kernel_rfl) rfl
theorem tmod31 (n : Int) : -30 ≤ Int.tmod n 31 ∧ Int.tmod n 31 ≤ 30 ∧ Int.tmod n 31 % 31 = n % 31 := by
 have h := @Int.tmod_eq_emod n 31
 split at h <;> simp at h <;> omega
theorem elementOf_f (n : Int) : impl_elementOf.f n = some (n % 31) := by
 unfold impl_elementOf.f
 have h := tmod31 n
 rw [show wrap64 (Int.tmod n 31 + 31) = Int.tmod n 31 + 31 by unfold wrap64; omega, Int.tmod_eq_emod_of_nonneg (by omega)]
 congr 1; omega
theorem plus_f (a b : Int) (ha : 0 ≤ a ∧ a ≤ 30) (hb : 0 ≤ b ∧ b ≤ 30) : impl_element_plus.f a b = some ((a + b) % 31) := by
 unfold impl_element_plus.f
 rw [show wrap64 (a + b) = a + b by unfold wrap64; omega, elementOf_f]; rfl
set_option maxHeartbeats 1000000 in
set_option maxRecDepth 100000 in
theorem plus_still (a b : Int) (w : World) (ha : 0 ≤ a ∧ a ≤ 30) (hb : 0 ≤ b ∧ b ≤ 30) : Calls Tryz.prog 70 #[.int .i64 a, .int .i64 b] w fun e w' => e = .returned (.int .i64 ((a + b) % 31)) ∧ w' = w := by
 obtain ⟨h1, h2⟩ := ha
 obtain ⟨h3, h4⟩ := hb
 have h5 : 0 ≤ a + b := by omega
 go_enter Tryz.func70, Tryz.ntmps70
 go_wp2
 go_ret
 exact ⟨by first | rfl | (simp; done) | (simp; omega), rfl⟩
set_option maxHeartbeats 1000000 in
set_option maxRecDepth 100000 in
theorem times_still (a b : Int) (w : World) (ha : 0 ≤ a ∧ a ≤ 30) (hb : 0 ≤ b ∧ b ≤ 30) : Calls Tryz.prog 67 #[.int .i64 a, .int .i64 b] w fun e w' => e = .returned (.int .i64 ((a * b) % 31)) ∧ w' = w := by
 have h5 : 0 ≤ a * b := Int.mul_nonneg ha.1 hb.1
 have h6 : a * b ≤ 30 * 30 := Int.mul_le_mul ha.2 hb.2 hb.1 (by omega)
 obtain ⟨h1, h2⟩ := ha
 obtain ⟨h3, h4⟩ := hb
 go_enter Tryz.func67, Tryz.ntmps67
 go_wp2
 go_ret
 exact ⟨by first | rfl | (simp; done) | (simp; omega), rfl⟩
def cells4 (x0 x1 x2 x3 : Int) : Array Value := #[.int .i64 x0, .int .i64 x1, .int .i64 x2, .int .i64 x3]
def fourSum (l0 l1 : List Int) (j : Nat) : Int := (rd l0 j + rd l1 j) % 31
def dec4 (l0 l1 : List Int) : Bool := (fourSum l0 l1 0 * fourSum l0 l1 1 % 31 == fourSum l0 l1 2) && (fourSum l0 l1 3 == 0)
def Part4 (l0 l1 : List Int) (k : Nat) (x0 x1 x2 x3 : Int) : Prop := (0 < k → x0 = fourSum l0 l1 0) ∧ (1 < k → x1 = fourSum l0 l1 1) ∧ (2 < k → x2 = fourSum l0 l1 2) ∧ (3 < k → x3 = fourSum l0 l1 3)
theorem rd_ok (l : List Int) (h : l.all fOk = true) (i : Nat) : 0 ≤ rd l i ∧ rd l i ≤ 30 := by
 unfold rd
 simp only [Int.toNat_natCast, List.getD_eq_getElem?_getD]
 rcases Nat.lt_or_ge i l.length with hi | hi
 ·have := List.all_eq_true.1 h l[i] (List.getElem_mem hi)
  rw [List.getElem?_eq_getElem hi]
  simp only [fOk, Bool.and_eq_true, decide_eq_true_eq] at this
  exact this
 ·rw [List.getElem?_eq_none hi]; simp
set_option maxHeartbeats 2000000 in
set_option maxRecDepth 100000 in
theorem QueryDecide.road (A0 A1 : Option Addr) (c0 c1 : Nat) (l0 l1 : List Int) (w : World) (hr0 : Kd.C (Kd.int .i64) w A0 l0.length l0) (hr1 : Kd.C (Kd.int .i64) w A1 l1.length l1)
 (h0 : l0.length = 4) (h1 : l1.length = 4) (ha : l0.all fOk = true) (hb : l1.all fOk = true) (hc0 : l0.length ≤ c0) (hc1 : l1.length ≤ c1) :
  Calls Tryz.prog 34 #[.slice A0 l0.length c0, .slice A1 l1.length c1] w fun e w' => e = .returned (.bool (dec4 l0 l1)) ∧ Below w.heap.size w w' := by
 have e0 : impl_elementsOk.f l0 4 = some true := by simp [impl_elementsOk.f, h0, ha]
 have e1 : impl_elementsOk.f l1 4 = some true := by simp [impl_elementsOk.f, h1, hb]
 have PL : Aside0 (∀ k : Nat, impl_element_plus.f (rd l0 k) (rd l1 k) = some (fourSum l0 l1 k)) := ⟨fun k => plus_f _ _ (rd_ok l0 ha k) (rd_ok l1 hb k)⟩
 have E0 := Aside0.mk e0
 have E1 := Aside0.mk e1
 have HR0 := Aside0.mk hr0
 have HR1 := Aside0.mk hr1
 have b0 : ((l0.length : Int) != 4) = false := by simp [h0]
 have b1 : ((l1.length : Int) != 4) = false := by simp [h1]
 have d0 : (l0.length != 4) = false := by simp [h0]
 have d1 : (l1.length != 4) = false := by simp [h1]
 have H0 := Aside0.mk h0
 have H1 := Aside0.mk h1
 have hA0 := Aside0.mk ha
 have hA1 := Aside0.mk hb
 clear e0 e1 hr0 hr1 ha hb h0 h1
 go_enter Tryz.func34, Tryz.ntmps34
 go_wp2_with (first | (go_at_call 73; (with_reducible refine (impl_elementsOk.calls A0 c0 l0 4 true _ HR0.out hc0 E0.out).mono ?_); rintro e w' ⟨rfl, ⟨nd, rfl⟩⟩) | (go_at_call 73; (with_reducible refine (impl_elementsOk.calls A1 c1 l1 4 true _ (Kd.C_below HR1.out (by repeat (first | exact Below.refl _ _ | apply pw_below_drewN | apply below_drew))) hc1 E1.out).mono ?_); rintro e w' ⟨rfl, ⟨nd, rfl⟩⟩))
 go_loopw [25] (fun i wr => ∃ (k : Nat) (x0 x1 x2 x3 : Int), k ≤ 4 ∧ i = .int .i64 k ∧ Aside0 (wr.heap[w.heap.size]? = some (.cells (cells4 x0 x1 x2 x3) 90 (0, 0))) ∧ Aside0 (Below w.heap.size w wr) ∧ Aside0 (Part4 l0 l1 k x0 x1 x2 x3)) (fun i _ => 4 - (intOf i).toNat)
 case atStart => exact ⟨0, 0, 0, 0, 0, by omega, rfl, ⟨by simpa [cells4] using blk_new (w.drewN _) _⟩, ⟨by repeat (first | exact Below.refl _ _ | apply below_alloc | apply pw_below_drewN | apply below_drew)⟩, ⟨by unfold Part4; omega⟩⟩
 case round =>
  obtain ⟨k, x0, x1, x2, x3, hk, rfl, HC, HB, HP⟩ := hrel
  rcases (show k = 0 ∨ k = 1 ∨ k = 2 ∨ k = 3 ∨ k = 4 by omega) with rfl | rfl | rfl | rfl | rfl
  ·have hb0 : (0 : Int) < (l0.length : Int) := by have := H0.out; omega
   have hb1 : (0 : Int) < (l1.length : Int) := by have := H1.out; omega
   obtain ⟨ad0, e0, hx0⟩ := Kd.at_int HR0.out (0 : Int) (by omega) hb0
   cases e0
   obtain ⟨ad1, e1, hx1⟩ := Kd.at_int HR1.out (0 : Int) (by omega) hb1
   cases e1
   replace hx0 := (HB.out.cell (World.block_lt_of_cell? w _ hx0)).trans hx0
   replace hx1 := (HB.out.cell (World.block_lt_of_cell? w _ hx1)).trans hx1
   have hn0 : 0 < l0.length := by have := H0.out; omega
   have hn1 : 0 < l1.length := by have := H1.out; omega
   have hy0 : wr.cell? ad0 = some (.int .i64 (rd l0 0)) := hx0
   have hy1 : wr.cell? ad1 = some (.int .i64 (rd l1 0)) := hx1
   clear hx0 hx1
   go_wp2
   go_still_tail 11, (by kernel_rfl)
   still_call (plus_still _ _ _ (rd_ok l0 hA0.out 0) (rd_ok l1 hA1.out 0))
   repeat still_step
   refine wpStill_nil ?_
   change wpList _ _ _ _ _ wr.drew
   have hcell : wr.drew.cell? ⟨w.heap.size, 0, none⟩ = some (.int .i64 x0) := blk_cell HC.out 0
   have hfro : wr.drew.frozen? ⟨w.heap.size, 0, none⟩ = false := blk_frozen HC.out 0
   have HC2 : Aside0 (wr.drew.heap[w.heap.size]? = some (.cells (cells4 x0 x1 x2 x3) 90 (0, 0))) := ⟨HC.out⟩
   have HB2 : Aside0 (Below w.heap.size w wr.drew) := ⟨below_drew HB.out⟩
   generalize hW : wr.drew = w2 at hcell hfro HC2 HB2
   clear hW
   go_wp2
   go_roundw
   case rel => exact ⟨1, fourSum l0 l1 0, x1, x2, x3, by omega, by first | rfl | go_num, ⟨blk_put HC2.out 0 _ rfl⟩, ⟨below_set HB2.out (Nat.le_refl _)⟩, ⟨by have := HP.out; unfold Part4 at this ⊢; refine ⟨?_, ?_, ?_, ?_⟩ <;> intro hh <;> first | rfl | omega | exact this.1 (by omega) | exact this.2.1 (by omega) | exact this.2.2.1 (by omega)⟩⟩
   case measure => simp [intOf]
  ·have hb0 : (1 : Int) < (l0.length : Int) := by have := H0.out; omega
   have hb1 : (1 : Int) < (l1.length : Int) := by have := H1.out; omega
   obtain ⟨ad0, e0, hx0⟩ := Kd.at_int HR0.out (1 : Int) (by omega) hb0
   cases e0
   obtain ⟨ad1, e1, hx1⟩ := Kd.at_int HR1.out (1 : Int) (by omega) hb1
   cases e1
   replace hx0 := (HB.out.cell (World.block_lt_of_cell? w _ hx0)).trans hx0
   replace hx1 := (HB.out.cell (World.block_lt_of_cell? w _ hx1)).trans hx1
   have hn0 : 1 < l0.length := by have := H0.out; omega
   have hn1 : 1 < l1.length := by have := H1.out; omega
   have hy0 : wr.cell? ⟨ad0.block, ad0.off + 1, none⟩ = some (.int .i64 (rd l0 1)) := hx0
   have hy1 : wr.cell? ⟨ad1.block, ad1.off + 1, none⟩ = some (.int .i64 (rd l1 1)) := hx1
   clear hx0 hx1
   go_wp2
   go_still_tail 11, (by kernel_rfl)
   still_call (plus_still _ _ _ (rd_ok l0 hA0.out 1) (rd_ok l1 hA1.out 1))
   repeat still_step
   refine wpStill_nil ?_
   change wpList _ _ _ _ _ wr.drew
   have hcell : wr.drew.cell? ⟨w.heap.size, 1, none⟩ = some (.int .i64 x1) := blk_cell HC.out 1
   have hfro : wr.drew.frozen? ⟨w.heap.size, 1, none⟩ = false := blk_frozen HC.out 1
   have HC2 : Aside0 (wr.drew.heap[w.heap.size]? = some (.cells (cells4 x0 x1 x2 x3) 90 (0, 0))) := ⟨HC.out⟩
   have HB2 : Aside0 (Below w.heap.size w wr.drew) := ⟨below_drew HB.out⟩
   generalize hW : wr.drew = w2 at hcell hfro HC2 HB2
   clear hW
   go_wp2
   go_roundw
   case rel => exact ⟨2, x0, fourSum l0 l1 1, x2, x3, by omega, by first | rfl | go_num, ⟨blk_put HC2.out 1 _ rfl⟩, ⟨below_set HB2.out (Nat.le_refl _)⟩, ⟨by have := HP.out; unfold Part4 at this ⊢; refine ⟨?_, ?_, ?_, ?_⟩ <;> intro hh <;> first | rfl | omega | exact this.1 (by omega) | exact this.2.1 (by omega) | exact this.2.2.1 (by omega)⟩⟩
   case measure => simp [intOf]
  ·have hb0 : (2 : Int) < (l0.length : Int) := by have := H0.out; omega
   have hb1 : (2 : Int) < (l1.length : Int) := by have := H1.out; omega
   obtain ⟨ad0, e0, hx0⟩ := Kd.at_int HR0.out (2 : Int) (by omega) hb0
   cases e0
   obtain ⟨ad1, e1, hx1⟩ := Kd.at_int HR1.out (2 : Int) (by omega) hb1
   cases e1
   replace hx0 := (HB.out.cell (World.block_lt_of_cell? w _ hx0)).trans hx0
   replace hx1 := (HB.out.cell (World.block_lt_of_cell? w _ hx1)).trans hx1
   have hn0 : 2 < l0.length := by have := H0.out; omega
   have hn1 : 2 < l1.length := by have := H1.out; omega
   have hy0 : wr.cell? ⟨ad0.block, ad0.off + 2, none⟩ = some (.int .i64 (rd l0 2)) := hx0
   have hy1 : wr.cell? ⟨ad1.block, ad1.off + 2, none⟩ = some (.int .i64 (rd l1 2)) := hx1
   clear hx0 hx1
   go_wp2
   go_still_tail 11, (by kernel_rfl)
   still_call (plus_still _ _ _ (rd_ok l0 hA0.out 2) (rd_ok l1 hA1.out 2))
   repeat still_step
   refine wpStill_nil ?_
   change wpList _ _ _ _ _ wr.drew
   have hcell : wr.drew.cell? ⟨w.heap.size, 2, none⟩ = some (.int .i64 x2) := blk_cell HC.out 2
   have hfro : wr.drew.frozen? ⟨w.heap.size, 2, none⟩ = false := blk_frozen HC.out 2
   have HC2 : Aside0 (wr.drew.heap[w.heap.size]? = some (.cells (cells4 x0 x1 x2 x3) 90 (0, 0))) := ⟨HC.out⟩
   have HB2 : Aside0 (Below w.heap.size w wr.drew) := ⟨below_drew HB.out⟩
   generalize hW : wr.drew = w2 at hcell hfro HC2 HB2
   clear hW
   go_wp2
   go_roundw
   case rel => exact ⟨3, x0, x1, fourSum l0 l1 2, x3, by omega, by first | rfl | go_num, ⟨blk_put HC2.out 2 _ rfl⟩, ⟨below_set HB2.out (Nat.le_refl _)⟩, ⟨by have := HP.out; unfold Part4 at this ⊢; refine ⟨?_, ?_, ?_, ?_⟩ <;> intro hh <;> first | rfl | omega | exact this.1 (by omega) | exact this.2.1 (by omega) | exact this.2.2.1 (by omega)⟩⟩
   case measure => simp [intOf]
  ·have hb0 : (3 : Int) < (l0.length : Int) := by have := H0.out; omega
   have hb1 : (3 : Int) < (l1.length : Int) := by have := H1.out; omega
   obtain ⟨ad0, e0, hx0⟩ := Kd.at_int HR0.out (3 : Int) (by omega) hb0
   cases e0
   obtain ⟨ad1, e1, hx1⟩ := Kd.at_int HR1.out (3 : Int) (by omega) hb1
   cases e1
   replace hx0 := (HB.out.cell (World.block_lt_of_cell? w _ hx0)).trans hx0
   replace hx1 := (HB.out.cell (World.block_lt_of_cell? w _ hx1)).trans hx1
   have hn0 : 3 < l0.length := by have := H0.out; omega
   have hn1 : 3 < l1.length := by have := H1.out; omega
   have hy0 : wr.cell? ⟨ad0.block, ad0.off + 3, none⟩ = some (.int .i64 (rd l0 3)) := hx0
   have hy1 : wr.cell? ⟨ad1.block, ad1.off + 3, none⟩ = some (.int .i64 (rd l1 3)) := hx1
   clear hx0 hx1
   go_wp2
   go_still_tail 11, (by kernel_rfl)
   still_call (plus_still _ _ _ (rd_ok l0 hA0.out 3) (rd_ok l1 hA1.out 3))
   repeat still_step
   refine wpStill_nil ?_
   change wpList _ _ _ _ _ wr.drew
   have hcell : wr.drew.cell? ⟨w.heap.size, 3, none⟩ = some (.int .i64 x3) := blk_cell HC.out 3
   have hfro : wr.drew.frozen? ⟨w.heap.size, 3, none⟩ = false := blk_frozen HC.out 3
   have HC2 : Aside0 (wr.drew.heap[w.heap.size]? = some (.cells (cells4 x0 x1 x2 x3) 90 (0, 0))) := ⟨HC.out⟩
   have HB2 : Aside0 (Below w.heap.size w wr.drew) := ⟨below_drew HB.out⟩
   generalize hW : wr.drew = w2 at hcell hfro HC2 HB2
   clear hW
   go_wp2
   go_roundw
   case rel => exact ⟨4, x0, x1, x2, fourSum l0 l1 3, by omega, by first | rfl | go_num, ⟨blk_put HC2.out 3 _ rfl⟩, ⟨below_set HB2.out (Nat.le_refl _)⟩, ⟨by have := HP.out; unfold Part4 at this ⊢; refine ⟨?_, ?_, ?_, ?_⟩ <;> intro hh <;> first | rfl | omega | exact this.1 (by omega) | exact this.2.1 (by omega) | exact this.2.2.1 (by omega)⟩⟩
   case measure => simp [intOf]
  ·have e4 : ((4 : Nat) : Int) = 4 := rfl
   rw [e4]
   clear e4
   obtain ⟨rfl, rfl, rfl, rfl⟩ : x0 = fourSum l0 l1 0 ∧ x1 = fourSum l0 l1 1 ∧ x2 = fourSum l0 l1 2 ∧ x3 = fourSum l0 l1 3 := by have := HP.out; unfold Part4 at this; exact ⟨this.1 (by omega), this.2.1 (by omega), this.2.2.1 (by omega), this.2.2.2 (by omega)⟩
   have g0 : wr.cell? ⟨w.heap.size, 0, none⟩ = some (.int .i64 (fourSum l0 l1 0)) := blk_cell HC.out 0
   have g1 : wr.cell? ⟨w.heap.size, 1, none⟩ = some (.int .i64 (fourSum l0 l1 1)) := blk_cell HC.out 1
   have g2 : wr.cell? ⟨w.heap.size, 2, none⟩ = some (.int .i64 (fourSum l0 l1 2)) := blk_cell HC.out 2
   have g3 : wr.cell? ⟨w.heap.size, 3, none⟩ = some (.int .i64 (fourSum l0 l1 3)) := blk_cell HC.out 3
   have hs : ∀ j, 0 ≤ fourSum l0 l1 j ∧ fourSum l0 l1 j ≤ 30 := fun j => by unfold fourSum; omega
   have HS := Aside0.mk hs
   clear hs
   cases hd : (fourSum l0 l1 0 * fourSum l0 l1 1 % 31 == fourSum l0 l1 2)
   ·have HD := Aside0.mk hd
    go_wp2
    refine wp_region_still_lit (by kernel_rfl) (by kernel_rfl) ?_
    repeat still_step
    still_call (times_still _ _ _ (HS.out 0) (HS.out 1))
    repeat still_step
    refine wpStill_nil ?_
    change Exit.then _ _ _ _ wr.drew
    go_wp2
    go_ret
    exact ⟨by unfold dec4; rw [HD.out]; first | rfl | (simp; done), below_drew HB.out⟩
   ·have HD := Aside0.mk hd
    go_wp2
    refine wp_region_still_lit (by kernel_rfl) (by kernel_rfl) ?_
    repeat still_step
    still_call (times_still _ _ _ (HS.out 0) (HS.out 1))
    repeat still_step
    refine wpStill_nil ?_
    change Exit.then _ _ _ _ wr.drew
    go_wp2
    go_ret
    exact ⟨by unfold dec4; rw [HD.out]; first | rfl | (simp; done), below_drew HB.out⟩
def impl_QueryDecide.f (l0 l1 : List Int) : Option Bool := some (decide (l0.length = 4) && decide (l1.length = 4) && l0.all fOk && l1.all fOk && dec4 l0 l1)
set_option maxHeartbeats 1000000 in
set_option maxRecDepth 100000 in
theorem impl_QueryDecide.calls (A0 : Option Addr) (c0 : Nat) (l0 : List Int) (A1 : Option Addr) (c1 : Nat) (l1 : List Int) (r : Bool) (w : World) (hr0 : Kd.C (Kd.int .i64) w A0 l0.length l0) (hc0 : l0.length ≤ c0) (hr1 : Kd.C (Kd.int .i64) w A1 l1.length l1) (hc1 : l1.length ≤ c1) (h : impl_QueryDecide.f l0 l1 = some r) :
  Calls Tryz.prog 34 #[.slice A0 l0.length c0, .slice A1 l1.length c1] w fun e w' => e = .returned (.bool r) ∧ Below w.heap.size w w' := by
 obtain rfl := Option.some.inj h
 clear h
 by_cases h0 : l0.length = 4
 ·by_cases h1 : l1.length = 4
  ·cases ha : l0.all fOk
   ·have e0 : impl_elementsOk.f l0 4 = some false := by simp [impl_elementsOk.f, h0, ha]
    have er : (decide (l0.length = 4) && decide (l1.length = 4) && false && l1.all fOk && dec4 l0 l1) = false := by simp
    rw [er]
    have E0 := Aside0.mk e0
    have HR0 := Aside0.mk hr0
    have b0 : ((l0.length : Int) != 4) = false := by simp [h0]
    have b1 : ((l1.length : Int) != 4) = false := by simp [h1]
    have d0 : (l0.length != 4) = false := by simp [h0]
    have d1 : (l1.length != 4) = false := by simp [h1]
    clear e0 er hr0 ha h0 h1
    go_enter Tryz.func34, Tryz.ntmps34
    go_wp2_with (first | (go_at_call 73; (with_reducible refine (impl_elementsOk.calls A0 c0 l0 4 false _ HR0.out hc0 E0.out).mono ?_); rintro e w' ⟨rfl, ⟨nd, rfl⟩⟩))
    go_ret
    exact ⟨by first | rfl | (simp; done), (by repeat (first | exact Below.refl _ _ | apply pw_below_drewN | apply below_drew))⟩
   ·cases hb : l1.all fOk
    ·have e0 : impl_elementsOk.f l0 4 = some true := by simp [impl_elementsOk.f, h0, ha]
     have e1 : impl_elementsOk.f l1 4 = some false := by simp [impl_elementsOk.f, h1, hb]
     have er : (decide (l0.length = 4) && decide (l1.length = 4) && true && false && dec4 l0 l1) = false := by simp
     rw [er]
     have E0 := Aside0.mk e0
     have E1 := Aside0.mk e1
     have HR0 := Aside0.mk hr0
     have HR1 := Aside0.mk hr1
     have b0 : ((l0.length : Int) != 4) = false := by simp [h0]
     have b1 : ((l1.length : Int) != 4) = false := by simp [h1]
     have d0 : (l0.length != 4) = false := by simp [h0]
     have d1 : (l1.length != 4) = false := by simp [h1]
     clear e0 e1 er hr0 hr1 ha hb h0 h1
     go_enter Tryz.func34, Tryz.ntmps34
     go_wp2_with (first | (go_at_call 73; (with_reducible refine (impl_elementsOk.calls A0 c0 l0 4 true _ HR0.out hc0 E0.out).mono ?_); rintro e w' ⟨rfl, ⟨nd, rfl⟩⟩) | (go_at_call 73; (with_reducible refine (impl_elementsOk.calls A1 c1 l1 4 false _ (Kd.C_below HR1.out (by repeat (first | exact Below.refl _ _ | apply pw_below_drewN | apply below_drew))) hc1 E1.out).mono ?_); rintro e w' ⟨rfl, ⟨nd, rfl⟩⟩))
     go_ret
     exact ⟨by first | rfl | (simp; done), (by repeat (first | exact Below.refl _ _ | apply pw_below_drewN | apply below_drew))⟩
    ·have er : (decide (l0.length = 4) && decide (l1.length = 4) && true && true && dec4 l0 l1) = dec4 l0 l1 := by simp [h0, h1]
     rw [er]
     exact QueryDecide.road A0 A1 c0 c1 l0 l1 w hr0 hr1 h0 h1 ha hb hc0 hc1
  ·have er : (decide (l0.length = 4) && decide (l1.length = 4) && l0.all fOk && l1.all fOk && dec4 l0 l1) = false := by simp [h1]
   rw [er]
   have b0 : ((l0.length : Int) != 4) = false := by simp [h0]
   have b1 : ((l1.length : Int) != 4) = true := by simp; omega
   have d0 : (l0.length != 4) = false := by simp [h0]
   have d1 : (l1.length != 4) = true := by simp [h1]
   clear er h0 h1
   go_enter Tryz.func34, Tryz.ntmps34
   go_wp2
   go_ret
   exact ⟨by first | rfl | (simp; done), (by repeat (first | exact Below.refl _ _ | apply pw_below_drewN | apply below_drew))⟩
 ·have er : (decide (l0.length = 4) && decide (l1.length = 4) && l0.all fOk && l1.all fOk && dec4 l0 l1) = false := by simp [h0]
  rw [er]
  have b0 : ((l0.length : Int) != 4) = true := by simp; omega
  have d0 : (l0.length != 4) = true := by simp [h0]
  clear er h0
  go_enter Tryz.func34, Tryz.ntmps34
  go_wp2
  go_ret
  exact ⟨by first | rfl | (simp; done), (by repeat (first | exact Below.refl _ _ | apply pw_below_drewN | apply below_drew))⟩
section
open Go.Shelf
attribute [local go_sem] Oper.semAt_some
def bwUpto {α : Type} (f : Nat → α) (k : Nat) : List α := (List.range k).map f
theorem bwUpto_succ {α : Type} (f : Nat → α) (k : Nat) : bwUpto f (k + 1) = bwUpto f k ++ [f k] := by simp [bwUpto, List.range_succ]
theorem bwUpto_length {α : Type} (f : Nat → α) (k : Nat) : (bwUpto f k).length = k := by simp [bwUpto]
def bwAt (zs : List Int) (j : Nat) : Int × Int := ((zs.length : Int) - 1 - (j : Int), rd zs ((zs.length : Int) - 1 - (j : Int)))
def BwInts (n₀ : Nat) (W : World) (sv : Value) (zs : List Int) : Prop :=
 ∃ A c, sv = .slice A zs.length c ∧ (0 < zs.length → ∃ ad : Addr, A = some ad ∧ ad.block < n₀ ∧ ∀ j, j < zs.length → W.cell? (ad.add j) = some (.int .i64 (rd zs j)))
theorem add_blk (a : Addr) (j : Nat) : (a.add j).block = a.block := by unfold Addr.add; split <;> rfl
theorem BwInts.below {n₀ : Nat} {A B : World} (h : Below n₀ A B) {sv : Value} {zs : List Int} : BwInts n₀ A sv zs → BwInts n₀ B sv zs
 | ⟨a, c, e, hc⟩ => ⟨a, c, e, fun hp => by
   obtain ⟨ad, e2, hb, hcs⟩ := hc hp
   exact ⟨ad, e2, hb, fun j hj => (h.cell (by rw [add_blk]; exact hb)).trans (hcs j hj)⟩⟩
def Kq (n₀ Bs : Nat) (A B : World) : Prop := Below n₀ A B ∧ B.heap[Bs]? = A.heap[Bs]?
theorem Kq.refl (n₀ Bs : Nat) (A : World) : Kq n₀ Bs A A := ⟨Below.refl _ _, rfl⟩
theorem Kq.trans {n₀ Bs : Nat} {A B C : World} (h : Kq n₀ Bs A B) (k : Kq n₀ Bs B C) : Kq n₀ Bs A C := ⟨h.1.trans k.1, k.2.trans h.2⟩
theorem Kq.box {n₀ Bs : Nat} {A B : World} (h : Kq n₀ Bs A B) {v : Value} {t : TypeId} (hb : A.heap[Bs]? = some (.cells #[v] t (0, 0))) : B.cell? ⟨Bs, 0, none⟩ = some v := blk_cell (h.2.trans hb) 0
theorem kq_b {n₀ Bs : Nat} {w : World} (hn : n₀ ≤ w.heap.size) (hB : Bs < w.heap.size) (W : World) (l : Nat) (o o' : Obj) (hl : w.heap.size ≤ l) (h : W.heap[l]? = some o) (hc : o.isCells = false) (hw : o.isWalk = false) : Kq n₀ Bs W (W.putObj l o') :=
 ⟨belowK_b hn W l o o' hl h hc hw, (belowK_b (n₀ := Bs + 1) (w := w) (by omega) W l o o' hl h hc hw).block Bs (by omega)⟩
set_option maxRecDepth 100000 in
set_option maxHeartbeats 2000000 in
theorem backward1_in (F : Fence) (n : Nat) (h8 : F.fn 131) (hro : F.round = none) (hn : 1 ≤ n) (l Bs n₀ : Nat) (A : Option Addr) (cap : Nat) (zs : List Int) (hreach : zs.length ≤ 17592186044416) (J Jx : List (Int × Int) → World → Prop)
  (hY : ∀ pre x W, J pre W → pre.length < zs.length → YieldAt F (n - 1) Tryz.prog l #[.int .i64 x.1, .int .i64 x.2] W fun e W' =>
   (e = .returned (.bool true) ∧ J (pre ++ [x]) W' ∧ Kq n₀ Bs W W') ∨ (e = .returned (.bool false) ∧ Jx (pre ++ [x]) W'))
  (W : World) (hBs : W.heap[Bs]? = some (.cells #[.slice A zs.length cap] 22 (0, 0))) (hI : BwInts n₀ W (.slice A zs.length cap) zs) (h0 : J [] W) :
  CallsIn F n Tryz.prog 131 #[.func (.yield l) #[] #[], .pointer (some ⟨Bs, 0, none⟩)] W fun e W' => (∃ v, e = .returned v) ∧
   ((∃ ys, ys = bwUpto (bwAt zs) zs.length ∧ J ys W') ∨ (∃ pre, (∃ k, k ≤ zs.length ∧ pre = bwUpto (bwAt zs) k) ∧ Jx pre W')) := by
 refine callsIn_of_wp Tryz.func131 rfl h8 ?_ hro
 simp only [Tryz.ntmps131, List.size_toArray, List.length_cons, List.length_nil, Nat.reduceAdd, Nat.reduceSub, Array.replicate_succ, Array.replicate_zero, List.push_toArray, List.append_toArray, List.nil_append, List.cons_append]
 have hb0 := (Kq.refl n₀ Bs W).box hBs
 gi_wp2
 gi_loopw [3] (fun i wr => ∃ k : Nat, k ≤ zs.length ∧ i = .int .i64 ((zs.length : Int) - 1 - k) ∧ J (bwUpto (bwAt zs) k) wr ∧ Kq n₀ Bs W wr)
  (fun i _ => (intOf i + 1).toNat)
 case atStart => exact ⟨0, Nat.zero_le _, by simp, h0, Kq.refl _ _ _⟩
 case round =>
  obtain ⟨k, hk, rfl, hJs, hnx⟩ := hrel
  have hbx := hnx.box hBs
  by_cases hlt : k < zs.length
  ·obtain ⟨A', c', e1, hc⟩ := hI.below hnx.1
   injection e1 with e1 _ e3
   subst e1
   obtain ⟨ad, rfl, hb, hcs⟩ := hc (by omega)
   have hg : (0 : Int) ≤ (zs.length : Int) - 1 - (k : Int) := by omega
   have hg2 : (zs.length : Int) - 1 - (k : Int) < (zs.length : Int) := by omega
   have ei : ((zs.length - 1 - k : Nat) : Int) = (zs.length : Int) - 1 - (k : Int) := by omega
   have hcx := hcs (zs.length - 1 - k) (by omega)
   rw [ei] at hcx
   obtain ⟨fn, tmps, assign, body, hy, hR⟩ := hY _ (bwAt zs k) wr hJs (by rw [bwUpto_length]; exact hlt)
   dsimp only [bwAt] at hy
   clear hcs hc ei
   have HI := Aside0.mk hI
   have HBS := Aside0.mk hBs
   clear hI hBs e3 hb0
   gi_wp2
   refine hR.mono ?_
   rintro e W3 (⟨rfl, hJ3, hk3⟩ | ⟨rfl, hJx3⟩)
   ·gi_wp2
    go_roundw
    case rel => exact ⟨k + 1, by omega, by (congr 1; omega), by rw [bwUpto_succ]; exact hJ3, hnx.trans hk3⟩
    case measure => simp [intOf]; omega
   ·gi_wp2
    refine bodyPost_ret (results_none rfl _ _ _) rfl ?_
    exact ⟨⟨_, rfl⟩, .inr ⟨_, ⟨k + 1, by omega, (bwUpto_succ _ _).symm⟩, hJx3⟩⟩
  ·obtain rfl : k = zs.length := by omega
   have hg : ¬ (0 : Int) ≤ (zs.length : Int) - 1 - (zs.length : Int) := by omega
   gi_wp2
   go_end0
   exact ⟨⟨_, rfl⟩, .inl hJs⟩
theorem backward_in (F : Fence) (n : Nat) (h6 : F.fn 115) (hro : F.round = none) (a : Option Addr) (len cap : Nat) (w : World) :
  CallsIn F n Tryz.prog 115 #[.slice a len cap] w fun e w' => e = .returned (.func (.func 131) #[] #[.pointer (some ⟨w.heap.size, 0, none⟩)]) ∧ w' = w.alloc (.cells #[.slice a len cap] 22) := by
 refine callsIn_of_wp Tryz.func115 rfl h6 ?_ hro
 simp only [Tryz.ntmps115, List.size_toArray, List.length_cons, List.length_nil, Nat.reduceAdd, Nat.reduceSub, Array.replicate_succ, Array.replicate_zero, List.push_toArray, List.append_toArray, List.nil_append, List.cons_append]
 gi_wp2
 go_ret
 exact ⟨rfl, rfl⟩
theorem backward_stops (F : Fence) (n : Nat) (h8 : F.fn 131) (hro : F.round = none) (hn : 1 ≤ n) (Bs n₀ : Nat) (A : Option Addr) (cap : Nat) (zs : List Int) (hreach : zs.length ≤ 17592186044416) (w : World) (hBs : Bs < w.heap.size) (hn₀ : n₀ ≤ w.heap.size)
  (hc : w.heap[Bs]? = some (.cells #[.slice A zs.length cap] 22 (0, 0))) (hI : BwInts n₀ w (.slice A zs.length cap) zs) :
  SeqStopsK F n Tryz.prog 131 #[.pointer (some ⟨Bs, 0, none⟩)] (fun x : Int × Int => #[Value.int .i64 x.1, Value.int .i64 x.2]) (Kq n₀ Bs) (fun ys => ys = bwUpto (bwAt zs) zs.length)
   (fun pre => ∃ k, k ≤ zs.length ∧ pre = bwUpto (bwAt zs) k) zs.length w := fun l J Jx W hW _ _ hY h0 =>
 backward1_in F n h8 hro hn l Bs n₀ A cap zs hreach J Jx hY W ((hW.block Bs hBs).trans hc) (hI.below (hW.mono hn₀)) h0
def hStep (x : Int) (acc : Int) (c : Int) : Int := ((impl_element_times.f acc x).bind fun t => impl_element_plus.f t c).getD 0
theorem times_tot (a b : Int) : ∃ r, impl_element_times.f a b = some r := by unfold impl_element_times.f impl_elementOf.f; exact ⟨_, rfl⟩
theorem plus_tot (a b : Int) : ∃ r, impl_element_plus.f a b = some r := by unfold impl_element_plus.f impl_elementOf.f; exact ⟨_, rfl⟩
def bwFold (x : Int) (pre : List (Int × Int)) : Int := pre.foldl (fun acc c => hStep x acc c.2) 0
theorem bwFold_snoc (x : Int) (pre : List (Int × Int)) (c : Int × Int) : bwFold x (pre ++ [c]) = hStep x (bwFold x pre) c.2 := by simp [bwFold]
set_option maxRecDepth 100000 in
set_option maxHeartbeats 4000000 in
theorem value_in (A : Option Addr) (cap : Nat) (zs : List Int) (x : Int) (hreach : zs.length ≤ 17592186044416) (w : World) (hI : BwInts w.heap.size w (.slice A zs.length cap) zs) :
  CallsIn Fence.wide 3 Tryz.prog 89 #[.slice A zs.length cap, .int .i64 x] w fun e W' => e = .returned (.int .i64 (bwFold x (bwUpto (bwAt zs) zs.length))) ∧ Below w.heap.size w W' := by
 have hro : Fence.wide.round = none := rfl
 have h1 : 1 ≤ 3 := by omega
 refine callsIn_of_wp_marks Tryz.func89 rfl trivial ?_ hro
 simp only [Tryz.ntmps89, List.size_toArray, List.length_cons, List.length_nil, Nat.reduceAdd, Nat.reduceSub, Array.replicate_succ, Array.replicate_zero, List.push_toArray, List.append_toArray, List.nil_append, List.cons_append]
 gi_wp2_with (refine ⟨trivial, ?_⟩; gi_at_call 115; refine (backward_in Fence.wide (3 - 1) trivial hro _ _ _ _).mono ?_; rintro e w' ⟨rfl, rfl⟩)
 have bX := Boxed.new w 67 (.int .i64 x)
 have bO := Boxed.new (w.alloc (.cells #[.int .i64 x] 67)) 67 (.int .i64 0)
 have bN := Boxed.new ((w.alloc (.cells #[.int .i64 x] 67)).alloc (.cells #[.int .i64 0] 67)) 22 (.slice A zs.length cap)
 simp only [World.size_alloc] at bO bN
 have hB0 : Below w.heap.size w (((w.alloc (.cells #[.int .i64 x] 67)).alloc (.cells #[.int .i64 0] 67)).alloc (.cells #[.slice A zs.length cap] 22)) := (((Below.refl _ w).alloc (Nat.le_refl _) _).alloc (by simp) _).alloc (by simp; omega) _
 have hblk : (((w.alloc (.cells #[.int .i64 x] 67)).alloc (.cells #[.int .i64 0] 67)).alloc (.cells #[.slice A zs.length cap] 22)).heap[w.heap.size + 2]? = some (.cells #[.slice A zs.length cap] 22 (0, 0)) := by
  have := blk_new ((w.alloc (.cells #[.int .i64 x] 67)).alloc (.cells #[.int .i64 0] 67)) (.cells #[.slice A zs.length cap] 22)
  simpa using this
 have hKB : ∀ (W : World) (l : Nat) (o o' : Obj), (((w.alloc (.cells #[.int .i64 x] 67)).alloc (.cells #[.int .i64 0] 67)).alloc (.cells #[.slice A zs.length cap] 22)).heap.size ≤ l → W.heap[l]? = some o → o.isCells = false → o.isWalk = false → Kq w.heap.size (w.heap.size + 2) W (W.putObj l o') :=
  kq_b (by simp <;> omega) (by simp <;> omega)
 refine wpIn_rangeFunc_ownG hro h1 (gf := 131) (lb := #[.pointer (some ⟨w.heap.size + 2, 0, none⟩)]) rfl trivial (enters_of Tryz.func131 (by kernel_rfl) rfl)
  (backward_stops Fence.wide (3 - 1) trivial hro (by omega) (w.heap.size + 2) w.heap.size A cap zs hreach _ (by simp <;> omega) (by simp <;> omega) hblk (hI.below hB0)) Kq.trans hKB (Below.refl _ _) (fun _ => rfl)
  (fun pre W => ((W.cell? ⟨w.heap.size, 0, none⟩ = some (.int .i64 x) ∧ W.frozen? ⟨w.heap.size, 0, none⟩ = false) ∧ (W.cell? ⟨w.heap.size + 1, 0, none⟩ = some (.int .i64 (bwFold x pre)) ∧ W.frozen? ⟨w.heap.size + 1, 0, none⟩ = false)) ∧ Below w.heap.size w W)
  (fun _ _ _ => False)
  (OwnFrom.and (Own.from (fun s A B row hs hg hr => ⟨⟨cell_kept hs.1.1 hg hr, (frozen_kept hs.1.1 hg hr).trans hs.1.2⟩, cell_kept hs.2.1 hg hr, (frozen_kept hs.2.1 hg hr).trans hs.2.2⟩) _) (ownFrom_below (Nat.le_refl _) (by simp; omega)))
  (fun _ _ _ _ _ hs _ _ => hs)
  ⟨⟨⟨((bX.alloc _).alloc _).cell, ((bX.alloc _).alloc _).frozen⟩, (bO.alloc _).cell, (bO.alloc _).frozen⟩, hB0⟩
  (fun y => { tmps := #[.slice A zs.length cap, .int .i64 x, undef, .pointer (some ⟨w.heap.size, 0, none⟩), .int .i64 0, .pointer (some ⟨w.heap.size + 1, 0, none⟩), undef, .int .i64 y.2, .slice A zs.length cap, .func (.func 131) #[] #[.pointer (some ⟨w.heap.size + 2, 0, none⟩)], .int .i64 y.1, .int .i64 y.2, undef, undef, undef, undef, undef, undef], defers := [] }) ?assign ?body ?done ?stop
 case assign =>
  intro l y W K hK
  gi_wp2
  exact hK
 case body =>
  rintro l pre y W ⟨⟨⟨hx, hxf⟩, hc, hf⟩, hB⟩ _
  obtain ⟨t, ht⟩ := times_tot (bwFold x pre) x
  obtain ⟨u, hu⟩ := plus_tot t y.2
  have hst : bwFold x (pre ++ [y]) = u := by rw [bwFold_snoc, hStep, ht, Option.bind_some, hu]; rfl
  gi_wp2_with (first | (refine ⟨trivial, ?_⟩; gi_at_call 67; refine (CallsIn.inRound l (callsIn_wide.2 (impl_element_times.calls _ _ _ _ ht))).mono ?_; rintro e w' ⟨rfl, ⟨nd0, rfl⟩⟩) | (refine ⟨trivial, ?_⟩; gi_at_call 70; refine (CallsIn.inRound l (callsIn_wide.2 (impl_element_plus.calls _ _ _ _ hu))).mono ?_; rintro e w' ⟨rfl, ⟨nd, rfl⟩⟩))
  have hk : KeepsOthers W (W.drewN (nd0 + nd)) := ⟨Nat.le_refl _, fun _ _ h _ => h⟩
  have hbel : Below w.heap.size W ((W.drewN (nd0 + nd)).setCell ⟨w.heap.size + 1, 0, none⟩ (.int .i64 u)) := (pw_below_drewN (Below.refl _ W) _).setCell (p := ⟨w.heap.size + 1, 0, none⟩) (by simp) _
  refine ⟨(hk.trans (KeepsOthers.setCell _ _ _)).from _, ⟨hbel, Below.heap_setCell _ _ _ _ (by simp)⟩, ⟨⟨?_, ?_⟩, ?_, ?_⟩, hB.trans hbel⟩
  ·exact Eq.trans (World.cell?_setCell_other _ _ _ _ (by intro e; injection e with e; omega)) hx
  ·rw [World.frozen?_setCell]; exact hxf
  ·rw [hst]; exact World.cell?_setCell_same' _ _ _ (by rw [show (W.drewN (nd0 + nd)).cell? ⟨w.heap.size + 1, 0, none⟩ = _ from hc]; rfl)
  ·rw [World.frozen?_setCell]; exact hf
 case done =>
  rintro D ys W hD rfl ⟨⟨_, hc, _⟩, hB⟩ hK
  gi_wp2
  refine ⟨by simp, .inl ⟨_, _, rfl, run_takeDeferred hK, ?_⟩⟩
  exact ⟨_, results_tmp rfl _ _ _, rfl, hB.trans (belowK_b (w := w) (Nat.le_refl _) W D _ _ (by simp at hD; omega) hK rfl rfl)⟩
 case stop =>
  rintro D c pre W _ _ h _
  exact h.elim
def impl_value.f (l0 : List Int) (a1 : Int) : Option Int := if l0.length ≤ 17592186044416 then some (bwFold a1 (bwUpto (bwAt l0) l0.length)) else none
theorem bwInts_of {w : World} {A : Option Addr} {c : Nat} {l : List Int} (h : Kd.C (Kd.int .i64) w A l.length l) : BwInts w.heap.size w (.slice A l.length c) l := by
 refine ⟨A, c, rfl, fun hp => ?_⟩
 obtain ⟨ad, rfl, hx⟩ := Kd.at_int h 0 (by omega) (by omega)
 refine ⟨ad, rfl, ?_, fun j hj => ?_⟩
 ·have := World.block_lt_of_cell? w _ hx
  rwa [add_blk] at this
 ·obtain ⟨ad2, e2, hx2⟩ := Kd.at_int h j (by omega) (by omega)
  cases e2
  simpa using hx2
theorem impl_value.calls (A0 : Option Addr) (c0 : Nat) (l0 : List Int) (a1 : Int) (r : Int) (w : World) (hr0 : Kd.C (Kd.int .i64) w A0 l0.length l0) (hc0 : l0.length ≤ c0) (h : impl_value.f l0 a1 = some r) :
  Calls Tryz.prog 89 #[.slice A0 l0.length c0, .int .i64 a1] w fun e w' => e = .returned (.int .i64 r) ∧ Below w.heap.size w w' := by
 unfold impl_value.f at h
 by_cases hl : l0.length ≤ 17592186044416
 ·rw [if_pos hl] at h
  obtain rfl := Option.some.inj h
  exact callsIn_wide.1 (value_in A0 c0 l0 a1 hl w (bwInts_of hr0))
 ·rw [if_neg hl] at h; cases h
end
def impl_element_power.l0 : Nat → Int → Int → Int → Int → Option (Int)
 | 0, _, _, _, _ => none
 | k + 1, x0, x5, x6, x7 => if x7 < x6 then ((impl_element_times.f x5 x0).bind fun t471 => (impl_element_power.l0 k x0 t471 x6 (wrap64 (x7 + 1)))) else (some x5)
def impl_element_power.f (k : Nat) (a0 : Int) (a1 : Int) : Option (Int) := impl_element_power.l0 k a0 1 a1 0
set_option maxHeartbeats 8000000 in
set_option maxRecDepth 100000 in
theorem impl_element_power.calls (k : Nat) (a0 : Int) (a1 : Int) (r : Int) (w : World) (h : impl_element_power.f k a0 a1 = some r) :
  Calls Tryz.prog 90 #[.int .i64 a0, .int .i64 a1] w fun e w' => e = .returned (.int .i64 r) ∧ Drawn0 w w' := by
 have H : (impl_element_power.l0 k a0 1 a1 0) = some r := h
 clear h
 have H' := Aside0.mk H
 clear H
 go_enter Tryz.func90, Tryz.ntmps90
 go_wp2
 go_loopg [5, 7] k (fun kq v5 v7 w' => ∃ (x5_1 : Int) (x7_1 : Int), v5 = .int .i64 x5_1 ∧ v7 = .int .i64 x7_1 ∧ Aside0 (impl_element_power.l0 kq a0 x5_1 a1 x7_1 = some r) ∧ Aside0 (kq ≤ k) ∧ Drawn0 w w')
 case atStart => exact ⟨(1), (0), rfl, rfl, H', ⟨Nat.le_refl _⟩, by repeat (first | exact Drawn0.refl _ | apply Drawn0.step)⟩
 case round =>
  clear H'
  try clear p2
  obtain ⟨x5_1, x7_1, rfl, rfl, HA, HK1, ⟨m1, rfl⟩⟩ := hrel
  cases gk with
  | zero => exact absurd HA.out (by simp [impl_element_power.l0])
  | succ k1 =>
   have H := HA.out
   clear HA
   simp only [impl_element_power.l0] at H
   by_cases c3 : x7_1 < a1
   ·rw [if_pos c3] at H
    have c3b0 : decide (x7_1 < a1) = true := decide_eq_true c3
    clear c3
    replace H := bnd H
    obtain ⟨t471, A4, H⟩ := H
    have H' := Aside0.mk H
    clear H
    go_wp2_with (first | (refine gsD c67x15 (impl_element_times.calls x5_1 a0 t471 _ A4.out) ?_; intro nd))
    go_roundg k1
    case measure => have := HK1.out; omega
    case rel => exact ⟨(t471), (wrap64 (x7_1 + 1)), rfl, rfl, H', ⟨by have := HK1.out; omega⟩, ⟨_, rfl⟩⟩
   ·rw [if_neg c3] at H
    have c3b0 : decide (x7_1 < a1) = false := decide_eq_false c3
    clear c3
    obtain rfl := Option.some.inj H
    go_wp2
    go_ret
    exact ⟨rfl, ⟨_, rfl⟩⟩
def impl_oneHot.f (a0 : Int) : Option Bool := some (decide (a0 = 2))
theorem oneHot_ta0 (w : World) : (Instr.typeAssert .nilIface 69 104 true).run Tryz.prog w = .ok (.tuple #[.agg #[], .bool false]) w := by kernel_rfl
theorem oneHot_ta1 (w : World) : (Instr.typeAssert (.iface 103 (.agg #[])) 69 104 true).run Tryz.prog w = .ok (.tuple #[.agg #[], .bool false]) w := by kernel_rfl
theorem oneHot_ta2 (w : World) : (Instr.typeAssert (.iface 104 (.agg #[])) 69 104 true).run Tryz.prog w = .ok (.tuple #[.agg #[], .bool true]) w := by kernel_rfl
theorem oneHot_ta3 (w : World) : (Instr.typeAssert (.iface 105 (.agg #[])) 69 104 true).run Tryz.prog w = .ok (.tuple #[.agg #[], .bool false]) w := by kernel_rfl
set_option maxRecDepth 100000 in
theorem impl_oneHot.calls (a0 : Int) (r : Bool) (w : World) (h : impl_oneHot.f a0 = some r) :
  Calls Tryz.prog 91 #[.int .i64 a0] w fun e w' => e = .returned (.bool r) ∧ Drawn0 w w' := by
 obtain rfl := Option.some.inj h
 clear h
 have t0 := oneHot_ta0
 have t1 := oneHot_ta1
 have t2 := oneHot_ta2
 have t3 := oneHot_ta3
 by_cases h1 : a0 = 1
 ·subst h1
  rw [show decide ((1 : Int) = 2) = false from rfl]
  go_enter Tryz.func91, Tryz.ntmps91
  go_wp2_with (first | (go_at_call 54; refine (measureOf.c1 _).mono ?_; rintro e w' ⟨rfl, rfl⟩))
  go_ret
  exact ⟨rfl, Drawn0.refl _⟩
 by_cases h2 : a0 = 2
 ·subst h2
  rw [show decide ((2 : Int) = 2) = true from rfl]
  go_enter Tryz.func91, Tryz.ntmps91
  go_wp2_with (first | (go_at_call 54; refine (measureOf.c2 _).mono ?_; rintro e w' ⟨rfl, rfl⟩))
  go_ret
  exact ⟨rfl, Drawn0.refl _⟩
 by_cases h3 : a0 = 3
 ·subst h3
  rw [show decide ((3 : Int) = 2) = false from rfl]
  go_enter Tryz.func91, Tryz.ntmps91
  go_wp2_with (first | (go_at_call 54; refine (measureOf.c3 _).mono ?_; rintro e w' ⟨rfl, rfl⟩))
  go_ret
  exact ⟨rfl, Drawn0.refl _⟩
 ·rw [show decide (a0 = 2) = false by simp [h2]]
  go_enter Tryz.func91, Tryz.ntmps91
  go_wp2_with (first | (go_at_call 54; refine (measureOf.c0 a0 _ h1 h2 h3).mono ?_; rintro e w' ⟨rfl, rfl⟩))
  go_ret
  exact ⟨rfl, Drawn0.refl _⟩
def impl_total.l0 : Nat → Int → List Int → Int → Int → Option (Int)
 | 0, _, _, _, _ => none
 | k + 1, x3, x6, x7, x8 => if x8 < x7 then (if 0 ≤ x8 then (if x8 < (x6.length : Int) then ((impl_element_plus.f x3 (rd x6 x8)).bind fun t473 => (impl_total.l0 k t473 x6 x7 (wrap64 (x8 + 1)))) else (none)) else (none)) else (some x3)
def impl_total.f (k : Nat) (l0 : List Int) : Option (Int) := impl_total.l0 k 0 l0 (l0.length : Int) 0
set_option maxHeartbeats 8000000 in
set_option maxRecDepth 100000 in
theorem impl_total.calls (k : Nat) (A0 : Option Addr) (c0 : Nat) (l0 : List Int) (r : Int) (w : World) (hr0 : Kd.C (Kd.int .i64) w A0 l0.length l0) (hc0 : l0.length ≤ c0) (h : impl_total.f k l0 = some r) :
  Calls Tryz.prog 92 #[.slice A0 l0.length c0] w fun e w' => e = .returned (.int .i64 r) ∧ Drawn0 w w' := by
 have HR0 := Aside0.mk hr0
 have HC0 := Aside0.mk hc0
 clear hr0 hc0
 have H : (impl_total.l0 k 0 l0 (l0.length : Int) 0) = some r := h
 clear h
 have H' := Aside0.mk H
 clear H
 go_enter Tryz.func92, Tryz.ntmps92
 go_wp2
 go_loopg [3, 8] k (fun kq v3 v8 w' => ∃ (x3_1 : Int) (x8_1 : Int), v3 = .int .i64 x3_1 ∧ v8 = .int .i64 x8_1 ∧ Aside0 (impl_total.l0 kq x3_1 l0 (l0.length : Int) x8_1 = some r) ∧ Aside0 (kq ≤ k) ∧ Drawn0 w w')
 case atStart => exact ⟨(0), (0), rfl, rfl, H', ⟨Nat.le_refl _⟩, by repeat (first | exact Drawn0.refl _ | apply Drawn0.step)⟩
 case round =>
  clear H'
  obtain ⟨x3_1, x8_1, rfl, rfl, HA, HK1, ⟨m1, rfl⟩⟩ := hrel
  cases gk with
  | zero => exact absurd HA.out (by simp [impl_total.l0])
  | succ k1 =>
   have H := HA.out
   clear HA
   simp only [impl_total.l0] at H
   by_cases c2 : x8_1 < (l0.length : Int)
   ·rw [if_pos c2] at H
    have c2b0 : decide (x8_1 < (l0.length : Int)) = true := decide_eq_true c2
    clear c2
    by_cases c3 : 0 ≤ x8_1
    ·rw [if_pos c3] at H
     have c3b0 : decide (0 ≤ x8_1) = true := decide_eq_true c3
     clear c3
     by_cases c4 : x8_1 < (l0.length : Int)
     ·rw [if_pos c4] at H
      have c4b0 : decide (x8_1 < (l0.length : Int)) = true := decide_eq_true c4
      clear c4
      replace H := bnd H
      obtain ⟨t473, A5, H⟩ := H
      have H' := Aside0.mk H
      clear H
      have p472 : 0 ≤ (x8_1 : Int) := of_decide_eq_true ‹_›
      have q472 : x8_1 < (l0.length : Int) := of_decide_eq_true ‹_›
      obtain ⟨ad472, e472, hx472_0⟩ := Kd.at_int HR0.out x8_1 p472 q472
      cases e472
      replace p472 := eq_true p472
      replace q472 := eq_true q472
      go_wp2_with (first | (refine gsD c70x15 (impl_element_plus.calls x3_1 (rd l0 x8_1) t473 _ A5.out) ?_; intro nd))
      go_roundg k1
      case measure => have := HK1.out; omega
      case rel => exact ⟨(t473), (wrap64 (x8_1 + 1)), rfl, rfl, H', ⟨by have := HK1.out; omega⟩, ⟨_, rfl⟩⟩
     ·rw [if_neg c4] at H
      exact absurd H (by simp)
    ·rw [if_neg c3] at H
     exact absurd H (by simp)
   ·rw [if_neg c2] at H
    have c2b0 : decide (x8_1 < (l0.length : Int)) = false := decide_eq_false c2
    clear c2
    obtain rfl := Option.some.inj H
    go_wp2
    go_ret
    exact ⟨rfl, ⟨_, rfl⟩⟩
end Go.Proofs.YtlgbblaidohljaaGreatDoor.Zc
