/- Of functions of the given program: each as a plain Lean function (.f), and the proof (.calls) that the machine's call comes to just that, for all arguments, under what each theorem states. Laid by a program out of the translation, and of texts of our own. -/
import Derived.Test.YtplbobmllflniaaEh0
import Derived.Test.YtplbobmllflniaaEh4
import Derived.Test.YtplbobmllflniaaEh5
import Derived.Test.YtplbobmllflniaaEh7
namespace Go.Proofs.Ytplbobmllflniaa.Eh
open Go.RowKit Go.Proofs.YtplbobmllflniaaW.PrintWords Go.Proofs.YtplbobmllflniaaW.PrintLast Go.Proofs.YtplbobmllflniaaW.PrintMore
attribute [local go_sem] max2_int min2_int max_two min_two max_three min_three max_four min_four   -- for this text's walks alone
set_option linter.unusedVariables false
set_option linter.unusedSimpArgs false

/-! ### impl_QueryDecide: function 34 (ours) -/
theorem tmod31 (n : Int) : -30 ≤ Int.tmod n 31 ∧ Int.tmod n 31 ≤ 30 ∧ Int.tmod n 31 % 31 = n % 31 := by
  have h := @Int.tmod_eq_emod n 31
  split at h <;> simp at h <;> omega
theorem elementOf_f (n : Int) : impl_elementOf.f n = some (n % 31) := by
  unfold impl_elementOf.f
  have h := tmod31 n
  rw [show wrap64 (Int.tmod n 31 + 31) = Int.tmod n 31 + 31 by unfold wrap64; omega, Int.tmod_eq_emod_of_nonneg (by omega)]
  congr 1; omega
theorem plus_f (a b : Int) (ha : 0 ≤ a ∧ a ≤ 30) (hb : 0 ≤ b ∧ b ≤ 30) : impl_element_plus.f a b = some ((a + b) % 31) := by
  unfold impl_element_plus.f
  rw [show wrap64 (a + b) = a + b by unfold wrap64; omega, elementOf_f]; rfl
theorem times_f (a b : Int) (ha : 0 ≤ a ∧ a ≤ 30) (hb : 0 ≤ b ∧ b ≤ 30) : impl_element_times.f a b = some ((a * b) % 31) := by
  unfold impl_element_times.f
  have h1 : 0 ≤ a * b := Int.mul_nonneg ha.1 hb.1
  have h2 : a * b ≤ 30 * 30 := Int.mul_le_mul ha.2 hb.2 hb.1 (by omega)
  rw [show wrap64 (a * b) = a * b by unfold wrap64; omega, elementOf_f]; rfl


set_option maxHeartbeats 1000000 in
set_option maxRecDepth 100000 in
theorem plus_still (a b : Int) (w : World) (ha : 0 ≤ a ∧ a ≤ 30) (hb : 0 ≤ b ∧ b ≤ 30) : Calls Try.prog 97 #[.int .i64 a, .int .i64 b] w fun e w' => e = .returned (.int .i64 ((a + b) % 31)) ∧ w' = w := by
  obtain ⟨h1, h2⟩ := ha
  obtain ⟨h3, h4⟩ := hb
  have h5 : 0 ≤ a + b := by omega
  go_enter Try.func97, Try.ntmps97
  go_wp2
  go_ret
  exact ⟨by first | rfl | (simp; done) | (simp; omega), rfl⟩
set_option maxHeartbeats 1000000 in
set_option maxRecDepth 100000 in
theorem times_still (a b : Int) (w : World) (ha : 0 ≤ a ∧ a ≤ 30) (hb : 0 ≤ b ∧ b ≤ 30) : Calls Try.prog 98 #[.int .i64 a, .int .i64 b] w fun e w' => e = .returned (.int .i64 ((a * b) % 31)) ∧ w' = w := by
  have h5 : 0 ≤ a * b := Int.mul_nonneg ha.1 hb.1
  have h6 : a * b ≤ 30 * 30 := Int.mul_le_mul ha.2 hb.2 hb.1 (by omega)
  obtain ⟨h1, h2⟩ := ha
  obtain ⟨h3, h4⟩ := hb
  go_enter Try.func98, Try.ntmps98
  go_wp2
  go_ret
  exact ⟨by first | rfl | (simp; done) | (simp; omega), rfl⟩
/-- the four sums' cells -/
def cells4 (x0 x1 x2 x3 : Int) : Array Value := #[.int .i64 x0, .int .i64 x1, .int .i64 x2, .int .i64 x3]
def s4 (l0 l1 : List Int) (j : Nat) : Int := (rd l0 j + rd l1 j) % 31
def dec4 (l0 l1 : List Int) : Bool := (s4 l0 l1 0 * s4 l0 l1 1 % 31 == s4 l0 l1 2) && (s4 l0 l1 3 == 0)
def Part4 (l0 l1 : List Int) (k : Nat) (x0 x1 x2 x3 : Int) : Prop := (0 < k → x0 = s4 l0 l1 0) ∧ (1 < k → x1 = s4 l0 l1 1) ∧ (2 < k → x2 = s4 l0 l1 2) ∧ (3 < k → x3 = s4 l0 l1 3)
theorem rd_ok (l : List Int) (h : l.all fOk = true) (i : Nat) : 0 ≤ rd l i ∧ rd l i ≤ 30 := by
  unfold rd
  simp only [Int.toNat_natCast, List.getD_eq_getElem?_getD]
  rcases Nat.lt_or_ge i l.length with hi | hi
  · have := List.all_eq_true.1 h l[i] (List.getElem_mem hi)
    rw [List.getElem?_eq_getElem hi]
    simp only [fOk, Bool.and_eq_true, decide_eq_true_eq] at this
    exact this
  · rw [List.getElem?_eq_none hi]; simp
set_option maxHeartbeats 2000000 in
set_option maxRecDepth 100000 in
theorem QueryDecide.road (A0 A1 : Option Addr) (c0 c1 : Nat) (l0 l1 : List Int) (w : World) (hr0 : Kd.C (Kd.int .i64) w A0 l0.length l0) (hr1 : Kd.C (Kd.int .i64) w A1 l1.length l1)
  (h0 : l0.length = 4) (h1 : l1.length = 4) (ha : l0.all fOk = true) (hb : l1.all fOk = true) (hc0 : l0.length ≤ c0) (hc1 : l1.length ≤ c1) :
    Calls Try.prog 34 #[.slice A0 l0.length c0, .slice A1 l1.length c1] w fun e w' => e = .returned (.bool (dec4 l0 l1)) ∧ Below w.heap.size w w' := by
  have e0 : impl_elementsOk.f l0 4 = some true := by simp [impl_elementsOk.f, h0, ha]
  have e1 : impl_elementsOk.f l1 4 = some true := by simp [impl_elementsOk.f, h1, hb]
  have PL : Aside0 (∀ k : Nat, impl_element_plus.f (rd l0 k) (rd l1 k) = some (s4 l0 l1 k)) := ⟨fun k => plus_f _ _ (rd_ok l0 ha k) (rd_ok l1 hb k)⟩
  have E0 := Aside0.mk e0
  have E1 := Aside0.mk e1
  have HR0 := Aside0.mk hr0
  have HR1 := Aside0.mk hr1
  have b0 : ((l0.length : Int) != 4) = false := by simp [h0]
  have b1 : ((l1.length : Int) != 4) = false := by simp [h1]
  have d0 : (l0.length != 4) = false := by simp [h0]
  have d1 : (l1.length != 4) = false := by simp [h1]
  have H0 := Aside0.mk h0
  have H1 := Aside0.mk h1
  have hA0 := Aside0.mk ha
  have hA1 := Aside0.mk hb
  clear e0 e1 hr0 hr1 ha hb h0 h1
  go_enter Try.func34, Try.ntmps34
  go_wp2_with (first | (go_at_call 96; (with_reducible refine (impl_elementsOk.calls A0 c0 l0 4 true _ HR0.out hc0 E0.out).mono ?_); rintro e w' ⟨rfl, ⟨nd, rfl⟩⟩) | (go_at_call 96; (with_reducible refine (impl_elementsOk.calls A1 c1 l1 4 true _ (Kd.C_below HR1.out (by repeat (first | exact Below.refl _ _ | apply pw_below_drewN | apply below_drew))) hc1 E1.out).mono ?_); rintro e w' ⟨rfl, ⟨nd, rfl⟩⟩))
  go_loopw [25] (fun i wr => ∃ (k : Nat) (x0 x1 x2 x3 : Int), k ≤ 4 ∧ i = .int .i64 k ∧ Aside0 (wr.heap[w.heap.size]? = some (.cells (cells4 x0 x1 x2 x3) 97 (0, 0))) ∧ Aside0 (Below w.heap.size w wr) ∧ Aside0 (Part4 l0 l1 k x0 x1 x2 x3)) (fun i _ => 4 - (intOf i).toNat)
  case atStart => exact ⟨0, 0, 0, 0, 0, by omega, rfl, ⟨by simpa [cells4] using blk_new (w.drewN _) _⟩, ⟨by repeat (first | exact Below.refl _ _ | apply below_alloc | apply pw_below_drewN | apply below_drew)⟩, ⟨by unfold Part4; omega⟩⟩
  case round =>
    obtain ⟨k, x0, x1, x2, x3, hk, rfl, HC, HB, HP⟩ := hrel
    rcases (show k = 0 ∨ k = 1 ∨ k = 2 ∨ k = 3 ∨ k = 4 by omega) with rfl | rfl | rfl | rfl | rfl
    · have hb0 : (0 : Int) < (l0.length : Int) := by have := H0.out; omega
      have hb1 : (0 : Int) < (l1.length : Int) := by have := H1.out; omega
      obtain ⟨ad0, e0, hx0⟩ := Kd.at_int HR0.out (0 : Int) (by omega) hb0
      cases e0
      obtain ⟨ad1, e1, hx1⟩ := Kd.at_int HR1.out (0 : Int) (by omega) hb1
      cases e1
      replace hx0 := (HB.out.cell (World.block_lt_of_cell? w _ hx0)).trans hx0
      replace hx1 := (HB.out.cell (World.block_lt_of_cell? w _ hx1)).trans hx1
      have hn0 : 0 < l0.length := by have := H0.out; omega
      have hn1 : 0 < l1.length := by have := H1.out; omega
      have hy0 : wr.cell? ad0 = some (.int .i64 (rd l0 0)) := hx0
      have hy1 : wr.cell? ad1 = some (.int .i64 (rd l1 0)) := hx1
      clear hx0 hx1
      go_wp2
      go_still_tail 11, (by kernel_rfl)
      still_call (plus_still _ _ _ (rd_ok l0 hA0.out 0) (rd_ok l1 hA1.out 0))
      repeat still_step
      refine wpStill_nil ?_
      change wpList _ _ _ _ _ wr.drew
      have hcell : wr.drew.cell? ⟨w.heap.size, 0, none⟩ = some (.int .i64 x0) := blk_cell HC.out 0
      have hfro : wr.drew.frozen? ⟨w.heap.size, 0, none⟩ = false := blk_frozen HC.out 0
      have HC2 : Aside0 (wr.drew.heap[w.heap.size]? = some (.cells (cells4 x0 x1 x2 x3) 97 (0, 0))) := ⟨HC.out⟩
      have HB2 : Aside0 (Below w.heap.size w wr.drew) := ⟨below_drew HB.out⟩
      generalize hW : wr.drew = w2 at hcell hfro HC2 HB2
      clear hW
      go_wp2
      go_roundw
      case rel => exact ⟨1, s4 l0 l1 0, x1, x2, x3, by omega, by first | rfl | go_num, ⟨blk_put HC2.out 0 _ rfl⟩, ⟨below_set HB2.out (Nat.le_refl _)⟩, ⟨by have := HP.out; unfold Part4 at this ⊢; refine ⟨?_, ?_, ?_, ?_⟩ <;> intro hh <;> first | rfl | omega | exact this.1 (by omega) | exact this.2.1 (by omega) | exact this.2.2.1 (by omega)⟩⟩
      case measure => simp [intOf]
    · have hb0 : (1 : Int) < (l0.length : Int) := by have := H0.out; omega
      have hb1 : (1 : Int) < (l1.length : Int) := by have := H1.out; omega
      obtain ⟨ad0, e0, hx0⟩ := Kd.at_int HR0.out (1 : Int) (by omega) hb0
      cases e0
      obtain ⟨ad1, e1, hx1⟩ := Kd.at_int HR1.out (1 : Int) (by omega) hb1
      cases e1
      replace hx0 := (HB.out.cell (World.block_lt_of_cell? w _ hx0)).trans hx0
      replace hx1 := (HB.out.cell (World.block_lt_of_cell? w _ hx1)).trans hx1
      have hn0 : 1 < l0.length := by have := H0.out; omega
      have hn1 : 1 < l1.length := by have := H1.out; omega
      have hy0 : wr.cell? ⟨ad0.block, ad0.off + 1, none⟩ = some (.int .i64 (rd l0 1)) := hx0
      have hy1 : wr.cell? ⟨ad1.block, ad1.off + 1, none⟩ = some (.int .i64 (rd l1 1)) := hx1
      clear hx0 hx1
      go_wp2
      go_still_tail 11, (by kernel_rfl)
      still_call (plus_still _ _ _ (rd_ok l0 hA0.out 1) (rd_ok l1 hA1.out 1))
      repeat still_step
      refine wpStill_nil ?_
      change wpList _ _ _ _ _ wr.drew
      have hcell : wr.drew.cell? ⟨w.heap.size, 1, none⟩ = some (.int .i64 x1) := blk_cell HC.out 1
      have hfro : wr.drew.frozen? ⟨w.heap.size, 1, none⟩ = false := blk_frozen HC.out 1
      have HC2 : Aside0 (wr.drew.heap[w.heap.size]? = some (.cells (cells4 x0 x1 x2 x3) 97 (0, 0))) := ⟨HC.out⟩
      have HB2 : Aside0 (Below w.heap.size w wr.drew) := ⟨below_drew HB.out⟩
      generalize hW : wr.drew = w2 at hcell hfro HC2 HB2
      clear hW
      go_wp2
      go_roundw
      case rel => exact ⟨2, x0, s4 l0 l1 1, x2, x3, by omega, by first | rfl | go_num, ⟨blk_put HC2.out 1 _ rfl⟩, ⟨below_set HB2.out (Nat.le_refl _)⟩, ⟨by have := HP.out; unfold Part4 at this ⊢; refine ⟨?_, ?_, ?_, ?_⟩ <;> intro hh <;> first | rfl | omega | exact this.1 (by omega) | exact this.2.1 (by omega) | exact this.2.2.1 (by omega)⟩⟩
      case measure => simp [intOf]
    · have hb0 : (2 : Int) < (l0.length : Int) := by have := H0.out; omega
      have hb1 : (2 : Int) < (l1.length : Int) := by have := H1.out; omega
      obtain ⟨ad0, e0, hx0⟩ := Kd.at_int HR0.out (2 : Int) (by omega) hb0
      cases e0
      obtain ⟨ad1, e1, hx1⟩ := Kd.at_int HR1.out (2 : Int) (by omega) hb1
      cases e1
      replace hx0 := (HB.out.cell (World.block_lt_of_cell? w _ hx0)).trans hx0
      replace hx1 := (HB.out.cell (World.block_lt_of_cell? w _ hx1)).trans hx1
      have hn0 : 2 < l0.length := by have := H0.out; omega
      have hn1 : 2 < l1.length := by have := H1.out; omega
      have hy0 : wr.cell? ⟨ad0.block, ad0.off + 2, none⟩ = some (.int .i64 (rd l0 2)) := hx0
      have hy1 : wr.cell? ⟨ad1.block, ad1.off + 2, none⟩ = some (.int .i64 (rd l1 2)) := hx1
      clear hx0 hx1
      go_wp2
      go_still_tail 11, (by kernel_rfl)
      still_call (plus_still _ _ _ (rd_ok l0 hA0.out 2) (rd_ok l1 hA1.out 2))
      repeat still_step
      refine wpStill_nil ?_
      change wpList _ _ _ _ _ wr.drew
      have hcell : wr.drew.cell? ⟨w.heap.size, 2, none⟩ = some (.int .i64 x2) := blk_cell HC.out 2
      have hfro : wr.drew.frozen? ⟨w.heap.size, 2, none⟩ = false := blk_frozen HC.out 2
      have HC2 : Aside0 (wr.drew.heap[w.heap.size]? = some (.cells (cells4 x0 x1 x2 x3) 97 (0, 0))) := ⟨HC.out⟩
      have HB2 : Aside0 (Below w.heap.size w wr.drew) := ⟨below_drew HB.out⟩
      generalize hW : wr.drew = w2 at hcell hfro HC2 HB2
      clear hW
      go_wp2
      go_roundw
      case rel => exact ⟨3, x0, x1, s4 l0 l1 2, x3, by omega, by first | rfl | go_num, ⟨blk_put HC2.out 2 _ rfl⟩, ⟨below_set HB2.out (Nat.le_refl _)⟩, ⟨by have := HP.out; unfold Part4 at this ⊢; refine ⟨?_, ?_, ?_, ?_⟩ <;> intro hh <;> first | rfl | omega | exact this.1 (by omega) | exact this.2.1 (by omega) | exact this.2.2.1 (by omega)⟩⟩
      case measure => simp [intOf]
    · have hb0 : (3 : Int) < (l0.length : Int) := by have := H0.out; omega
      have hb1 : (3 : Int) < (l1.length : Int) := by have := H1.out; omega
      obtain ⟨ad0, e0, hx0⟩ := Kd.at_int HR0.out (3 : Int) (by omega) hb0
      cases e0
      obtain ⟨ad1, e1, hx1⟩ := Kd.at_int HR1.out (3 : Int) (by omega) hb1
      cases e1
      replace hx0 := (HB.out.cell (World.block_lt_of_cell? w _ hx0)).trans hx0
      replace hx1 := (HB.out.cell (World.block_lt_of_cell? w _ hx1)).trans hx1
      have hn0 : 3 < l0.length := by have := H0.out; omega
      have hn1 : 3 < l1.length := by have := H1.out; omega
      have hy0 : wr.cell? ⟨ad0.block, ad0.off + 3, none⟩ = some (.int .i64 (rd l0 3)) := hx0
      have hy1 : wr.cell? ⟨ad1.block, ad1.off + 3, none⟩ = some (.int .i64 (rd l1 3)) := hx1
      clear hx0 hx1
      go_wp2
      go_still_tail 11, (by kernel_rfl)
      still_call (plus_still _ _ _ (rd_ok l0 hA0.out 3) (rd_ok l1 hA1.out 3))
      repeat still_step
      refine wpStill_nil ?_
      change wpList _ _ _ _ _ wr.drew
      have hcell : wr.drew.cell? ⟨w.heap.size, 3, none⟩ = some (.int .i64 x3) := blk_cell HC.out 3
      have hfro : wr.drew.frozen? ⟨w.heap.size, 3, none⟩ = false := blk_frozen HC.out 3
      have HC2 : Aside0 (wr.drew.heap[w.heap.size]? = some (.cells (cells4 x0 x1 x2 x3) 97 (0, 0))) := ⟨HC.out⟩
      have HB2 : Aside0 (Below w.heap.size w wr.drew) := ⟨below_drew HB.out⟩
      generalize hW : wr.drew = w2 at hcell hfro HC2 HB2
      clear hW
      go_wp2
      go_roundw
      case rel => exact ⟨4, x0, x1, x2, s4 l0 l1 3, by omega, by first | rfl | go_num, ⟨blk_put HC2.out 3 _ rfl⟩, ⟨below_set HB2.out (Nat.le_refl _)⟩, ⟨by have := HP.out; unfold Part4 at this ⊢; refine ⟨?_, ?_, ?_, ?_⟩ <;> intro hh <;> first | rfl | omega | exact this.1 (by omega) | exact this.2.1 (by omega) | exact this.2.2.1 (by omega)⟩⟩
      case measure => simp [intOf]
    · have e4 : ((4 : Nat) : Int) = 4 := rfl
      rw [e4]
      clear e4
      obtain ⟨rfl, rfl, rfl, rfl⟩ : x0 = s4 l0 l1 0 ∧ x1 = s4 l0 l1 1 ∧ x2 = s4 l0 l1 2 ∧ x3 = s4 l0 l1 3 := by have := HP.out; unfold Part4 at this; exact ⟨this.1 (by omega), this.2.1 (by omega), this.2.2.1 (by omega), this.2.2.2 (by omega)⟩
      have g0 : wr.cell? ⟨w.heap.size, 0, none⟩ = some (.int .i64 (s4 l0 l1 0)) := blk_cell HC.out 0
      have g1 : wr.cell? ⟨w.heap.size, 1, none⟩ = some (.int .i64 (s4 l0 l1 1)) := blk_cell HC.out 1
      have g2 : wr.cell? ⟨w.heap.size, 2, none⟩ = some (.int .i64 (s4 l0 l1 2)) := blk_cell HC.out 2
      have g3 : wr.cell? ⟨w.heap.size, 3, none⟩ = some (.int .i64 (s4 l0 l1 3)) := blk_cell HC.out 3
      have hs : ∀ j, 0 ≤ s4 l0 l1 j ∧ s4 l0 l1 j ≤ 30 := fun j => by unfold s4; omega
      have HS := Aside0.mk hs
      clear hs
      cases hd : (s4 l0 l1 0 * s4 l0 l1 1 % 31 == s4 l0 l1 2)
      · have HD := Aside0.mk hd
        go_wp2
        refine wp_region_still_lit (by kernel_rfl) (by kernel_rfl) ?_
        repeat still_step
        still_call (times_still _ _ _ (HS.out 0) (HS.out 1))
        repeat still_step
        refine wpStill_nil ?_
        change Exit.then _ _ _ _ wr.drew
        go_wp2
        go_ret
        exact ⟨by unfold dec4; rw [HD.out]; first | rfl | (simp; done), below_drew HB.out⟩
      · have HD := Aside0.mk hd
        go_wp2
        refine wp_region_still_lit (by kernel_rfl) (by kernel_rfl) ?_
        repeat still_step
        still_call (times_still _ _ _ (HS.out 0) (HS.out 1))
        repeat still_step
        refine wpStill_nil ?_
        change Exit.then _ _ _ _ wr.drew
        go_wp2
        go_ret
        exact ⟨by unfold dec4; rw [HD.out]; first | rfl | (simp; done), below_drew HB.out⟩

/-! ### impl_QueryDecide -/
def impl_QueryDecide.f (l0 l1 : List Int) : Option Bool := some (decide (l0.length = 4) && decide (l1.length = 4) && l0.all fOk && l1.all fOk && dec4 l0 l1)
set_option maxHeartbeats 1000000 in
set_option maxRecDepth 100000 in
theorem impl_QueryDecide.calls (A0 : Option Addr) (c0 : Nat) (l0 : List Int) (A1 : Option Addr) (c1 : Nat) (l1 : List Int) (r : Bool) (w : World) (hr0 : Kd.C (Kd.int .i64) w A0 l0.length l0) (hc0 : l0.length ≤ c0) (hr1 : Kd.C (Kd.int .i64) w A1 l1.length l1) (hc1 : l1.length ≤ c1) (h : impl_QueryDecide.f l0 l1 = some r) :
    Calls Try.prog 34 #[.slice A0 l0.length c0, .slice A1 l1.length c1] w fun e w' => e = .returned (.bool r) ∧ Below w.heap.size w w' := by
  obtain rfl := Option.some.inj h
  clear h
  by_cases h0 : l0.length = 4
  · by_cases h1 : l1.length = 4
    · cases ha : l0.all fOk
      · have e0 : impl_elementsOk.f l0 4 = some false := by simp [impl_elementsOk.f, h0, ha]
        have er : (decide (l0.length = 4) && decide (l1.length = 4) && false && l1.all fOk && dec4 l0 l1) = false := by simp
        rw [er]
        have E0 := Aside0.mk e0
        have HR0 := Aside0.mk hr0
        have b0 : ((l0.length : Int) != 4) = false := by simp [h0]
        have b1 : ((l1.length : Int) != 4) = false := by simp [h1]
        have d0 : (l0.length != 4) = false := by simp [h0]
        have d1 : (l1.length != 4) = false := by simp [h1]
        clear e0 er hr0 ha h0 h1
        go_enter Try.func34, Try.ntmps34
        go_wp2_with (first | (go_at_call 96; (with_reducible refine (impl_elementsOk.calls A0 c0 l0 4 false _ HR0.out hc0 E0.out).mono ?_); rintro e w' ⟨rfl, ⟨nd, rfl⟩⟩))
        go_ret
        exact ⟨by first | rfl | (simp; done), (by repeat (first | exact Below.refl _ _ | apply pw_below_drewN | apply below_drew))⟩
      · cases hb : l1.all fOk
        · have e0 : impl_elementsOk.f l0 4 = some true := by simp [impl_elementsOk.f, h0, ha]
          have e1 : impl_elementsOk.f l1 4 = some false := by simp [impl_elementsOk.f, h1, hb]
          have er : (decide (l0.length = 4) && decide (l1.length = 4) && true && false && dec4 l0 l1) = false := by simp
          rw [er]
          have E0 := Aside0.mk e0
          have E1 := Aside0.mk e1
          have HR0 := Aside0.mk hr0
          have HR1 := Aside0.mk hr1
          have b0 : ((l0.length : Int) != 4) = false := by simp [h0]
          have b1 : ((l1.length : Int) != 4) = false := by simp [h1]
          have d0 : (l0.length != 4) = false := by simp [h0]
          have d1 : (l1.length != 4) = false := by simp [h1]
          clear e0 e1 er hr0 hr1 ha hb h0 h1
          go_enter Try.func34, Try.ntmps34
          go_wp2_with (first | (go_at_call 96; (with_reducible refine (impl_elementsOk.calls A0 c0 l0 4 true _ HR0.out hc0 E0.out).mono ?_); rintro e w' ⟨rfl, ⟨nd, rfl⟩⟩) | (go_at_call 96; (with_reducible refine (impl_elementsOk.calls A1 c1 l1 4 false _ (Kd.C_below HR1.out (by repeat (first | exact Below.refl _ _ | apply pw_below_drewN | apply below_drew))) hc1 E1.out).mono ?_); rintro e w' ⟨rfl, ⟨nd, rfl⟩⟩))
          go_ret
          exact ⟨by first | rfl | (simp; done), (by repeat (first | exact Below.refl _ _ | apply pw_below_drewN | apply below_drew))⟩
        · have er : (decide (l0.length = 4) && decide (l1.length = 4) && true && true && dec4 l0 l1) = dec4 l0 l1 := by simp [h0, h1]
          rw [er]
          exact QueryDecide.road A0 A1 c0 c1 l0 l1 w hr0 hr1 h0 h1 ha hb hc0 hc1
    · have er : (decide (l0.length = 4) && decide (l1.length = 4) && l0.all fOk && l1.all fOk && dec4 l0 l1) = false := by simp [h1]
      rw [er]
      have b0 : ((l0.length : Int) != 4) = false := by simp [h0]
      have b1 : ((l1.length : Int) != 4) = true := by simp; omega
      have d0 : (l0.length != 4) = false := by simp [h0]
      have d1 : (l1.length != 4) = true := by simp [h1]
      clear er h0 h1
      go_enter Try.func34, Try.ntmps34
      go_wp2
      go_ret
      exact ⟨by first | rfl | (simp; done), (by repeat (first | exact Below.refl _ _ | apply pw_below_drewN | apply below_drew))⟩
  · have er : (decide (l0.length = 4) && decide (l1.length = 4) && l0.all fOk && l1.all fOk && dec4 l0 l1) = false := by simp [h0]
    rw [er]
    have b0 : ((l0.length : Int) != 4) = true := by simp; omega
    have d0 : (l0.length != 4) = true := by simp [h0]
    clear er h0
    go_enter Try.func34, Try.ntmps34
    go_wp2
    go_ret
    exact ⟨by first | rfl | (simp; done), (by repeat (first | exact Below.refl _ _ | apply pw_below_drewN | apply below_drew))⟩

/-! ### impl_QueryChance: function 73 -/
mutual
def impl_QueryChance.l0 : Nat → Int → List Int → Int → Int → Option (Int)
  | 0, _, _, _, _ => none
  | k + 1, x0, x1, x5, x6 => if x6 < 31 then (impl_QueryChance.l1 k x0 x1 x5 x6 0) else (some x5)
def impl_QueryChance.l1 : Nat → Int → List Int → Int → Int → Int → Option (Int)
  | 0, _, _, _, _, _ => none
  | k + 1, x0, x1, x5, x6, x21 => if x21 < 31 then ((impl_ask.f k x0 x1 true x6 x21).bind fun t333 => (if 4 ≤ 35184372088832 then ((impl_QueryDecide.f t333 (List.replicate 4 0)).bind fun t339 => (if t339 = true then (impl_QueryChance.l1 k x0 x1 (wrap64 (x5 + 1)) x6 (wrap64 (x21 + 1))) else (impl_QueryChance.l1 k x0 x1 x5 x6 (wrap64 (x21 + 1))))) else (none))) else (impl_QueryChance.l0 k x0 x1 x5 (wrap64 (x6 + 1)))
end
def impl_QueryChance.f (k : Nat) (a0 : Int) (l1 : List Int) : Option (Int) := (impl_ProofLen.f a0).bind fun t330 => ((impl_sized.f a0 l1 t330).bind fun t331 => (if t331 = true then ((impl_TypeLen.f a0).bind fun t332 => (impl_QueryChance.l0 k a0 l1 0 (wrap64 (t332 + 1)))) else (some (-1))))
theorem impl_QueryChance.mono_l : ∀ k, (∀ y0 y1 y2 y3, LeO (impl_QueryChance.l0 k y0 y1 y2 y3) (impl_QueryChance.l0 (k + 1) y0 y1 y2 y3)) ∧ (∀ y0 y1 y2 y3 y4, LeO (impl_QueryChance.l1 k y0 y1 y2 y3 y4) (impl_QueryChance.l1 (k + 1) y0 y1 y2 y3 y4))
  | 0 => ⟨fun _ _ _ _ r h => by simp [impl_QueryChance.l0] at h, fun _ _ _ _ _ r h => by simp [impl_QueryChance.l1] at h⟩
  | k + 1 => by
    obtain ⟨ih0, ih1⟩ := impl_QueryChance.mono_l k
    refine ⟨?_, ?_⟩
    · intro y0 y1 y2 y3
      unfold impl_QueryChance.l0
      repeat' first
      | (with_reducible exact ih0 _ _ _ _)
      | (with_reducible exact ih1 _ _ _ _ _)
      | (with_reducible exact impl_ask.mono _ _ _ _ _ _)
      | (with_reducible exact LeO.refl _)
      | (with_reducible exact LeO.none _)
      | (with_reducible refine LeO.ite ?_ ?_)
      | (with_reducible refine LeO.bind ?_ (fun _ => ?_))
      | exact ih0 _ _ _ _
      | exact ih1 _ _ _ _ _
      | exact impl_ask.mono _ _ _ _ _ _
      | exact LeO.none _
      | refine LeO.ite ?_ ?_
      | refine LeO.bind ?_ (fun _ => ?_)
    · intro y0 y1 y2 y3 y4
      unfold impl_QueryChance.l1
      repeat' first
      | (with_reducible exact ih0 _ _ _ _)
      | (with_reducible exact ih1 _ _ _ _ _)
      | (with_reducible exact impl_ask.mono _ _ _ _ _ _)
      | (with_reducible exact LeO.refl _)
      | (with_reducible exact LeO.none _)
      | (with_reducible refine LeO.ite ?_ ?_)
      | (with_reducible refine LeO.bind ?_ (fun _ => ?_))
      | exact ih0 _ _ _ _
      | exact ih1 _ _ _ _ _
      | exact impl_ask.mono _ _ _ _ _ _
      | exact LeO.none _
      | refine LeO.ite ?_ ?_
      | refine LeO.bind ?_ (fun _ => ?_)
theorem impl_QueryChance.mono : ∀ a0 a1 k, LeO (impl_QueryChance.f k a0 a1) (impl_QueryChance.f (k + 1) a0 a1) := by
  intro a0 a1 k
  obtain ⟨ih0, ih1⟩ := impl_QueryChance.mono_l k
  unfold impl_QueryChance.f
  repeat' first
      | (with_reducible exact ih0 _ _ _ _)
      | (with_reducible exact ih1 _ _ _ _ _)
      | (with_reducible exact impl_ask.mono _ _ _ _ _ _)
      | (with_reducible exact LeO.refl _)
      | (with_reducible exact LeO.none _)
      | (with_reducible refine LeO.ite ?_ ?_)
      | (with_reducible refine LeO.bind ?_ (fun _ => ?_))
      | exact ih0 _ _ _ _
      | exact ih1 _ _ _ _ _
      | exact impl_ask.mono _ _ _ _ _ _
      | exact LeO.none _
      | refine LeO.ite ?_ ?_
      | refine LeO.bind ?_ (fun _ => ?_)
set_option maxHeartbeats 8000000 in
set_option maxRecDepth 100000 in
theorem impl_QueryChance.calls (k : Nat) (a0 : Int) (A1 : Option Addr) (c1 : Nat) (l1 : List Int) (r : Int) (w : World) (hr1 : Kd.C (Kd.int .i64) w A1 l1.length l1) (hc1 : l1.length ≤ c1) (h : impl_QueryChance.f k a0 l1 = some r) :
    Calls Try.prog 73 #[.int .i64 a0, .slice A1 l1.length c1] w fun e w' => e = .returned (.int .i64 r) ∧ Below w.heap.size w w' := by
  have HR1 := Aside0.mk hr1
  have HC1 := Aside0.mk hc1
  clear hr1 hc1
  have HB := Aside0.mk (Below.refl w.heap.size w)
  have H : ((impl_ProofLen.f a0).bind fun t330 => ((impl_sized.f a0 l1 t330).bind fun t331 => (if t331 = true then ((impl_TypeLen.f a0).bind fun t332 => (impl_QueryChance.l0 k a0 l1 0 (wrap64 (t332 + 1)))) else (some (-1))))) = some r := h
  clear h
  replace H := Option.bind_eq_some_iff.mp H
  obtain ⟨t330, A30, H⟩ := H
  replace H : ((impl_sized.f a0 l1 t330).bind fun t331 => (if t331 = true then ((impl_TypeLen.f a0).bind fun t332 => (impl_QueryChance.l0 k a0 l1 0 (wrap64 (t332 + 1)))) else (some (-1)))) = some r := H
  have A3 := Aside0.mk A30
  clear A30
  replace H := Option.bind_eq_some_iff.mp H
  obtain ⟨t331, A40, H⟩ := H
  replace H : (if t331 = true then ((impl_TypeLen.f a0).bind fun t332 => (impl_QueryChance.l0 k a0 l1 0 (wrap64 (t332 + 1)))) else (some (-1))) = some r := H
  have A4 := Aside0.mk A40
  clear A40
  by_cases c5 : t331 = true
  · subst c5
    have H1 : ((impl_TypeLen.f a0).bind fun t332 => (impl_QueryChance.l0 k a0 l1 0 (wrap64 (t332 + 1)))) = some r := by rw [if_pos rfl] at H; exact H
    clear H
    have H := H1
    clear H1
    replace H := Option.bind_eq_some_iff.mp H
    obtain ⟨t332, A60, H⟩ := H
    replace H : (impl_QueryChance.l0 k a0 l1 0 (wrap64 (t332 + 1))) = some r := H
    have A6 := Aside0.mk A60
    clear A60
    have H' := Aside0.mk H
    clear H
    go_enter Try.func73, Try.ntmps73
    go_wp2_with (first | ((with_reducible refine gate_callee (f := 121) rfl ?_); refine goesL_ (some 11) rfl rfl Try.func121 (by kernel_rfl) rfl #[.int .i64 a0] rfl (by (try simp only [List.map_toArray, List.map_cons, List.map_nil]); first | done | rfl | (simp only [List.length_drop, List.length_take]; rfl)) ?_; (with_reducible refine (impl_ProofLen.calls a0 t330 _ A3.out).mono ?_); rintro e w7 ⟨rfl, hb⟩; refine ⟨_, rfl, ?_⟩; have n0_ := Aside0.mk (below_step (by repeat (first | (with_reducible first | exact HB.out | apply below_alloc | apply pw_below_drewN | apply below_drew1) | exact HB.out)) hb); clear HB; have HB := n0_; clear n0_; (try clear hb); (try clear hb2); (try clear hk); (try clear hi)) | ((with_reducible refine gate_callee (f := 99) rfl ?_); refine goesL_ (some 12) rfl rfl Try.func99 (by kernel_rfl) rfl #[.int .i64 a0, .slice A1 l1.length c1, .int .i64 t330] rfl (by (try simp only [List.map_toArray, List.map_cons, List.map_nil]); first | done | rfl | (simp only [List.length_drop, List.length_take]; rfl)) ?_; (with_reducible refine (impl_sized.calls a0 _ _ l1 t330 true _ ?side1 ?side2 A4.out).mono ?_); (case side1 => repeat (first | exact (Kd.C_below HR1.out HB.out) | (with_reducible refine Kd.C_alloc ?_ _) | (with_reducible refine Kd.C_drewN ?_ _) | (with_reducible refine Kd.C_drew ?_))); (case side2 => exact HC1.out); rintro e w' ⟨rfl, ⟨nd, rfl⟩⟩; refine ⟨_, rfl, ?_⟩) | ((with_reducible refine gate_callee (f := 30) rfl ?_); refine goesL_ (some 15) rfl rfl Try.func30 (by kernel_rfl) rfl #[.int .i64 a0] rfl (by (try simp only [List.map_toArray, List.map_cons, List.map_nil]); first | done | rfl | (simp only [List.length_drop, List.length_take]; rfl)) ?_; (with_reducible refine (impl_TypeLen.calls a0 t332 _ A6.out).mono ?_); rintro e w8 ⟨rfl, hb⟩; refine ⟨_, rfl, ?_⟩; have n0_ := Aside0.mk (below_step (by repeat (first | (with_reducible first | exact HB.out | apply below_alloc | apply pw_below_drewN | apply below_drew1) | exact HB.out)) hb); clear HB; have HB := n0_; clear n0_; (try clear hb); (try clear hb2); (try clear hk); (try clear hi)))
    go_loopg [5, 6] k (fun kq v5 v6 w' => ∃ (x5_1 : Int) (x6_1 : Int), v5 = .int .i64 x5_1 ∧ v6 = .int .i64 x6_1 ∧ Aside0 (impl_QueryChance.l0 kq a0 l1 x5_1 x6_1 = some r) ∧ Aside0 (kq ≤ k) ∧ Aside0 (Below w.heap.size w w'))
    case atStart => exact ⟨(0), (wrap64 (t332 + 1)), (by first | rfl | (simp; done) | (simp [*]; done)), (by first | rfl | (simp; done) | (simp [*]; done)), H', ⟨Nat.le_refl _⟩, ⟨by repeat (first | (with_reducible first | exact HB.out | apply below_alloc | apply pw_below_drewN | apply below_drew1) | exact HB.out)⟩⟩
    case round =>
      clear H'
      try clear c1
      try clear p2
      try clear c3
      try clear c5
      try clear p6
      try clear c7
      obtain ⟨x5_1, x6_1, rfl, rfl, HA, HK1, HB⟩ := hrel
      cases gk with
      | zero => exact absurd HA.out (by simp [impl_QueryChance.l0])
      | succ k1 =>
        have H := HA.out
        clear HA
        simp only [impl_QueryChance.l0] at H
        by_cases c9 : x6_1 < 31
        · rw [if_pos c9] at H
          have c9b0 : decide (x6_1 < 31) = true := decide_eq_true c9
          clear c9
          have H' := Aside0.mk H
          clear H
          go_wp2
          go_loopg [5, 21] k1 (fun kq v5 v21 w' => ∃ (x5_2 : Int) (x21_2 : Int), v5 = .int .i64 x5_2 ∧ v21 = .int .i64 x21_2 ∧ Aside0 (impl_QueryChance.l1 kq a0 l1 x5_2 x6_1 x21_2 = some r) ∧ Aside0 (kq ≤ k1) ∧ Aside0 (Below w.heap.size w w'))
          case atStart => exact ⟨(x5_1), (0), (by first | rfl | (simp; done) | (simp [*]; done)), (by first | rfl | (simp; done) | (simp [*]; done)), H', ⟨Nat.le_refl _⟩, ⟨by repeat (first | (with_reducible first | exact HB.out | apply below_alloc | apply pw_below_drewN | apply below_drew1) | exact HB.out)⟩⟩
          case round =>
            clear H'
            try clear c1
            try clear p2
            try clear c3
            try clear c5
            try clear p6
            try clear c7
            try clear c9
            try clear c9b0
            try clear p2
            try clear p6
            obtain ⟨x5_2, x21_2, rfl, rfl, HA, HK2, HB⟩ := hrel
            cases gk with
            | zero => exact absurd HA.out (by simp [impl_QueryChance.l1])
            | succ k2 =>
              have H := HA.out
              clear HA
              simp only [impl_QueryChance.l1] at H
              by_cases c10 : x21_2 < 31
              · rw [if_pos c10] at H
                have c10b0 : decide (x21_2 < 31) = true := decide_eq_true c10
                clear c10
                replace H := Option.bind_eq_some_iff.mp H
                obtain ⟨t333, A110, H⟩ := H
                replace H : (if 4 ≤ 35184372088832 then ((impl_QueryDecide.f t333 (List.replicate 4 0)).bind fun t339 => (if t339 = true then (impl_QueryChance.l1 k2 a0 l1 (wrap64 (x5_2 + 1)) x6_1 (wrap64 (x21_2 + 1))) else (impl_QueryChance.l1 k2 a0 l1 x5_2 x6_1 (wrap64 (x21_2 + 1))))) else (none)) = some r := H
                have A11 := Aside0.mk A110
                clear A110
                by_cases c12 : 4 ≤ 35184372088832
                · rw [if_pos c12] at H
                  have c12b0 := eq_true c12
                  have c12b1 : decide (4 ≤ 35184372088832) = true := decide_eq_true c12
                  clear c12
                  obtain ⟨y336, hy336⟩ : ∃ y_ : List Int, y_ = (List.replicate 4 0) := ⟨_, rfl⟩
                  replace H : ((impl_QueryDecide.f t333 y336).bind fun t339 => (if t339 = true then (impl_QueryChance.l1 k2 a0 l1 (wrap64 (x5_2 + 1)) x6_1 (wrap64 (x21_2 + 1))) else (impl_QueryChance.l1 k2 a0 l1 x5_2 x6_1 (wrap64 (x21_2 + 1))))) = some r := by first | (rw [hy336]; with_reducible exact H) | (have H2_ := (Option.bind_some _ _).symm.trans H; rw [hy336]; with_reducible exact H2_) | (have H2_ := (Option.bind_some _ _).symm.trans H; with_reducible exact H2_) | with_reducible exact H | (rw [hy336]; exact H) | exact H
                  have Ny336 := Aside0.mk hy336
                  clear hy336
                  replace H := Option.bind_eq_some_iff.mp H
                  obtain ⟨t339, A130, H⟩ := H
                  replace H : (if t339 = true then (impl_QueryChance.l1 k2 a0 l1 (wrap64 (x5_2 + 1)) x6_1 (wrap64 (x21_2 + 1))) else (impl_QueryChance.l1 k2 a0 l1 x5_2 x6_1 (wrap64 (x21_2 + 1)))) = some r := H
                  have A13 := Aside0.mk A130
                  clear A130
                  by_cases c14 : t339 = true
                  · subst c14
                    have H1 : (impl_QueryChance.l1 k2 a0 l1 (wrap64 (x5_2 + 1)) x6_1 (wrap64 (x21_2 + 1))) = some r := by rw [if_pos rfl] at H; exact H
                    clear H
                    have H := H1
                    clear H1
                    have H' := Aside0.mk H
                    clear H
                    try go_wp2
                    have n0_ := Aside0.mk (below_drew1 HB.out)
                    clear HB
                    have HB := n0_
                    clear n0_
                    refine start_ (n := 7) (S := fun w' => True) (ds := []) #[false, false, false, false, false, false, false] (by kernel_rfl) rfl rfl trivial (fun hHeld => ?_)
                    generalize wr.drew = w15 at HB hHeld ⊢
                    refine pure_ (i := 0) (N := some 24) (v := ?_) (a' := ?_) #[true, false, false, false, false, false, false] rfl rfl (by kernel_rfl) (fun _ _ _ h => h) (Or.inl ⟨by rfl, ?_⟩) ?_ ?_
                    rotate_left
                    · intro w'
                      go_simp
                      with_reducible rfl
                    rotate_left
                    · simp only [Act.put, List.setIfInBounds_toArray, List.set_cons_zero, List.set_cons_succ, i64_w, i32_w]
                      rfl
                    refine pure_ (i := 1) (N := some 25) (v := ?_) (a' := ?_) #[true, true, false, false, false, false, false] rfl rfl (by kernel_rfl) (fun _ _ _ h => h) (Or.inl ⟨by rfl, ?_⟩) ?_ ?_
                    rotate_left
                    · intro w'
                      go_simp
                      with_reducible rfl
                    rotate_left
                    · simp only [Act.put, List.setIfInBounds_toArray, List.set_cons_zero, List.set_cons_succ, i64_w, i32_w]
                      rfl
                    refine pure_ (i := 2) (N := some 26) (v := ?_) (a' := ?_) #[true, true, true, false, false, false, false] rfl rfl (by kernel_rfl) (fun _ _ _ h => h) (Or.inl ⟨by rfl, ?_⟩) ?_ ?_
                    rotate_left
                    · intro w'
                      go_simp
                      with_reducible rfl
                    rotate_left
                    · simp only [Act.put, List.setIfInBounds_toArray, List.set_cons_zero, List.set_cons_succ, i64_w, i32_w]
                      rfl
                    refine pure_ (i := 3) (N := some 27) (v := ?_) (a' := ?_) #[true, true, true, true, false, false, false] rfl rfl (by kernel_rfl) (fun _ _ _ h => h) (Or.inl ⟨by rfl, ?_⟩) ?_ ?_
                    rotate_left
                    · intro w'
                      go_simp
                      with_reducible rfl
                    rotate_left
                    · simp only [Act.put, List.setIfInBounds_toArray, List.set_cons_zero, List.set_cons_succ, i64_w, i32_w]
                      rfl
                    refine join_ (σ := Value × Value) 1 #[true, true, true, true, true, true, false] (fun s_ => [(28, s_.1), (29, s_.2)]) (fun s_ w' => (Kd.R (Kd.int .i64) 3 w' w.heap.size (fun k_ => some k_ ≠ (s_.2 : Value).ownBlock) s_.1 t333) ∧ (Kd.R (Kd.int .i64) 3 w' w.heap.size (fun k_ => some k_ ≠ (s_.1 : Value).ownBlock) s_.2 y336) ∧ (Below w.heap.size w w')) ?_ ?_
                    rotate_left
                    · intro hCont
                      refine two_ (i := 4) (j := 5) (Ni := some 28) (Nj := some 29) #[true, true, true, true, true, false, false] #[true, true, true, true, false, true, false] rfl rfl rfl rfl (by kernel_rfl) (by decide) (by decide) (fun K hK => ?_) (fun K hK => ?_)
                      · skip
                        refine goes_ Try.func122 (by kernel_rfl) rfl #[.int .i64 a0, .slice A1 l1.length c1, .bool true, .int .i64 x6_1, .int .i64 x21_2] (by rfl) rfl rfl (by (try simp only [List.map_toArray, List.map_cons, List.map_nil]); first | done | rfl | (simp only [List.length_drop, List.length_take]; rfl)) ?_
                        with_reducible refine (impl_ask.calls k2 a0 _ _ l1 true x6_1 x21_2 t333 _ ?side1 ?side2 A11.out).mono ?_
                        (case side1 => repeat (first | exact (Kd.C_below HR1.out HB.out) | (with_reducible refine Kd.C_alloc ?_ _) | (with_reducible refine Kd.C_drewN ?_ _) | (with_reducible refine Kd.C_drew ?_)))
                        (case side2 => exact HC1.out)
                        rintro e w16 ⟨v334, rfl, ho0, hb⟩
                        refine ⟨_, rfl, ?_⟩
                        have n0_ := Aside0.mk (Kd.R_lower ho0 (below_size (by repeat (first | (with_reducible first | exact HB.out | apply below_alloc | apply pw_below_drewN | apply below_drew1) | exact HB.out))))
                        have n1_ := Aside0.mk (below_step (by repeat (first | (with_reducible first | exact HB.out | apply below_alloc | apply pw_below_drewN | apply below_drew1) | exact HB.out)) hb)
                        clear HB
                        have HO335 := n0_
                        have HB := n1_
                        clear n0_ n1_
                        (try clear hb)
                        (try clear hb2)
                        (try clear hk)
                        (try clear hi)
                        (try clear ho0)
                        refine hK.out _ _ trivial (fun hHeld => ?_)
                        clear hK K
                        refine norm_ (a' := ?_) ?_ ?_
                        rotate_left
                        · show Act.put _ (some 28) _ = _
                          simp only [Act.put, List.setIfInBounds_toArray, List.set_cons_zero, List.set_cons_succ, i64_w, i32_w]
                          rfl
                        refine one_ (i := 5) (N := some 29) #[true, true, true, true, true, true, false] rfl rfl (by kernel_rfl) (by decide) (fun K hK => ?_)
                        refine Kd.R_make_step (Kd.int .i64) _ 3 (by rfl) (N := 29) rfl 30 _ _ rfl 4 rfl rfl Try.underlying30 (.int .i64 0) 8 info3 rfl (by decide) (by omega) 0 (ok := fun _ => True) (okp := fun _ => True) rfl (fun _ hk => hk) trivial (by omega) (by omega) (Below.refl _ _) (Nat.le_refl _) ?_
                        intro v337 w17 ho18 hb hg_ hnew_
                        clear hg_ hnew_
                        (first | rw [← Ny336.out] at ho18 | (simp only [Int.reduceToNat] at ho18; rw [← Ny336.out] at ho18))
                        have n0_ := Aside0.mk (Kd.R_elder' (by (with_reducible repeat (first | apply Kd.R_alloc | apply Kd.R_drewN | apply Kd.R_drew)); exact HO335.out) (Kd.R_base ho18) hb)
                        have n1_ := Aside0.mk (Kd.R_lower (Kd.R_new' ho18 (Kd.R_lt (by (with_reducible repeat (first | apply Kd.R_alloc | apply Kd.R_drewN | apply Kd.R_drew)); exact HO335.out))) (below_size (by repeat (first | (with_reducible first | exact HB.out | apply below_alloc | apply pw_below_drewN | apply below_drew1) | exact HB.out))))
                        have n2_ := Aside0.mk (below_step (by repeat (first | (with_reducible first | exact HB.out | apply below_alloc | apply pw_below_drewN | apply below_drew1) | exact HB.out)) hb)
                        clear HO335
                        clear HB
                        have HO335 := n0_
                        have HO338 := n1_
                        have HB := n2_
                        clear n0_ n1_ n2_
                        clear hb ho18
                        refine hK.out _ _ trivial (fun hHeld => ?_)
                        clear hK K
                        refine norm_ (a' := ?_) ?_ ?_
                        rotate_left
                        · show Act.put _ (some 29) _ = _
                          simp only [Act.put, List.setIfInBounds_toArray, List.set_cons_zero, List.set_cons_succ, i64_w, i32_w]
                          rfl
                        exact norm_ (by simp only [putAll, Act.put, List.setIfInBounds_toArray, List.set_cons_zero, List.set_cons_succ]) (hCont (v334, v337) _ ⟨(by (with_reducible repeat (first | apply Kd.R_alloc | apply Kd.R_drewN | apply Kd.R_drew)); exact Kd.R_mono HO335.out (fun _ hk => hk.2)), (by (with_reducible repeat (first | apply Kd.R_alloc | apply Kd.R_drewN | apply Kd.R_drew)); exact Kd.R_mono HO338.out (fun _ hk => hk.2)), (by repeat (first | (with_reducible first | exact HB.out | apply below_alloc | apply pw_below_drewN | apply below_drew1) | exact HB.out))⟩)
                      · skip
                        refine Kd.R_make_step (Kd.int .i64) _ 3 (by rfl) (N := 29) rfl 30 _ _ rfl 4 rfl rfl Try.underlying30 (.int .i64 0) 8 info3 rfl (by decide) (by omega) 0 (ok := fun _ => True) (okp := fun _ => True) rfl (fun _ hk => hk) trivial (by omega) (by omega) (Below.refl _ _) (Nat.le_refl _) ?_
                        intro v337 w16 ho17 hb hg_ hnew_
                        clear hg_ hnew_
                        (first | rw [← Ny336.out] at ho17 | (simp only [Int.reduceToNat] at ho17; rw [← Ny336.out] at ho17))
                        have n0_ := Aside0.mk (Kd.R_lower ho17 (below_size (by repeat (first | (with_reducible first | exact HB.out | apply below_alloc | apply pw_below_drewN | apply below_drew1) | exact HB.out))))
                        have n1_ := Aside0.mk (below_step (by repeat (first | (with_reducible first | exact HB.out | apply below_alloc | apply pw_below_drewN | apply below_drew1) | exact HB.out)) hb)
                        clear HB
                        have HO338 := n0_
                        have HB := n1_
                        clear n0_ n1_
                        clear hb ho17
                        refine hK.out _ _ trivial (fun hHeld => ?_)
                        clear hK K
                        refine norm_ (a' := ?_) ?_ ?_
                        rotate_left
                        · show Act.put _ (some 29) _ = _
                          simp only [Act.put, List.setIfInBounds_toArray, List.set_cons_zero, List.set_cons_succ, i64_w, i32_w]
                          rfl
                        refine one_ (i := 4) (N := some 28) #[true, true, true, true, true, true, false] rfl rfl (by kernel_rfl) (by decide) (fun K hK => ?_)
                        refine goes_ Try.func122 (by kernel_rfl) rfl #[.int .i64 a0, .slice A1 l1.length c1, .bool true, .int .i64 x6_1, .int .i64 x21_2] (by rfl) rfl rfl (by (try simp only [List.map_toArray, List.map_cons, List.map_nil]); first | done | rfl | (simp only [List.length_drop, List.length_take]; rfl)) ?_
                        with_reducible refine (impl_ask.calls k2 a0 _ _ l1 true x6_1 x21_2 t333 _ ?side1 ?side2 A11.out).mono ?_
                        (case side1 => repeat (first | exact (Kd.C_below HR1.out HB.out) | (with_reducible refine Kd.C_alloc ?_ _) | (with_reducible refine Kd.C_drewN ?_ _) | (with_reducible refine Kd.C_drew ?_)))
                        (case side2 => exact HC1.out)
                        rintro e w18 ⟨v334, rfl, ho0, hb⟩
                        refine ⟨_, rfl, ?_⟩
                        have n0_ := Aside0.mk (Kd.R_elder' (by (with_reducible repeat (first | apply Kd.R_alloc | apply Kd.R_drewN | apply Kd.R_drew)); exact HO338.out) (Kd.R_base ho0) hb)
                        have n1_ := Aside0.mk (Kd.R_lower (Kd.R_new' ho0 (Kd.R_lt (by (with_reducible repeat (first | apply Kd.R_alloc | apply Kd.R_drewN | apply Kd.R_drew)); exact HO338.out))) (below_size (by repeat (first | (with_reducible first | exact HB.out | apply below_alloc | apply pw_below_drewN | apply below_drew1) | exact HB.out))))
                        have n2_ := Aside0.mk (below_step (by repeat (first | (with_reducible first | exact HB.out | apply below_alloc | apply pw_below_drewN | apply below_drew1) | exact HB.out)) hb)
                        clear HO338
                        clear HB
                        have HO338 := n0_
                        have HO335 := n1_
                        have HB := n2_
                        clear n0_ n1_ n2_
                        (try clear hb)
                        (try clear hb2)
                        (try clear hk)
                        (try clear hi)
                        (try clear ho0)
                        refine hK.out _ _ trivial (fun hHeld => ?_)
                        clear hK K
                        refine norm_ (a' := ?_) ?_ ?_
                        rotate_left
                        · show Act.put _ (some 28) _ = _
                          simp only [Act.put, List.setIfInBounds_toArray, List.set_cons_zero, List.set_cons_succ, i64_w, i32_w]
                          rfl
                        exact norm_ (by simp only [putAll, Act.put, List.setIfInBounds_toArray, List.set_cons_zero, List.set_cons_succ]) (hCont (v334, v337) _ ⟨(by (with_reducible repeat (first | apply Kd.R_alloc | apply Kd.R_drewN | apply Kd.R_drew)); exact Kd.R_mono HO335.out (fun _ hk => hk.2)), (by (with_reducible repeat (first | apply Kd.R_alloc | apply Kd.R_drewN | apply Kd.R_drew)); exact Kd.R_mono HO338.out (fun _ hk => hk.2)), (by repeat (first | (with_reducible first | exact HB.out | apply below_alloc | apply pw_below_drewN | apply below_drew1) | exact HB.out))⟩)
                    rintro ⟨v334, v337⟩ w19 ⟨h0_, h1_, h2_⟩
                    have n0_ : Aside0 (Kd.R (Kd.int .i64) 3 w19 w.heap.size (fun k_ => some k_ ≠ (v337 : Value).ownBlock) v334 t333) := ⟨h0_⟩
                    have n1_ : Aside0 (Kd.R (Kd.int .i64) 3 w19 w.heap.size (fun k_ => some k_ ≠ (v334 : Value).ownBlock) v337 y336) := ⟨h1_⟩
                    have n2_ : Aside0 (Below w.heap.size w w19) := ⟨h2_⟩
                    clear HB
                    clear h0_ h1_ h2_
                    have HO335 := n0_
                    have HO338 := n1_
                    have HB := n2_
                    clear n0_ n1_ n2_
                    have hHeld := trivial
                    obtain ⟨Ao20, co20, eo20⟩ := Kd.R_slice HO335.out
                    (first | subst eo20 | (injection eo20 with f1_ f2_ f3_; have f4_ := f1_.symm; have f5_ := f3_.symm; clear f1_ f2_ f3_; subst f4_; subst f5_))
                    obtain ⟨Ao21, co21, eo21⟩ := Kd.R_slice HO338.out
                    (first | subst eo21 | (injection eo21 with f1_ f2_ f3_; have f4_ := f1_.symm; have f5_ := f3_.symm; clear f1_ f2_ f3_; subst f4_; subst f5_))
                    refine norm_ (a' := ?_) ?_ ?_
                    rotate_left
                    · simp only [putAll, Act.put, List.setIfInBounds_toArray, List.set_cons_zero, List.set_cons_succ]
                      rfl
                    refine one_ (i := 6) (N := some 30) #[true, true, true, true, true, true, true] rfl rfl (by kernel_rfl) (by decide) (fun K hK => ?_)
                    refine goes_ Try.func34 (by kernel_rfl) rfl #[.slice Ao20 t333.length co20, .slice Ao21 y336.length co21] (by rfl) rfl rfl (by (try simp only [List.map_toArray, List.map_cons, List.map_nil]); first | done | rfl | (simp only [List.length_drop, List.length_take]; rfl)) ?_
                    with_reducible refine (impl_QueryDecide.calls _ _ t333 _ _ y336 true _ ?side1 ?side2 ?side3 ?side4 A13.out).mono ?_
                    (case side1 => repeat (first | exact (Kd.R_reads' HO335.out).2.2 | (with_reducible refine Kd.C_alloc ?_ _) | (with_reducible refine Kd.C_drewN ?_ _) | (with_reducible refine Kd.C_drew ?_)))
                    (case side2 => exact (Kd.R_reads' HO335.out).2.1)
                    (case side3 => repeat (first | exact (Kd.R_reads' HO338.out).2.2 | (with_reducible refine Kd.C_alloc ?_ _) | (with_reducible refine Kd.C_drewN ?_ _) | (with_reducible refine Kd.C_drew ?_)))
                    (case side4 => exact (Kd.R_reads' HO338.out).2.1)
                    rintro e w22 ⟨rfl, hb⟩
                    refine ⟨_, rfl, ?_⟩
                    have n0_ := Aside0.mk (Kd.R_below (by (with_reducible repeat (first | apply Kd.R_alloc | apply Kd.R_drewN | apply Kd.R_drew)); exact HO335.out) hb)
                    have n1_ := Aside0.mk (Kd.R_below (by (with_reducible repeat (first | apply Kd.R_alloc | apply Kd.R_drewN | apply Kd.R_drew)); exact HO338.out) hb)
                    have n2_ := Aside0.mk (below_step (by repeat (first | (with_reducible first | exact HB.out | apply below_alloc | apply pw_below_drewN | apply below_drew1) | exact HB.out)) hb)
                    clear HO335
                    clear HO338
                    clear HB
                    have HO335 := n0_
                    have HO338 := n1_
                    have HB := n2_
                    clear n0_ n1_ n2_
                    (try clear hb)
                    (try clear hb2)
                    (try clear hk)
                    (try clear hi)
                    refine hK.out _ _ trivial (fun hHeld => ?_)
                    clear hK K
                    refine norm_ (a' := ?_) ?_ ?_
                    rotate_left
                    · show Act.put _ (some 30) _ = _
                      simp only [Act.put, List.setIfInBounds_toArray, List.set_cons_zero, List.set_cons_succ, i64_w, i32_w]
                      rfl
                    refine done_ (by kernel_rfl) ?_
                    try go_wp2
                    go_roundg k2
                    case measure => have := HK1.out; have := HK2.out; omega
                    case rel => exact ⟨(wrap64 (x5_2 + 1)), (wrap64 (x21_2 + 1)), (by first | rfl | (simp; done) | (simp [*]; done)), (by first | rfl | (simp; done) | (simp [*]; done)), H', ⟨by have := HK1.out; have := HK2.out; omega⟩, ⟨by repeat (first | (with_reducible first | exact HB.out | apply below_alloc | apply pw_below_drewN | apply below_drew1) | exact HB.out)⟩⟩
                  · replace c14 := Bool.eq_false_iff.mpr c14
                    subst c14
                    have H1 : (impl_QueryChance.l1 k2 a0 l1 x5_2 x6_1 (wrap64 (x21_2 + 1))) = some r := by rw [if_neg (show ¬ (false = true) by decide)] at H; exact H
                    clear H
                    have H := H1
                    clear H1
                    have H' := Aside0.mk H
                    clear H
                    try go_wp2
                    have n0_ := Aside0.mk (below_drew1 HB.out)
                    clear HB
                    have HB := n0_
                    clear n0_
                    refine start_ (n := 7) (S := fun w' => True) (ds := []) #[false, false, false, false, false, false, false] (by kernel_rfl) rfl rfl trivial (fun hHeld => ?_)
                    generalize wr.drew = w23 at HB hHeld ⊢
                    refine pure_ (i := 0) (N := some 24) (v := ?_) (a' := ?_) #[true, false, false, false, false, false, false] rfl rfl (by kernel_rfl) (fun _ _ _ h => h) (Or.inl ⟨by rfl, ?_⟩) ?_ ?_
                    rotate_left
                    · intro w'
                      go_simp
                      with_reducible rfl
                    rotate_left
                    · simp only [Act.put, List.setIfInBounds_toArray, List.set_cons_zero, List.set_cons_succ, i64_w, i32_w]
                      rfl
                    refine pure_ (i := 1) (N := some 25) (v := ?_) (a' := ?_) #[true, true, false, false, false, false, false] rfl rfl (by kernel_rfl) (fun _ _ _ h => h) (Or.inl ⟨by rfl, ?_⟩) ?_ ?_
                    rotate_left
                    · intro w'
                      go_simp
                      with_reducible rfl
                    rotate_left
                    · simp only [Act.put, List.setIfInBounds_toArray, List.set_cons_zero, List.set_cons_succ, i64_w, i32_w]
                      rfl
                    refine pure_ (i := 2) (N := some 26) (v := ?_) (a' := ?_) #[true, true, true, false, false, false, false] rfl rfl (by kernel_rfl) (fun _ _ _ h => h) (Or.inl ⟨by rfl, ?_⟩) ?_ ?_
                    rotate_left
                    · intro w'
                      go_simp
                      with_reducible rfl
                    rotate_left
                    · simp only [Act.put, List.setIfInBounds_toArray, List.set_cons_zero, List.set_cons_succ, i64_w, i32_w]
                      rfl
                    refine pure_ (i := 3) (N := some 27) (v := ?_) (a' := ?_) #[true, true, true, true, false, false, false] rfl rfl (by kernel_rfl) (fun _ _ _ h => h) (Or.inl ⟨by rfl, ?_⟩) ?_ ?_
                    rotate_left
                    · intro w'
                      go_simp
                      with_reducible rfl
                    rotate_left
                    · simp only [Act.put, List.setIfInBounds_toArray, List.set_cons_zero, List.set_cons_succ, i64_w, i32_w]
                      rfl
                    refine join_ (σ := Value × Value) 1 #[true, true, true, true, true, true, false] (fun s_ => [(28, s_.1), (29, s_.2)]) (fun s_ w' => (Kd.R (Kd.int .i64) 3 w' w.heap.size (fun k_ => some k_ ≠ (s_.2 : Value).ownBlock) s_.1 t333) ∧ (Kd.R (Kd.int .i64) 3 w' w.heap.size (fun k_ => some k_ ≠ (s_.1 : Value).ownBlock) s_.2 y336) ∧ (Below w.heap.size w w')) ?_ ?_
                    rotate_left
                    · intro hCont
                      refine two_ (i := 4) (j := 5) (Ni := some 28) (Nj := some 29) #[true, true, true, true, true, false, false] #[true, true, true, true, false, true, false] rfl rfl rfl rfl (by kernel_rfl) (by decide) (by decide) (fun K hK => ?_) (fun K hK => ?_)
                      · skip
                        refine goes_ Try.func122 (by kernel_rfl) rfl #[.int .i64 a0, .slice A1 l1.length c1, .bool true, .int .i64 x6_1, .int .i64 x21_2] (by rfl) rfl rfl (by (try simp only [List.map_toArray, List.map_cons, List.map_nil]); first | done | rfl | (simp only [List.length_drop, List.length_take]; rfl)) ?_
                        with_reducible refine (impl_ask.calls k2 a0 _ _ l1 true x6_1 x21_2 t333 _ ?side1 ?side2 A11.out).mono ?_
                        (case side1 => repeat (first | exact (Kd.C_below HR1.out HB.out) | (with_reducible refine Kd.C_alloc ?_ _) | (with_reducible refine Kd.C_drewN ?_ _) | (with_reducible refine Kd.C_drew ?_)))
                        (case side2 => exact HC1.out)
                        rintro e w24 ⟨v334, rfl, ho0, hb⟩
                        refine ⟨_, rfl, ?_⟩
                        have n0_ := Aside0.mk (Kd.R_lower ho0 (below_size (by repeat (first | (with_reducible first | exact HB.out | apply below_alloc | apply pw_below_drewN | apply below_drew1) | exact HB.out))))
                        have n1_ := Aside0.mk (below_step (by repeat (first | (with_reducible first | exact HB.out | apply below_alloc | apply pw_below_drewN | apply below_drew1) | exact HB.out)) hb)
                        clear HB
                        have HO335 := n0_
                        have HB := n1_
                        clear n0_ n1_
                        (try clear hb)
                        (try clear hb2)
                        (try clear hk)
                        (try clear hi)
                        (try clear ho0)
                        refine hK.out _ _ trivial (fun hHeld => ?_)
                        clear hK K
                        refine norm_ (a' := ?_) ?_ ?_
                        rotate_left
                        · show Act.put _ (some 28) _ = _
                          simp only [Act.put, List.setIfInBounds_toArray, List.set_cons_zero, List.set_cons_succ, i64_w, i32_w]
                          rfl
                        refine one_ (i := 5) (N := some 29) #[true, true, true, true, true, true, false] rfl rfl (by kernel_rfl) (by decide) (fun K hK => ?_)
                        refine Kd.R_make_step (Kd.int .i64) _ 3 (by rfl) (N := 29) rfl 30 _ _ rfl 4 rfl rfl Try.underlying30 (.int .i64 0) 8 info3 rfl (by decide) (by omega) 0 (ok := fun _ => True) (okp := fun _ => True) rfl (fun _ hk => hk) trivial (by omega) (by omega) (Below.refl _ _) (Nat.le_refl _) ?_
                        intro v337 w25 ho26 hb hg_ hnew_
                        clear hg_ hnew_
                        (first | rw [← Ny336.out] at ho26 | (simp only [Int.reduceToNat] at ho26; rw [← Ny336.out] at ho26))
                        have n0_ := Aside0.mk (Kd.R_elder' (by (with_reducible repeat (first | apply Kd.R_alloc | apply Kd.R_drewN | apply Kd.R_drew)); exact HO335.out) (Kd.R_base ho26) hb)
                        have n1_ := Aside0.mk (Kd.R_lower (Kd.R_new' ho26 (Kd.R_lt (by (with_reducible repeat (first | apply Kd.R_alloc | apply Kd.R_drewN | apply Kd.R_drew)); exact HO335.out))) (below_size (by repeat (first | (with_reducible first | exact HB.out | apply below_alloc | apply pw_below_drewN | apply below_drew1) | exact HB.out))))
                        have n2_ := Aside0.mk (below_step (by repeat (first | (with_reducible first | exact HB.out | apply below_alloc | apply pw_below_drewN | apply below_drew1) | exact HB.out)) hb)
                        clear HO335
                        clear HB
                        have HO335 := n0_
                        have HO338 := n1_
                        have HB := n2_
                        clear n0_ n1_ n2_
                        clear hb ho26
                        refine hK.out _ _ trivial (fun hHeld => ?_)
                        clear hK K
                        refine norm_ (a' := ?_) ?_ ?_
                        rotate_left
                        · show Act.put _ (some 29) _ = _
                          simp only [Act.put, List.setIfInBounds_toArray, List.set_cons_zero, List.set_cons_succ, i64_w, i32_w]
                          rfl
                        exact norm_ (by simp only [putAll, Act.put, List.setIfInBounds_toArray, List.set_cons_zero, List.set_cons_succ]) (hCont (v334, v337) _ ⟨(by (with_reducible repeat (first | apply Kd.R_alloc | apply Kd.R_drewN | apply Kd.R_drew)); exact Kd.R_mono HO335.out (fun _ hk => hk.2)), (by (with_reducible repeat (first | apply Kd.R_alloc | apply Kd.R_drewN | apply Kd.R_drew)); exact Kd.R_mono HO338.out (fun _ hk => hk.2)), (by repeat (first | (with_reducible first | exact HB.out | apply below_alloc | apply pw_below_drewN | apply below_drew1) | exact HB.out))⟩)
                      · skip
                        refine Kd.R_make_step (Kd.int .i64) _ 3 (by rfl) (N := 29) rfl 30 _ _ rfl 4 rfl rfl Try.underlying30 (.int .i64 0) 8 info3 rfl (by decide) (by omega) 0 (ok := fun _ => True) (okp := fun _ => True) rfl (fun _ hk => hk) trivial (by omega) (by omega) (Below.refl _ _) (Nat.le_refl _) ?_
                        intro v337 w24 ho25 hb hg_ hnew_
                        clear hg_ hnew_
                        (first | rw [← Ny336.out] at ho25 | (simp only [Int.reduceToNat] at ho25; rw [← Ny336.out] at ho25))
                        have n0_ := Aside0.mk (Kd.R_lower ho25 (below_size (by repeat (first | (with_reducible first | exact HB.out | apply below_alloc | apply pw_below_drewN | apply below_drew1) | exact HB.out))))
                        have n1_ := Aside0.mk (below_step (by repeat (first | (with_reducible first | exact HB.out | apply below_alloc | apply pw_below_drewN | apply below_drew1) | exact HB.out)) hb)
                        clear HB
                        have HO338 := n0_
                        have HB := n1_
                        clear n0_ n1_
                        clear hb ho25
                        refine hK.out _ _ trivial (fun hHeld => ?_)
                        clear hK K
                        refine norm_ (a' := ?_) ?_ ?_
                        rotate_left
                        · show Act.put _ (some 29) _ = _
                          simp only [Act.put, List.setIfInBounds_toArray, List.set_cons_zero, List.set_cons_succ, i64_w, i32_w]
                          rfl
                        refine one_ (i := 4) (N := some 28) #[true, true, true, true, true, true, false] rfl rfl (by kernel_rfl) (by decide) (fun K hK => ?_)
                        refine goes_ Try.func122 (by kernel_rfl) rfl #[.int .i64 a0, .slice A1 l1.length c1, .bool true, .int .i64 x6_1, .int .i64 x21_2] (by rfl) rfl rfl (by (try simp only [List.map_toArray, List.map_cons, List.map_nil]); first | done | rfl | (simp only [List.length_drop, List.length_take]; rfl)) ?_
                        with_reducible refine (impl_ask.calls k2 a0 _ _ l1 true x6_1 x21_2 t333 _ ?side1 ?side2 A11.out).mono ?_
                        (case side1 => repeat (first | exact (Kd.C_below HR1.out HB.out) | (with_reducible refine Kd.C_alloc ?_ _) | (with_reducible refine Kd.C_drewN ?_ _) | (with_reducible refine Kd.C_drew ?_)))
                        (case side2 => exact HC1.out)
                        rintro e w26 ⟨v334, rfl, ho0, hb⟩
                        refine ⟨_, rfl, ?_⟩
                        have n0_ := Aside0.mk (Kd.R_elder' (by (with_reducible repeat (first | apply Kd.R_alloc | apply Kd.R_drewN | apply Kd.R_drew)); exact HO338.out) (Kd.R_base ho0) hb)
                        have n1_ := Aside0.mk (Kd.R_lower (Kd.R_new' ho0 (Kd.R_lt (by (with_reducible repeat (first | apply Kd.R_alloc | apply Kd.R_drewN | apply Kd.R_drew)); exact HO338.out))) (below_size (by repeat (first | (with_reducible first | exact HB.out | apply below_alloc | apply pw_below_drewN | apply below_drew1) | exact HB.out))))
                        have n2_ := Aside0.mk (below_step (by repeat (first | (with_reducible first | exact HB.out | apply below_alloc | apply pw_below_drewN | apply below_drew1) | exact HB.out)) hb)
                        clear HO338
                        clear HB
                        have HO338 := n0_
                        have HO335 := n1_
                        have HB := n2_
                        clear n0_ n1_ n2_
                        (try clear hb)
                        (try clear hb2)
                        (try clear hk)
                        (try clear hi)
                        (try clear ho0)
                        refine hK.out _ _ trivial (fun hHeld => ?_)
                        clear hK K
                        refine norm_ (a' := ?_) ?_ ?_
                        rotate_left
                        · show Act.put _ (some 28) _ = _
                          simp only [Act.put, List.setIfInBounds_toArray, List.set_cons_zero, List.set_cons_succ, i64_w, i32_w]
                          rfl
                        exact norm_ (by simp only [putAll, Act.put, List.setIfInBounds_toArray, List.set_cons_zero, List.set_cons_succ]) (hCont (v334, v337) _ ⟨(by (with_reducible repeat (first | apply Kd.R_alloc | apply Kd.R_drewN | apply Kd.R_drew)); exact Kd.R_mono HO335.out (fun _ hk => hk.2)), (by (with_reducible repeat (first | apply Kd.R_alloc | apply Kd.R_drewN | apply Kd.R_drew)); exact Kd.R_mono HO338.out (fun _ hk => hk.2)), (by repeat (first | (with_reducible first | exact HB.out | apply below_alloc | apply pw_below_drewN | apply below_drew1) | exact HB.out))⟩)
                    rintro ⟨v334, v337⟩ w27 ⟨h0_, h1_, h2_⟩
                    have n0_ : Aside0 (Kd.R (Kd.int .i64) 3 w27 w.heap.size (fun k_ => some k_ ≠ (v337 : Value).ownBlock) v334 t333) := ⟨h0_⟩
                    have n1_ : Aside0 (Kd.R (Kd.int .i64) 3 w27 w.heap.size (fun k_ => some k_ ≠ (v334 : Value).ownBlock) v337 y336) := ⟨h1_⟩
                    have n2_ : Aside0 (Below w.heap.size w w27) := ⟨h2_⟩
                    clear HB
                    clear h0_ h1_ h2_
                    have HO335 := n0_
                    have HO338 := n1_
                    have HB := n2_
                    clear n0_ n1_ n2_
                    have hHeld := trivial
                    obtain ⟨Ao28, co28, eo28⟩ := Kd.R_slice HO335.out
                    (first | subst eo28 | (injection eo28 with f1_ f2_ f3_; have f4_ := f1_.symm; have f5_ := f3_.symm; clear f1_ f2_ f3_; subst f4_; subst f5_))
                    obtain ⟨Ao29, co29, eo29⟩ := Kd.R_slice HO338.out
                    (first | subst eo29 | (injection eo29 with f1_ f2_ f3_; have f4_ := f1_.symm; have f5_ := f3_.symm; clear f1_ f2_ f3_; subst f4_; subst f5_))
                    refine norm_ (a' := ?_) ?_ ?_
                    rotate_left
                    · simp only [putAll, Act.put, List.setIfInBounds_toArray, List.set_cons_zero, List.set_cons_succ]
                      rfl
                    refine one_ (i := 6) (N := some 30) #[true, true, true, true, true, true, true] rfl rfl (by kernel_rfl) (by decide) (fun K hK => ?_)
                    refine goes_ Try.func34 (by kernel_rfl) rfl #[.slice Ao28 t333.length co28, .slice Ao29 y336.length co29] (by rfl) rfl rfl (by (try simp only [List.map_toArray, List.map_cons, List.map_nil]); first | done | rfl | (simp only [List.length_drop, List.length_take]; rfl)) ?_
                    with_reducible refine (impl_QueryDecide.calls _ _ t333 _ _ y336 false _ ?side1 ?side2 ?side3 ?side4 A13.out).mono ?_
                    (case side1 => repeat (first | exact (Kd.R_reads' HO335.out).2.2 | (with_reducible refine Kd.C_alloc ?_ _) | (with_reducible refine Kd.C_drewN ?_ _) | (with_reducible refine Kd.C_drew ?_)))
                    (case side2 => exact (Kd.R_reads' HO335.out).2.1)
                    (case side3 => repeat (first | exact (Kd.R_reads' HO338.out).2.2 | (with_reducible refine Kd.C_alloc ?_ _) | (with_reducible refine Kd.C_drewN ?_ _) | (with_reducible refine Kd.C_drew ?_)))
                    (case side4 => exact (Kd.R_reads' HO338.out).2.1)
                    rintro e w30 ⟨rfl, hb⟩
                    refine ⟨_, rfl, ?_⟩
                    have n0_ := Aside0.mk (Kd.R_below (by (with_reducible repeat (first | apply Kd.R_alloc | apply Kd.R_drewN | apply Kd.R_drew)); exact HO335.out) hb)
                    have n1_ := Aside0.mk (Kd.R_below (by (with_reducible repeat (first | apply Kd.R_alloc | apply Kd.R_drewN | apply Kd.R_drew)); exact HO338.out) hb)
                    have n2_ := Aside0.mk (below_step (by repeat (first | (with_reducible first | exact HB.out | apply below_alloc | apply pw_below_drewN | apply below_drew1) | exact HB.out)) hb)
                    clear HO335
                    clear HO338
                    clear HB
                    have HO335 := n0_
                    have HO338 := n1_
                    have HB := n2_
                    clear n0_ n1_ n2_
                    (try clear hb)
                    (try clear hb2)
                    (try clear hk)
                    (try clear hi)
                    refine hK.out _ _ trivial (fun hHeld => ?_)
                    clear hK K
                    refine norm_ (a' := ?_) ?_ ?_
                    rotate_left
                    · show Act.put _ (some 30) _ = _
                      simp only [Act.put, List.setIfInBounds_toArray, List.set_cons_zero, List.set_cons_succ, i64_w, i32_w]
                      rfl
                    refine done_ (by kernel_rfl) ?_
                    try go_wp2
                    go_roundg k2
                    case measure => have := HK1.out; have := HK2.out; omega
                    case rel => exact ⟨(x5_2), (wrap64 (x21_2 + 1)), (by first | rfl | (simp; done) | (simp [*]; done)), (by first | rfl | (simp; done) | (simp [*]; done)), H', ⟨by have := HK1.out; have := HK2.out; omega⟩, ⟨by repeat (first | (with_reducible first | exact HB.out | apply below_alloc | apply pw_below_drewN | apply below_drew1) | exact HB.out)⟩⟩
                · rw [if_neg c12] at H
                  exact absurd H (by simp)
              · rw [if_neg c10] at H
                have c10b0 : decide (x21_2 < 31) = false := decide_eq_false c10
                clear c10
                have H' := Aside0.mk H
                clear H
                go_wp2
                go_roundg k2
                case measure => have := HK1.out; have := HK2.out; omega
                case rel => exact ⟨(x5_2), (wrap64 (x6_1 + 1)), (by first | rfl | (simp; done) | (simp [*]; done)), (by first | rfl | (simp; done) | (simp [*]; done)), H', ⟨by have := HK1.out; have := HK2.out; omega⟩, ⟨by repeat (first | (with_reducible first | exact HB.out | apply below_alloc | apply pw_below_drewN | apply below_drew1) | exact HB.out)⟩⟩
        · rw [if_neg c9] at H
          have c9b0 : decide (x6_1 < 31) = false := decide_eq_false c9
          clear c9
          obtain rfl := Option.some.inj H
          go_wp2
          go_ret
          exact ⟨by first | rfl | (simp [errW_none, errW_some] <;> rfl) | (simp [*, errW_none, errW_some] <;> rfl), by repeat (first | (with_reducible first | exact HB.out | apply below_alloc | apply pw_below_drewN | apply below_drew1) | exact HB.out)⟩
  · replace c5 := Bool.eq_false_iff.mpr c5
    subst c5
    have H1 : (some (-1)) = some r := by rw [if_neg (show ¬ (false = true) by decide)] at H; exact H
    clear H
    have H := H1
    clear H1
    obtain rfl := Option.some.inj H
    go_enter Try.func73, Try.ntmps73
    go_wp2_with (first | ((with_reducible refine gate_callee (f := 121) rfl ?_); refine goesL_ (some 11) rfl rfl Try.func121 (by kernel_rfl) rfl #[.int .i64 a0] rfl (by (try simp only [List.map_toArray, List.map_cons, List.map_nil]); first | done | rfl | (simp only [List.length_drop, List.length_take]; rfl)) ?_; (with_reducible refine (impl_ProofLen.calls a0 t330 _ A3.out).mono ?_); rintro e w31 ⟨rfl, hb⟩; refine ⟨_, rfl, ?_⟩; have n0_ := Aside0.mk (below_step (by repeat (first | (with_reducible first | exact HB.out | apply below_alloc | apply pw_below_drewN | apply below_drew1) | exact HB.out)) hb); clear HB; have HB := n0_; clear n0_; (try clear hb); (try clear hb2); (try clear hk); (try clear hi)) | ((with_reducible refine gate_callee (f := 99) rfl ?_); refine goesL_ (some 12) rfl rfl Try.func99 (by kernel_rfl) rfl #[.int .i64 a0, .slice A1 l1.length c1, .int .i64 t330] rfl (by (try simp only [List.map_toArray, List.map_cons, List.map_nil]); first | done | rfl | (simp only [List.length_drop, List.length_take]; rfl)) ?_; (with_reducible refine (impl_sized.calls a0 _ _ l1 t330 false _ ?side1 ?side2 A4.out).mono ?_); (case side1 => repeat (first | exact (Kd.C_below HR1.out HB.out) | (with_reducible refine Kd.C_alloc ?_ _) | (with_reducible refine Kd.C_drewN ?_ _) | (with_reducible refine Kd.C_drew ?_))); (case side2 => exact HC1.out); rintro e w' ⟨rfl, ⟨nd, rfl⟩⟩; refine ⟨_, rfl, ?_⟩))
    go_ret
    exact ⟨by first | rfl | (simp [errW_none, errW_some] <;> rfl) | (simp [*, errW_none, errW_some] <;> rfl), by repeat (first | (with_reducible first | exact HB.out | apply below_alloc | apply pw_below_drewN | apply below_drew1) | exact HB.out)⟩

end Go.Proofs.Ytplbobmllflniaa.Eh
