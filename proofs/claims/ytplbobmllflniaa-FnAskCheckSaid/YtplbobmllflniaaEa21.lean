import Derived.Test.YtplbobmllflniaaZ
import Derived.Test.YtplbobmllflniaaEa0
import Derived.Test.YtplbobmllflniaaEa1
import Derived.Test.YtplbobmllflniaaEa3
namespace Go.Proofs.Ytplbobmllflniaa.Ea
open Go.RowKit Go.Proofs.YtplbobmllflniaaW.PrintWords Go.Proofs.YtplbobmllflniaaW.PrintLast Go.Proofs.YtplbobmllflniaaW.PrintMore Go.Proofs.Ytplbobmllflniaa.Z
attribute [local go_sem] max2_int min2_int max_two min_two max_three min_three max_four min_four
set_option linter.unusedVariables false
set_option linter.unusedSimpArgs false
theorem c30x21 : Ent Try.prog 30 := ent Try.func30 (by kernel_rfl) rfl
theorem c97x21 : Ent Try.prog 97 := ent Try.func97 (by kernel_rfl) rfl
theorem c98x21 : Ent Try.prog 98 := ent Try.func98 (by kernel_rfl) rfl
theorem c126x21 : Ent Try.prog 126 := ent Try.func126 (by kernel_rfl) rfl
theorem c127x21 : Ent Try.prog 127 := ent Try.func127 (by kernel_rfl) rfl
theorem c128x21 : Ent Try.prog 128 := ent Try.func128 (by kernel_rfl) rfl
mutual
def impl_TypeCheck.j0 : Nat → Int → List Int → Int → Bool → Option (Int)
 | 0, _, _, _, _ => none
 | k + 1, x0, x1, x2, x21 => if x21 = true then (some 1) else (impl_TypeCheck.l0 k x0 x1 x2 0 x1 (x1.length : Int) 0)
def impl_TypeCheck.l0 : Nat → Int → List Int → Int → Int → List Int → Int → Int → Option (Int)
 | 0, _, _, _, _, _, _, _ => none
 | k + 1, x0, x1, x7, x8, x23, x24, x25 => if x25 < x24 then (if 0 ≤ x25 then (if x25 < (x23.length : Int) then ((impl_element_power.f k x7 x25).bind fun t746 => ((impl_element_times.f t746 (rd x23 x25)).bind fun t747 => ((impl_element_minus.f (rd x23 x25) 1).bind fun t748 => ((impl_element_times.f t747 t748).bind fun t749 => ((impl_element_plus.f x8 t749).bind fun t750 => (impl_TypeCheck.l0 k x0 x1 x7 t750 x23 x24 (wrap64 (x25 + 1)))))))) else (none)) else (none)) else ((impl_oneHot.f x0).bind fun t751 => (if t751 = true then ((impl_element_power.f k x7 (x1.length : Int)).bind fun t752 => ((impl_total.f k x1).bind fun t753 => ((impl_element_minus.f t753 1).bind fun t754 => ((impl_element_times.f t752 t754).bind fun t755 => ((impl_element_plus.f x8 t755).bind fun t756 => (some t756)))))) else (some x8)))
end
def impl_TypeCheck.f (k : Nat) (a0 : Int) (l1 : List Int) (a2 : Int) : Option (Int) := (impl_TypeLen.f a0).bind fun t742 => ((impl_sized.f a0 l1 t742).bind fun t743 => (if t743 = true then ((impl_FieldOk.f a2).bind fun t744 => (impl_TypeCheck.j0 k a0 l1 a2 (!t744))) else (impl_TypeCheck.j0 k a0 l1 a2 true)))
set_option maxHeartbeats 8000000 in
set_option maxRecDepth 100000 in
theorem impl_TypeCheck.calls (k : Nat) (a0 : Int) (A1 : Option Addr) (c1 : Nat) (l1 : List Int) (a2 : Int) (r : Int) (w : World) (hr1 : Kd.C (Kd.int .i64) w A1 l1.length l1) (hc1 : l1.length ≤ c1) (h : impl_TypeCheck.f k a0 l1 a2 = some r) :
  Calls Try.prog 84 #[.int .i64 a0, .slice A1 l1.length c1, .int .i64 a2] w fun e w' => e = .returned (.int .i64 r) ∧ Below w.heap.size w w' := by
 have HR1 := Aside0.mk hr1
 have HC1 := Aside0.mk hc1
 clear hr1 hc1
 have HB := Aside0.mk (Below.refl w.heap.size w)
 have H := h
 unfold impl_TypeCheck.f at H
 clear h
 have HC4 := Aside0.mk H
 clear H
 go_enter Try.func84, Try.ntmps84
 go_upto_region 1 with (fail)
 go_cut [21] (fun v21 wc => ∃ (kq : Nat) (x21_3 : Bool), v21 = .bool x21_3 ∧ Aside0 (impl_TypeCheck.j0 kq a0 l1 a2 x21_3 = some r) ∧ Aside0 (kq ≤ k) ∧ Aside0 (Below w.heap.size w wc))
 case first =>
  have H := HC4.out
  clear HC4
  replace H := bnd H
  obtain ⟨t742, A5, H⟩ := H
  replace H := bnd H
  obtain ⟨t743, A6, H⟩ := H
  by_cases c7 : t743 = true
  ·subst c7
   rw [if_pos rfl] at H
   replace H := bnd H
   obtain ⟨t744, A8, H⟩ := H
   have H' := Aside0.mk H
   clear H
   go_wp2_with (first | (refine gsC c30x21 (impl_TypeLen.calls a0 t742 _ A5.out) ?_; rintro e w9 ⟨rfl, hb⟩; refine ⟨_, rfl, ?_⟩; replace HB := Aside0.mk (below_step (HB.out) hb); clear hb) | ((with_reducible refine gate_callee (f := 99) rfl ?_); refine goesL_ (some 15) rfl rfl Try.func99 (by kernel_rfl) rfl #[.int .i64 a0, .slice A1 l1.length c1, .int .i64 t742] rfl (by (try simp only [List.map_toArray, List.map_cons, List.map_nil]); first | done | rfl | (simp only [List.length_drop, List.length_take]; rfl)) ?_; (with_reducible refine (impl_sized.calls a0 _ _ l1 t742 true _ ?side1 ?side2 A6.out).mono ?_); (case side1 => exact (Kd.C_below HR1.out HB.out)); (case side2 => exact HC1.out); rintro e w' ⟨rfl, ⟨nd, rfl⟩⟩; refine ⟨_, rfl, ?_⟩) | (go_at_call 110; (with_reducible refine (impl_FieldOk.calls a2 t744 _ A8.out).mono ?_); rintro e w' ⟨rfl, ⟨nd, rfl⟩⟩))
   go_meet
   case rel => exact ⟨_, (!t744), rfl, H', ⟨by first | omega | exact Nat.le_refl _⟩, ⟨by repeat (with_reducible first | exact HB.out | apply below_alloc | apply pw_below_drewN | apply below_drew1)⟩⟩
  ·replace c7 := Bool.eq_false_iff.mpr c7
   subst c7
   rw [if_neg (show ¬ (false = true) by decide)] at H
   have H' := Aside0.mk H
   clear H
   go_wp2_with (first | (refine gsC c30x21 (impl_TypeLen.calls a0 t742 _ A5.out) ?_; rintro e w10 ⟨rfl, hb⟩; refine ⟨_, rfl, ?_⟩; replace HB := Aside0.mk (below_step (HB.out) hb); clear hb) | ((with_reducible refine gate_callee (f := 99) rfl ?_); refine goesL_ (some 15) rfl rfl Try.func99 (by kernel_rfl) rfl #[.int .i64 a0, .slice A1 l1.length c1, .int .i64 t742] rfl (by (try simp only [List.map_toArray, List.map_cons, List.map_nil]); first | done | rfl | (simp only [List.length_drop, List.length_take]; rfl)) ?_; (with_reducible refine (impl_sized.calls a0 _ _ l1 t742 false _ ?side1 ?side2 A6.out).mono ?_); (case side1 => exact (Kd.C_below HR1.out HB.out)); (case side2 => exact HC1.out); rintro e w' ⟨rfl, ⟨nd, rfl⟩⟩; refine ⟨_, rfl, ?_⟩))
   go_meet
   case rel => exact ⟨_, (true), rfl, H', ⟨by first | omega | exact Nat.le_refl _⟩, ⟨by repeat (with_reducible first | exact HB.out | apply below_alloc | apply pw_below_drewN | apply below_drew1)⟩⟩
 case rest =>
  clear HC4
  try clear c1
  try clear p2
  try clear c3
  try clear c7
  try clear c8
  try clear c9
  obtain ⟨kq, x21_3, rfl, HA, HJ3, HB⟩ := hcut
  cases kq with
  | zero => exact absurd HA.out (by simp [impl_TypeCheck.j0])
  | succ kj3 =>
   have H := HA.out
   clear HA
   simp only [impl_TypeCheck.j0] at H
   by_cases c11 : x21_3 = true
   ·subst c11
    rw [if_pos rfl] at H
    obtain rfl := Option.some.inj H
    go_wp2
    go_ret
    exact ⟨rfl, HB.out⟩
   ·replace c11 := Bool.eq_false_iff.mpr c11
    subst c11
    rw [if_neg (show ¬ (false = true) by decide)] at H
    have H' := Aside0.mk H
    clear H
    go_wp2
    go_loopg [8, 25] kj3 (fun kq v8 v25 w' => ∃ (x8_2 : Int) (x25_2 : Int), v8 = .int .i64 x8_2 ∧ v25 = .int .i64 x25_2 ∧ Aside0 (impl_TypeCheck.l0 kq a0 l1 a2 x8_2 l1 (l1.length : Int) x25_2 = some r) ∧ Aside0 (kq ≤ kj3) ∧ Aside0 (Below w.heap.size w w'))
    case atStart => exact ⟨(0), (0), rfl, rfl, H', ⟨Nat.le_refl _⟩, ⟨HB.out⟩⟩
    case round =>
     clear H'
     try clear c1
     try clear p2
     try clear c3
     try clear c7
     try clear c8
     try clear c9
     try clear c11
     try clear p2
     obtain ⟨x8_2, x25_2, rfl, rfl, HA, HK2, HB⟩ := hrel
     cases gk with
     | zero => exact absurd HA.out (by simp [impl_TypeCheck.l0])
     | succ k2 =>
      have H := HA.out
      clear HA
      simp only [impl_TypeCheck.l0] at H
      by_cases c12 : x25_2 < (l1.length : Int)
      ·rw [if_pos c12] at H
       have c12b0 : decide (x25_2 < (l1.length : Int)) = true := decide_eq_true c12
       clear c12
       by_cases c13 : 0 ≤ x25_2
       ·rw [if_pos c13] at H
        have c13b0 : decide (0 ≤ x25_2) = true := decide_eq_true c13
        clear c13
        by_cases c14 : x25_2 < (l1.length : Int)
        ·rw [if_pos c14] at H
         have c14b0 : decide (x25_2 < (l1.length : Int)) = true := decide_eq_true c14
         clear c14
         replace H := bnd H
         obtain ⟨t746, A15, H⟩ := H
         replace H := bnd H
         obtain ⟨t747, A16, H⟩ := H
         replace H := bnd H
         obtain ⟨t748, A17, H⟩ := H
         replace H := bnd H
         obtain ⟨t749, A18, H⟩ := H
         replace H := bnd H
         obtain ⟨t750, A19, H⟩ := H
         have H' := Aside0.mk H
         clear H
         have p745 : 0 ≤ (x25_2 : Int) := of_decide_eq_true ‹_›
         have q745 : x25_2 < (l1.length : Int) := of_decide_eq_true ‹_›
         obtain ⟨ad745, e745, hx745_0⟩ := Kd.at_int HR1.out x25_2 p745 q745
         cases e745
         replace hx745_0 := (HB.out.cell (World.block_lt_of_cell? w _ hx745_0)).trans hx745_0
         replace p745 := eq_true p745
         replace q745 := eq_true q745
         go_wp2_with (first | (refine gsD c127x21 (impl_element_power.calls k2 a2 x25_2 t746 _ A15.out) ?_; intro nd) | (refine gsD c98x21 (impl_element_times.calls t746 (rd l1 x25_2) t747 _ A16.out) ?_; intro nd) | (refine gsD c126x21 (impl_element_minus.calls (rd l1 x25_2) 1 t748 _ A17.out) ?_; intro nd) | (refine gsD c98x21 (impl_element_times.calls t747 t748 t749 _ A18.out) ?_; intro nd) | (refine gsD c97x21 (impl_element_plus.calls x8_2 t749 t750 _ A19.out) ?_; intro nd))
         go_roundg k2
         case measure => have := HJ3.out; have := HK2.out; omega
         case rel => exact ⟨(t750), (wrap64 (x25_2 + 1)), rfl, rfl, H', ⟨by have := HJ3.out; have := HK2.out; omega⟩, ⟨by repeat (with_reducible first | exact HB.out | apply below_alloc | apply pw_below_drewN | apply below_drew1)⟩⟩
        ·rw [if_neg c14] at H
         exact absurd H (by simp)
       ·rw [if_neg c13] at H
        exact absurd H (by simp)
      ·rw [if_neg c12] at H
       have c12b0 : decide (x25_2 < (l1.length : Int)) = false := decide_eq_false c12
       clear c12
       replace H := bnd H
       obtain ⟨t751, A20, H⟩ := H
       by_cases c21 : t751 = true
       ·subst c21
        rw [if_pos rfl] at H
        replace H := bnd H
        obtain ⟨t752, A22, H⟩ := H
        replace H := bnd H
        obtain ⟨t753, A23, H⟩ := H
        replace H := bnd H
        obtain ⟨t754, A24, H⟩ := H
        replace H := bnd H
        obtain ⟨t755, A25, H⟩ := H
        replace H := bnd H
        obtain ⟨t756, A26, H⟩ := H
        obtain rfl := Option.some.inj H
        go_wp2_with (first | (refine gsD c128x21 (impl_oneHot.calls a0 true _ A20.out) ?_; intro nd) | (refine gsD c127x21 (impl_element_power.calls k2 a2 (l1.length : Int) t752 _ A22.out) ?_; intro nd) | ((with_reducible refine gate_callee (f := 129) rfl ?_); refine goesL_ (some 49) rfl rfl Try.func129 (by kernel_rfl) rfl #[.slice A1 l1.length c1] rfl (by (try simp only [List.map_toArray, List.map_cons, List.map_nil]); first | done | rfl | (simp only [List.length_drop, List.length_take]; rfl)) ?_; (with_reducible refine (impl_total.calls k2 _ _ l1 t753 _ ?side1 ?side2 A23.out).mono ?_); (case side1 => repeat (first | exact (Kd.C_below HR1.out (HB.out)) | (with_reducible refine Kd.C_alloc ?_ _) | (with_reducible refine Kd.C_drewN ?_ _) | (with_reducible refine Kd.C_drew ?_))); (case side2 => exact HC1.out); rintro e w' ⟨rfl, ⟨nd, rfl⟩⟩; refine ⟨_, rfl, ?_⟩) | (refine gsD c126x21 (impl_element_minus.calls t753 1 t754 _ A24.out) ?_; intro nd) | (refine gsD c98x21 (impl_element_times.calls t752 t754 t755 _ A25.out) ?_; intro nd) | (refine gsD c97x21 (impl_element_plus.calls x8_2 t755 t756 _ A26.out) ?_; intro nd))
        go_ret
        exact ⟨rfl, by repeat (with_reducible first | exact HB.out | apply below_alloc | apply pw_below_drewN | apply below_drew1)⟩
       ·replace c21 := Bool.eq_false_iff.mpr c21
        subst c21
        rw [if_neg (show ¬ (false = true) by decide)] at H
        obtain rfl := Option.some.inj H
        go_wp2_with (first | (refine gsD c128x21 (impl_oneHot.calls a0 false _ A20.out) ?_; intro nd))
        go_ret
        exact ⟨rfl, by repeat (with_reducible first | exact HB.out | apply below_alloc | apply pw_below_drewN | apply below_drew1)⟩
end Go.Proofs.Ytplbobmllflniaa.Ea
