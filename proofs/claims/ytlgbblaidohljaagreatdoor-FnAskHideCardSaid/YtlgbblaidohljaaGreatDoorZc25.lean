import Derived.Test.YtlgbblaidohljaaGreatDoorZ
import Derived.Test.YtlgbblaidohljaaGreatDoorZc0
import Derived.Test.YtlgbblaidohljaaGreatDoorZc1
import Derived.Test.YtlgbblaidohljaaGreatDoorZc8
import Derived.Test.YtlgbblaidohljaaGreatDoorZc9
import Derived.Test.YtlgbblaidohljaaGreatDoorZc16
import Derived.Test.YtlgbblaidohljaaGreatDoorZc20
namespace Go.Proofs.YtlgbblaidohljaaGreatDoor.Zc
open Go.RowKit Go.Proofs.YtlgbblaidohljaaGreatDoorU.PrintWords Go.Proofs.YtlgbblaidohljaaGreatDoorU.PrintLast Go.Proofs.YtlgbblaidohljaaGreatDoorU.PrintMore Go.Proofs.YtlgbblaidohljaaGreatDoor.Z
attribute [local go_sem] max2_int min2_int max_two min_two max_three min_three max_four min_four
set_option linter.unusedVariables false
set_option linter.unusedSimpArgs false
theorem c37x25 : Ent Tryz.prog 37 := ent Tryz.func37 (by kernel_rfl) rfl
theorem c49x25 : Ent Tryz.prog 49 := ent Tryz.func49 (by kernel_rfl) rfl
theorem c68x25 : Ent Tryz.prog 68 := ent Tryz.func68 (by kernel_rfl) rfl
theorem c88x25 : Ent Tryz.prog 88 := ent Tryz.func88 (by kernel_rfl) rfl
def spec_QueryMay.f (a0 : Int) (a1 : Int) : Option (Bool) := (spec_l11Kind.f a0).bind fun t635 => (if t635 = true then ((spec_TypeLen.f a0).bind fun t636 => ((spec_l6In.f a1 (wrap64 (t636 + 1)) 30).bind fun t637 => (some t637))) else (some false))
set_option maxHeartbeats 8000000 in
set_option maxRecDepth 100000 in
theorem spec_QueryMay.calls (a0 : Int) (a1 : Int) (r : Bool) (w : World) (h : spec_QueryMay.f a0 a1 = some r) :
  Calls Tryz.prog 37 #[.int .i64 a0, .int .i64 a1] w fun e w' => e = .returned (.bool r) ∧ Drawn0 w w' := by
 have H := h
 unfold spec_QueryMay.f at H
 clear h
 replace H := bnd H
 obtain ⟨t635, A3, H⟩ := H
 by_cases c4 : t635 = true
 ·subst c4
  rw [if_pos rfl] at H
  replace H := bnd H
  obtain ⟨t636, A5, H⟩ := H
  replace H := bnd H
  obtain ⟨t637, A6, H⟩ := H
  obtain rfl := Option.some.inj H
  go_enter Tryz.func37, Tryz.ntmps37
  go_wp2_with (first | (refine gsD c68x25 (spec_l11Kind.calls a0 true _ A3.out) ?_; intro nd) | (go_at_call 69; (with_reducible refine (spec_TypeLen.calls a0 t636 _ A5.out).mono ?_); rintro e w' ⟨rfl, ⟨nd, rfl⟩⟩) | (go_at_call 76; (with_reducible refine (spec_l6In.calls a1 (wrap64 (t636 + 1)) 30 t637 _ A6.out).mono ?_); rintro e w' ⟨rfl, ⟨nd, rfl⟩⟩))
  go_ret
  exact ⟨rfl, ⟨_, rfl⟩⟩
 ·replace c4 := Bool.eq_false_iff.mpr c4
  subst c4
  rw [if_neg (show ¬ (false = true) by decide)] at H
  obtain rfl := Option.some.inj H
  go_enter Tryz.func37, Tryz.ntmps37
  go_wp2_with (first | (refine gsD c68x25 (spec_l11Kind.calls a0 false _ A3.out) ?_; intro nd))
  go_ret
  exact ⟨rfl, ⟨_, rfl⟩⟩
def spec_QueryAsk.f (k : Nat) (a0 : Int) (l1 : List Int) (a2 : Bool) (a3 : Int) (a4 : Int) : Option (List Int × Bool) := (spec_QueryMay.f a0 a3).bind fun t638 => (if t638 = true then ((spec_FieldOk.f a4).bind fun t639 => (if t639 = true then ((spec_ShareOk.f k l1).bind fun t640 => (if t640 = true then ((spec_ProofLen.f a0).bind fun t641 => (if (l1.length : Int) = t641 then ((spec_l13Ask.f k a0 l1 a2 a3 a4).bind fun t642 => (some (t642, true))) else (some ((([] : List Int)), false)))) else (some ((([] : List Int)), false)))) else (some ((([] : List Int)), false)))) else (some ((([] : List Int)), false)))
set_option maxHeartbeats 8000000 in
set_option maxRecDepth 100000 in
theorem spec_QueryAsk.calls (k : Nat) (a0 : Int) (A1 : Option Addr) (c1 : Nat) (l1 : List Int) (a2 : Bool) (a3 : Int) (a4 : Int) (r1 : List Int) (r2 : Bool) (w : World) (hr1 : Kd.C (Kd.int .i64) w A1 l1.length l1) (hc1 : l1.length ≤ c1) (h : spec_QueryAsk.f k a0 l1 a2 a3 a4 = some (r1, r2)) :
  Calls Tryz.prog 16 #[.int .i64 a0, .slice A1 l1.length c1, .bool a2, .int .i64 a3, .int .i64 a4] w fun e w' => ∃ v0_ : Value, e = .returned (.tuple #[v0_, .bool r2]) ∧ Kd.R (Kd.int .i64) 3 w' w.heap.size (fun _ => True) v0_ r1 ∧ Below w.heap.size w w' := by
 have HR1 := Aside0.mk hr1
 have HC1 := Aside0.mk hc1
 clear hr1 hc1
 have HB := Aside0.mk (Below.refl w.heap.size w)
 have H := h
 unfold spec_QueryAsk.f at H
 clear h
 replace H := bnd H
 obtain ⟨t638, A6, H⟩ := H
 by_cases c7 : t638 = true
 ·subst c7
  rw [if_pos rfl] at H
  replace H := bnd H
  obtain ⟨t639, A8, H⟩ := H
  by_cases c9 : t639 = true
  ·subst c9
   rw [if_pos rfl] at H
   replace H := bnd H
   obtain ⟨t640, A10, H⟩ := H
   by_cases c11 : t640 = true
   ·subst c11
    rw [if_pos rfl] at H
    replace H := bnd H
    obtain ⟨t641, A12, H⟩ := H
    by_cases c13 : (l1.length : Int) = t641
    ·rw [if_pos c13] at H
     have c13b0 : ((l1.length : Int) == t641) = true := beq_iff_eq.mpr c13
     have c13b1 : ((l1.length : Int) != t641) = false := bne_eq_false_iff_eq.mpr c13
     clear c13
     replace H := bnd H
     obtain ⟨t642, A14, H⟩ := H
     simp only [Option.some.injEq, Prod.mk.injEq] at H
     obtain ⟨rfl, rfl⟩ := H
     go_enter Tryz.func16, Tryz.ntmps16
     go_wp2_with (first | (refine gsD c37x25 (spec_QueryMay.calls a0 a3 true _ A6.out) ?_; intro nd) | (go_at_call 38; (with_reducible refine (spec_FieldOk.calls a4 true _ A8.out).mono ?_); rintro e w' ⟨rfl, ⟨nd, rfl⟩⟩) | (go_at_call 47; (with_reducible refine (spec_ShareOk.calls k _ _ l1 true _ ?side1 ?side2 A10.out).mono ?_); (case side1 => exact HR1.out); (case side2 => exact HC1.out); rintro e w' ⟨rfl, ⟨nd, rfl⟩⟩) | (go_at_call 48; (with_reducible refine (spec_ProofLen.calls a0 t641 _ A12.out).mono ?_); rintro e w' ⟨rfl, ⟨nd, rfl⟩⟩) | ((with_reducible refine gate_callee (f := 40) rfl ?_); refine goesL_ (some 39) rfl rfl Tryz.func40 (by kernel_rfl) rfl #[.int .i64 a0, .slice A1 l1.length c1, .bool a2, .int .i64 a3, .int .i64 a4] rfl (by (try simp only [List.map_toArray, List.map_cons, List.map_nil]); first | done | rfl | (simp only [List.length_drop, List.length_take]; rfl)) ?_; (with_reducible refine (spec_l13Ask.calls k a0 _ _ l1 a2 a3 a4 t642 _ ?side1 ?side2 A14.out).mono ?_); (case side1 => exact HR1.out); (case side2 => exact HC1.out); rintro e w15 ⟨v643, rfl, ho0, hb⟩; refine ⟨_, rfl, ?_⟩; replace HO644 := Aside0.mk (Kd.R_lower ho0 (below_size (by repeat (with_reducible first | exact HB.out | apply below_alloc | apply pw_below_drewN | apply below_drew1)))); replace HB := Aside0.mk (below_step (by repeat (with_reducible first | exact HB.out | apply below_alloc | apply pw_below_drewN | apply below_drew1)) hb); clear hb ho0))
     go_ret2
     exact ⟨_, rfl, HO644.out, by repeat (with_reducible first | exact HB.out | apply below_alloc | apply pw_below_drewN | apply below_drew1)⟩
    ·rw [if_neg c13] at H
     have c13b0 : ((l1.length : Int) == t641) = false := beq_eq_false_iff_ne.mpr c13
     have c13b1 : ((l1.length : Int) != t641) = true := bne_iff_ne.mpr c13
     obtain ⟨y645, hy645⟩ : ∃ y_ : List Int, y_ = (([] : List Int)) := ⟨_, rfl⟩
     rw [← hy645] at H
     have Ny645 := Aside0.mk hy645
     clear hy645
     simp only [Option.some.injEq, Prod.mk.injEq] at H
     obtain ⟨rfl, rfl⟩ := H
     go_enter Tryz.func16, Tryz.ntmps16
     go_wp2_with (first | (refine gsD c37x25 (spec_QueryMay.calls a0 a3 true _ A6.out) ?_; intro nd) | (go_at_call 38; (with_reducible refine (spec_FieldOk.calls a4 true _ A8.out).mono ?_); rintro e w' ⟨rfl, ⟨nd, rfl⟩⟩) | (go_at_call 47; (with_reducible refine (spec_ShareOk.calls k _ _ l1 true _ ?side1 ?side2 A10.out).mono ?_); (case side1 => exact HR1.out); (case side2 => exact HC1.out); rintro e w' ⟨rfl, ⟨nd, rfl⟩⟩) | (go_at_call 48; (with_reducible refine (spec_ProofLen.calls a0 t641 _ A12.out).mono ?_); rintro e w' ⟨rfl, ⟨nd, rfl⟩⟩) | ((with_reducible refine gate_dst (N := 33) rfl ?_); refine Kd.R_lit (Kd.int .i64) _ 3 ?hg (N := 33) ?hd (xs := ([] : List Int)) (inner := []) (ok := fun _ => True) (okp := fun _ => True) ?hr ?hp (fun _ hk => hk) trivial (Below.refl _ _) (Nat.le_refl _) (by simp) ?_; (case hd => rfl); (case hg => rfl); (case hr => first | (go_simp; done) | (go_simp; rfl)); (case hp => exact (Reps.none _ _)); intro v646 w16 ho17 hb hg_ hnew_; clear hg_ hnew_; (first | rw [← Ny645.out] at ho17 | (simp only [Int.reduceToNat] at ho17; rw [← Ny645.out] at ho17)); replace HO647 := Aside0.mk (Kd.R_lower ho17 (below_size (by repeat (with_reducible first | exact HB.out | apply below_alloc | apply pw_below_drewN | apply below_drew1)))); replace HB := Aside0.mk (below_step (by repeat (with_reducible first | exact HB.out | apply below_alloc | apply pw_below_drewN | apply below_drew1)) hb); clear hb ho17))
     go_ret2
     exact ⟨_, rfl, HO647.out, by repeat (with_reducible first | exact HB.out | apply below_alloc | apply pw_below_drewN | apply below_drew1)⟩
   ·replace c11 := Bool.eq_false_iff.mpr c11
    subst c11
    rw [if_neg (show ¬ (false = true) by decide)] at H
    obtain ⟨y648, hy648⟩ : ∃ y_ : List Int, y_ = (([] : List Int)) := ⟨_, rfl⟩
    rw [← hy648] at H
    have Ny648 := Aside0.mk hy648
    clear hy648
    simp only [Option.some.injEq, Prod.mk.injEq] at H
    obtain ⟨rfl, rfl⟩ := H
    go_enter Tryz.func16, Tryz.ntmps16
    go_wp2_with (first | (refine gsD c37x25 (spec_QueryMay.calls a0 a3 true _ A6.out) ?_; intro nd) | (go_at_call 38; (with_reducible refine (spec_FieldOk.calls a4 true _ A8.out).mono ?_); rintro e w' ⟨rfl, ⟨nd, rfl⟩⟩) | (go_at_call 47; (with_reducible refine (spec_ShareOk.calls k _ _ l1 false _ ?side1 ?side2 A10.out).mono ?_); (case side1 => exact HR1.out); (case side2 => exact HC1.out); rintro e w' ⟨rfl, ⟨nd, rfl⟩⟩) | ((with_reducible refine gate_dst (N := 33) rfl ?_); refine Kd.R_lit (Kd.int .i64) _ 3 ?hg (N := 33) ?hd (xs := ([] : List Int)) (inner := []) (ok := fun _ => True) (okp := fun _ => True) ?hr ?hp (fun _ hk => hk) trivial (Below.refl _ _) (Nat.le_refl _) (by simp) ?_; (case hd => rfl); (case hg => rfl); (case hr => first | (go_simp; done) | (go_simp; rfl)); (case hp => exact (Reps.none _ _)); intro v649 w18 ho19 hb hg_ hnew_; clear hg_ hnew_; (first | rw [← Ny648.out] at ho19 | (simp only [Int.reduceToNat] at ho19; rw [← Ny648.out] at ho19)); replace HO650 := Aside0.mk (Kd.R_lower ho19 (below_size (by repeat (with_reducible first | exact HB.out | apply below_alloc | apply pw_below_drewN | apply below_drew1)))); replace HB := Aside0.mk (below_step (by repeat (with_reducible first | exact HB.out | apply below_alloc | apply pw_below_drewN | apply below_drew1)) hb); clear hb ho19))
    go_ret2
    exact ⟨_, rfl, HO650.out, by repeat (with_reducible first | exact HB.out | apply below_alloc | apply pw_below_drewN | apply below_drew1)⟩
  ·replace c9 := Bool.eq_false_iff.mpr c9
   subst c9
   rw [if_neg (show ¬ (false = true) by decide)] at H
   obtain ⟨y651, hy651⟩ : ∃ y_ : List Int, y_ = (([] : List Int)) := ⟨_, rfl⟩
   rw [← hy651] at H
   have Ny651 := Aside0.mk hy651
   clear hy651
   simp only [Option.some.injEq, Prod.mk.injEq] at H
   obtain ⟨rfl, rfl⟩ := H
   go_enter Tryz.func16, Tryz.ntmps16
   go_wp2_with (first | (refine gsD c37x25 (spec_QueryMay.calls a0 a3 true _ A6.out) ?_; intro nd) | (go_at_call 38; (with_reducible refine (spec_FieldOk.calls a4 false _ A8.out).mono ?_); rintro e w' ⟨rfl, ⟨nd, rfl⟩⟩) | ((with_reducible refine gate_dst (N := 33) rfl ?_); refine Kd.R_lit (Kd.int .i64) _ 3 ?hg (N := 33) ?hd (xs := ([] : List Int)) (inner := []) (ok := fun _ => True) (okp := fun _ => True) ?hr ?hp (fun _ hk => hk) trivial (Below.refl _ _) (Nat.le_refl _) (by simp) ?_; (case hd => rfl); (case hg => rfl); (case hr => first | (go_simp; done) | (go_simp; rfl)); (case hp => exact (Reps.none _ _)); intro v652 w20 ho21 hb hg_ hnew_; clear hg_ hnew_; (first | rw [← Ny651.out] at ho21 | (simp only [Int.reduceToNat] at ho21; rw [← Ny651.out] at ho21)); replace HO653 := Aside0.mk (Kd.R_lower ho21 (below_size (by repeat (with_reducible first | exact HB.out | apply below_alloc | apply pw_below_drewN | apply below_drew1)))); replace HB := Aside0.mk (below_step (by repeat (with_reducible first | exact HB.out | apply below_alloc | apply pw_below_drewN | apply below_drew1)) hb); clear hb ho21))
   go_ret2
   exact ⟨_, rfl, HO653.out, by repeat (with_reducible first | exact HB.out | apply below_alloc | apply pw_below_drewN | apply below_drew1)⟩
 ·replace c7 := Bool.eq_false_iff.mpr c7
  subst c7
  rw [if_neg (show ¬ (false = true) by decide)] at H
  obtain ⟨y654, hy654⟩ : ∃ y_ : List Int, y_ = (([] : List Int)) := ⟨_, rfl⟩
  rw [← hy654] at H
  have Ny654 := Aside0.mk hy654
  clear hy654
  simp only [Option.some.injEq, Prod.mk.injEq] at H
  obtain ⟨rfl, rfl⟩ := H
  go_enter Tryz.func16, Tryz.ntmps16
  go_wp2_with (first | (refine gsD c37x25 (spec_QueryMay.calls a0 a3 false _ A6.out) ?_; intro nd) | ((with_reducible refine gate_dst (N := 33) rfl ?_); refine Kd.R_lit (Kd.int .i64) _ 3 ?hg (N := 33) ?hd (xs := ([] : List Int)) (inner := []) (ok := fun _ => True) (okp := fun _ => True) ?hr ?hp (fun _ hk => hk) trivial (Below.refl _ _) (Nat.le_refl _) (by simp) ?_; (case hd => rfl); (case hg => rfl); (case hr => first | (go_simp; done) | (go_simp; rfl)); (case hp => exact (Reps.none _ _)); intro v655 w22 ho23 hb hg_ hnew_; clear hg_ hnew_; (first | rw [← Ny654.out] at ho23 | (simp only [Int.reduceToNat] at ho23; rw [← Ny654.out] at ho23)); replace HO656 := Aside0.mk (Kd.R_lower ho23 (below_size (by repeat (with_reducible first | exact HB.out | apply below_alloc | apply pw_below_drewN | apply below_drew1)))); replace HB := Aside0.mk (below_step (by repeat (with_reducible first | exact HB.out | apply below_alloc | apply pw_below_drewN | apply below_drew1)) hb); clear hb ho23))
  go_ret2
  exact ⟨_, rfl, HO656.out, by repeat (with_reducible first | exact HB.out | apply below_alloc | apply pw_below_drewN | apply below_drew1)⟩
def impl_QueryMay.f (a0 : Int) (a1 : Int) : Option (Bool) := (impl_kindOk.f a0).bind fun t657 => (if t657 = true then ((impl_TypeLen.f a0).bind fun t658 => ((impl_within.f a1 (wrap64 (t658 + 1)) 30).bind fun t659 => (some t659))) else (some false))
set_option maxHeartbeats 8000000 in
set_option maxRecDepth 100000 in
theorem impl_QueryMay.calls (a0 : Int) (a1 : Int) (r : Bool) (w : World) (h : impl_QueryMay.f a0 a1 = some r) :
  Calls Tryz.prog 49 #[.int .i64 a0, .int .i64 a1] w fun e w' => e = .returned (.bool r) ∧ Below w.heap.size w w' := by
 have HB := Aside0.mk (Below.refl w.heap.size w)
 have H := h
 unfold impl_QueryMay.f at H
 clear h
 replace H := bnd H
 obtain ⟨t657, A3, H⟩ := H
 by_cases c4 : t657 = true
 ·subst c4
  rw [if_pos rfl] at H
  replace H := bnd H
  obtain ⟨t658, A5, H⟩ := H
  replace H := bnd H
  obtain ⟨t659, A6, H⟩ := H
  obtain rfl := Option.some.inj H
  go_enter Tryz.func49, Tryz.ntmps49
  go_wp2_with (first | (refine gsD c88x25 (impl_kindOk.calls a0 true _ A3.out) ?_; intro nd) | (go_at_call 29; (with_reducible refine (impl_TypeLen.calls a0 t658 _ A5.out).mono ?_); rintro e w7 ⟨rfl, hb⟩; replace HB := Aside0.mk (below_step (by repeat (with_reducible first | exact HB.out | apply below_alloc | apply pw_below_drewN | apply below_drew1)) hb); clear hb) | (go_at_call 55; (with_reducible refine (impl_within.calls a1 (wrap64 (t658 + 1)) 30 t659 _ A6.out).mono ?_); rintro e w' ⟨rfl, ⟨nd, rfl⟩⟩))
  go_ret
  exact ⟨rfl, by repeat (with_reducible first | exact HB.out | apply below_alloc | apply pw_below_drewN | apply below_drew1)⟩
 ·replace c4 := Bool.eq_false_iff.mpr c4
  subst c4
  rw [if_neg (show ¬ (false = true) by decide)] at H
  obtain rfl := Option.some.inj H
  go_enter Tryz.func49, Tryz.ntmps49
  go_wp2_with (first | (refine gsD c88x25 (impl_kindOk.calls a0 false _ A3.out) ?_; intro nd))
  go_ret
  exact ⟨rfl, by repeat (with_reducible first | exact HB.out | apply below_alloc | apply pw_below_drewN | apply below_drew1)⟩
def impl_QueryAsk.f (k : Nat) (a0 : Int) (l1 : List Int) (a2 : Bool) (a3 : Int) (a4 : Int) : Option (List Int × Bool) := (impl_QueryMay.f a0 a3).bind fun t660 => (if t660 = true then ((impl_FieldOk.f a4).bind fun t661 => (if t661 = true then ((impl_ProofLen.f a0).bind fun t662 => ((impl_sized.f a0 l1 t662).bind fun t663 => (if t663 = true then ((impl_ask.f k a0 l1 a2 a3 a4).bind fun t664 => (some (t664, true))) else (some (([] : List Int), false))))) else (some (([] : List Int), false)))) else (some (([] : List Int), false)))
set_option maxHeartbeats 8000000 in
set_option maxRecDepth 100000 in
theorem impl_QueryAsk.calls (k : Nat) (a0 : Int) (A1 : Option Addr) (c1 : Nat) (l1 : List Int) (a2 : Bool) (a3 : Int) (a4 : Int) (r1 : List Int) (r2 : Bool) (w : World) (hr1 : Kd.C (Kd.int .i64) w A1 l1.length l1) (hc1 : l1.length ≤ c1) (h : impl_QueryAsk.f k a0 l1 a2 a3 a4 = some (r1, r2)) :
  Calls Tryz.prog 17 #[.int .i64 a0, .slice A1 l1.length c1, .bool a2, .int .i64 a3, .int .i64 a4] w fun e w' => ∃ v0_ : Value, e = .returned (.tuple #[v0_, .bool r2]) ∧ Kd.R (Kd.int .i64) 3 w' w.heap.size (fun _ => True) v0_ r1 ∧ Below w.heap.size w w' := by
 have HR1 := Aside0.mk hr1
 have HC1 := Aside0.mk hc1
 clear hr1 hc1
 have HB := Aside0.mk (Below.refl w.heap.size w)
 have H := h
 unfold impl_QueryAsk.f at H
 clear h
 replace H := bnd H
 obtain ⟨t660, A6, H⟩ := H
 by_cases c7 : t660 = true
 ·subst c7
  rw [if_pos rfl] at H
  replace H := bnd H
  obtain ⟨t661, A8, H⟩ := H
  by_cases c9 : t661 = true
  ·subst c9
   rw [if_pos rfl] at H
   replace H := bnd H
   obtain ⟨t662, A10, H⟩ := H
   replace H := bnd H
   obtain ⟨t663, A11, H⟩ := H
   by_cases c12 : t663 = true
   ·subst c12
    rw [if_pos rfl] at H
    replace H := bnd H
    obtain ⟨t664, A13, H⟩ := H
    simp only [Option.some.injEq, Prod.mk.injEq] at H
    obtain ⟨rfl, rfl⟩ := H
    go_enter Tryz.func17, Tryz.ntmps17
    go_wp2_with (first | (refine gsC c49x25 (impl_QueryMay.calls a0 a3 true _ A6.out) ?_; rintro e w14 ⟨rfl, hb⟩; refine ⟨_, rfl, ?_⟩; replace HB := Aside0.mk (below_step (by repeat (with_reducible first | exact HB.out | apply below_alloc | apply pw_below_drewN | apply below_drew1)) hb); clear hb) | (go_at_call 50; (with_reducible refine (impl_FieldOk.calls a4 true _ A8.out).mono ?_); rintro e w' ⟨rfl, ⟨nd, rfl⟩⟩) | (go_at_call 52; (with_reducible refine (impl_ProofLen.calls a0 t662 _ A10.out).mono ?_); rintro e w15 ⟨rfl, hb⟩; replace HB := Aside0.mk (below_step (by repeat (with_reducible first | exact HB.out | apply below_alloc | apply pw_below_drewN | apply below_drew1)) hb); clear hb) | (go_at_call 51; (with_reducible refine (impl_sized.calls a0 _ _ l1 t662 true _ ?side1 ?side2 A11.out).mono ?_); (case side1 => exact (Kd.C_below HR1.out HB.out)); (case side2 => exact HC1.out); rintro e w' ⟨rfl, ⟨nd, rfl⟩⟩) | ((with_reducible refine gate_callee (f := 53) rfl ?_); refine goesL_ (some 34) rfl rfl Tryz.func53 (by kernel_rfl) rfl #[.int .i64 a0, .slice A1 l1.length c1, .bool a2, .int .i64 a3, .int .i64 a4] rfl (by (try simp only [List.map_toArray, List.map_cons, List.map_nil]); first | done | rfl | (simp only [List.length_drop, List.length_take]; rfl)) ?_; (with_reducible refine (impl_ask.calls k a0 _ _ l1 a2 a3 a4 t664 _ ?side1 ?side2 A13.out).mono ?_); (case side1 => repeat (first | exact (Kd.C_below HR1.out (by repeat (with_reducible first | exact HB.out | apply below_alloc | apply pw_below_drewN | apply below_drew1))) | (with_reducible refine Kd.C_alloc ?_ _) | (with_reducible refine Kd.C_drewN ?_ _) | (with_reducible refine Kd.C_drew ?_))); (case side2 => exact HC1.out); rintro e w16 ⟨v665, rfl, ho0, hb⟩; refine ⟨_, rfl, ?_⟩; replace HO666 := Aside0.mk (Kd.R_lower ho0 (below_size (by repeat (with_reducible first | exact HB.out | apply below_alloc | apply pw_below_drewN | apply below_drew1)))); replace HB := Aside0.mk (below_step (by repeat (with_reducible first | exact HB.out | apply below_alloc | apply pw_below_drewN | apply below_drew1)) hb); clear hb ho0))
    go_ret2
    exact ⟨_, rfl, HO666.out, by repeat (with_reducible first | exact HB.out | apply below_alloc | apply pw_below_drewN | apply below_drew1)⟩
   ·replace c12 := Bool.eq_false_iff.mpr c12
    subst c12
    rw [if_neg (show ¬ (false = true) by decide)] at H
    simp only [Option.some.injEq, Prod.mk.injEq] at H
    obtain ⟨rfl, rfl⟩ := H
    go_enter Tryz.func17, Tryz.ntmps17
    go_wp2_with (first | (refine gsC c49x25 (impl_QueryMay.calls a0 a3 true _ A6.out) ?_; rintro e w17 ⟨rfl, hb⟩; refine ⟨_, rfl, ?_⟩; replace HB := Aside0.mk (below_step (by repeat (with_reducible first | exact HB.out | apply below_alloc | apply pw_below_drewN | apply below_drew1)) hb); clear hb) | (go_at_call 50; (with_reducible refine (impl_FieldOk.calls a4 true _ A8.out).mono ?_); rintro e w' ⟨rfl, ⟨nd, rfl⟩⟩) | (go_at_call 52; (with_reducible refine (impl_ProofLen.calls a0 t662 _ A10.out).mono ?_); rintro e w18 ⟨rfl, hb⟩; replace HB := Aside0.mk (below_step (by repeat (with_reducible first | exact HB.out | apply below_alloc | apply pw_below_drewN | apply below_drew1)) hb); clear hb) | (go_at_call 51; (with_reducible refine (impl_sized.calls a0 _ _ l1 t662 false _ ?side1 ?side2 A11.out).mono ?_); (case side1 => exact (Kd.C_below HR1.out HB.out)); (case side2 => exact HC1.out); rintro e w' ⟨rfl, ⟨nd, rfl⟩⟩))
    go_ret2
    exact ⟨_, rfl, by first | exact Kd.R_nil _ _ _ _ _ | exact Kd.N_nil _ _ _ _ _ | exact Kd.V_nil _ _ _ _ _ | exact Kd.Q_nil _ _ _ _ _ | exact Kd.S_nil _ _ _ _ _, by repeat (with_reducible first | exact HB.out | apply below_alloc | apply pw_below_drewN | apply below_drew1)⟩
  ·replace c9 := Bool.eq_false_iff.mpr c9
   subst c9
   rw [if_neg (show ¬ (false = true) by decide)] at H
   simp only [Option.some.injEq, Prod.mk.injEq] at H
   obtain ⟨rfl, rfl⟩ := H
   go_enter Tryz.func17, Tryz.ntmps17
   go_wp2_with (first | (refine gsC c49x25 (impl_QueryMay.calls a0 a3 true _ A6.out) ?_; rintro e w19 ⟨rfl, hb⟩; refine ⟨_, rfl, ?_⟩; replace HB := Aside0.mk (below_step (by repeat (with_reducible first | exact HB.out | apply below_alloc | apply pw_below_drewN | apply below_drew1)) hb); clear hb) | (go_at_call 50; (with_reducible refine (impl_FieldOk.calls a4 false _ A8.out).mono ?_); rintro e w' ⟨rfl, ⟨nd, rfl⟩⟩))
   go_ret2
   exact ⟨_, rfl, by first | exact Kd.R_nil _ _ _ _ _ | exact Kd.N_nil _ _ _ _ _ | exact Kd.V_nil _ _ _ _ _ | exact Kd.Q_nil _ _ _ _ _ | exact Kd.S_nil _ _ _ _ _, by repeat (with_reducible first | exact HB.out | apply below_alloc | apply pw_below_drewN | apply below_drew1)⟩
 ·replace c7 := Bool.eq_false_iff.mpr c7
  subst c7
  rw [if_neg (show ¬ (false = true) by decide)] at H
  simp only [Option.some.injEq, Prod.mk.injEq] at H
  obtain ⟨rfl, rfl⟩ := H
  go_enter Tryz.func17, Tryz.ntmps17
  go_wp2_with (first | (refine gsC c49x25 (impl_QueryMay.calls a0 a3 false _ A6.out) ?_; rintro e w20 ⟨rfl, hb⟩; refine ⟨_, rfl, ?_⟩; replace HB := Aside0.mk (below_step (by repeat (with_reducible first | exact HB.out | apply below_alloc | apply pw_below_drewN | apply below_drew1)) hb); clear hb))
  go_ret2
  exact ⟨_, rfl, by first | exact Kd.R_nil _ _ _ _ _ | exact Kd.N_nil _ _ _ _ _ | exact Kd.V_nil _ _ _ _ _ | exact Kd.Q_nil _ _ _ _ _ | exact Kd.S_nil _ _ _ _ _, by repeat (with_reducible first | exact HB.out | apply below_alloc | apply pw_below_drewN | apply below_drew1)⟩
end Go.Proofs.YtlgbblaidohljaaGreatDoor.Zc
