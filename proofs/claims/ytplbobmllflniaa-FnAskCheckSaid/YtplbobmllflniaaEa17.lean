import Derived.Test.YtplbobmllflniaaZ
import Derived.Test.YtplbobmllflniaaEa0
import Derived.Test.YtplbobmllflniaaEa1
import Derived.Test.YtplbobmllflniaaEa2
import Derived.Test.YtplbobmllflniaaEa4
import Derived.Test.YtplbobmllflniaaEa5
import Derived.Test.YtplbobmllflniaaEa8
import Derived.Test.YtplbobmllflniaaEa9
import Derived.Test.YtplbobmllflniaaEa10
import Derived.Test.YtplbobmllflniaaEa16
namespace Go.Proofs.Ytplbobmllflniaa.Ea
open Go.RowKit Go.Proofs.YtplbobmllflniaaW.PrintWords Go.Proofs.YtplbobmllflniaaW.PrintLast Go.Proofs.YtplbobmllflniaaW.PrintMore Go.Proofs.Ytplbobmllflniaa.Z
attribute [local go_sem] max2_int min2_int max_two min_two max_three min_three max_four min_four
set_option linter.unusedVariables false
set_option linter.unusedSimpArgs false
theorem c27x17 : Ent Try.prog 27 := ent Try.func27 (by kernel_rfl) rfl
theorem c85x17 : Ent Try.prog 85 := ent Try.func85 (by kernel_rfl) rfl
theorem c98x17 : Ent Try.prog 98 := ent Try.func98 (by kernel_rfl) rfl
theorem c110x17 : Ent Try.prog 110 := ent Try.func110 (by kernel_rfl) rfl
mutual
def laws_FnChanceOne.l0 : Nat → List Int → Int → List Int → Int → List Int → Int → Int → Option (Bool)
 | 0, _, _, _, _, _, _, _ => none
 | k + 1, x1, x5, x6, x7, x8, x9, x10 => if x10 < 31 then (laws_FnChanceOne.l1 k x1 x5 x6 x7 x8 x9 x10 0) else (if x7 = x9 then (some (decide ((x1.length : Int) ≥ 0))) else (some false))
def laws_FnChanceOne.l1 : Nat → List Int → Int → List Int → Int → List Int → Int → Int → Int → Option (Bool)
 | 0, _, _, _, _, _, _, _, _ => none
 | k + 1, x1, x5, x6, x7, x8, x9, x10, x11 => if x11 < 31 then ((impl_QueryAsk.f k x5 x6 true x10 x11).bind fun bt546 => (if bt546.2 = true then ((impl_QueryDecide.f bt546.1 x8).bind fun t550 => (if t550 = true then (laws_FnChanceOne.l1 k x1 x5 x6 x7 x8 (wrap64 (x9 + 1)) x10 (wrap64 (x11 + 1))) else (laws_FnChanceOne.l1 k x1 x5 x6 x7 x8 x9 x10 (wrap64 (x11 + 1))))) else (laws_FnChanceOne.l1 k x1 x5 x6 x7 x8 x9 x10 (wrap64 (x11 + 1))))) else (laws_FnChanceOne.l0 k x1 x5 x6 x7 x8 x9 (wrap64 (x10 + 1)))
end
def impl_FieldMul.f (a0 : Int) (a1 : Int) : Option (Int) := (impl_FieldOk.f a0).bind fun t555 => (if t555 = true then ((impl_FieldOk.f a1).bind fun t556 => (if t556 = true then ((impl_element_times.f a0 a1).bind fun t557 => (some t557)) else (some 0))) else (some 0))
set_option maxHeartbeats 8000000 in
set_option maxRecDepth 100000 in
theorem impl_FieldMul.calls (a0 : Int) (a1 : Int) (r : Int) (w : World) (h : impl_FieldMul.f a0 a1 = some r) :
  Calls Try.prog 68 #[.int .i64 a0, .int .i64 a1] w fun e w' => e = .returned (.int .i64 r) ∧ Drawn0 w w' := by
 have H := h
 unfold impl_FieldMul.f at H
 clear h
 replace H := bnd H
 obtain ⟨t555, A3, H⟩ := H
 by_cases c4 : t555 = true
 ·subst c4
  rw [if_pos rfl] at H
  replace H := bnd H
  obtain ⟨t556, A5, H⟩ := H
  by_cases c6 : t556 = true
  ·subst c6
   rw [if_pos rfl] at H
   replace H := bnd H
   obtain ⟨t557, A7, H⟩ := H
   obtain rfl := Option.some.inj H
   go_enter Try.func68, Try.ntmps68
   go_wp2_with (first | (refine gsD c110x17 (impl_FieldOk.calls a0 true _ A3.out) ?_; intro nd) | (go_at_call 110; (with_reducible refine (impl_FieldOk.calls a1 true _ A5.out).mono ?_); rintro e w' ⟨rfl, ⟨nd, rfl⟩⟩) | (refine gsD c98x17 (impl_element_times.calls a0 a1 t557 _ A7.out) ?_; intro nd))
   go_ret
   exact ⟨rfl, ⟨_, rfl⟩⟩
  ·replace c6 := Bool.eq_false_iff.mpr c6
   subst c6
   rw [if_neg (show ¬ (false = true) by decide)] at H
   obtain rfl := Option.some.inj H
   go_enter Try.func68, Try.ntmps68
   go_wp2_with (first | (refine gsD c110x17 (impl_FieldOk.calls a0 true _ A3.out) ?_; intro nd) | (go_at_call 110; (with_reducible refine (impl_FieldOk.calls a1 false _ A5.out).mono ?_); rintro e w' ⟨rfl, ⟨nd, rfl⟩⟩))
   go_ret
   exact ⟨rfl, ⟨_, rfl⟩⟩
 ·replace c4 := Bool.eq_false_iff.mpr c4
  subst c4
  rw [if_neg (show ¬ (false = true) by decide)] at H
  obtain rfl := Option.some.inj H
  go_enter Try.func68, Try.ntmps68
  go_wp2_with (first | (refine gsD c110x17 (impl_FieldOk.calls a0 false _ A3.out) ?_; intro nd))
  go_ret
  exact ⟨rfl, ⟨_, rfl⟩⟩
def spec_QueryMay.f (a0 : Int) (a1 : Int) : Option (Bool) := (spec_l11Kind.f a0).bind fun t558 => (if t558 = true then ((spec_TypeLen.f a0).bind fun t559 => ((spec_l6In.f a1 (wrap64 (t559 + 1)) 30).bind fun t560 => (some t560))) else (some false))
set_option maxHeartbeats 8000000 in
set_option maxRecDepth 100000 in
theorem spec_QueryMay.calls (a0 : Int) (a1 : Int) (r : Bool) (w : World) (h : spec_QueryMay.f a0 a1 = some r) :
  Calls Try.prog 27 #[.int .i64 a0, .int .i64 a1] w fun e w' => e = .returned (.bool r) ∧ Drawn0 w w' := by
 have H := h
 unfold spec_QueryMay.f at H
 clear h
 replace H := bnd H
 obtain ⟨t558, A3, H⟩ := H
 by_cases c4 : t558 = true
 ·subst c4
  rw [if_pos rfl] at H
  replace H := bnd H
  obtain ⟨t559, A5, H⟩ := H
  replace H := bnd H
  obtain ⟨t560, A6, H⟩ := H
  obtain rfl := Option.some.inj H
  go_enter Try.func27, Try.ntmps27
  go_wp2_with (first | (refine gsD c85x17 (spec_l11Kind.calls a0 true _ A3.out) ?_; intro nd) | (go_at_call 86; (with_reducible refine (spec_TypeLen.calls a0 t559 _ A5.out).mono ?_); rintro e w' ⟨rfl, ⟨nd, rfl⟩⟩) | (go_at_call 87; (with_reducible refine (spec_l6In.calls a1 (wrap64 (t559 + 1)) 30 t560 _ A6.out).mono ?_); rintro e w' ⟨rfl, ⟨nd, rfl⟩⟩))
  go_ret
  exact ⟨rfl, ⟨_, rfl⟩⟩
 ·replace c4 := Bool.eq_false_iff.mpr c4
  subst c4
  rw [if_neg (show ¬ (false = true) by decide)] at H
  obtain rfl := Option.some.inj H
  go_enter Try.func27, Try.ntmps27
  go_wp2_with (first | (refine gsD c85x17 (spec_l11Kind.calls a0 false _ A3.out) ?_; intro nd))
  go_ret
  exact ⟨rfl, ⟨_, rfl⟩⟩
def spec_QueryAsk.f (k : Nat) (a0 : Int) (l1 : List Int) (a2 : Bool) (a3 : Int) (a4 : Int) : Option (List Int × Bool) := (spec_QueryMay.f a0 a3).bind fun t561 => (if t561 = true then ((spec_FieldOk.f a4).bind fun t562 => (if t562 = true then ((spec_ShareOk.f k l1).bind fun t563 => (if t563 = true then ((spec_ProofLen.f a0).bind fun t564 => (if (l1.length : Int) = t564 then ((spec_l13Ask.f k a0 l1 a2 a3 a4).bind fun t565 => (some (t565, true))) else (some ((([] : List Int)), false)))) else (some ((([] : List Int)), false)))) else (some ((([] : List Int)), false)))) else (some ((([] : List Int)), false)))
set_option maxHeartbeats 8000000 in
set_option maxRecDepth 100000 in
theorem spec_QueryAsk.calls (k : Nat) (a0 : Int) (A1 : Option Addr) (c1 : Nat) (l1 : List Int) (a2 : Bool) (a3 : Int) (a4 : Int) (r1 : List Int) (r2 : Bool) (w : World) (hr1 : Kd.C (Kd.int .i64) w A1 l1.length l1) (hc1 : l1.length ≤ c1) (h : spec_QueryAsk.f k a0 l1 a2 a3 a4 = some (r1, r2)) :
  Calls Try.prog 69 #[.int .i64 a0, .slice A1 l1.length c1, .bool a2, .int .i64 a3, .int .i64 a4] w fun e w' => ∃ v0_ : Value, e = .returned (.tuple #[v0_, .bool r2]) ∧ Kd.R (Kd.int .i64) 3 w' w.heap.size (fun _ => True) v0_ r1 ∧ Below w.heap.size w w' := by
 have HR1 := Aside0.mk hr1
 have HC1 := Aside0.mk hc1
 clear hr1 hc1
 have HB := Aside0.mk (Below.refl w.heap.size w)
 have H := h
 unfold spec_QueryAsk.f at H
 clear h
 replace H := bnd H
 obtain ⟨t561, A6, H⟩ := H
 by_cases c7 : t561 = true
 ·subst c7
  rw [if_pos rfl] at H
  replace H := bnd H
  obtain ⟨t562, A8, H⟩ := H
  by_cases c9 : t562 = true
  ·subst c9
   rw [if_pos rfl] at H
   replace H := bnd H
   obtain ⟨t563, A10, H⟩ := H
   by_cases c11 : t563 = true
   ·subst c11
    rw [if_pos rfl] at H
    replace H := bnd H
    obtain ⟨t564, A12, H⟩ := H
    by_cases c13 : (l1.length : Int) = t564
    ·rw [if_pos c13] at H
     have c13b0 : ((l1.length : Int) == t564) = true := beq_iff_eq.mpr c13
     have c13b1 : ((l1.length : Int) != t564) = false := bne_eq_false_iff_eq.mpr c13
     clear c13
     replace H := bnd H
     obtain ⟨t565, A14, H⟩ := H
     simp only [Option.some.injEq, Prod.mk.injEq] at H
     obtain ⟨rfl, rfl⟩ := H
     go_enter Try.func69, Try.ntmps69
     go_wp2_with (first | (refine gsD c27x17 (spec_QueryMay.calls a0 a3 true _ A6.out) ?_; intro nd) | (go_at_call 108; (with_reducible refine (spec_FieldOk.calls a4 true _ A8.out).mono ?_); rintro e w' ⟨rfl, ⟨nd, rfl⟩⟩) | (go_at_call 94; (with_reducible refine (spec_ShareOk.calls k _ _ l1 true _ ?side1 ?side2 A10.out).mono ?_); (case side1 => exact HR1.out); (case side2 => exact HC1.out); rintro e w' ⟨rfl, ⟨nd, rfl⟩⟩) | (go_at_call 119; (with_reducible refine (spec_ProofLen.calls a0 t564 _ A12.out).mono ?_); rintro e w' ⟨rfl, ⟨nd, rfl⟩⟩) | ((with_reducible refine gate_callee (f := 120) rfl ?_); refine goesL_ (some 39) rfl rfl Try.func120 (by kernel_rfl) rfl #[.int .i64 a0, .slice A1 l1.length c1, .bool a2, .int .i64 a3, .int .i64 a4] rfl (by (try simp only [List.map_toArray, List.map_cons, List.map_nil]); first | done | rfl | (simp only [List.length_drop, List.length_take]; rfl)) ?_; (with_reducible refine (spec_l13Ask.calls k a0 _ _ l1 a2 a3 a4 t565 _ ?side1 ?side2 A14.out).mono ?_); (case side1 => exact HR1.out); (case side2 => exact HC1.out); rintro e w15 ⟨v566, rfl, ho0, hb⟩; refine ⟨_, rfl, ?_⟩; replace HO567 := Aside0.mk (Kd.R_lower ho0 (below_size (by repeat (with_reducible first | exact HB.out | apply below_alloc | apply pw_below_drewN | apply below_drew1)))); replace HB := Aside0.mk (below_step (by repeat (with_reducible first | exact HB.out | apply below_alloc | apply pw_below_drewN | apply below_drew1)) hb); clear hb ho0))
     go_ret2
     exact ⟨_, rfl, HO567.out, by repeat (with_reducible first | exact HB.out | apply below_alloc | apply pw_below_drewN | apply below_drew1)⟩
    ·rw [if_neg c13] at H
     have c13b0 : ((l1.length : Int) == t564) = false := beq_eq_false_iff_ne.mpr c13
     have c13b1 : ((l1.length : Int) != t564) = true := bne_iff_ne.mpr c13
     obtain ⟨y568, hy568⟩ : ∃ y_ : List Int, y_ = (([] : List Int)) := ⟨_, rfl⟩
     rw [← hy568] at H
     have Ny568 := Aside0.mk hy568
     clear hy568
     simp only [Option.some.injEq, Prod.mk.injEq] at H
     obtain ⟨rfl, rfl⟩ := H
     go_enter Try.func69, Try.ntmps69
     go_wp2_with (first | (refine gsD c27x17 (spec_QueryMay.calls a0 a3 true _ A6.out) ?_; intro nd) | (go_at_call 108; (with_reducible refine (spec_FieldOk.calls a4 true _ A8.out).mono ?_); rintro e w' ⟨rfl, ⟨nd, rfl⟩⟩) | (go_at_call 94; (with_reducible refine (spec_ShareOk.calls k _ _ l1 true _ ?side1 ?side2 A10.out).mono ?_); (case side1 => exact HR1.out); (case side2 => exact HC1.out); rintro e w' ⟨rfl, ⟨nd, rfl⟩⟩) | (go_at_call 119; (with_reducible refine (spec_ProofLen.calls a0 t564 _ A12.out).mono ?_); rintro e w' ⟨rfl, ⟨nd, rfl⟩⟩) | ((with_reducible refine gate_dst (N := 33) rfl ?_); (try (refine gate_guard (by rfl) ?_; dsimp only)); refine Kd.R_lit (Kd.int .i64) _ 3 ?hg (N := 33) ?hd (xs := ([] : List Int)) (inner := []) (ok := fun _ => True) (okp := fun _ => True) ?hr ?hp (fun _ hk => hk) trivial (Below.refl _ _) (Nat.le_refl _) (by simp) ?_; (case hd => rfl); (case hg => rfl); (case hr => first | (go_simp; done) | (go_simp; rfl)); (case hp => exact (Reps.none _ _)); intro v569 w16 ho17 hb hg_ hnew_; clear hg_ hnew_; (first | rw [← Ny568.out] at ho17 | (simp only [Int.reduceToNat] at ho17; rw [← Ny568.out] at ho17)); replace HO570 := Aside0.mk (Kd.R_lower ho17 (below_size (by repeat (with_reducible first | exact HB.out | apply below_alloc | apply pw_below_drewN | apply below_drew1)))); replace HB := Aside0.mk (below_step (by repeat (with_reducible first | exact HB.out | apply below_alloc | apply pw_below_drewN | apply below_drew1)) hb); clear hb ho17))
     go_ret2
     exact ⟨_, rfl, HO570.out, by repeat (with_reducible first | exact HB.out | apply below_alloc | apply pw_below_drewN | apply below_drew1)⟩
   ·replace c11 := Bool.eq_false_iff.mpr c11
    subst c11
    rw [if_neg (show ¬ (false = true) by decide)] at H
    obtain ⟨y571, hy571⟩ : ∃ y_ : List Int, y_ = (([] : List Int)) := ⟨_, rfl⟩
    rw [← hy571] at H
    have Ny571 := Aside0.mk hy571
    clear hy571
    simp only [Option.some.injEq, Prod.mk.injEq] at H
    obtain ⟨rfl, rfl⟩ := H
    go_enter Try.func69, Try.ntmps69
    go_wp2_with (first | (refine gsD c27x17 (spec_QueryMay.calls a0 a3 true _ A6.out) ?_; intro nd) | (go_at_call 108; (with_reducible refine (spec_FieldOk.calls a4 true _ A8.out).mono ?_); rintro e w' ⟨rfl, ⟨nd, rfl⟩⟩) | (go_at_call 94; (with_reducible refine (spec_ShareOk.calls k _ _ l1 false _ ?side1 ?side2 A10.out).mono ?_); (case side1 => exact HR1.out); (case side2 => exact HC1.out); rintro e w' ⟨rfl, ⟨nd, rfl⟩⟩) | ((with_reducible refine gate_dst (N := 33) rfl ?_); (try (refine gate_guard (by rfl) ?_; dsimp only)); refine Kd.R_lit (Kd.int .i64) _ 3 ?hg (N := 33) ?hd (xs := ([] : List Int)) (inner := []) (ok := fun _ => True) (okp := fun _ => True) ?hr ?hp (fun _ hk => hk) trivial (Below.refl _ _) (Nat.le_refl _) (by simp) ?_; (case hd => rfl); (case hg => rfl); (case hr => first | (go_simp; done) | (go_simp; rfl)); (case hp => exact (Reps.none _ _)); intro v572 w18 ho19 hb hg_ hnew_; clear hg_ hnew_; (first | rw [← Ny571.out] at ho19 | (simp only [Int.reduceToNat] at ho19; rw [← Ny571.out] at ho19)); replace HO573 := Aside0.mk (Kd.R_lower ho19 (below_size (by repeat (with_reducible first | exact HB.out | apply below_alloc | apply pw_below_drewN | apply below_drew1)))); replace HB := Aside0.mk (below_step (by repeat (with_reducible first | exact HB.out | apply below_alloc | apply pw_below_drewN | apply below_drew1)) hb); clear hb ho19))
    go_ret2
    exact ⟨_, rfl, HO573.out, by repeat (with_reducible first | exact HB.out | apply below_alloc | apply pw_below_drewN | apply below_drew1)⟩
  ·replace c9 := Bool.eq_false_iff.mpr c9
   subst c9
   rw [if_neg (show ¬ (false = true) by decide)] at H
   obtain ⟨y574, hy574⟩ : ∃ y_ : List Int, y_ = (([] : List Int)) := ⟨_, rfl⟩
   rw [← hy574] at H
   have Ny574 := Aside0.mk hy574
   clear hy574
   simp only [Option.some.injEq, Prod.mk.injEq] at H
   obtain ⟨rfl, rfl⟩ := H
   go_enter Try.func69, Try.ntmps69
   go_wp2_with (first | (refine gsD c27x17 (spec_QueryMay.calls a0 a3 true _ A6.out) ?_; intro nd) | (go_at_call 108; (with_reducible refine (spec_FieldOk.calls a4 false _ A8.out).mono ?_); rintro e w' ⟨rfl, ⟨nd, rfl⟩⟩) | ((with_reducible refine gate_dst (N := 33) rfl ?_); (try (refine gate_guard (by rfl) ?_; dsimp only)); refine Kd.R_lit (Kd.int .i64) _ 3 ?hg (N := 33) ?hd (xs := ([] : List Int)) (inner := []) (ok := fun _ => True) (okp := fun _ => True) ?hr ?hp (fun _ hk => hk) trivial (Below.refl _ _) (Nat.le_refl _) (by simp) ?_; (case hd => rfl); (case hg => rfl); (case hr => first | (go_simp; done) | (go_simp; rfl)); (case hp => exact (Reps.none _ _)); intro v575 w20 ho21 hb hg_ hnew_; clear hg_ hnew_; (first | rw [← Ny574.out] at ho21 | (simp only [Int.reduceToNat] at ho21; rw [← Ny574.out] at ho21)); replace HO576 := Aside0.mk (Kd.R_lower ho21 (below_size (by repeat (with_reducible first | exact HB.out | apply below_alloc | apply pw_below_drewN | apply below_drew1)))); replace HB := Aside0.mk (below_step (by repeat (with_reducible first | exact HB.out | apply below_alloc | apply pw_below_drewN | apply below_drew1)) hb); clear hb ho21))
   go_ret2
   exact ⟨_, rfl, HO576.out, by repeat (with_reducible first | exact HB.out | apply below_alloc | apply pw_below_drewN | apply below_drew1)⟩
 ·replace c7 := Bool.eq_false_iff.mpr c7
  subst c7
  rw [if_neg (show ¬ (false = true) by decide)] at H
  obtain ⟨y577, hy577⟩ : ∃ y_ : List Int, y_ = (([] : List Int)) := ⟨_, rfl⟩
  rw [← hy577] at H
  have Ny577 := Aside0.mk hy577
  clear hy577
  simp only [Option.some.injEq, Prod.mk.injEq] at H
  obtain ⟨rfl, rfl⟩ := H
  go_enter Try.func69, Try.ntmps69
  go_wp2_with (first | (refine gsD c27x17 (spec_QueryMay.calls a0 a3 false _ A6.out) ?_; intro nd) | ((with_reducible refine gate_dst (N := 33) rfl ?_); (try (refine gate_guard (by rfl) ?_; dsimp only)); refine Kd.R_lit (Kd.int .i64) _ 3 ?hg (N := 33) ?hd (xs := ([] : List Int)) (inner := []) (ok := fun _ => True) (okp := fun _ => True) ?hr ?hp (fun _ hk => hk) trivial (Below.refl _ _) (Nat.le_refl _) (by simp) ?_; (case hd => rfl); (case hg => rfl); (case hr => first | (go_simp; done) | (go_simp; rfl)); (case hp => exact (Reps.none _ _)); intro v578 w22 ho23 hb hg_ hnew_; clear hg_ hnew_; (first | rw [← Ny577.out] at ho23 | (simp only [Int.reduceToNat] at ho23; rw [← Ny577.out] at ho23)); replace HO579 := Aside0.mk (Kd.R_lower ho23 (below_size (by repeat (with_reducible first | exact HB.out | apply below_alloc | apply pw_below_drewN | apply below_drew1)))); replace HB := Aside0.mk (below_step (by repeat (with_reducible first | exact HB.out | apply below_alloc | apply pw_below_drewN | apply below_drew1)) hb); clear hb ho23))
  go_ret2
  exact ⟨_, rfl, HO579.out, by repeat (with_reducible first | exact HB.out | apply below_alloc | apply pw_below_drewN | apply below_drew1)⟩
end Go.Proofs.Ytplbobmllflniaa.Ea
