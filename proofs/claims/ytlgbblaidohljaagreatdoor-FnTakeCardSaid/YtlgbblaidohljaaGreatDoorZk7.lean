import Derived.Test.YtlgbblaidohljaaGreatDoorZ
import Derived.Test.YtlgbblaidohljaaGreatDoorZk0
import Derived.Test.YtlgbblaidohljaaGreatDoorZk6
namespace Go.Proofs.YtlgbblaidohljaaGreatDoor.Zk
open Go.RowKit Go.Proofs.YtlgbblaidohljaaGreatDoorT.PrintWords Go.Proofs.YtlgbblaidohljaaGreatDoorT.PrintLast Go.Proofs.YtlgbblaidohljaaGreatDoorT.PrintMore Go.Proofs.YtlgbblaidohljaaGreatDoor.Z
attribute [local go_sem] max2_int min2_int max_two min_two max_three min_three max_four min_four
set_option linter.unusedVariables false
set_option linter.unusedSimpArgs false
private theorem c88x1 : Ent Tryz.prog 88 := ent Tryz.func88 (by kernel_rfl) rfl
private theorem c29x1 : Ent Tryz.prog 29 := ent Tryz.func29 (by kernel_rfl) rfl
private theorem c95x2 : Ent Tryz.prog 95 := ent Tryz.func95 (by kernel_rfl) rfl
private theorem c93x3 : Ent Tryz.prog 93 := ent Tryz.func93 (by kernel_rfl) rfl
def impl_sized.f (a0 : Int) (l1 : List Int) (a2 : Int) : Option (Bool) := (impl_kindOk.f a0).bind fun t232 => (if t232 = true then (if (l1.length : Int) = a2 then ((impl_elementsOk.f l1 20).bind fun t233 => (some t233)) else (some false)) else (some false))
set_option maxHeartbeats 8000000 in
set_option maxRecDepth 100000 in
theorem impl_sized.calls (a0 : Int) (A1 : Option Addr) (c1 : Nat) (l1 : List Int) (a2 : Int) (r : Bool) (w : World) (hr1 : Kd.C (Kd.int .i64) w A1 l1.length l1) (hc1 : l1.length ≤ c1) (h : impl_sized.f a0 l1 a2 = some r) :
  Calls Tryz.prog 51 #[.int .i64 a0, .slice A1 l1.length c1, .int .i64 a2] w fun e w' => e = .returned (.bool r) ∧ Drawn0 w w' := by
 have HR1 := Aside0.mk hr1
 have HC1 := Aside0.mk hc1
 clear hr1 hc1
 have H := h
 unfold impl_sized.f at H
 clear h
 replace H := bnd H
 obtain ⟨t102, A4, H⟩ := H
 by_cases c5 : t102 = true
 ·subst c5
  rw [if_pos rfl] at H
  by_cases c6 : (l1.length : Int) = a2
  ·rw [if_pos c6] at H
   have c6b0 : ((l1.length : Int) == a2) = true := beq_iff_eq.mpr c6
   have c6b1 : ((l1.length : Int) != a2) = false := bne_eq_false_iff_eq.mpr c6
   clear c6
   replace H := bnd H
   obtain ⟨t103, A7, H⟩ := H
   obtain rfl := Option.some.inj H
   go_enter Tryz.func51, Tryz.ntmps51
   go_wp2_with (first | (refine gsD c88x1 (impl_kindOk.calls a0 true _ A4.out) ?_; intro nd) | (go_at_call 73; (with_reducible refine (impl_elementsOk.calls _ _ l1 20 t103 _ ?side1 ?side2 A7.out).mono ?_); (case side1 => exact HR1.out); (case side2 => exact HC1.out); rintro e w' ⟨rfl, ⟨nd, rfl⟩⟩))
   go_ret
   exact ⟨rfl, ⟨_, rfl⟩⟩
  ·rw [if_neg c6] at H
   have c6b0 : ((l1.length : Int) == a2) = false := beq_eq_false_iff_ne.mpr c6
   have c6b1 : ((l1.length : Int) != a2) = true := bne_iff_ne.mpr c6
   obtain rfl := Option.some.inj H
   go_enter Tryz.func51, Tryz.ntmps51
   go_wp2_with (first | (refine gsD c88x1 (impl_kindOk.calls a0 true _ A4.out) ?_; intro nd))
   go_ret
   exact ⟨rfl, ⟨_, rfl⟩⟩
 ·replace c5 := Bool.eq_false_iff.mpr c5
  subst c5
  rw [if_neg (show ¬ (false = true) by decide)] at H
  obtain rfl := Option.some.inj H
  go_enter Tryz.func51, Tryz.ntmps51
  go_wp2_with (first | (refine gsD c88x1 (impl_kindOk.calls a0 false _ A4.out) ?_; intro nd))
  go_ret
  exact ⟨rfl, ⟨_, rfl⟩⟩
def impl_ProofLen.f (a0 : Int) : Option (Int) := (impl_kindOk.f a0).bind fun t234 => (if t234 = true then ((impl_TypeLen.f a0).bind fun t235 => (some (wrap64 ((wrap64 (3 * t235)) + 3)))) else (some 0))
set_option maxHeartbeats 8000000 in
set_option maxRecDepth 100000 in
theorem impl_ProofLen.calls (a0 : Int) (r : Int) (w : World) (h : impl_ProofLen.f a0 = some r) :
  Calls Tryz.prog 52 #[.int .i64 a0] w fun e w' => e = .returned (.int .i64 r) ∧ Below w.heap.size w w' := by
 have HB := Aside0.mk (Below.refl w.heap.size w)
 have H := h
 unfold impl_ProofLen.f at H
 clear h
 replace H := bnd H
 obtain ⟨t104, A2, H⟩ := H
 by_cases c3 : t104 = true
 ·subst c3
  rw [if_pos rfl] at H
  replace H := bnd H
  obtain ⟨t105, A4, H⟩ := H
  obtain rfl := Option.some.inj H
  go_enter Tryz.func52, Tryz.ntmps52
  go_wp2_with (first | (refine gsD c88x1 (impl_kindOk.calls a0 true _ A2.out) ?_; intro nd) | (refine gsC c29x1 (impl_TypeLen.calls a0 t105 _ A4.out) ?_; rintro e w5 ⟨rfl, hb⟩; refine ⟨_, rfl, ?_⟩; replace HB := bnZ hb; clear hb))
  go_ret
  exact ⟨rfl, by repeat (with_reducible first | exact HB.out | apply below_alloc | apply pw_below_drewN | apply below_drew1)⟩
 ·replace c3 := Bool.eq_false_iff.mpr c3
  subst c3
  rw [if_neg (show ¬ (false = true) by decide)] at H
  obtain rfl := Option.some.inj H
  go_enter Tryz.func52, Tryz.ntmps52
  go_wp2_with (first | (refine gsD c88x1 (impl_kindOk.calls a0 false _ A2.out) ?_; intro nd))
  go_ret
  exact ⟨rfl, by repeat (with_reducible first | exact HB.out | apply below_alloc | apply pw_below_drewN | apply below_drew1)⟩
def impl_elementOf.f (a0 : Int) : Option (Int) := some (Int.tmod (wrap64 ((Int.tmod a0 31) + 31)) 31)
set_option maxHeartbeats 8000000 in
set_option maxRecDepth 100000 in
theorem impl_elementOf.calls (a0 : Int) (r : Int) (w : World) (h : impl_elementOf.f a0 = some r) :
  Calls Tryz.prog 95 #[.int .i64 a0] w fun e w' => e = .returned (.int .i64 r) ∧ Drawn0 w w' := by
 have H : (some (Int.tmod (wrap64 ((Int.tmod a0 31) + 31)) 31)) = some r := h
 clear h
 obtain rfl := Option.some.inj H
 go_enter Tryz.func95, Tryz.ntmps95
 go_wp2
 go_ret
 exact ⟨rfl, by repeat (first | exact Drawn0.refl _ | apply Drawn0.step)⟩
def impl_element_times.f (a0 : Int) (a1 : Int) : Option (Int) := (impl_elementOf.f (wrap64 (a0 * a1))).bind fun t236 => (some t236)
set_option maxHeartbeats 8000000 in
set_option maxRecDepth 100000 in
theorem impl_element_times.calls (a0 : Int) (a1 : Int) (r : Int) (w : World) (h : impl_element_times.f a0 a1 = some r) :
  Calls Tryz.prog 67 #[.int .i64 a0, .int .i64 a1] w fun e w' => e = .returned (.int .i64 r) ∧ Drawn0 w w' := by
 have H : ((impl_elementOf.f (wrap64 (a0 * a1))).bind fun t136 => (some t136)) = some r := h
 clear h
 replace H := bnd H
 obtain ⟨t136, A3, H⟩ := H
 obtain rfl := Option.some.inj H
 go_enter Tryz.func67, Tryz.ntmps67
 go_wp2_with (first | (refine gsD c95x2 (impl_elementOf.calls (wrap64 (a0 * a1)) t136 _ A3.out) ?_; intro nd))
 go_ret
 exact ⟨rfl, ⟨_, rfl⟩⟩
def impl_element_plus.f (a0 : Int) (a1 : Int) : Option (Int) := (impl_elementOf.f (wrap64 (a0 + a1))).bind fun t237 => (some t237)
set_option maxHeartbeats 8000000 in
set_option maxRecDepth 100000 in
theorem impl_element_plus.calls (a0 : Int) (a1 : Int) (r : Int) (w : World) (h : impl_element_plus.f a0 a1 = some r) :
  Calls Tryz.prog 70 #[.int .i64 a0, .int .i64 a1] w fun e w' => e = .returned (.int .i64 r) ∧ Drawn0 w w' := by
 have H : ((impl_elementOf.f (wrap64 (a0 + a1))).bind fun t137 => (some t137)) = some r := h
 clear h
 replace H := bnd H
 obtain ⟨t137, A3, H⟩ := H
 obtain rfl := Option.some.inj H
 go_enter Tryz.func70, Tryz.ntmps70
 go_wp2_with (first | (refine gsD c95x2 (impl_elementOf.calls (wrap64 (a0 + a1)) t137 _ A3.out) ?_; intro nd))
 go_ret
 exact ⟨rfl, ⟨_, rfl⟩⟩
def impl_element_minus.f (a0 : Int) (a1 : Int) : Option (Int) := (impl_elementOf.f (wrap64 (a0 - a1))).bind fun t238 => (some t238)
set_option maxHeartbeats 8000000 in
set_option maxRecDepth 100000 in
theorem impl_element_minus.calls (a0 : Int) (a1 : Int) (r : Int) (w : World) (h : impl_element_minus.f a0 a1 = some r) :
  Calls Tryz.prog 93 #[.int .i64 a0, .int .i64 a1] w fun e w' => e = .returned (.int .i64 r) ∧ Drawn0 w w' := by
 have H : ((impl_elementOf.f (wrap64 (a0 - a1))).bind fun t138 => (some t138)) = some r := h
 clear h
 replace H := bnd H
 obtain ⟨t138, A3, H⟩ := H
 obtain rfl := Option.some.inj H
 go_enter Tryz.func93, Tryz.ntmps93
 go_wp2_with (first | (refine gsD c95x2 (impl_elementOf.calls (wrap64 (a0 - a1)) t138 _ A3.out) ?_; intro nd))
 go_ret
 exact ⟨rfl, ⟨_, rfl⟩⟩
def impl_element_inverse.l0 : Nat → Int → Int → Int → Int → Option (Int)
  | 0, _, _, _, _ => none
  | k + 1, x3, x4, x5, x6 => if x4 = 0 then ((impl_elementOf.f x5).bind fun t239 => (some t239)) else (impl_element_inverse.l0 k x4 (wrap64 (x3 - (wrap64 ((wrap64 (Int.tdiv x3 x4)) * x4)))) x6 (wrap64 (x5 - (wrap64 ((wrap64 (Int.tdiv x3 x4)) * x6)))))
def impl_element_inverse.f (k : Nat) (a0 : Int) : Option (Int) := impl_element_inverse.l0 k 31 a0 0 1
set_option maxHeartbeats 1000000 in
set_option maxRecDepth 100000 in
theorem elementOf_quiet (a r : Int) (w : World) (h : impl_elementOf.f a = some r) : Calls Tryz.prog 95 #[.int .i64 a] w fun e w' => e = .returned (.int .i64 r) ∧ w' = w := by
 unfold impl_elementOf.f at h
 obtain rfl := Option.some.inj h
 clear h
 go_enter Tryz.func95, Tryz.ntmps95
 go_wp2
 go_ret
 exact ⟨rfl, rfl⟩
set_option maxHeartbeats 1000000 in
set_option maxRecDepth 100000 in
theorem minus_quiet (a b r : Int) (w : World) (h : impl_element_minus.f a b = some r) : Calls Tryz.prog 93 #[.int .i64 a, .int .i64 b] w fun e w' => e = .returned (.int .i64 r) ∧ w' = w := by
 unfold impl_element_minus.f at h
 obtain ⟨t, h1, h2⟩ := Option.bind_eq_some_iff.mp h
 obtain rfl := Option.some.inj h2
 have H1 := Aside0.mk h1
 clear h h1 h2
 go_enter Tryz.func93, Tryz.ntmps93
 go_wp2_with (go_at_call 95; (with_reducible refine (elementOf_quiet _ _ _ H1.out).mono ?_); rintro e w' ⟨rfl, rfl⟩)
 go_ret
 exact ⟨rfl, rfl⟩
set_option maxHeartbeats 1000000 in
set_option maxRecDepth 100000 in
theorem plus_quiet (a b r : Int) (w : World) (h : impl_element_plus.f a b = some r) : Calls Tryz.prog 70 #[.int .i64 a, .int .i64 b] w fun e w' => e = .returned (.int .i64 r) ∧ w' = w := by
 unfold impl_element_plus.f at h
 obtain ⟨t, h1, h2⟩ := Option.bind_eq_some_iff.mp h
 obtain rfl := Option.some.inj h2
 have H1 := Aside0.mk h1
 clear h h1 h2
 go_enter Tryz.func70, Tryz.ntmps70
 go_wp2_with (go_at_call 95; (with_reducible refine (elementOf_quiet _ _ _ H1.out).mono ?_); rintro e w' ⟨rfl, rfl⟩)
 go_ret
 exact ⟨rfl, rfl⟩
set_option maxHeartbeats 1000000 in
set_option maxRecDepth 100000 in
theorem times_quiet (a b r : Int) (w : World) (h : impl_element_times.f a b = some r) : Calls Tryz.prog 67 #[.int .i64 a, .int .i64 b] w fun e w' => e = .returned (.int .i64 r) ∧ w' = w := by
 unfold impl_element_times.f at h
 obtain ⟨t, h1, h2⟩ := Option.bind_eq_some_iff.mp h
 obtain rfl := Option.some.inj h2
 have H1 := Aside0.mk h1
 clear h h1 h2
 go_enter Tryz.func67, Tryz.ntmps67
 go_wp2_with (go_at_call 95; (with_reducible refine (elementOf_quiet _ _ _ H1.out).mono ?_); rintro e w' ⟨rfl, rfl⟩)
 go_ret
 exact ⟨rfl, rfl⟩
set_option maxHeartbeats 2000000 in
set_option maxRecDepth 100000 in
theorem inverse_quiet (k : Nat) (a0 r : Int) (w : World) (h : impl_element_inverse.f k a0 = some r) : Calls Tryz.prog 94 #[.int .i64 a0] w fun e w' => e = .returned (.int .i64 r) ∧ w' = w := by
 have H : (impl_element_inverse.l0 k 31 a0 0 1) = some r := h
 clear h
 have H' := Aside0.mk H
 clear H
 go_enter Tryz.func94, Tryz.ntmps94
 go_wp2
 go_loopg [3, 4, 5, 6] k (fun kq v3 v4 v5 v6 w' => ∃ (x3_1 : Int) (x4_1 : Int) (x5_1 : Int) (x6_1 : Int), v3 = .int .i64 x3_1 ∧ v4 = .int .i64 x4_1 ∧ v5 = .int .i64 x5_1 ∧ v6 = .int .i64 x6_1 ∧ Aside0 (impl_element_inverse.l0 kq x3_1 x4_1 x5_1 x6_1 = some r) ∧ Aside0 (kq ≤ k) ∧ w' = w)
 case atStart => exact ⟨(31), (a0), (0), (1), rfl, rfl, rfl, rfl, H', ⟨Nat.le_refl _⟩, rfl⟩
 case round =>
  clear H'
  obtain ⟨x3_1, x4_1, x5_1, x6_1, rfl, rfl, rfl, rfl, HA, HK1, rfl⟩ := hrel
  cases gk with
  | zero => exact absurd HA.out (by simp [impl_element_inverse.l0])
  | succ k1 =>
   have H := HA.out
   clear HA
   simp only [impl_element_inverse.l0] at H
   by_cases c2 : x4_1 = 0
   ·rw [if_pos c2] at H
    have c2b0 : (x4_1 == 0) = true := beq_iff_eq.mpr c2
    have c2b1 : (x4_1 != 0) = false := bne_eq_false_iff_eq.mpr c2
    clear c2
    replace H := bnd H
    obtain ⟨t194, A3, H⟩ := H
    obtain rfl := Option.some.inj H
    go_wp2_with (go_at_call 95; (with_reducible refine (elementOf_quiet _ _ _ A3.out).mono ?_); rintro e w' ⟨rfl, rfl⟩)
    go_ret
    exact ⟨rfl, rfl⟩
   ·rw [if_neg c2] at H
    have c2b0 : (x4_1 == 0) = false := beq_eq_false_iff_ne.mpr c2
    have c2b1 : (x4_1 != 0) = true := bne_iff_ne.mpr c2
    have H' := Aside0.mk H
    clear H
    go_wp2
    go_roundg k1
    case measure => have := HK1.out; omega
    case rel => exact ⟨(x4_1), (wrap64 (x3_1 - (wrap64 ((wrap64 (Int.tdiv x3_1 x4_1)) * x4_1)))), (x6_1), (wrap64 (x5_1 - (wrap64 ((wrap64 (Int.tdiv x3_1 x4_1)) * x6_1)))), rfl, rfl, rfl, rfl, H', ⟨by have := HK1.out; omega⟩, rfl⟩
def ePlus (a b : Int) : Int := (impl_element_plus.f a b).getD 0
def eMinus (a b : Int) : Int := (impl_element_minus.f a b).getD 0
def eTimes (a b : Int) : Int := (impl_element_times.f a b).getD 0
def eOf (a : Int) : Int := (impl_elementOf.f a).getD 0
def eInv (a : Int) : Int := (impl_element_inverse.f 20 a).getD 0
theorem eOf_f (a : Int) : impl_elementOf.f a = some (eOf a) := rfl
theorem ePlus_f (a b : Int) : impl_element_plus.f a b = some (ePlus a b) := rfl
theorem eMinus_f (a b : Int) : impl_element_minus.f a b = some (eMinus a b) := rfl
theorem eTimes_f (a b : Int) : impl_element_times.f a b = some (eTimes a b) := rfl
theorem eInv_f (a : Int) (h1 : 1 ≤ a) (h2 : a ≤ 8) : impl_element_inverse.f 20 a = some (eInv a) := by
 rcases (show a = 1 ∨ a = 2 ∨ a = 3 ∨ a = 4 ∨ a = 5 ∨ a = 6 ∨ a = 7 ∨ a = 8 by omega) with rfl | rfl | rfl | rfl | rfl | rfl | rfl | rfl <;> decide +kernel
def cellsD (D : List Int) : Array Value := (D.map (Value.int .i64)).toArray
theorem cellsD_get (D : List Int) (i : Nat) (h : i < D.length) : (cellsD D)[i]? = some (.int .i64 (rd D i)) := by
 simp [cellsD, h, rd]
theorem cellsD_set (D : List Int) (i : Nat) (v : Int) : (cellsD D).setIfInBounds i (.int .i64 v) = cellsD (D.set i v) := by
 simp [cellsD, List.map_set]
def fillD (l : List Int) : Nat → List Int
  | 0 => List.replicate 9 0
  | k + 1 => (fillD l k).set k (rd l k)
theorem fillD_length (l : List Int) (k : Nat) : (fillD l k).length = 9 := by
 induction k with
 | zero => rfl
 | succ k ih => simp [fillD, ih]
def dIn (s : Nat) : Nat → List Int → List Int
  | 0, D => D
  | m + 1, D => dIn s m (D.set (s + m) (eTimes (eMinus (rd D ((s + m : Nat) : Int)) (rd D ((s + m : Nat) - 1 : Int))) (eInv s)))
def dOut (n : Nat) : Nat → List Int → List Int
  | 0, D => D
  | q + 1, D => dOut n q (dIn (n - (q + 1)) (q + 1) D)
def oStep (i : Int) (m : Nat) (o : List Int) : Int := if 0 < m then ePlus (eTimes (rd o m) (eOf (wrap64 (-i)))) (rd o ((m : Int) - 1)) else eTimes (rd o m) (eOf (wrap64 (-i)))
def oIn (i : Int) : Nat → List Int → List Int
  | 0, o => o
  | m + 1, o => oIn i m (o.set m (oStep i m o))
def oOut (D : List Int) (n : Nat) : Nat → List Int → List Int
  | 0, o => o
  | m + 1, o => oOut D n m ((oIn m n o).set 0 (ePlus (rd (oIn m n o) 0) (rd D m)))
theorem dIn_length (s m : Nat) (D : List Int) : (dIn s m D).length = D.length := by
 induction m generalizing D with
 | zero => rfl
 | succ m ih => simp [dIn, ih]
theorem dOut_length (n q : Nat) (D : List Int) : (dOut n q D).length = D.length := by
 induction q generalizing D with
 | zero => rfl
 | succ q ih => simp [dOut, ih, dIn_length]
def diffs (l : List Int) : List Int := dOut l.length (l.length - 1) (fillD l l.length)
def impl_through.f (l0 : List Int) : Option (List Int) := if 1 ≤ l0.length ∧ l0.length ≤ 9 then some (oOut (diffs l0) l0.length l0.length (List.replicate l0.length 0)) else none
set_option maxHeartbeats 4000000 in
set_option maxRecDepth 100000 in
theorem impl_through.calls (A0 : Option Addr) (c0 : Nat) (l0 : List Int) (r : List Int) (w : World) (hr0 : Kd.C (Kd.int .i64) w A0 l0.length l0) (hc0 : l0.length ≤ c0) (h : impl_through.f l0 = some r) :
  Calls Tryz.prog 56 #[.slice A0 l0.length c0] w fun e w' => ∃ v0_ : Value, e = .returned (v0_) ∧ Kd.R (Kd.int .i64) 3 w' w.heap.size (fun _ => True) v0_ r ∧ Below w.heap.size w w' := by
 unfold impl_through.f at h
 by_cases hn : 1 ≤ l0.length ∧ l0.length ≤ 9
 case neg => rw [if_neg hn] at h; cases h
 rw [if_pos hn] at h
 obtain rfl := Option.some.inj h
 obtain ⟨hn1, hn9⟩ := hn
 clear h
 have HR0 := Aside0.mk hr0
 have HC0 := Aside0.mk hc0
 have HN1 := Aside0.mk hn1
 have HN9 := Aside0.mk hn9
 clear hr0 hc0 hn1 hn9
 go_enter Tryz.func56, Tryz.ntmps56
 go_wp2
 go_loopw [14] (fun i wr => ∃ k : Nat, k ≤ l0.length ∧ i = .int .i64 k ∧ Aside0 (wr.heap[w.heap.size]? = some (.cells (cellsD (fillD l0 k)) 107 (0, 0))) ∧ Aside0 (Below w.heap.size w wr)) (fun i _ => ((l0.length : Int) - intOf i).toNat)
 case atStart => exact ⟨0, by omega, rfl, ⟨blk_new w _⟩, ⟨below_alloc (Below.refl _ _) _⟩⟩
 case round =>
  obtain ⟨k, hk, rfl, HD, HB⟩ := hrel
  by_cases hlt : k < l0.length
  ·have hlt' : (k : Int) < (l0.length : Int) := by omega
   obtain ⟨ad, e0, hx0⟩ := Kd.at_int HR0.out (k : Int) (by omega) hlt'
   cases e0
   replace hx0 := (HB.out.cell (World.block_lt_of_cell? w _ hx0)).trans hx0
   have hy0 : wr.cell? (ad.add k) = some (.int .i64 (rd l0 k)) := hx0
   clear hx0
   have h9 : (k : Int) < 9 := by have := HN9.out; omega
   have h9' : k < 9 := by have := HN9.out; omega
   have hc : wr.cell? ⟨w.heap.size, k, none⟩ = some (.int .i64 (rd (fillD l0 k) k)) := (blk_cell HD.out k).trans (cellsD_get _ _ (by rw [fillD_length]; exact h9'))
   have hf : wr.frozen? ⟨w.heap.size, k, none⟩ = false := blk_frozen HD.out k
   go_wp2
   go_roundw
   case rel => exact ⟨k + 1, by omega, by first | rfl | go_num, ⟨blk_put HD.out k _ (cellsD_set _ _ _)⟩, ⟨below_set HB.out (Nat.le_refl _)⟩⟩
   case measure => simp [intOf]; omega
  ·obtain rfl : k = l0.length := by omega
   have hnl : ¬ ((l0.length : Int) < (l0.length : Int)) := by omega
   go_wp2
   have h9 := HN9.out
   have h1 := HN1.out
   clear hnl hk
   go_loopw [6] (fun i wr => ∃ (s q : Nat) (D : List Int), s + q = l0.length ∧ 1 ≤ s ∧ i = .int .i64 s ∧ Aside0 (dOut l0.length q D = diffs l0) ∧ Aside0 (D.length = 9) ∧ Aside0 (wr.heap[w.heap.size]? = some (.cells (cellsD D) 107 (0, 0))) ∧ Aside0 (Below w.heap.size w wr)) (fun i _ => ((l0.length : Int) - intOf i).toNat)
   case atStart => exact ⟨1, l0.length - 1, _, by omega, by omega, rfl, ⟨rfl⟩, ⟨fillD_length _ _⟩, HD, HB⟩
   case round =>
    clear HD HB
    obtain ⟨s, q, D, hsq, hs1, rfl, HT, HL, HD, HB⟩ := hrel
    cases q with
    | zero =>
     have hnl : ¬ ((s : Int) < (l0.length : Int)) := by omega
     have hDD : Aside0 (D = diffs l0) := ⟨HT.out⟩
     have hsz : w.heap.size + 1 ≤ wr.heap.size := blk_lt HD.out
     have h0n : (0 : Int) ≤ (l0.length : Int) := by omega
     go_wp2_with ((with_reducible refine gate_dst (N := 52) rfl ?_); (try (refine gate_guard (by rfl) ?_; dsimp only)); refine Kd.R_make (Kd.int .i64) _ 3 rfl (N := 52) rfl 22 _ _ rfl (l0.length : Int) rfl rfl Tryz.underlying22 (.int .i64 0) 8 info3 rfl (by decide) (by omega) 0 (ok := fun _ => True) (okp := fun _ => True) rfl (fun _ hk => hk) trivial h0n (by simp; omega) (Below.refl _ _) (Nat.le_refl _) ?_; intro v8 w9 ho hb hg_ hnew_; clear hg_ hnew_; have HO := Aside0.mk (Kd.R_lower ho hsz); have HD9 := Aside0.mk (blk_below HD.out hb); have HB9 := Aside0.mk (below_step HB.out hb); clear ho hb HD HB)
     have hlr : (List.replicate (l0.length : Int).toNat (0 : Int)).length = l0.length := by simp
     have hO9 := HO.out
     clear HO
     rw [show (l0.length : Int).toNat = l0.length from rfl] at hO9
     obtain ⟨g, cp, eo, gb, gl, cl, HG⟩ := Kd.R_form hO9 (by simp; omega)
     clear gl cl HG
     rw [List.length_replicate] at eo
     subst eo
     have hg : g ≠ w.heap.size := by omega
     have HO := Aside0.mk hO9
     clear hO9 hlr
     have hT : Aside0 (oOut (diffs l0) l0.length l0.length (List.replicate l0.length 0) = oOut (diffs l0) l0.length l0.length (List.replicate l0.length 0)) := ⟨rfl⟩
     rw [hDD.out] at HD9
     clear HT HL hDD
     have hdl : Aside0 ((diffs l0).length = 9) := ⟨by unfold diffs; rw [dOut_length, fillD_length]⟩
     go_loopw [9] (fun i wr => ∃ (m : Nat) (o : List Int), m ≤ l0.length ∧ i = .int .i64 ((m : Int) - 1) ∧ Aside0 (oOut (diffs l0) l0.length m o = oOut (diffs l0) l0.length l0.length (List.replicate l0.length 0)) ∧ Aside0 (o.length = l0.length) ∧ Aside0 (Kd.R (Kd.int .i64) 3 wr (w.heap.size + 1) (fun _ => True) (.slice (some ⟨g, 0, none⟩) l0.length cp) o) ∧ Aside0 (wr.heap[w.heap.size]? = some (.cells (cellsD (diffs l0)) 107 (0, 0))) ∧ Aside0 (Below w.heap.size w wr)) (fun i _ => (intOf i + 1).toNat)
     case atStart => exact ⟨l0.length, _, Nat.le_refl _, rfl, ⟨rfl⟩, ⟨by simp⟩, HO, HD9, HB9⟩
     case round =>
      clear HO HD9 HB9 hT
      obtain ⟨m, o, hm, hi, HT, HL, HO, HD, HB⟩ := hrel
      cases m with
      | zero =>
       have hge : ¬ ((0 : Int) ≤ -1) := by omega
       rw [show ((0 : Nat) : Int) - 1 = -1 by omega] at hi
       subst hi
       go_wp2
       go_ret
       exact ⟨_, rfl, by rw [← HT.out]; exact Kd.R_mono (Kd.R_lower HO.out (by omega)) (fun _ h => h), HB.out⟩
      | succ m =>
       rw [show ((m + 1 : Nat) : Int) - 1 = (m : Int) by omega] at hi
       subst hi
       have hge : (0 : Int) ≤ (m : Int) := by omega
       go_wp2
       go_loopw [10] (fun i wr => ∃ (p : Nat) (o2 : List Int), p ≤ l0.length ∧ i = .int .i64 ((p : Int) - 1) ∧ Aside0 (oIn (m : Int) p o2 = oIn (m : Int) l0.length o) ∧ Aside0 (o2.length = l0.length) ∧ Aside0 (Kd.R (Kd.int .i64) 3 wr (w.heap.size + 1) (fun _ => True) (.slice (some ⟨g, 0, none⟩) l0.length cp) o2) ∧ Aside0 (wr.heap[w.heap.size]? = some (.cells (cellsD (diffs l0)) 107 (0, 0))) ∧ Aside0 (Below w.heap.size w wr)) (fun i _ => (intOf i + 1).toNat)
       case atStart => exact ⟨l0.length, o, Nat.le_refl _, rfl, ⟨rfl⟩, HL, HO, HD, HB⟩
       case round =>
        clear HO HD HB
        obtain ⟨p, o2, hp, hi, HT5, HL5, HO, HD, HB⟩ := hrel
        cases p with
        | zero =>
         have hge2 : ¬ ((0 : Int) ≤ -1) := by omega
         rw [show ((0 : Nat) : Int) - 1 = -1 by omega] at hi
         subst hi
         have hcf := Kd.R_celln 0 HO.out 0 (by omega) (by omega)
         have hc1 : wr.cell? ⟨g, 0, none⟩ = some (.int .i64 (rd o2 0)) := hcf.1
         have hf1 : wr.frozen? ⟨g, 0, none⟩ = false := hcf.2
         have hcd : wr.cell? ⟨w.heap.size, m, none⟩ = some (.int .i64 (rd (diffs l0) (m : Int))) := (blk_cell HD.out _).trans (cellsD_get _ _ (by have := hdl.out; omega))
         have hm9 : (m : Int) < 9 := by omega
         have hn0 : (0 : Int) < (l0.length : Int) := by omega
         have hn0' : 0 < l0.length := by omega
         clear hcf
         go_wp2
         go_still_tail 8, (by kernel_rfl)
         repeat (first | still_step | still_call (plus_quiet _ _ _ _ (ePlus_f _ _)))
         refine wpStill_nil ?_
         change wpList _ _ _ _ _ wr.drew
         have hcell : wr.drew.cell? ⟨g, 0, none⟩ = some (.int .i64 (rd o2 0)) := hc1
         have hfro : wr.drew.frozen? ⟨g, 0, none⟩ = false := hf1
         have HO2 := Aside0.mk (Kd.R_drew HO.out)
         have HD2 : Aside0 (wr.drew.heap[w.heap.size]? = some (.cells (cellsD (diffs l0)) 107 (0, 0))) := ⟨HD.out⟩
         have HB2 : Aside0 (Below w.heap.size w wr.drew) := ⟨below_drew HB.out⟩
         generalize hW : wr.drew = w2 at hcell hfro HD2 HB2 HO2
         clear hW hc1 hf1 hcd HD HB HO
         go_wp2
         go_roundw
         case rel => exact ⟨m, o2.set 0 (ePlus (rd o2 0) (rd (diffs l0) (m : Int))), by omega, by first | rfl | (congr 1; omega) | go_num, ⟨by rw [← HT.out, oOut, ← HT5.out]; rfl⟩, ⟨by rw [List.length_set]; exact HL5.out⟩, ⟨Kd.R_putn HO2.out 0 _⟩, ⟨blk_far HD2.out (p := ⟨g, 0, none⟩) hg.symm _⟩, ⟨below_set HB2.out (by omega)⟩⟩
         case measure => simp [intOf]
        | succ p =>
         obtain ⟨k, hk⟩ : ∃ k : Nat, p = k := ⟨_, rfl⟩
         rw [show ((p + 1 : Nat) : Int) - 1 = (k : Int) by omega] at hi
         subst hi
         have hge2 : (0 : Int) ≤ (k : Int) := by omega
         have hkn : (k : Int) < (l0.length : Int) := by omega
         have hkn2 : k < l0.length := by omega
         have hcf := Kd.R_celln 0 HO.out (k : Int) (by omega) (by omega)
         have hc1 : wr.cell? ⟨g, k, none⟩ = some (.int .i64 (rd o2 (k : Int))) := hcf.1
         have hf1 : wr.frozen? ⟨g, k, none⟩ = false := hcf.2
         obtain ⟨ng, hng⟩ : ∃ x : Int, -(m : Int) = x := ⟨_, rfl⟩
         have hwn : IntKind.i64.wrap ng = ng := by rw [i64_w]; unfold wrap64; omega
         have hwn2 : wrap64 ng = ng := by unfold wrap64; omega
         clear hcf
         go_wp2
         go_quiet (first | (go_at_call 95; (with_reducible refine (impl_elementOf.calls _ _ _ (eOf_f _)).mono ?_); rintro e w' ⟨rfl, ⟨nd, rfl⟩⟩; (try first | exact ⟨rfl, _, World.drewN_drewN _ _ _⟩ | exact ⟨rfl, _, Eq.trans (World.drewN_drewN _ _ _) (congrArg (World.drewN _) (Nat.add_assoc _ _ _))⟩)) | (go_at_call 67; (with_reducible refine (impl_element_times.calls _ _ _ _ (eTimes_f _ _)).mono ?_); rintro e w' ⟨rfl, ⟨nd, rfl⟩⟩; (try first | exact ⟨rfl, _, World.drewN_drewN _ _ _⟩ | exact ⟨rfl, _, Eq.trans (World.drewN_drewN _ _ _) (congrArg (World.drewN _) (Nat.add_assoc _ _ _))⟩)))
         have hcell : (wr.drewN nq).cell? ⟨g, k, none⟩ = some (.int .i64 (rd o2 (k : Int))) := hc1
         have hfro : (wr.drewN nq).frozen? ⟨g, k, none⟩ = false := hf1
         have HO2 := Aside0.mk (Kd.R_drewN HO.out nq)
         have HD2 : Aside0 ((wr.drewN nq).heap[w.heap.size]? = some (.cells (cellsD (diffs l0)) 107 (0, 0))) := ⟨HD.out⟩
         have HB2 : Aside0 (Below w.heap.size w (wr.drewN nq)) := ⟨pw_below_drewN HB.out nq⟩
         generalize hW : wr.drewN nq = w2 at hcell hfro HD2 HB2 HO2 ⊢
         clear hW hc1 hf1 HD HB HO
         by_cases hk0 : 0 < k
         ·have hk0' : (0 : Int) < (k : Int) := by omega
          obtain ⟨j, hj⟩ : ∃ j : Int, (k : Int) - 1 = j := ⟨_, rfl⟩
          have j0 : 0 ≤ j := by omega
          have jn : j < (l0.length : Int) := by omega
          have hw : IntKind.i64.wrap j = j := by rw [i64_w]; unfold wrap64; omega
          have hcj : w2.cell? ⟨g, j.toNat, none⟩ = some (.int .i64 (rd o2 j)) := (Kd.R_celln 0 HO2.out j j0 jn).1
          go_wp2_with (go_at_call 70; (with_reducible refine (plus_quiet _ _ _ _ (ePlus_f _ _)).mono ?_); rintro e w' ⟨rfl, rfl⟩)
          go_roundw
          case rel => exact ⟨k, o2.set k (ePlus (eTimes (rd o2 (k : Int)) (eOf ng)) (rd o2 j)), by omega, by first | (congr 1; omega) | go_num, ⟨by rw [← HT5.out, hk, oIn, oStep, if_pos hk0, hng, hwn2, hj]⟩, ⟨by rw [List.length_set]; exact HL5.out⟩, ⟨Kd.R_putn HO2.out (k : Int) _⟩, ⟨blk_far HD2.out (p := ⟨g, k, none⟩) hg.symm _⟩, ⟨below_set HB2.out (by omega)⟩⟩
          case measure => simp [intOf]; omega
         ·have hk0' : ¬ ((0 : Int) < (k : Int)) := by omega
          go_wp2
          go_roundw
          case rel => exact ⟨k, o2.set k (eTimes (rd o2 (k : Int)) (eOf ng)), by omega, by first | (congr 1; omega) | go_num, ⟨by rw [← HT5.out, hk, oIn, oStep, if_neg hk0, hng, hwn2]⟩, ⟨by rw [List.length_set]; exact HL5.out⟩, ⟨Kd.R_putn HO2.out (k : Int) _⟩, ⟨blk_far HD2.out (p := ⟨g, k, none⟩) hg.symm _⟩, ⟨below_set HB2.out (by omega)⟩⟩
          case measure => simp [intOf]
    | succ q =>
     have hlt : (s : Int) < (l0.length : Int) := by omega
     go_wp2
     go_loopw [7] (fun i wr => ∃ (m : Nat) (E : List Int), m ≤ q + 1 ∧ i = .int .i64 ((s : Int) + m - 1) ∧ Aside0 (dIn s m E = dIn s (q + 1) D) ∧ Aside0 (E.length = 9) ∧ Aside0 (wr.heap[w.heap.size]? = some (.cells (cellsD E) 107 (0, 0))) ∧ Aside0 (Below w.heap.size w wr)) (fun i _ => (intOf i + 1 - s).toNat)
     case atStart => exact ⟨q + 1, D, by omega, by congr 1; omega, ⟨rfl⟩, HL, HD, HB⟩
     case round =>
      clear HD HB
      obtain ⟨m, E, hm, hi, HT3, HL3, HD, HB⟩ := hrel
      cases m with
      | zero =>
       have hge : ¬ ((s : Int) ≤ (s : Int) - 1) := by omega
       rw [show (s : Int) + ((0 : Nat) : Int) - 1 = (s : Int) - 1 by omega] at hi
       subst hi
       go_wp2
       go_roundw
       case rel => exact ⟨s + 1, q, E, by omega, by omega, by first | rfl | go_num, ⟨by rw [← HT.out, dOut, show l0.length - (q + 1) = s by omega, ← HT3.out]; rfl⟩, HL3, HD, HB⟩
       case measure => simp [intOf]; omega
      | succ m =>
       obtain ⟨t, ht⟩ : ∃ t : Nat, s + m = t := ⟨_, rfl⟩
       rw [show (s : Int) + ((m + 1 : Nat) : Int) - 1 = (t : Int) by omega] at hi
       subst hi
       have hge : (s : Int) ≤ (t : Int) := by omega
       have hL := HL3.out
       have i9 : (t : Int) < 9 := by omega
       have i9' : t < 9 := by omega
       obtain ⟨j, hj⟩ : ∃ j : Int, (t : Int) - 1 = j := ⟨_, rfl⟩
       have j0 : 0 ≤ j := by omega
       have j9 : j < 9 := by omega
       have hc1 : wr.cell? ⟨w.heap.size, t, none⟩ = some (.int .i64 (rd E (t : Int))) := (blk_cell HD.out _).trans (cellsD_get _ _ (by omega))
       have hc2 : wr.cell? ⟨w.heap.size, j.toNat, none⟩ = some (.int .i64 (rd E j)) := by
        have := (blk_cell HD.out j.toNat).trans (cellsD_get E j.toNat (by omega))
        rwa [show ((j.toNat : Nat) : Int) = j by omega] at this
       have hf : wr.frozen? ⟨w.heap.size, t, none⟩ = false := blk_frozen HD.out _
       have hw : IntKind.i64.wrap j = j := by rw [i64_w]; unfold wrap64; omega
       go_wp2
       go_still_tail 12, (by kernel_rfl)
       repeat (first | (rw [hw]) | still_step | still_call (minus_quiet _ _ _ _ (eMinus_f _ _)) | still_call (inverse_quiet 20 _ _ _ (eInv_f _ (by omega) (by omega))) | still_call (times_quiet _ _ _ _ (eTimes_f _ _)))
       refine wpStill_nil ?_
       change wpList _ _ _ _ _ wr.drew
       have hcell : wr.drew.cell? ⟨w.heap.size, t, none⟩ = some (.int .i64 (rd E (t : Int))) := hc1
       have hfro : wr.drew.frozen? ⟨w.heap.size, t, none⟩ = false := hf
       have HD2 : Aside0 (wr.drew.heap[w.heap.size]? = some (.cells (cellsD E) 107 (0, 0))) := ⟨HD.out⟩
       have HB2 : Aside0 (Below w.heap.size w wr.drew) := ⟨below_drew HB.out⟩
       generalize hW : wr.drew = w2 at hcell hfro HD2 HB2
       clear hW hc1 hc2 hf HD HB
       go_wp2
       go_roundw
       case rel => exact ⟨m, E.set t (eTimes (eMinus (rd E (t : Int)) (rd E j)) (eInv s)), by omega, by first | (congr 1; omega) | go_num, ⟨by rw [← HT3.out, dIn, ht, hj]⟩, ⟨by rw [List.length_set]; exact hL⟩, ⟨blk_put HD2.out t _ (cellsD_set _ _ _)⟩, ⟨below_set HB2.out (Nat.le_refl _)⟩⟩
       case measure => simp [intOf]; omega
def impl_ahead.f (a0 : Int) (l1 : List Int) : Option (List Int) := (some (([a0] : List Int) : List Int)).bind fun y240 => (if y240.length + l1.length < 17592186044416 then (some (y240 ++ l1)) else (none))
set_option maxHeartbeats 8000000 in
set_option maxRecDepth 100000 in
theorem impl_ahead.calls (a0 : Int) (A1 : Option Addr) (c1 : Nat) (l1 : List Int) (r : List Int) (w : World) (hr1 : Kd.C (Kd.int .i64) w A1 l1.length l1) (hc1 : l1.length ≤ c1) (h : impl_ahead.f a0 l1 = some r) :
  Calls Tryz.prog 57 #[.int .i64 a0, .slice A1 l1.length c1] w fun e w' => ∃ v0_ : Value, e = .returned (v0_) ∧ Kd.R (Kd.int .i64) 3 w' w.heap.size (fun _ => True) v0_ r ∧ Below w.heap.size w w' := by
 have HR1 := Aside0.mk hr1
 have HC1 := Aside0.mk hc1
 clear hr1 hc1
 have HB := Aside0.mk (Below.refl w.heap.size w)
 have H := h
 unfold impl_ahead.f at H
 clear h
 replace H := bndS H
 obtain ⟨y140, Ny140, H⟩ := H
 by_cases c3 : y140.length + l1.length < 17592186044416
 ·rw [if_pos c3] at H
  have LMc3 := Aside0.mk c3
  clear c3
  replace H := bndS H
  obtain ⟨y143, Ny143, H⟩ := H
  obtain rfl := Option.some.inj H
  go_enter Tryz.func57, Tryz.ntmps57
  go_wp2_with (first | ((with_reducible refine gate_dst (N := 6) rfl ?_); refine Kd.R_lit (Kd.int .i64) _ 3 ?hg (N := 6) ?hd (xs := ([a0] : List Int)) (inner := [.int .i64 a0]) (ok := fun _ => True) (okp := fun _ => True) ?hr ?hp (fun _ hk => hk) trivial (Below.refl _ _) (Nat.le_refl _) (by simp) ?_; (case hd => rfl); (case hg => rfl); (case hr => first | (go_simp; done) | (go_simp; rfl)); (case hp => exact (Reps.one (show Kd.M (Kd.int .i64) _ _ _ a0 [.int .i64 a0] from rfl) (Reps.none _ _))); intro v141 w4 ho5 hb hg_ hnew_; clear hg_ hnew_; (first | rw [← Ny140.out] at ho5 | (simp only [Int.reduceToNat] at ho5; rw [← Ny140.out] at ho5)); replace HO142 := Aside0.mk (Kd.R_lower ho5 bsZ); replace HB := bnZ hb; clear hb ho5) | ((with_reducible refine gate_builtin (b := .append) (xs := #[.tmp 6, .tmp 7]) rfl ?_); at_builtin; refine Kd.R_append_rows (Kd.int .i64) (w0 := w) w.heap.size rfl (.tmp 6) (.tmp 7) 22 3 (.int .i64 0) 8 rfl Tryz.underlying22 info3 rfl (by decide) (by omega) v141 y140 l1 _ _ _ (fun _ => True) (fun _ => False) rfl rfl ?aO ?aR (fun _ _ h => h) (fun _ h => h.elim) ?aF ?aB ?aS ?aL ?_; (case aR => exact (Kd.C_below HR1.out HB.out)); (case aB => exact bZ); (case aF => exact (fun _ _ => trivial)); (case aO => exact (HO142.out)); (case aS => exact bsZ); (case aL => have := LMc3.out; omega); intro v144 w6 ho hb hg hat; rw [← Ny143.out] at ho; replace HB := Aside0.mk (hb); replace HO145 := Aside0.mk (ho); clear HO142; clear ho hb hg hat))
  go_ret
  exact ⟨_, rfl, HO145.out, by repeat (with_reducible first | exact HB.out | apply below_alloc | apply pw_below_drewN | apply below_drew1)⟩
 ·rw [if_neg c3] at H
  exact absurd H (by simp)
def impl_lowered.l0 : Nat → Int → List Int → List Int → Int → Int → Option (List Int)
  | 0, _, _, _, _, _ => none
  | k + 1, x1, x5, x11, x12, x13 => if x13 < x12 then (if 0 ≤ x13 then (if x13 < (x11.length : Int) then ((impl_element_minus.f (rd x11 x13) x1).bind fun t250 => (if x5.length < 17592186044416 then (impl_lowered.l0 k x1 (x5 ++ [t250]) x11 x12 (wrap64 (x13 + 1))) else (none))) else (none)) else (none)) else (some x5)
def impl_lowered.f (k : Nat) (l0 : List Int) (a1 : Int) : Option (List Int) := if 0 ≤ (l0.length : Int) then (if ((l0.length : Int) : Int).toNat ≤ 35184372088832 then (impl_lowered.l0 k a1 (([] : List Int)) l0 (l0.length : Int) 0) else (none)) else (none)
set_option maxHeartbeats 8000000 in
set_option maxRecDepth 100000 in
theorem impl_lowered.calls (k : Nat) (A0 : Option Addr) (c0 : Nat) (l0 : List Int) (a1 : Int) (r : List Int) (w : World) (hr0 : Kd.C (Kd.int .i64) w A0 l0.length l0) (hc0 : l0.length ≤ c0) (h : impl_lowered.f k l0 a1 = some r) :
  Calls Tryz.prog 58 #[.slice A0 l0.length c0, .int .i64 a1] w fun e w' => ∃ v0_ : Value, e = .returned (v0_) ∧ Kd.R (Kd.int .i64) 3 w' w.heap.size (fun _ => True) v0_ r ∧ Below w.heap.size w w' := by
 have HR0 := Aside0.mk hr0
 have HC0 := Aside0.mk hc0
 clear hr0 hc0
 have HB := Aside0.mk (Below.refl w.heap.size w)
 have H := h
 unfold impl_lowered.f at H
 clear h
 by_cases c3 : 0 ≤ (l0.length : Int)
 ·rw [if_pos c3] at H
  have c3b0 := eq_true c3
  have c3b1 : decide (0 ≤ (l0.length : Int)) = true := decide_eq_true c3
  clear c3
  by_cases c4 : ((l0.length : Int) : Int).toNat ≤ 35184372088832
  ·rw [if_pos c4] at H
   have c4b0 := eq_true c4
   have c4b1 : decide (((l0.length : Int) : Int).toNat ≤ 35184372088832) = true := decide_eq_true c4
   clear c4
   obtain ⟨y146, hy146⟩ : ∃ y_ : List Int, y_ = (([] : List Int)) := ⟨_, rfl⟩
   rw [← hy146] at H
   have Ny146 := Aside0.mk hy146
   clear hy146
   have H' := Aside0.mk H
   clear H
   go_enter Tryz.func58, Tryz.ntmps58
   go_wp2_with (first | ((with_reducible refine gate_dst (N := 10) rfl ?_); refine Kd.R_make0 (Kd.int .i64) _ 3 rfl (N := 10) rfl 22 _ _ rfl (l0.length : Int) rfl rfl Tryz.underlying22 (.int .i64 0) 8 info3 rfl (by decide) (by omega) 0 (ok := fun _ => True) (okp := fun _ => True) rfl (fun _ hk => hk) trivial (of_decide_eq_true ‹_›) (Nat.le_trans (Nat.mul_le_mul_right _ (of_decide_eq_true ‹_› : (l0.length : Int).toNat ≤ 35184372088832)) (by omega)) (Below.refl _ _) (Nat.le_refl _) ?_; intro v147 w5 ho6 hb hg_ hnew_; clear hg_ hnew_; (first | rw [← Ny146.out] at ho6 | (simp only [Int.reduceToNat] at ho6; rw [← Ny146.out] at ho6)); replace HO148 := Aside0.mk (Kd.R_lower ho6 bsZ); replace HB := bnZ hb; clear hb ho6))
   go_loopg [5, 13] k (fun kq v5 v13 w' => ∃ (x5_1 : List Int) (x13_1 : Int), v13 = .int .i64 x13_1 ∧ Aside0 (impl_lowered.l0 kq a1 x5_1 l0 (l0.length : Int) x13_1 = some r) ∧ Aside0 (kq ≤ k) ∧ Aside0 (Kd.R (Kd.int .i64) 3 w' w.heap.size (fun _ => True) v5 x5_1) ∧ Aside0 (Below w.heap.size w w'))
   case atStart => exact ⟨(y146), (0), rfl, H', ⟨Nat.le_refl _⟩, ⟨HO148.out⟩, ⟨by repeat (with_reducible first | exact HB.out | apply below_alloc | apply pw_below_drewN | apply below_drew1)⟩⟩
   case round =>
    clear H'
    try clear p2
    try clear c3
    try clear c3b0
    try clear c3b1
    try clear c4
    try clear c4b0
    try clear c4b1
    try clear c5
    obtain ⟨x5_1, x13_1, rfl, HA, HK1, HO_5, HB⟩ := hrel
    cases gk with
    | zero => exact absurd HA.out (by simp [impl_lowered.l0])
    | succ k1 =>
     have H := HA.out
     clear HA
     simp only [impl_lowered.l0] at H
     by_cases c7 : x13_1 < (l0.length : Int)
     ·rw [if_pos c7] at H
      have c7b0 : decide (x13_1 < (l0.length : Int)) = true := decide_eq_true c7
      clear c7
      by_cases c8 : 0 ≤ x13_1
      ·rw [if_pos c8] at H
       have c8b0 : decide (0 ≤ x13_1) = true := decide_eq_true c8
       clear c8
       by_cases c9 : x13_1 < (l0.length : Int)
       ·rw [if_pos c9] at H
        have c9b0 : decide (x13_1 < (l0.length : Int)) = true := decide_eq_true c9
        clear c9
        replace H := bnd H
        obtain ⟨t150, A10, H⟩ := H
        by_cases c11 : x5_1.length < 17592186044416
        ·rw [if_pos c11] at H
         have LMc11 := Aside0.mk c11
         clear c11
         obtain ⟨y151, hy151⟩ : ∃ y_ : List Int, y_ = (x5_1 ++ [t150]) := ⟨_, rfl⟩
         rw [← hy151] at H
         have Ny151 := Aside0.mk hy151
         clear hy151
         have H' := Aside0.mk H
         clear H
         have p149 : 0 ≤ (x13_1 : Int) := of_decide_eq_true ‹_›
         have q149 : x13_1 < (l0.length : Int) := of_decide_eq_true ‹_›
         obtain ⟨ad149, e149, hx149_0⟩ := Kd.at_int HR0.out x13_1 p149 q149
         cases e149
         replace hx149_0 := (HB.out.cell (World.block_lt_of_cell? w _ hx149_0)).trans hx149_0
         replace p149 := eq_true p149
         replace q149 := eq_true q149
         go_wp2_with (first | (refine gsD c93x3 (impl_element_minus.calls (rd l0 x13_1) a1 t150 _ A10.out) ?_; intro nd) | ((with_reducible refine gate_builtin (b := .append) (xs := #[.tmp 17, .tmp 21]) rfl ?_); at_builtin; refine Kd.R_append (Kd.int .i64) (w0 := w) w.heap.size rfl (.tmp 17) (.tmp 21) 22 3 (.int .i64 0) 8 rfl Tryz.underlying22 info3 rfl (by decide) (by omega) u5 x5_1 t150 [.int .i64 t150] (fun _ => True) (fun _ => False) rfl rfl ?aP (fun _ hk => hk.elim) ?aF ?aO ?aB ?aS ?aL ?_; (case aP => exact rfl); (case aB => exact bZ); (case aF => exact (fun _ _ => trivial)); (case aO => exact (HO_5.out)); (case aS => exact bsZ); (case aL => have := LMc11.out; omega); intro v152 w12 ho hb hg hat; rw [← Ny151.out] at ho; replace HB := Aside0.mk (hb); replace HO153 := Aside0.mk (ho); clear HO_5; clear ho hb hg hat))
         go_roundg k1
         case measure => have := HK1.out; omega
         case rel => exact ⟨(y151), (wrap64 (x13_1 + 1)), rfl, H', ⟨by have := HK1.out; omega⟩, ⟨HO153.out⟩, ⟨by repeat (with_reducible first | exact HB.out | apply below_alloc | apply pw_below_drewN | apply below_drew1)⟩⟩
        ·rw [if_neg c11] at H
         exact absurd H (by simp)
       ·rw [if_neg c9] at H
        exact absurd H (by simp)
      ·rw [if_neg c8] at H
       exact absurd H (by simp)
     ·rw [if_neg c7] at H
      have c7b0 : decide (x13_1 < (l0.length : Int)) = false := decide_eq_false c7
      clear c7
      obtain rfl := Option.some.inj H
      go_wp2
      go_ret
      exact ⟨_, rfl, HO_5.out, by repeat (with_reducible first | exact HB.out | apply below_alloc | apply pw_below_drewN | apply below_drew1)⟩
  ·rw [if_neg c4] at H
   exact absurd H (by simp)
 ·rw [if_neg c3] at H
  exact absurd H (by simp)
def slices_Clip_int_int.f (l0 : List Int) : Option (List Int) := some l0
theorem slices_Clip_int_int.some_ (ad : Addr) (n c : Nat) (h : n ≤ c) (w : World) : Calls Tryz.prog 62 #[.slice (some ad) n c] w fun e w' => e = .returned (.slice (some ad) n n) ∧ w' = w := by
 have h1 : (n : Int) ≤ (c : Int) := by omega
 have h2 : (0 : Int) ≤ (n : Int) := by omega
 go_enter Tryz.func62, Tryz.ntmps62
 go_wp2
 go_ret
 exact ⟨by first | rfl | (simp; done), rfl⟩
theorem slices_Clip_int_int.none_ (c : Nat) (w : World) : Calls Tryz.prog 62 #[.slice none 0 c] w fun e w' => e = .returned (.slice none 0 0) ∧ w' = w := by
 have h1 : (0 : Int) ≤ (c : Int) := by omega
 go_enter Tryz.func62, Tryz.ntmps62
 go_wp2
 go_ret
 exact ⟨by first | rfl | (simp; done), rfl⟩
theorem slices_Clip_int_int.calls (P0_ : Nat → Prop) (A0 : Option Addr) (c0 : Nat) (l0 : List Int) (r : List Int) (w : World) (hs0 : Kd.V (Kd.int .i64) 3 w w.heap.size (fun k_ => P0_ k_) (.slice A0 l0.length c0) l0) (h : slices_Clip_int_int.f l0 = some r) :
  Calls Tryz.prog 62 #[.slice A0 l0.length c0] w fun e w' => ∃ v0_ : Value, e = .returned (v0_) ∧ Kd.V (Kd.int .i64) 3 w' w.heap.size (fun k_ => (P0_ k_ ∨ w.heap.size ≤ k_)) v0_ r ∧ Below w.heap.size w w' := by
 obtain rfl := Option.some.inj h
 obtain ⟨_, hle, hF⟩ := Kd.V_at hs0
 cases A0 with
 | none =>
  have h0 : l0 = [] := by
   rcases l0 with _ | ⟨x, l⟩
   ·rfl
   ·obtain ⟨ad, e, _⟩ := Kd.at_int (Kd.F_now hF) 0 (by omega) (by simp <;> omega)
    cases e
  subst h0
  refine (slices_Clip_int_int.none_ c0 w).mono ?_
  rintro e w' ⟨rfl, rfl⟩
  exact ⟨_, rfl, Kd.V_mono (Kd.V_nil _ _ _ _ _) (fun _ hk => hk), Below.refl _ _⟩
 | some ad =>
  refine (slices_Clip_int_int.some_ ad l0.length c0 hle w).mono ?_
  rintro e w' ⟨rfl, rfl⟩
  exact ⟨_, rfl, Kd.V_mk (Nat.le_refl _) (Kd.F_mono hF (fun _ hk => .inl hk)), Below.refl _ _⟩
def slices_Clone_int_int.f (l0 : List Int) : Option (List Int) := if l0.length < 17592186044416 then some l0 else none
set_option maxHeartbeats 1000000 in
set_option maxRecDepth 100000 in
theorem slices_Clone_int_int.calls (A0 : Option Addr) (c0 : Nat) (l0 : List Int) (r : List Int) (w : World) (hr0 : Kd.C (Kd.int .i64) w A0 l0.length l0) (hc0 : l0.length ≤ c0) (h : slices_Clone_int_int.f l0 = some r) :
  Calls Tryz.prog 100 #[.slice A0 l0.length c0] w fun e w' => ∃ v0_ : Value, e = .returned (v0_) ∧ Kd.R (Kd.int .i64) 3 w' w.heap.size (fun _ => True) v0_ r ∧ Below w.heap.size w w' := by
 unfold slices_Clone_int_int.f at h
 by_cases hl : l0.length < 17592186044416
 case neg => rw [if_neg hl] at h; cases h
 rw [if_pos hl] at h
 obtain rfl := Option.some.inj h
 clear h
 have HR0 := Aside0.mk hr0
 have HL := Aside0.mk hl
 have HB := Aside0.mk (Below.refl w.heap.size w)
 clear hr0
 cases A0 with
 | none =>
  have h0 : l0 = [] := by
   rcases l0 with _ | ⟨x, l⟩
   ·rfl
   ·obtain ⟨ad, e, _⟩ := Kd.at_int HR0.out 0 (by omega) (by simp <;> omega)
    cases e
  subst h0
  have he : ∀ w : World, (binOp .eql 22 (.slice none ([] : List Int).length c0) (.slice none 0 0)).run Tryz.prog w = .ok (.bool true) w := fun _ => rfl
  simp only [List.length_nil] at he ⊢
  go_enter Tryz.func100, Tryz.ntmps100
  go_wp2
  go_ret
  exact ⟨_, rfl, Kd.R_nil _ _ _ _ _, HB.out⟩
 | some ad =>
  have he : ∀ w : World, (binOp .eql 22 (.slice (some ad) l0.length c0) (.slice none 0 0)).run Tryz.prog w = .ok (.bool false) w := fun _ => rfl
  go_enter Tryz.func100, Tryz.ntmps100
  go_wp2_with (first | ((with_reducible refine gate_dst (N := 5) rfl ?_); refine Kd.R_lit (Kd.int .i64) _ 3 ?hg (N := 5) ?hd (xs := ([] : List Int)) (inner := []) (ok := fun _ => True) (okp := fun _ => True) ?hr ?hp (fun _ hk => hk) trivial (Below.refl _ _) (Nat.le_refl _) (by simp) ?_; (case hd => rfl); (case hg => rfl); (case hr => first | (go_simp; done) | (go_simp; rfl)); (case hp => exact (Reps.none _ _)); intro v224 w4 ho5 hb hg_ hnew_; clear hg_ hnew_; replace HO225 := Aside0.mk (Kd.R_lower ho5 (Nat.le_refl _)); replace HB := Aside0.mk (below_step HB.out hb); clear hb ho5) | ((with_reducible refine gate_builtin (b := .append) (xs := #[.tmp 5, .tmp 6]) rfl ?_); at_builtin; refine Kd.R_append_rows (Kd.int .i64) (w0 := w) w.heap.size rfl (.tmp 5) (.tmp 6) 22 3 (.int .i64 0) 8 rfl Tryz.underlying22 info3 rfl (by decide) (by omega) v224 ([] : List Int) l0 _ _ _ (fun _ => True) (fun _ => False) rfl rfl ?aO ?aR (fun _ _ h => h) (fun _ h => h.elim) ?aF ?aB ?aS ?aL ?_; (case aR => exact (Kd.C_below HR0.out HB.out)); (case aB => exact HB.out); (case aF => exact (fun _ _ => trivial)); (case aO => exact HO225.out); (case aS => exact (below_size HB.out)); (case aL => have := HL.out; simp; omega); intro v227 w6 ho hb hg hat; replace HB := Aside0.mk (hb); replace HO228 := Aside0.mk (ho); clear HO225; clear ho hb hg hat))
  go_ret
  exact ⟨_, rfl, by simpa using HO228.out, HB.out⟩
end Go.Proofs.YtlgbblaidohljaaGreatDoor.Zk
