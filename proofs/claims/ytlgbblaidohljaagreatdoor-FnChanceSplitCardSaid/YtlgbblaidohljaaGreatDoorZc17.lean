import Derived.Test.YtlgbblaidohljaaGreatDoorZ
import Derived.Test.YtlgbblaidohljaaGreatDoorZc0
import Derived.Test.YtlgbblaidohljaaGreatDoorZc1
import Derived.Test.YtlgbblaidohljaaGreatDoorZc9
import Derived.Test.YtlgbblaidohljaaGreatDoorZc15
import Derived.Test.YtlgbblaidohljaaGreatDoorZc16
namespace Go.Proofs.YtlgbblaidohljaaGreatDoor.Zc
open Go.RowKit Go.Proofs.YtlgbblaidohljaaGreatDoorU.PrintWords Go.Proofs.YtlgbblaidohljaaGreatDoorU.PrintLast Go.Proofs.YtlgbblaidohljaaGreatDoorU.PrintMore Go.Proofs.YtlgbblaidohljaaGreatDoor.Z
attribute [local go_sem] max2_int min2_int max_two min_two max_three min_three max_four min_four
set_option linter.unusedVariables false
set_option linter.unusedSimpArgs false
theorem c29x17 : Ent Tryz.prog 29 := ent Tryz.func29 (by kernel_rfl) rfl
theorem c38x17 : Ent Tryz.prog 38 := ent Tryz.func38 (by kernel_rfl) rfl
theorem c52x17 : Ent Tryz.prog 52 := ent Tryz.func52 (by kernel_rfl) rfl
mutual
def impl_QueryChance.l0 : Nat → Int → List Int → Int → Int → Option (Int)
 | 0, _, _, _, _ => none
 | k + 1, x0, x1, x5, x6 => if x6 < 31 then (impl_QueryChance.l1 k x0 x1 x5 x6 0) else (some x5)
def impl_QueryChance.l1 : Nat → Int → List Int → Int → Int → Int → Option (Int)
 | 0, _, _, _, _, _ => none
 | k + 1, x0, x1, x5, x6, x21 => if x21 < 31 then ((impl_ask.f k x0 x1 true x6 x21).bind fun t477 => (if 4 ≤ 35184372088832 then ((impl_QueryDecide.f t477 (List.replicate 4 0)).bind fun t483 => (if t483 = true then (impl_QueryChance.l1 k x0 x1 (wrap64 (x5 + 1)) x6 (wrap64 (x21 + 1))) else (impl_QueryChance.l1 k x0 x1 x5 x6 (wrap64 (x21 + 1))))) else (none))) else (impl_QueryChance.l0 k x0 x1 x5 (wrap64 (x6 + 1)))
end
def impl_QueryChance.f (k : Nat) (a0 : Int) (l1 : List Int) : Option (Int) := (impl_ProofLen.f a0).bind fun t474 => ((impl_sized.f a0 l1 t474).bind fun t475 => (if t475 = true then ((impl_TypeLen.f a0).bind fun t476 => (impl_QueryChance.l0 k a0 l1 0 (wrap64 (t476 + 1)))) else (some (-1))))
set_option maxHeartbeats 8000000 in
set_option maxRecDepth 100000 in
theorem impl_QueryChance.calls (k : Nat) (a0 : Int) (A1 : Option Addr) (c1 : Nat) (l1 : List Int) (r : Int) (w : World) (hr1 : Kd.C (Kd.int .i64) w A1 l1.length l1) (hc1 : l1.length ≤ c1) (h : impl_QueryChance.f k a0 l1 = some r) :
  Calls Tryz.prog 27 #[.int .i64 a0, .slice A1 l1.length c1] w fun e w' => e = .returned (.int .i64 r) ∧ Below w.heap.size w w' := by
 have HR1 := Aside0.mk hr1
 have HC1 := Aside0.mk hc1
 clear hr1 hc1
 have HB := Aside0.mk (Below.refl w.heap.size w)
 have H := h
 unfold impl_QueryChance.f at H
 clear h
 replace H := bnd H
 obtain ⟨t474, A3, H⟩ := H
 replace H := bnd H
 obtain ⟨t475, A4, H⟩ := H
 go_enter Tryz.func27, Tryz.ntmps27
 by_cases c5 : t475 = true
 ·subst c5
  rw [if_pos rfl] at H
  replace H := bnd H
  obtain ⟨t476, A6, H⟩ := H
  have H' := Aside0.mk H
  clear H
  go_wp2_with (first | (refine gsC c52x17 (impl_ProofLen.calls a0 t474 _ A3.out) ?_; rintro e w7 ⟨rfl, hb⟩; refine ⟨_, rfl, ?_⟩; replace HB := Aside0.mk (below_step (by repeat (with_reducible first | exact HB.out | apply below_alloc | apply pw_below_drewN | apply below_drew1)) hb); clear hb) | ((with_reducible refine gate_callee (f := 51) rfl ?_); refine goesL_ (some 12) rfl rfl Tryz.func51 (by kernel_rfl) rfl #[.int .i64 a0, .slice A1 l1.length c1, .int .i64 t474] rfl (by (try simp only [List.map_toArray, List.map_cons, List.map_nil]); first | done | rfl | (simp only [List.length_drop, List.length_take]; rfl)) ?_; (with_reducible refine (impl_sized.calls a0 _ _ l1 t474 true _ ?side1 ?side2 A4.out).mono ?_); (case side1 => exact (Kd.C_below HR1.out HB.out)); (case side2 => exact HC1.out); rintro e w' ⟨rfl, ⟨nd, rfl⟩⟩; refine ⟨_, rfl, ?_⟩) | (refine gsC c29x17 (impl_TypeLen.calls a0 t476 _ A6.out) ?_; rintro e w8 ⟨rfl, hb⟩; refine ⟨_, rfl, ?_⟩; replace HB := Aside0.mk (below_step (by repeat (with_reducible first | exact HB.out | apply below_alloc | apply pw_below_drewN | apply below_drew1)) hb); clear hb))
  go_loopg [5, 6] k (fun kq v5 v6 w' => ∃ (x5_1 : Int) (x6_1 : Int), v5 = .int .i64 x5_1 ∧ v6 = .int .i64 x6_1 ∧ Aside0 (impl_QueryChance.l0 kq a0 l1 x5_1 x6_1 = some r) ∧ Aside0 (kq ≤ k) ∧ Aside0 (Below w.heap.size w w'))
  case atStart => exact ⟨(0), (wrap64 (t476 + 1)), rfl, rfl, H', ⟨Nat.le_refl _⟩, ⟨by repeat (with_reducible first | exact HB.out | apply below_alloc | apply pw_below_drewN | apply below_drew1)⟩⟩
  case round =>
   clear H'
   try clear c1
   try clear c2
   try clear p2
   try clear c5
   try clear p6
   obtain ⟨x5_1, x6_1, rfl, rfl, HA, HK1, HB⟩ := hrel
   cases gk with
   | zero => exact absurd HA.out (by simp [impl_QueryChance.l0])
   | succ k1 =>
    have H := HA.out
    clear HA
    simp only [impl_QueryChance.l0] at H
    by_cases c9 : x6_1 < 31
    ·rw [if_pos c9] at H
     have c9b0 : decide (x6_1 < 31) = true := decide_eq_true c9
     clear c9
     have H' := Aside0.mk H
     clear H
     go_wp2
     go_loopg [5, 21] k1 (fun kq v5 v21 w' => ∃ (x5_2 : Int) (x21_2 : Int), v5 = .int .i64 x5_2 ∧ v21 = .int .i64 x21_2 ∧ Aside0 (impl_QueryChance.l1 kq a0 l1 x5_2 x6_1 x21_2 = some r) ∧ Aside0 (kq ≤ k1) ∧ Aside0 (Below w.heap.size w w'))
     case atStart => exact ⟨(x5_1), (0), rfl, rfl, H', ⟨Nat.le_refl _⟩, ⟨by repeat (with_reducible first | exact HB.out | apply below_alloc | apply pw_below_drewN | apply below_drew1)⟩⟩
     case round =>
      clear H'
      try clear c1
      try clear c2
      try clear p2
      try clear c5
      try clear p6
      try clear c9
      try clear c9b0
      try clear p2
      try clear p6
      obtain ⟨x5_2, x21_2, rfl, rfl, HA, HK2, HB⟩ := hrel
      cases gk with
      | zero => exact absurd HA.out (by simp [impl_QueryChance.l1])
      | succ k2 =>
       have H := HA.out
       clear HA
       simp only [impl_QueryChance.l1] at H
       by_cases c10 : x21_2 < 31
       ·rw [if_pos c10] at H
        have c10b0 : decide (x21_2 < 31) = true := decide_eq_true c10
        clear c10
        replace H := bnd H
        obtain ⟨t477, A11, H⟩ := H
        by_cases c12 : 4 ≤ 35184372088832
        ·rw [if_pos c12] at H
         have c12b0 := eq_true c12
         have c12b1 : decide (4 ≤ 35184372088832) = true := decide_eq_true c12
         clear c12
         obtain ⟨y480, hy480⟩ : ∃ y_ : List Int, y_ = (List.replicate 4 0) := ⟨_, rfl⟩
         rw [← hy480] at H
         have Ny480 := Aside0.mk hy480
         clear hy480
         replace H := bnd H
         obtain ⟨t483, A13, H⟩ := H
         try go_wp2
         replace HB := Aside0.mk (below_drew1 HB.out)
         refine start_ (n := 7) (S := fun w' => True) (ds := []) (bs 7 0) (by kernel_rfl) rfl rfl trivial (fun hHeld => ?_)
         generalize wr.drew = w15 at HB hHeld ⊢
         refine pZ 0 (some 24) (bs 7 1) rfl rfl (by kernel_rfl) ?_
         refine pZ 1 (some 25) (bs 7 3) rfl rfl (by kernel_rfl) ?_
         refine pZ 2 (some 26) (bs 7 7) rfl rfl (by kernel_rfl) ?_
         refine pZ 3 (some 27) (bs 7 15) rfl rfl (by kernel_rfl) ?_
         refine join_ (σ := Value × Value) 1 (bs 7 63) (fun s_ => [(28, s_.1), (29, s_.2)]) (fun s_ w' => (Kd.R (Kd.int .i64) 3 w' w.heap.size (fun k_ => some k_ ≠ (s_.2 : Value).ownBlock) s_.1 t477) ∧ (Kd.R (Kd.int .i64) 3 w' w.heap.size (fun k_ => some k_ ≠ (s_.1 : Value).ownBlock) s_.2 y480) ∧ (Below w.heap.size w w')) ?_ ?_
         rotate_left
         ·intro hCont
          refine two_ (i := 4) (j := 5) (Ni := some 28) (Nj := some 29) (bs 7 31) (bs 7 47) rfl rfl rfl rfl (by kernel_rfl) (by decide) (by decide) (fun K hK => ?_) (fun K hK => ?_)
          ·skip
           refine goes_ Tryz.func53 (by kernel_rfl) rfl #[.int .i64 a0, .slice A1 l1.length c1, .bool true, .int .i64 x6_1, .int .i64 x21_2] (by rfl) rfl rfl (by (try simp only [List.map_toArray, List.map_cons, List.map_nil]); first | done | rfl | (simp only [List.length_drop, List.length_take]; rfl)) ?_
           with_reducible refine (impl_ask.calls k2 a0 _ _ l1 true x6_1 x21_2 t477 _ ?side1 ?side2 A11.out).mono ?_
           (case side1 => exact (Kd.C_below HR1.out HB.out))
           (case side2 => exact HC1.out)
           rintro e w16 ⟨v478, rfl, ho0, hb⟩
           refine ⟨_, rfl, ?_⟩
           replace HO479 := Aside0.mk (Kd.R_lower ho0 (below_size (by repeat (with_reducible first | exact HB.out | apply below_alloc | apply pw_below_drewN | apply below_drew1))))
           replace HB := Aside0.mk (below_step (by repeat (with_reducible first | exact HB.out | apply below_alloc | apply pw_below_drewN | apply below_drew1)) hb)
           (try clear hb)
           (try clear hb2)
           (try clear hk)
           (try clear hi)
           (try clear ho0)
           refine hK.out _ _ trivial (fun hHeld => ?_)
           clear hK K
           refine norm_ (a' := ?_) ?_ ?_
           rotate_left
           ·show Act.put _ (some 28) _ = _
            simp only [Act.put, List.setIfInBounds_toArray, List.set_cons_zero, List.set_cons_succ, i64_w, i32_w]
            rfl
           refine one_ (i := 5) (N := some 29) (bs 7 63) rfl rfl (by kernel_rfl) (by decide) (fun K hK => ?_)
           refine Kd.R_make_step (Kd.int .i64) _ 3 (by rfl) (N := 29) rfl 22 _ _ rfl 4 rfl rfl Tryz.underlying22 (.int .i64 0) 8 info3 rfl (by decide) (by omega) 0 (ok := fun _ => True) (okp := fun _ => True) rfl (fun _ hk => hk) trivial (by omega) (by omega) (Below.refl _ _) (Nat.le_refl _) ?_
           intro v481 w17 ho18 hb hg_ hnew_
           clear hg_ hnew_
           (first | rw [← Ny480.out] at ho18 | (simp only [Int.reduceToNat] at ho18; rw [← Ny480.out] at ho18))
           replace HO482 := Aside0.mk (Kd.R_lower (Kd.R_new' ho18 (Kd.R_lt (HO479.out))) (below_size (by repeat (with_reducible first | exact HB.out | apply below_alloc | apply pw_below_drewN | apply below_drew1))))
           replace HO479 := Aside0.mk (Kd.R_elder' (HO479.out) (Kd.R_base ho18) hb)
           replace HB := Aside0.mk (below_step (by repeat (with_reducible first | exact HB.out | apply below_alloc | apply pw_below_drewN | apply below_drew1)) hb)
           clear hb ho18
           refine hK.out _ _ trivial (fun hHeld => ?_)
           clear hK K
           refine norm_ (a' := ?_) ?_ ?_
           rotate_left
           ·show Act.put _ (some 29) _ = _
            simp only [Act.put, List.setIfInBounds_toArray, List.set_cons_zero, List.set_cons_succ, i64_w, i32_w]
            rfl
           exact norm_ (by simp only [putAll, Act.put, List.setIfInBounds_toArray, List.set_cons_zero, List.set_cons_succ]) (hCont (v478, v481) _ ⟨(Kd.R_mono HO479.out (fun _ hk => hk.2)), (Kd.R_mono HO482.out (fun _ hk => hk.2)), (by repeat (with_reducible first | exact HB.out | apply below_alloc | apply pw_below_drewN | apply below_drew1))⟩)
          ·skip
           refine Kd.R_make_step (Kd.int .i64) _ 3 (by rfl) (N := 29) rfl 22 _ _ rfl 4 rfl rfl Tryz.underlying22 (.int .i64 0) 8 info3 rfl (by decide) (by omega) 0 (ok := fun _ => True) (okp := fun _ => True) rfl (fun _ hk => hk) trivial (by omega) (by omega) (Below.refl _ _) (Nat.le_refl _) ?_
           intro v481 w16 ho17 hb hg_ hnew_
           clear hg_ hnew_
           (first | rw [← Ny480.out] at ho17 | (simp only [Int.reduceToNat] at ho17; rw [← Ny480.out] at ho17))
           replace HO482 := Aside0.mk (Kd.R_lower ho17 (below_size (by repeat (with_reducible first | exact HB.out | apply below_alloc | apply pw_below_drewN | apply below_drew1))))
           replace HB := Aside0.mk (below_step (by repeat (with_reducible first | exact HB.out | apply below_alloc | apply pw_below_drewN | apply below_drew1)) hb)
           clear hb ho17
           refine hK.out _ _ trivial (fun hHeld => ?_)
           clear hK K
           refine norm_ (a' := ?_) ?_ ?_
           rotate_left
           ·show Act.put _ (some 29) _ = _
            simp only [Act.put, List.setIfInBounds_toArray, List.set_cons_zero, List.set_cons_succ, i64_w, i32_w]
            rfl
           refine one_ (i := 4) (N := some 28) (bs 7 63) rfl rfl (by kernel_rfl) (by decide) (fun K hK => ?_)
           refine goes_ Tryz.func53 (by kernel_rfl) rfl #[.int .i64 a0, .slice A1 l1.length c1, .bool true, .int .i64 x6_1, .int .i64 x21_2] (by rfl) rfl rfl (by (try simp only [List.map_toArray, List.map_cons, List.map_nil]); first | done | rfl | (simp only [List.length_drop, List.length_take]; rfl)) ?_
           with_reducible refine (impl_ask.calls k2 a0 _ _ l1 true x6_1 x21_2 t477 _ ?side1 ?side2 A11.out).mono ?_
           (case side1 => exact (Kd.C_below HR1.out HB.out))
           (case side2 => exact HC1.out)
           rintro e w18 ⟨v478, rfl, ho0, hb⟩
           refine ⟨_, rfl, ?_⟩
           replace HO479 := Aside0.mk (Kd.R_lower (Kd.R_new' ho0 (Kd.R_lt (HO482.out))) (below_size (by repeat (with_reducible first | exact HB.out | apply below_alloc | apply pw_below_drewN | apply below_drew1))))
           replace HO482 := Aside0.mk (Kd.R_elder' (HO482.out) (Kd.R_base ho0) hb)
           replace HB := Aside0.mk (below_step (by repeat (with_reducible first | exact HB.out | apply below_alloc | apply pw_below_drewN | apply below_drew1)) hb)
           (try clear hb)
           (try clear hb2)
           (try clear hk)
           (try clear hi)
           (try clear ho0)
           refine hK.out _ _ trivial (fun hHeld => ?_)
           clear hK K
           refine norm_ (a' := ?_) ?_ ?_
           rotate_left
           ·show Act.put _ (some 28) _ = _
            simp only [Act.put, List.setIfInBounds_toArray, List.set_cons_zero, List.set_cons_succ, i64_w, i32_w]
            rfl
           exact norm_ (by simp only [putAll, Act.put, List.setIfInBounds_toArray, List.set_cons_zero, List.set_cons_succ]) (hCont (v478, v481) _ ⟨(Kd.R_mono HO479.out (fun _ hk => hk.2)), (Kd.R_mono HO482.out (fun _ hk => hk.2)), (by repeat (with_reducible first | exact HB.out | apply below_alloc | apply pw_below_drewN | apply below_drew1))⟩)
         rintro ⟨v478, v481⟩ w19 ⟨h0_, h1_, h2_⟩
         have n0_ : Aside0 (Kd.R (Kd.int .i64) 3 w19 w.heap.size (fun k_ => some k_ ≠ (v481 : Value).ownBlock) v478 t477) := ⟨h0_⟩
         have n1_ : Aside0 (Kd.R (Kd.int .i64) 3 w19 w.heap.size (fun k_ => some k_ ≠ (v478 : Value).ownBlock) v481 y480) := ⟨h1_⟩
         have n2_ : Aside0 (Below w.heap.size w w19) := ⟨h2_⟩
         clear HB
         clear h0_ h1_ h2_
         have HO479 := n0_
         have HO482 := n1_
         have HB := n2_
         clear n0_ n1_ n2_
         have hHeld := trivial
         obtain ⟨Ao20, co20, eo20⟩ := Kd.R_slice HO479.out
         (first | subst eo20 | (injection eo20 with f1_ f2_ f3_; have f4_ := f1_.symm; have f5_ := f3_.symm; clear f1_ f2_ f3_; subst f4_; subst f5_))
         obtain ⟨Ao21, co21, eo21⟩ := Kd.R_slice HO482.out
         (first | subst eo21 | (injection eo21 with f1_ f2_ f3_; have f4_ := f1_.symm; have f5_ := f3_.symm; clear f1_ f2_ f3_; subst f4_; subst f5_))
         refine norm_ (a' := ?_) ?_ ?_
         rotate_left
         ·simp only [putAll, Act.put, List.setIfInBounds_toArray, List.set_cons_zero, List.set_cons_succ]
          rfl
         refine one_ (i := 6) (N := some 30) (bs 7 127) rfl rfl (by kernel_rfl) (by decide) (fun K hK => ?_)
         refine goes_ Tryz.func34 (by kernel_rfl) rfl #[.slice Ao20 t477.length co20, .slice Ao21 y480.length co21] (by rfl) rfl rfl (by (try simp only [List.map_toArray, List.map_cons, List.map_nil]); first | done | rfl | (simp only [List.length_drop, List.length_take]; rfl)) ?_
         with_reducible refine (impl_QueryDecide.calls _ _ t477 _ _ y480 t483 _ ?side1 ?side2 ?side3 ?side4 A13.out).mono ?_
         (case side1 => exact (Kd.R_reads' HO479.out).2.2)
         (case side2 => exact (Kd.R_reads' HO479.out).2.1)
         (case side3 => exact (Kd.R_reads' HO482.out).2.2)
         (case side4 => exact (Kd.R_reads' HO482.out).2.1)
         rintro e w22 ⟨rfl, hb⟩
         refine ⟨_, rfl, ?_⟩
         replace HO479 := Aside0.mk (Kd.R_below (HO479.out) hb)
         replace HO482 := Aside0.mk (Kd.R_below (HO482.out) hb)
         replace HB := Aside0.mk (below_step (by repeat (with_reducible first | exact HB.out | apply below_alloc | apply pw_below_drewN | apply below_drew1)) hb)
         (try clear hb)
         (try clear hb2)
         (try clear hk)
         (try clear hi)
         refine hK.out _ _ trivial (fun hHeld => ?_)
         clear hK K
         refine norm_ (a' := ?_) ?_ ?_
         rotate_left
         ·show Act.put _ (some 30) _ = _
          simp only [Act.put, List.setIfInBounds_toArray, List.set_cons_zero, List.set_cons_succ, i64_w, i32_w]
          rfl
         refine done_ (by kernel_rfl) ?_
         by_cases c14 : t483 = true
         ·subst c14
          rw [if_pos rfl] at H
          have H' := Aside0.mk H
          clear H
          try go_wp2
          go_roundg k2
          case measure => have := HK1.out; have := HK2.out; omega
          case rel => exact ⟨(wrap64 (x5_2 + 1)), (wrap64 (x21_2 + 1)), rfl, rfl, H', ⟨by have := HK1.out; have := HK2.out; omega⟩, ⟨by repeat (with_reducible first | exact HB.out | apply below_alloc | apply pw_below_drewN | apply below_drew1)⟩⟩
         ·replace c14 := Bool.eq_false_iff.mpr c14
          subst c14
          rw [if_neg (show ¬ (false = true) by decide)] at H
          have H' := Aside0.mk H
          clear H
          try go_wp2
          go_roundg k2
          case measure => have := HK1.out; have := HK2.out; omega
          case rel => exact ⟨(x5_2), (wrap64 (x21_2 + 1)), rfl, rfl, H', ⟨by have := HK1.out; have := HK2.out; omega⟩, ⟨by repeat (with_reducible first | exact HB.out | apply below_alloc | apply pw_below_drewN | apply below_drew1)⟩⟩
        ·rw [if_neg c12] at H
         exact absurd H (by simp)
       ·rw [if_neg c10] at H
        have c10b0 : decide (x21_2 < 31) = false := decide_eq_false c10
        clear c10
        have H' := Aside0.mk H
        clear H
        go_wp2
        go_roundg k2
        case measure => have := HK1.out; have := HK2.out; omega
        case rel => exact ⟨(x5_2), (wrap64 (x6_1 + 1)), rfl, rfl, H', ⟨by have := HK1.out; have := HK2.out; omega⟩, ⟨by repeat (with_reducible first | exact HB.out | apply below_alloc | apply pw_below_drewN | apply below_drew1)⟩⟩
    ·rw [if_neg c9] at H
     have c9b0 : decide (x6_1 < 31) = false := decide_eq_false c9
     clear c9
     obtain rfl := Option.some.inj H
     go_wp2
     go_ret
     exact ⟨rfl, by repeat (with_reducible first | exact HB.out | apply below_alloc | apply pw_below_drewN | apply below_drew1)⟩
 ·replace c5 := Bool.eq_false_iff.mpr c5
  subst c5
  rw [if_neg (show ¬ (false = true) by decide)] at H
  obtain rfl := Option.some.inj H
  go_wp2_with (first | (refine gsC c52x17 (impl_ProofLen.calls a0 t474 _ A3.out) ?_; rintro e w31 ⟨rfl, hb⟩; refine ⟨_, rfl, ?_⟩; replace HB := Aside0.mk (below_step (by repeat (with_reducible first | exact HB.out | apply below_alloc | apply pw_below_drewN | apply below_drew1)) hb); clear hb) | ((with_reducible refine gate_callee (f := 51) rfl ?_); refine goesL_ (some 12) rfl rfl Tryz.func51 (by kernel_rfl) rfl #[.int .i64 a0, .slice A1 l1.length c1, .int .i64 t474] rfl (by (try simp only [List.map_toArray, List.map_cons, List.map_nil]); first | done | rfl | (simp only [List.length_drop, List.length_take]; rfl)) ?_; (with_reducible refine (impl_sized.calls a0 _ _ l1 t474 false _ ?side1 ?side2 A4.out).mono ?_); (case side1 => exact (Kd.C_below HR1.out HB.out)); (case side2 => exact HC1.out); rintro e w' ⟨rfl, ⟨nd, rfl⟩⟩; refine ⟨_, rfl, ?_⟩))
  go_ret
  exact ⟨rfl, by repeat (with_reducible first | exact HB.out | apply below_alloc | apply pw_below_drewN | apply below_drew1)⟩
def spec_FieldSum.f (a0 : Int) (a1 : Int) : Option (Int) := (spec_FieldOk.f a0).bind fun t484 => (if t484 = true then ((spec_FieldOk.f a1).bind fun t485 => (if t485 = true then (some (Int.tmod (wrap64 (a0 + a1)) 31)) else (some 0))) else (some 0))
set_option maxHeartbeats 8000000 in
set_option maxRecDepth 100000 in
theorem spec_FieldSum.calls (a0 : Int) (a1 : Int) (r : Int) (w : World) (h : spec_FieldSum.f a0 a1 = some r) :
  Calls Tryz.prog 108 #[.int .i64 a0, .int .i64 a1] w fun e w' => e = .returned (.int .i64 r) ∧ Drawn0 w w' := by
 have H := h
 unfold spec_FieldSum.f at H
 clear h
 replace H := bnd H
 obtain ⟨t484, A3, H⟩ := H
 by_cases c4 : t484 = true
 ·subst c4
  rw [if_pos rfl] at H
  replace H := bnd H
  obtain ⟨t485, A5, H⟩ := H
  by_cases c6 : t485 = true
  ·subst c6
   rw [if_pos rfl] at H
   obtain rfl := Option.some.inj H
   go_enter Tryz.func108, Tryz.ntmps108
   go_wp2_with (first | (refine gsD c38x17 (spec_FieldOk.calls a0 true _ A3.out) ?_; intro nd) | (go_at_call 38; (with_reducible refine (spec_FieldOk.calls a1 true _ A5.out).mono ?_); rintro e w' ⟨rfl, ⟨nd, rfl⟩⟩))
   go_ret
   exact ⟨rfl, ⟨_, rfl⟩⟩
  ·replace c6 := Bool.eq_false_iff.mpr c6
   subst c6
   rw [if_neg (show ¬ (false = true) by decide)] at H
   obtain rfl := Option.some.inj H
   go_enter Tryz.func108, Tryz.ntmps108
   go_wp2_with (first | (refine gsD c38x17 (spec_FieldOk.calls a0 true _ A3.out) ?_; intro nd) | (go_at_call 38; (with_reducible refine (spec_FieldOk.calls a1 false _ A5.out).mono ?_); rintro e w' ⟨rfl, ⟨nd, rfl⟩⟩))
   go_ret
   exact ⟨rfl, ⟨_, rfl⟩⟩
 ·replace c4 := Bool.eq_false_iff.mpr c4
  subst c4
  rw [if_neg (show ¬ (false = true) by decide)] at H
  obtain rfl := Option.some.inj H
  go_enter Tryz.func108, Tryz.ntmps108
  go_wp2_with (first | (refine gsD c38x17 (spec_FieldOk.calls a0 false _ A3.out) ?_; intro nd))
  go_ret
  exact ⟨rfl, ⟨_, rfl⟩⟩
end Go.Proofs.YtlgbblaidohljaaGreatDoor.Zc
