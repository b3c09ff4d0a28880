import Derived.Test.YtlgbblaidohljaaGreatDoorZ
import Derived.Test.YtlgbblaidohljaaGreatDoorZc0
import Derived.Test.YtlgbblaidohljaaGreatDoorZc8
import Derived.Test.YtlgbblaidohljaaGreatDoorZc9
import Derived.Test.YtlgbblaidohljaaGreatDoorZc18
import Derived.Test.YtlgbblaidohljaaGreatDoorZc20
namespace Go.Proofs.YtlgbblaidohljaaGreatDoor.Zc
open Go.RowKit Go.Proofs.YtlgbblaidohljaaGreatDoorU.PrintWords Go.Proofs.YtlgbblaidohljaaGreatDoorU.PrintLast Go.Proofs.YtlgbblaidohljaaGreatDoorU.PrintMore Go.Proofs.YtlgbblaidohljaaGreatDoor.Z
attribute [local go_sem] max2_int min2_int max_two min_two max_three min_three max_four min_four
set_option linter.unusedVariables false
set_option linter.unusedSimpArgs false
theorem c68x21 : Ent Tryz.prog 68 := ent Tryz.func68 (by kernel_rfl) rfl
theorem c69x21 : Ent Tryz.prog 69 := ent Tryz.func69 (by kernel_rfl) rfl
mutual
def spec_QueryChance.j0 : Nat → Int → List Int → Bool → Option (Int)
 | 0, _, _, _ => none
 | k + 1, x0, x1, x23 => if x23 = true then (some (-1)) else (if 4 ≤ 35184372088832 then ((spec_TypeLen.f x0).bind fun t575 => (spec_QueryChance.l0 k x0 x1 0 (List.replicate 4 0) (wrap64 (t575 + 1)))) else (none))
def spec_QueryChance.l0 : Nat → Int → List Int → Int → List Int → Int → Option (Int)
 | 0, _, _, _, _, _ => none
 | k + 1, x0, x1, x5, x6, x7 => if x7 < 31 then (spec_QueryChance.l1 k x0 x1 x5 x6 x7 0) else (some x5)
def spec_QueryChance.l1 : Nat → Int → List Int → Int → List Int → Int → Int → Option (Int)
 | 0, _, _, _, _, _, _ => none
 | k + 1, x0, x1, x5, x6, x7, x8 => if x8 < 31 then ((spec_l13Ask.f k x0 x1 true x7 x8).bind fun t576 => ((spec_l13Decide.f k t576 x6).bind fun t579 => (if t579 = true then (spec_QueryChance.l1 k x0 x1 (wrap64 (x5 + 1)) x6 x7 (wrap64 (x8 + 1))) else (spec_QueryChance.l1 k x0 x1 x5 x6 x7 (wrap64 (x8 + 1)))))) else (spec_QueryChance.l0 k x0 x1 x5 x6 (wrap64 (x7 + 1)))
end
def spec_QueryChance.f (k : Nat) (a0 : Int) (l1 : List Int) : Option (Int) := (spec_l11Kind.f a0).bind fun t569 => (if t569 = true then ((spec_ShareOk.f k l1).bind fun t570 => (if t570 = true then ((spec_ProofLen.f a0).bind fun t571 => (spec_QueryChance.j0 k a0 l1 ((l1.length : Int) != t571))) else (spec_QueryChance.j0 k a0 l1 true))) else (spec_QueryChance.j0 k a0 l1 true))
set_option maxHeartbeats 8000000 in
set_option maxRecDepth 100000 in
theorem spec_QueryChance.calls (k : Nat) (a0 : Int) (A1 : Option Addr) (c1 : Nat) (l1 : List Int) (r : Int) (w : World) (hr1 : Kd.C (Kd.int .i64) w A1 l1.length l1) (hc1 : l1.length ≤ c1) (h : spec_QueryChance.f k a0 l1 = some r) :
  Calls Tryz.prog 28 #[.int .i64 a0, .slice A1 l1.length c1] w fun e w' => e = .returned (.int .i64 r) ∧ Below w.heap.size w w' := by
 have HR1 := Aside0.mk hr1
 have HC1 := Aside0.mk hc1
 clear hr1 hc1
 have HB := Aside0.mk (Below.refl w.heap.size w)
 have H := h
 unfold spec_QueryChance.f at H
 clear h
 have HC3 := Aside0.mk H
 clear H
 go_enter Tryz.func28, Tryz.ntmps28
 go_upto_region 1 with (fail)
 go_cut [23] (fun v23 wc => ∃ (kq : Nat) (x23_2 : Bool), v23 = .bool x23_2 ∧ Aside0 (spec_QueryChance.j0 kq a0 l1 x23_2 = some r) ∧ Aside0 (kq ≤ k) ∧ Aside0 (Below w.heap.size w wc))
 case first =>
  have H := HC3.out
  clear HC3
  replace H := bnd H
  obtain ⟨t569, A4, H⟩ := H
  by_cases c5 : t569 = true
  ·subst c5
   rw [if_pos rfl] at H
   replace H := bnd H
   obtain ⟨t570, A6, H⟩ := H
   by_cases c7 : t570 = true
   ·subst c7
    rw [if_pos rfl] at H
    replace H := bnd H
    obtain ⟨t571, A8, H⟩ := H
    have H' := Aside0.mk H
    clear H
    go_wp2_with (first | (refine gsD c68x21 (spec_l11Kind.calls a0 true _ A4.out) ?_; intro nd) | (go_at_call 47; (with_reducible refine (spec_ShareOk.calls k _ _ l1 true _ ?side1 ?side2 A6.out).mono ?_); (case side1 => repeat (first | exact (Kd.C_below HR1.out (by repeat (with_reducible first | exact HB.out | apply below_alloc | apply pw_below_drewN | apply below_drew1))) | (with_reducible refine Kd.C_alloc ?_ _) | (with_reducible refine Kd.C_drewN ?_ _) | (with_reducible refine Kd.C_drew ?_))); (case side2 => exact HC1.out); rintro e w' ⟨rfl, ⟨nd, rfl⟩⟩) | (go_at_call 48; (with_reducible refine (spec_ProofLen.calls a0 t571 _ A8.out).mono ?_); rintro e w' ⟨rfl, ⟨nd, rfl⟩⟩))
    go_meet
    case rel => exact ⟨_, (((l1.length : Int) != t571)), rfl, H', ⟨by first | omega | exact Nat.le_refl _⟩, ⟨by repeat (with_reducible first | exact HB.out | apply below_alloc | apply pw_below_drewN | apply below_drew1)⟩⟩
   ·replace c7 := Bool.eq_false_iff.mpr c7
    subst c7
    rw [if_neg (show ¬ (false = true) by decide)] at H
    have H' := Aside0.mk H
    clear H
    go_wp2_with (first | (refine gsD c68x21 (spec_l11Kind.calls a0 true _ A4.out) ?_; intro nd) | (go_at_call 47; (with_reducible refine (spec_ShareOk.calls k _ _ l1 false _ ?side1 ?side2 A6.out).mono ?_); (case side1 => repeat (first | exact (Kd.C_below HR1.out (by repeat (with_reducible first | exact HB.out | apply below_alloc | apply pw_below_drewN | apply below_drew1))) | (with_reducible refine Kd.C_alloc ?_ _) | (with_reducible refine Kd.C_drewN ?_ _) | (with_reducible refine Kd.C_drew ?_))); (case side2 => exact HC1.out); rintro e w' ⟨rfl, ⟨nd, rfl⟩⟩))
    go_meet
    case rel => exact ⟨_, (true), rfl, H', ⟨by first | omega | exact Nat.le_refl _⟩, ⟨by repeat (with_reducible first | exact HB.out | apply below_alloc | apply pw_below_drewN | apply below_drew1)⟩⟩
  ·replace c5 := Bool.eq_false_iff.mpr c5
   subst c5
   rw [if_neg (show ¬ (false = true) by decide)] at H
   have H' := Aside0.mk H
   clear H
   go_wp2_with (first | (refine gsD c68x21 (spec_l11Kind.calls a0 false _ A4.out) ?_; intro nd))
   go_meet
   case rel => exact ⟨_, (true), rfl, H', ⟨by first | omega | exact Nat.le_refl _⟩, ⟨by repeat (with_reducible first | exact HB.out | apply below_alloc | apply pw_below_drewN | apply below_drew1)⟩⟩
 case rest =>
  clear HC3
  try clear c1
  try clear c2
  try clear p2
  try clear c5
  try clear c6
  try clear c7
  obtain ⟨kq, x23_2, rfl, HA, HJ2, HB⟩ := hcut
  cases kq with
  | zero => exact absurd HA.out (by simp [spec_QueryChance.j0])
  | succ kj2 =>
   have H := HA.out
   clear HA
   simp only [spec_QueryChance.j0] at H
   by_cases c9 : x23_2 = true
   ·subst c9
    rw [if_pos rfl] at H
    obtain rfl := Option.some.inj H
    go_wp2
    go_ret
    exact ⟨rfl, by repeat (with_reducible first | exact HB.out | apply below_alloc | apply pw_below_drewN | apply below_drew1)⟩
   ·replace c9 := Bool.eq_false_iff.mpr c9
    subst c9
    rw [if_neg (show ¬ (false = true) by decide)] at H
    by_cases c10 : 4 ≤ 35184372088832
    ·rw [if_pos c10] at H
     have c10b0 := eq_true c10
     have c10b1 : decide (4 ≤ 35184372088832) = true := decide_eq_true c10
     clear c10
     obtain ⟨y572, hy572⟩ : ∃ y_ : List Int, y_ = (List.replicate 4 0) := ⟨_, rfl⟩
     rw [← hy572] at H
     have Ny572 := Aside0.mk hy572
     clear hy572
     replace H := bnd H
     obtain ⟨t575, A11, H⟩ := H
     have H' := Aside0.mk H
     clear H
     go_wp2_with (first | ((with_reducible refine gate_dst (N := 24) rfl ?_); refine Kd.R_make (Kd.int .i64) _ 3 rfl (N := 24) rfl 22 _ _ rfl 4 rfl rfl Tryz.underlying22 (.int .i64 0) 8 info3 rfl (by decide) (by omega) 0 (ok := fun _ => True) (okp := fun _ => True) rfl (fun _ hk => hk) trivial (by omega) (by omega) (Below.refl _ _) (Nat.le_refl _) ?_; intro v573 w12 ho13 hb hg_ hnew_; clear hg_ hnew_; (first | rw [← Ny572.out] at ho13 | (simp only [Int.reduceToNat] at ho13; rw [← Ny572.out] at ho13)); replace HO574 := Aside0.mk (Kd.R_lower ho13 (below_size (by repeat (with_reducible first | exact HB.out | apply below_alloc | apply pw_below_drewN | apply below_drew1)))); replace HB := Aside0.mk (below_step (by repeat (with_reducible first | exact HB.out | apply below_alloc | apply pw_below_drewN | apply below_drew1)) hb); clear hb ho13) | (refine gsD c69x21 (spec_TypeLen.calls a0 t575 _ A11.out) ?_; intro nd))
     go_loopg [5, 7] kj2 (fun kq v5 v7 w' => ∃ (x5_2 : Int) (x7_2 : Int), v5 = .int .i64 x5_2 ∧ v7 = .int .i64 x7_2 ∧ Aside0 (spec_QueryChance.l0 kq a0 l1 x5_2 y572 x7_2 = some r) ∧ Aside0 (kq ≤ kj2) ∧ Aside0 (Kd.R (Kd.int .i64) 3 w' w.heap.size (fun _ => True) v573 y572) ∧ Aside0 (Below w.heap.size w w'))
     case atStart => exact ⟨(0), (wrap64 (t575 + 1)), rfl, rfl, H', ⟨Nat.le_refl _⟩, ⟨HO574.out⟩, ⟨by repeat (with_reducible first | exact HB.out | apply below_alloc | apply pw_below_drewN | apply below_drew1)⟩⟩
     case round =>
      clear H'
      try clear c1
      try clear c2
      try clear p2
      try clear c5
      try clear c6
      try clear p6
      try clear c7
      try clear c9
      try clear c10
      try clear c10b0
      try clear c10b1
      try clear p2
      obtain ⟨x5_2, x7_2, rfl, rfl, HA, HK2, HO_6, HB⟩ := hrel
      cases gk with
      | zero => exact absurd HA.out (by simp [spec_QueryChance.l0])
      | succ k2 =>
       have H := HA.out
       clear HA
       simp only [spec_QueryChance.l0] at H
       by_cases c14 : x7_2 < 31
       ·rw [if_pos c14] at H
        have c14b0 : decide (x7_2 < 31) = true := decide_eq_true c14
        clear c14
        have H' := Aside0.mk H
        clear H
        go_wp2
        go_loopg [5, 8] k2 (fun kq v5 v8 w' => ∃ (x5_3 : Int) (x8_3 : Int), v5 = .int .i64 x5_3 ∧ v8 = .int .i64 x8_3 ∧ Aside0 (spec_QueryChance.l1 kq a0 l1 x5_3 y572 x7_2 x8_3 = some r) ∧ Aside0 (kq ≤ k2) ∧ Aside0 (Kd.R (Kd.int .i64) 3 w' w.heap.size (fun _ => True) v573 y572) ∧ Aside0 (Below w.heap.size w w'))
        case atStart => exact ⟨(x5_2), (0), rfl, rfl, H', ⟨Nat.le_refl _⟩, ⟨HO_6.out⟩, ⟨by repeat (with_reducible first | exact HB.out | apply below_alloc | apply pw_below_drewN | apply below_drew1)⟩⟩
        case round =>
         clear H'
         try clear c1
         try clear c2
         try clear p2
         try clear c5
         try clear c6
         try clear p6
         try clear c7
         try clear c9
         try clear c10
         try clear c10b0
         try clear c10b1
         try clear c14
         try clear c14b0
         try clear p2
         try clear p6
         obtain ⟨x5_3, x8_3, rfl, rfl, HA, HK3, HO_6, HB⟩ := hrel
         cases gk with
         | zero => exact absurd HA.out (by simp [spec_QueryChance.l1])
         | succ k3 =>
          have H := HA.out
          clear HA
          simp only [spec_QueryChance.l1] at H
          by_cases c15 : x8_3 < 31
          ·rw [if_pos c15] at H
           have c15b0 : decide (x8_3 < 31) = true := decide_eq_true c15
           clear c15
           replace H := bnd H
           obtain ⟨t576, A16, H⟩ := H
           replace H := bnd H
           obtain ⟨t579, A17, H⟩ := H
           by_cases c18 : t579 = true
           ·subst c18
            rw [if_pos rfl] at H
            have H' := Aside0.mk H
            clear H
            go_wp2_with (first | ((with_reducible refine gate_callee (f := 40) rfl ?_); refine goesL_ (some 40) rfl rfl Tryz.func40 (by kernel_rfl) rfl #[.int .i64 a0, .slice A1 l1.length c1, .bool true, .int .i64 x7_2, .int .i64 x8_3] rfl (by (try simp only [List.map_toArray, List.map_cons, List.map_nil]); first | done | rfl | (simp only [List.length_drop, List.length_take]; rfl)) ?_; (with_reducible refine (spec_l13Ask.calls k3 a0 _ _ l1 true x7_2 x8_3 t576 _ ?side1 ?side2 A16.out).mono ?_); (case side1 => exact (Kd.C_below HR1.out HB.out)); (case side2 => exact HC1.out); rintro e w19 ⟨v577, rfl, ho0, hb⟩; refine ⟨_, rfl, ?_⟩; replace HO578 := Aside0.mk (Kd.R_lower (Kd.R_new' ho0 (Kd.R_lt (HO_6.out))) (below_size (by repeat (with_reducible first | exact HB.out | apply below_alloc | apply pw_below_drewN | apply below_drew1)))); replace HO_6 := Aside0.mk (Kd.R_elder' (HO_6.out) (Kd.R_base ho0) hb); replace HB := Aside0.mk (below_step (by repeat (with_reducible first | exact HB.out | apply below_alloc | apply pw_below_drewN | apply below_drew1)) hb); (try clear hb); (try clear hb2); (try clear hk); (try clear hi); (try clear ho0); obtain ⟨Ao20, co20, eo20⟩ := Kd.R_slice HO578.out; subst eo20; obtain ⟨Ao21, co21, eo21⟩ := Kd.R_slice HO_6.out; subst eo21) | ((with_reducible refine gate_callee (f := 39) rfl ?_); refine goesL_ (some 42) rfl rfl Tryz.func39 (by kernel_rfl) rfl #[.slice Ao20 t576.length co20, .slice Ao21 y572.length co21] rfl (by (try simp only [List.map_toArray, List.map_cons, List.map_nil]); first | done | rfl | (simp only [List.length_drop, List.length_take]; rfl)) ?_; (with_reducible refine (spec_l13Decide.calls k3 _ _ t576 _ _ y572 true _ ?side1 ?side2 ?side3 ?side4 A17.out).mono ?_); (case side1 => exact (Kd.R_reads' HO578.out).2.2); (case side2 => exact (Kd.R_reads' HO578.out).2.1); (case side3 => exact (Kd.R_reads' HO_6.out).2.2); (case side4 => exact (Kd.R_reads' HO_6.out).2.1); rintro e w22 ⟨rfl, hb⟩; refine ⟨_, rfl, ?_⟩; replace HO_6 := Aside0.mk (Kd.R_below (HO_6.out) hb); replace HO578 := Aside0.mk (Kd.R_below (HO578.out) hb); replace HB := Aside0.mk (below_step (by repeat (with_reducible first | exact HB.out | apply below_alloc | apply pw_below_drewN | apply below_drew1)) hb); clear hb))
            go_roundg k3
            case measure => have := HJ2.out; have := HK2.out; have := HK3.out; omega
            case rel => exact ⟨(wrap64 (x5_3 + 1)), (wrap64 (x8_3 + 1)), rfl, rfl, H', ⟨by have := HJ2.out; have := HK2.out; have := HK3.out; omega⟩, ⟨Kd.R_mono HO_6.out (fun _ hk => trivial)⟩, ⟨by repeat (with_reducible first | exact HB.out | apply below_alloc | apply pw_below_drewN | apply below_drew1)⟩⟩
           ·replace c18 := Bool.eq_false_iff.mpr c18
            subst c18
            rw [if_neg (show ¬ (false = true) by decide)] at H
            have H' := Aside0.mk H
            clear H
            go_wp2_with (first | ((with_reducible refine gate_callee (f := 40) rfl ?_); refine goesL_ (some 40) rfl rfl Tryz.func40 (by kernel_rfl) rfl #[.int .i64 a0, .slice A1 l1.length c1, .bool true, .int .i64 x7_2, .int .i64 x8_3] rfl (by (try simp only [List.map_toArray, List.map_cons, List.map_nil]); first | done | rfl | (simp only [List.length_drop, List.length_take]; rfl)) ?_; (with_reducible refine (spec_l13Ask.calls k3 a0 _ _ l1 true x7_2 x8_3 t576 _ ?side1 ?side2 A16.out).mono ?_); (case side1 => exact (Kd.C_below HR1.out HB.out)); (case side2 => exact HC1.out); rintro e w23 ⟨v577, rfl, ho0, hb⟩; refine ⟨_, rfl, ?_⟩; replace HO578 := Aside0.mk (Kd.R_lower (Kd.R_new' ho0 (Kd.R_lt (HO_6.out))) (below_size (by repeat (with_reducible first | exact HB.out | apply below_alloc | apply pw_below_drewN | apply below_drew1)))); replace HO_6 := Aside0.mk (Kd.R_elder' (HO_6.out) (Kd.R_base ho0) hb); replace HB := Aside0.mk (below_step (by repeat (with_reducible first | exact HB.out | apply below_alloc | apply pw_below_drewN | apply below_drew1)) hb); (try clear hb); (try clear hb2); (try clear hk); (try clear hi); (try clear ho0); obtain ⟨Ao24, co24, eo24⟩ := Kd.R_slice HO578.out; subst eo24; obtain ⟨Ao25, co25, eo25⟩ := Kd.R_slice HO_6.out; subst eo25) | ((with_reducible refine gate_callee (f := 39) rfl ?_); refine goesL_ (some 42) rfl rfl Tryz.func39 (by kernel_rfl) rfl #[.slice Ao24 t576.length co24, .slice Ao25 y572.length co25] rfl (by (try simp only [List.map_toArray, List.map_cons, List.map_nil]); first | done | rfl | (simp only [List.length_drop, List.length_take]; rfl)) ?_; (with_reducible refine (spec_l13Decide.calls k3 _ _ t576 _ _ y572 false _ ?side1 ?side2 ?side3 ?side4 A17.out).mono ?_); (case side1 => exact (Kd.R_reads' HO578.out).2.2); (case side2 => exact (Kd.R_reads' HO578.out).2.1); (case side3 => exact (Kd.R_reads' HO_6.out).2.2); (case side4 => exact (Kd.R_reads' HO_6.out).2.1); rintro e w26 ⟨rfl, hb⟩; refine ⟨_, rfl, ?_⟩; replace HO_6 := Aside0.mk (Kd.R_below (HO_6.out) hb); replace HO578 := Aside0.mk (Kd.R_below (HO578.out) hb); replace HB := Aside0.mk (below_step (by repeat (with_reducible first | exact HB.out | apply below_alloc | apply pw_below_drewN | apply below_drew1)) hb); clear hb))
            go_roundg k3
            case measure => have := HJ2.out; have := HK2.out; have := HK3.out; omega
            case rel => exact ⟨(x5_3), (wrap64 (x8_3 + 1)), rfl, rfl, H', ⟨by have := HJ2.out; have := HK2.out; have := HK3.out; omega⟩, ⟨Kd.R_mono HO_6.out (fun _ hk => trivial)⟩, ⟨by repeat (with_reducible first | exact HB.out | apply below_alloc | apply pw_below_drewN | apply below_drew1)⟩⟩
          ·rw [if_neg c15] at H
           have c15b0 : decide (x8_3 < 31) = false := decide_eq_false c15
           clear c15
           have H' := Aside0.mk H
           clear H
           go_wp2
           go_roundg k3
           case measure => have := HJ2.out; have := HK2.out; have := HK3.out; omega
           case rel => exact ⟨(x5_3), (wrap64 (x7_2 + 1)), rfl, rfl, H', ⟨by have := HJ2.out; have := HK2.out; have := HK3.out; omega⟩, ⟨HO_6.out⟩, ⟨by repeat (with_reducible first | exact HB.out | apply below_alloc | apply pw_below_drewN | apply below_drew1)⟩⟩
       ·rw [if_neg c14] at H
        have c14b0 : decide (x7_2 < 31) = false := decide_eq_false c14
        clear c14
        obtain rfl := Option.some.inj H
        go_wp2
        go_ret
        exact ⟨rfl, by repeat (with_reducible first | exact HB.out | apply below_alloc | apply pw_below_drewN | apply below_drew1)⟩
    ·rw [if_neg c10] at H
     exact absurd H (by simp)
end Go.Proofs.YtlgbblaidohljaaGreatDoor.Zc
