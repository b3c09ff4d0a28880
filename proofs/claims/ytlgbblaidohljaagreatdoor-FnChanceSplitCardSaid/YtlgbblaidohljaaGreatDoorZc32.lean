import Derived.Test.YtlgbblaidohljaaGreatDoorZ
import Derived.Test.YtlgbblaidohljaaGreatDoorZc0
import Derived.Test.YtlgbblaidohljaaGreatDoorZc2
import Derived.Test.YtlgbblaidohljaaGreatDoorZc7
import Derived.Test.YtlgbblaidohljaaGreatDoorZc14
import Derived.Test.YtlgbblaidohljaaGreatDoorZc17
import Derived.Test.YtlgbblaidohljaaGreatDoorZc21
import Derived.Test.YtlgbblaidohljaaGreatDoorZc29
import Derived.Test.YtlgbblaidohljaaGreatDoorZc31
namespace Go.Proofs.YtlgbblaidohljaaGreatDoor.Zc
open Go.RowKit Go.Proofs.YtlgbblaidohljaaGreatDoorU.PrintWords Go.Proofs.YtlgbblaidohljaaGreatDoorU.PrintLast Go.Proofs.YtlgbblaidohljaaGreatDoorU.PrintMore Go.Proofs.YtlgbblaidohljaaGreatDoor.Z
attribute [local go_sem] max2_int min2_int max_two min_two max_three min_three max_four min_four
set_option linter.unusedVariables false
set_option linter.unusedSimpArgs false
theorem c30x32 : Ent Tryz.prog 30 := ent Tryz.func30 (by kernel_rfl) rfl
theorem c31x32 : Ent Tryz.prog 31 := ent Tryz.func31 (by kernel_rfl) rfl
mutual
def laws_FnChanceSplit.j0 : Nat → List Int → List Int → Bool → Option (Bool)
 | 0, _, _, _ => none
 | k + 1, x0, x1, x20 => if x20 = true then (some true) else ((spec_DrawQueryChance.f k x0).bind fun bt734 => ((impl_QueryChance.f k bt734.1 bt734.2).bind fun t738 => ((spec_QueryChance.f k bt734.1 bt734.2).bind fun t739 => (if t738 = t739 then (laws_FnChanceSplit.j1 k x1 bt734.1 bt734.2 t738 (decide (t738 < 0))) else (laws_FnChanceSplit.j1 k x1 bt734.1 bt734.2 t738 true)))))
def laws_FnChanceSplit.j1 : Nat → List Int → Int → List Int → Int → Bool → Option (Bool)
 | 0, _, _, _, _, _ => none
 | k + 1, x1, x5, x6, x7, x37 => if x37 = true then ((spec_QueryChance.f k x5 x6).bind fun t740 => (some (x7 == t740))) else ((impl_ProofCut.f x5 x6).bind fun bt741 => ((impl_ProofOk.f k x5 bt741.1 bt741.2.1 bt741.2.2.1 bt741.2.2.2.1).bind fun t751 => (if t751 = true then ((some (([] : List Int) : List Int)).bind fun y752 => (if y752.length + x6.length < 17592186044416 then ((some (y752 ++ x6 : List Int)).bind fun y755 => (if (bt741.2.2.2.1.length : Int) = 0 then (none) else (if 0 ≤ (wrap64 ((wrap64 ((bt741.1.length : Int) + 2)) + ((x1.length : Int) % (bt741.2.2.2.1.length : Int)))) then (if (wrap64 ((wrap64 ((bt741.1.length : Int) + 2)) + ((x1.length : Int) % (bt741.2.2.2.1.length : Int)))) < (y755.length : Int) then ((impl_FieldSum.f (rd y755 (wrap64 ((wrap64 ((bt741.1.length : Int) + 2)) + ((x1.length : Int) % (bt741.2.2.2.1.length : Int))))) (1 + ((x1.length : Int) % 30))).bind fun t759 => ((impl_QueryChance.f k x5 (y755.set ((wrap64 ((wrap64 ((bt741.1.length : Int) + 2)) + ((x1.length : Int) % (bt741.2.2.2.1.length : Int)))) : Int).toNat t759)).bind fun t761 => ((impl_QueryBound.f x5).bind fun t762 => (some (decide (t761 ≤ t762)))))) else (none)) else (none)))) else (none))) else (some true))))
end
def laws_FnChanceSplit.f (k : Nat) (l0 : List Int) (l1 : List Int) : Option (Bool) := if (l0.length : Int) > 1048576 then (laws_FnChanceSplit.j0 k l0 l1 true) else (laws_FnChanceSplit.j0 k l0 l1 (decide ((l1.length : Int) > 1048576)))
set_option maxHeartbeats 8000000 in
set_option maxRecDepth 100000 in
theorem laws_FnChanceSplit.calls (k : Nat) (A0 : Option Addr) (c0 : Nat) (l0 : List Int) (A1 : Option Addr) (c1 : Nat) (l1 : List Int) (r : Bool) (w : World) (hr0 : Kd.C (Kd.int .u8) w A0 l0.length l0) (hc0 : l0.length ≤ c0) (hr1 : Kd.C (Kd.int .u8) w A1 l1.length l1) (hc1 : l1.length ≤ c1) (h : laws_FnChanceSplit.f k l0 l1 = some r) (hTr : r = true) {a : Addr} (hE : errAt a w) :
  Calls Tryz.prog 8 #[.slice A0 l0.length c0, .slice A1 l1.length c1] w fun e w' => e = .returned (.bool r) ∧ Below w.heap.size w w' := by
 have HT0_ := Aside0.mk hTr
 clear hTr
 have HE := Aside0.mk hE
 clear hE
 have hu40 := Tryz.underlying40
 have HR0 := Aside0.mk hr0
 have HC0 := Aside0.mk hc0
 clear hr0 hc0
 have HR1 := Aside0.mk hr1
 have HC1 := Aside0.mk hc1
 clear hr1 hc1
 have HB := Aside0.mk (Below.refl w.heap.size w)
 have H := h
 unfold laws_FnChanceSplit.f at H
 clear h
 have HC3 := Aside0.mk H
 clear H
 go_enter Tryz.func8, Tryz.ntmps8
 go_upto_region 1 with (fail)
 go_cut [20] (fun v20 wc => ∃ (kq : Nat) (x20_2 : Bool), v20 = .bool x20_2 ∧ Aside0 (laws_FnChanceSplit.j0 kq l0 l1 x20_2 = some r) ∧ Aside0 (kq ≤ k) ∧ Aside0 (Below w.heap.size w wc))
 case first =>
  have H := HC3.out
  clear HC3
  by_cases c4 : (l0.length : Int) > 1048576
  ·rw [if_pos c4] at H
   have c4b0 : decide (1048576 < (l0.length : Int)) = true := decide_eq_true c4
   have c4b1 : decide (1048576 < l0.length) = true := decide_eq_true (by omega)
   clear c4
   (first | rw [c4b0] | (simp only [i64_w, i32_w]; rw [c4b0]) | skip)
   have H' := Aside0.mk H
   clear H
   go_wp2
   go_meet
   case rel => exact ⟨_, (true), rfl, H', ⟨by first | omega | exact Nat.le_refl _⟩, ⟨by repeat (with_reducible first | exact HB.out | apply below_alloc | apply pw_below_drewN | apply below_drew1)⟩⟩
  ·rw [if_neg c4] at H
   have c4b0 : decide (1048576 < (l0.length : Int)) = false := decide_eq_false c4
   have c4b1 : decide (1048576 < l0.length) = false := decide_eq_false (by omega)
   clear c4
   (first | rw [c4b0] | (simp only [i64_w, i32_w]; rw [c4b0]) | skip)
   have H' := Aside0.mk H
   clear H
   go_wp2
   go_meet
   case rel => exact ⟨_, (decide ((l1.length : Int) > 1048576)), rfl, H', ⟨by first | omega | exact Nat.le_refl _⟩, ⟨by repeat (with_reducible first | exact HB.out | apply below_alloc | apply pw_below_drewN | apply below_drew1)⟩⟩
 case rest =>
  clear HC3
  try clear c1
  try clear p2
  try clear c4
  try clear c4b0
  try clear c4b1
  obtain ⟨kq, x20_2, rfl, HA, HJ2, HB⟩ := hcut
  cases kq with
  | zero => exact absurd HA.out (by simp [laws_FnChanceSplit.j0])
  | succ kj2 =>
   have H := HA.out
   clear HA
   simp only [laws_FnChanceSplit.j0] at H
   by_cases c5 : x20_2 = true
   ·subst c5
    rw [if_pos rfl] at H
    obtain rfl := Option.some.inj H
    go_wp2
    go_ret
    exact ⟨rfl, by repeat (with_reducible first | exact HB.out | apply below_alloc | apply pw_below_drewN | apply below_drew1)⟩
   ·replace c5 := Bool.eq_false_iff.mpr c5
    subst c5
    rw [if_neg (show ¬ (false = true) by decide)] at H
    replace H := bnd H
    obtain ⟨⟨t734, t735⟩, A6, H⟩ := H
    dsimp only at H
    replace H := bnd H
    obtain ⟨t738, A7, H⟩ := H
    have HC8 := Aside0.mk H
    clear H
    go_upto_region 5 with (first | ((with_reducible refine gate_callee (f := 26) rfl ?_); refine goesL_ (some 23) rfl rfl Tryz.func26 (by kernel_rfl) rfl #[.slice A0 l0.length c0] rfl (by (try simp only [List.map_toArray, List.map_cons, List.map_nil]); first | done | rfl | (simp only [List.length_drop, List.length_take]; rfl)) ?_; (with_reducible refine (spec_DrawQueryChance.calls kj2 _ _ l0 t734 t735 _ ?side1 ?side2 A6.out).mono ?_); (case side1 => exact (Kd.C_below HR0.out HB.out)); (case side2 => exact HC0.out); rintro e w9 ⟨v736, rfl, ho0, hb⟩; refine ⟨_, rfl, ?_⟩; have n0_ := Aside0.mk (Kd.R_lower ho0 (below_size (by repeat (with_reducible first | exact HB.out | apply below_alloc | apply pw_below_drewN | apply below_drew1)))); have n1_ := Aside0.mk (below_step (by repeat (with_reducible first | exact HB.out | apply below_alloc | apply pw_below_drewN | apply below_drew1)) hb); clear HB; have HO737 := n0_; have HB := n1_; clear n0_ n1_; (try clear hb); (try clear hb2); (try clear hk); (try clear hi); (try clear ho0); obtain ⟨Ao10, co10, eo10⟩ := Kd.R_slice HO737.out; subst eo10) | ((with_reducible refine gate_callee (f := 27) rfl ?_); refine goesL_ (some 28) rfl rfl Tryz.func27 (by kernel_rfl) rfl #[.int .i64 t734, .slice Ao10 t735.length co10] rfl (by (try simp only [List.map_toArray, List.map_cons, List.map_nil]); first | done | rfl | (simp only [List.length_drop, List.length_take]; rfl)) ?_; (with_reducible refine (impl_QueryChance.calls kj2 t734 _ _ t735 t738 _ ?side1 ?side2 A7.out).mono ?_); (case side1 => exact (Kd.R_reads' HO737.out).2.2); (case side2 => exact (Kd.R_reads' HO737.out).2.1); rintro e w11 ⟨rfl, hb⟩; refine ⟨_, rfl, ?_⟩; have n0_ := Aside0.mk (Kd.R_below (HO737.out) hb); have n1_ := Aside0.mk (below_step (by repeat (with_reducible first | exact HB.out | apply below_alloc | apply pw_below_drewN | apply below_drew1)) hb); clear HO737; clear HB; have HO737 := n0_; have HB := n1_; clear n0_ n1_; (try clear hb); (try clear hb2); (try clear hk); (try clear hi)))
    (try simp only [Act.put, List.setIfInBounds_toArray, List.set_cons_zero, List.set_cons_succ])
    go_cut [37] (fun v37 wc => ∃ (kq : Nat) (x37_7 : Bool), v37 = .bool x37_7 ∧ Aside0 (laws_FnChanceSplit.j1 kq l1 t734 t735 t738 x37_7 = some r) ∧ Aside0 (kq ≤ kj2) ∧ Aside0 (Kd.R (Kd.int .i64) 3 wc w.heap.size (fun _ => True) (.slice Ao10 t735.length co10) t735) ∧ Aside0 (Below w.heap.size w wc))
    case first =>
     have H := HC8.out
     clear HC8
     replace H := bnd H
     obtain ⟨t739, A12, H⟩ := H
     by_cases c13 : t738 = t739
     ·rw [if_pos c13] at H
      have c13b0 : (t738 == t739) = true := beq_iff_eq.mpr c13
      have c13b1 : (t738 != t739) = false := bne_eq_false_iff_eq.mpr c13
      clear c13
      (first | rw [c13b0] | (simp only [i64_w, i32_w]; rw [c13b0]) | skip)
      have H' := Aside0.mk H
      clear H
      go_wp2_with (first | ((with_reducible refine gate_callee (f := 28) rfl ?_); refine goesL_ (some 32) rfl rfl Tryz.func28 (by kernel_rfl) rfl #[.int .i64 t734, .slice Ao10 t735.length co10] rfl (by (try simp only [List.map_toArray, List.map_cons, List.map_nil]); first | done | rfl | (simp only [List.length_drop, List.length_take]; rfl)) ?_; (with_reducible refine (spec_QueryChance.calls kj2 t734 _ _ t735 t739 _ ?side1 ?side2 A12.out).mono ?_); (case side1 => exact (Kd.R_reads' HO737.out).2.2); (case side2 => exact (Kd.R_reads' HO737.out).2.1); rintro e w14 ⟨rfl, hb⟩; refine ⟨_, rfl, ?_⟩; replace HO737 := Aside0.mk (Kd.R_below (HO737.out) hb); replace HB := Aside0.mk (below_step (by repeat (with_reducible first | exact HB.out | apply below_alloc | apply pw_below_drewN | apply below_drew1)) hb); clear hb))
      go_meet
      case rel => exact ⟨_, (decide (t738 < 0)), rfl, H', ⟨by have := HJ2.out; first | omega | exact Nat.le_refl _⟩, ⟨HO737.out⟩, ⟨by repeat (with_reducible first | exact HB.out | apply below_alloc | apply pw_below_drewN | apply below_drew1)⟩⟩
     ·rw [if_neg c13] at H
      have c13b0 : (t738 == t739) = false := beq_eq_false_iff_ne.mpr c13
      have c13b1 : (t738 != t739) = true := bne_iff_ne.mpr c13
      (first | rw [c13b0] | (simp only [i64_w, i32_w]; rw [c13b0]) | skip)
      have H' := Aside0.mk H
      clear H
      go_wp2_with (first | ((with_reducible refine gate_callee (f := 28) rfl ?_); refine goesL_ (some 32) rfl rfl Tryz.func28 (by kernel_rfl) rfl #[.int .i64 t734, .slice Ao10 t735.length co10] rfl (by (try simp only [List.map_toArray, List.map_cons, List.map_nil]); first | done | rfl | (simp only [List.length_drop, List.length_take]; rfl)) ?_; (with_reducible refine (spec_QueryChance.calls kj2 t734 _ _ t735 t739 _ ?side1 ?side2 A12.out).mono ?_); (case side1 => exact (Kd.R_reads' HO737.out).2.2); (case side2 => exact (Kd.R_reads' HO737.out).2.1); rintro e w15 ⟨rfl, hb⟩; refine ⟨_, rfl, ?_⟩; replace HO737 := Aside0.mk (Kd.R_below (HO737.out) hb); replace HB := Aside0.mk (below_step (by repeat (with_reducible first | exact HB.out | apply below_alloc | apply pw_below_drewN | apply below_drew1)) hb); clear hb))
      go_meet
      case rel => exact ⟨_, (true), rfl, H', ⟨by have := HJ2.out; first | omega | exact Nat.le_refl _⟩, ⟨HO737.out⟩, ⟨by repeat (with_reducible first | exact HB.out | apply below_alloc | apply pw_below_drewN | apply below_drew1)⟩⟩
    case rest =>
     clear HC8
     try clear c1
     try clear c2
     try clear p2
     try clear c4
     try clear c4b0
     try clear c4b1
     try clear c5
     try clear c8
     try clear c13
     try clear c13b0
     try clear c13b1
     try clear p2
     obtain ⟨kq, x37_7, rfl, HA, HJ7, HO_6, HB⟩ := hcut
     cases kq with
     | zero => exact absurd HA.out (by simp [laws_FnChanceSplit.j1])
     | succ kj7 =>
      have H := HA.out
      clear HA
      simp only [laws_FnChanceSplit.j1] at H
      by_cases c16 : x37_7 = true
      ·subst c16
       rw [if_pos rfl] at H
       replace H := bnd H
       obtain ⟨t740, A17, H⟩ := H
       obtain rfl := Option.some.inj H
       go_wp2_with (first | ((with_reducible refine gate_callee (f := 28) rfl ?_); refine goesL_ (some 41) rfl rfl Tryz.func28 (by kernel_rfl) rfl #[.int .i64 t734, .slice Ao10 t735.length co10] rfl (by (try simp only [List.map_toArray, List.map_cons, List.map_nil]); first | done | rfl | (simp only [List.length_drop, List.length_take]; rfl)) ?_; (with_reducible refine (spec_QueryChance.calls kj7 t734 _ _ t735 t740 _ ?side1 ?side2 A17.out).mono ?_); (case side1 => exact (Kd.R_reads' HO_6.out).2.2); (case side2 => exact (Kd.R_reads' HO_6.out).2.1); rintro e w18 ⟨rfl, hb⟩; refine ⟨_, rfl, ?_⟩; replace HO_6 := Aside0.mk (Kd.R_below (HO_6.out) hb); replace HB := Aside0.mk (below_step (by repeat (with_reducible first | exact HB.out | apply below_alloc | apply pw_below_drewN | apply below_drew1)) hb); clear hb))
       go_ret
       exact ⟨rfl, by repeat (with_reducible first | exact HB.out | apply below_alloc | apply pw_below_drewN | apply below_drew1)⟩
      ·replace c16 := Bool.eq_false_iff.mpr c16
       subst c16
       rw [if_neg (show ¬ (false = true) by decide)] at H
       replace H := bnd H
       obtain ⟨⟨t741, t744, t745, t746, t749⟩, A19, H⟩ := H
       dsimp only at H
       replace H := bnd H
       obtain ⟨t751, A20, H⟩ := H
       by_cases c21 : t751 = true
       ·subst c21
        rw [if_pos rfl] at H
        obtain ⟨y752, hy752⟩ : ∃ y_ : List Int, y_ = (([] : List Int)) := ⟨_, rfl⟩
        replace H : (if y752.length + t735.length < 17592186044416 then ((some (y752 ++ t735 : List Int)).bind fun y755 => (if (t746.length : Int) = 0 then (none) else (if 0 ≤ (wrap64 ((wrap64 ((t741.length : Int) + 2)) + ((l1.length : Int) % (t746.length : Int)))) then (if (wrap64 ((wrap64 ((t741.length : Int) + 2)) + ((l1.length : Int) % (t746.length : Int)))) < (y755.length : Int) then ((impl_FieldSum.f (rd y755 (wrap64 ((wrap64 ((t741.length : Int) + 2)) + ((l1.length : Int) % (t746.length : Int))))) (1 + ((l1.length : Int) % 30))).bind fun t759 => ((impl_QueryChance.f kj7 t734 (y755.set ((wrap64 ((wrap64 ((t741.length : Int) + 2)) + ((l1.length : Int) % (t746.length : Int)))) : Int).toNat t759)).bind fun t761 => ((impl_QueryBound.f t734).bind fun t762 => (some (decide (t761 ≤ t762)))))) else (none)) else (none)))) else (none)) = some r := by first | (rw [hy752]; with_reducible exact H) | (have H2_ := (Option.bind_some _ _).symm.trans H; rw [hy752]; with_reducible exact H2_) | (have H2_ := (Option.bind_some _ _).symm.trans H; with_reducible exact H2_) | with_reducible exact H | (rw [hy752]; exact H) | exact H
        have Ny752 := Aside0.mk hy752
        clear hy752
        by_cases c22 : y752.length + t735.length < 17592186044416
        ·rw [if_pos c22] at H
         have LMc22 := Aside0.mk c22
         clear c22
         obtain ⟨y755, hy755⟩ : ∃ y_ : List Int, y_ = (y752 ++ t735) := ⟨_, rfl⟩
         replace H : (if (t746.length : Int) = 0 then (none) else (if 0 ≤ (wrap64 ((wrap64 ((t741.length : Int) + 2)) + ((l1.length : Int) % (t746.length : Int)))) then (if (wrap64 ((wrap64 ((t741.length : Int) + 2)) + ((l1.length : Int) % (t746.length : Int)))) < (y755.length : Int) then ((impl_FieldSum.f (rd y755 (wrap64 ((wrap64 ((t741.length : Int) + 2)) + ((l1.length : Int) % (t746.length : Int))))) (1 + ((l1.length : Int) % 30))).bind fun t759 => ((impl_QueryChance.f kj7 t734 (y755.set ((wrap64 ((wrap64 ((t741.length : Int) + 2)) + ((l1.length : Int) % (t746.length : Int)))) : Int).toNat t759)).bind fun t761 => ((impl_QueryBound.f t734).bind fun t762 => (some (decide (t761 ≤ t762)))))) else (none)) else (none))) = some r := by first | (rw [hy755]; with_reducible exact H) | (have H2_ := (Option.bind_some _ _).symm.trans H; rw [hy755]; with_reducible exact H2_) | (have H2_ := (Option.bind_some _ _).symm.trans H; with_reducible exact H2_) | with_reducible exact H | (rw [hy755]; exact H) | exact H
         have Ny755 := Aside0.mk hy755
         clear hy755
         by_cases c23 : (t746.length : Int) = 0
         ·rw [if_pos c23] at H
          exact absurd H (by simp)
         ·rw [if_neg c23] at H
          have c23b0 : ((t746.length : Int) == 0) = false := beq_eq_false_iff_ne.mpr c23
          have c23b1 : ((t746.length : Int) != 0) = true := bne_iff_ne.mpr c23
          have c23b2 : ¬ (t746 = []) := fun h_ => c23 (by rw [h_]; rfl)
          obtain ⟨ji24, hji24⟩ : ∃ j_ : Int, (wrap64 ((wrap64 ((t741.length : Int) + 2)) + ((l1.length : Int) % (t746.length : Int)))) = j_ := ⟨_, rfl⟩
          replace H : (if 0 ≤ (ji24) then (if (ji24) < (y755.length : Int) then ((impl_FieldSum.f (rd y755 (ji24)) (1 + ((l1.length : Int) % 30))).bind fun t759 => ((impl_QueryChance.f kj7 t734 (y755.set ((ji24) : Int).toNat t759)).bind fun t761 => ((impl_QueryBound.f t734).bind fun t762 => (some (decide (t761 ≤ t762)))))) else (none)) else (none)) = some r := by first | (rw [hji24] at H; exact H) | (simp only [hji24] at H ⊢; exact H)
          (try rw [hji24] at A19)
          (try rw [hji24] at A20)
          have hji24w : (IntKind.i64.wrap ((wrap64 ((t741.length : Int) + 2)) + ((l1.length : Int) % (t746.length : Int)))) = ji24 := (i64_w _).trans hji24
          by_cases c25 : 0 ≤ (ji24)
          ·rw [if_pos c25] at H
           have c25b0 : decide (0 ≤ (ji24)) = true := decide_eq_true c25
           clear c25
           by_cases c26 : (ji24) < (y755.length : Int)
           ·rw [if_pos c26] at H
            have c26b0 : decide ((ji24) < (y755.length : Int)) = true := decide_eq_true c26
            clear c26
            replace H := bnd H
            obtain ⟨t759, A27, H⟩ := H
            obtain ⟨y760, hy760⟩ : ∃ y_ : List Int, y_ = (y755.set ((ji24) : Int).toNat t759) := ⟨_, rfl⟩
            replace H : ((impl_QueryChance.f kj7 t734 y760).bind fun t761 => ((impl_QueryBound.f t734).bind fun t762 => (some (decide (t761 ≤ t762))))) = some r := by rw [hy760]; with_reducible exact H
            have Ny760 := Aside0.mk hy760
            clear hy760
            replace H := bnd H
            obtain ⟨t761, A29, H⟩ := H
            replace H := bnd H
            obtain ⟨t762, A30, H⟩ := H
            obtain rfl := Option.some.inj H
            go_wp2_with (first | ((with_reducible refine gate_callee (f := 23) rfl ?_); refine goesL_ (some 46) rfl rfl Tryz.func23 (by kernel_rfl) rfl #[.int .i64 t734, .slice Ao10 t735.length co10] rfl (by (try simp only [List.map_toArray, List.map_cons, List.map_nil]); first | done | rfl | (simp only [List.length_drop, List.length_take]; rfl)) ?_; (with_reducible refine (impl_ProofCut.calls t734 _ _ t735 t741 t744 t745 t746 t749 _ ?side1 ?side2 A19.out).mono ?_); (case side1 => exact (Kd.R_reads' HO_6.out).2.2); (case side2 => exact (Kd.R_reads' HO_6.out).2.1); rintro e w31 ⟨v742, v747, rfl, ho0, ho1, hb⟩; refine ⟨_, rfl, ?_⟩; replace HO743 := Aside0.mk (Kd.V_lower (Kd.V_mono (ok' := fun k_ => some k_ ≠ (.slice Ao10 t735.length co10 : Value).ownBlock) ho0 (fun k_ hk_ => (Kd.fresh' (Kd.R_lt (HO_6.out)) k_ hk_))) (below_size (by repeat (with_reducible first | exact HB.out | apply below_alloc | apply pw_below_drewN | apply below_drew1)))); replace HO748 := Aside0.mk (Kd.V_lower (Kd.V_mono (ok' := fun k_ => some k_ ≠ (.slice Ao10 t735.length co10 : Value).ownBlock) ho1 (fun k_ hk_ => (Kd.fresh' (Kd.R_lt (HO_6.out)) k_ hk_))) (below_size (by repeat (with_reducible first | exact HB.out | apply below_alloc | apply pw_below_drewN | apply below_drew1)))); replace HO_6 := Aside0.mk (Kd.R_below (HO_6.out) hb); replace HB := Aside0.mk (below_step (by repeat (with_reducible first | exact HB.out | apply below_alloc | apply pw_below_drewN | apply below_drew1)) hb); clear hb ho0 ho1) | ((with_reducible refine gate_dst (N := 9) rfl ?_); refine box_event ?hg (N := 9) ?hd (cs := #[.int .i64 0, .int .i64 0, .slice none 0 0]) (t := 40) ?hr ?_; (case hd => rfl); (case hg => rfl); (case hr => first | (go_simp; done) | (go_simp; rfl)); intro gb750 hg w32 hbox hb; replace HO_6 := Aside0.mk (Kd.R_below (HO_6.out) hb); replace HO743 := Aside0.mk (Kd.V_below (Kd.V_elderB (by (with_reducible repeat (first | apply Kd.V_alloc | apply Kd.V_drewN | apply Kd.V_drew)); exact HO743.out) gb750 (Nat.le_of_eq hg.symm)) hb); replace HO748 := Aside0.mk (Kd.V_below (Kd.V_elderB (by (with_reducible repeat (first | apply Kd.V_alloc | apply Kd.V_drewN | apply Kd.V_drew)); exact HO748.out) gb750 (Nat.le_of_eq hg.symm)) hb); replace BK750 := Aside0.mk (hbox); replace GW750 := Aside0.mk ((by rw [hg]; exact (below_size (by repeat (with_reducible first | exact HB.out | apply below_alloc | apply pw_below_drewN | apply below_drew1))) : w.heap.size ≤ gb750)); replace GE750 := Aside0.mk ((by rw [hg]; exact (below_size (by repeat (with_reducible first | exact HB.out | apply below_alloc | apply pw_below_drewN | apply below_drew1))) : w.heap.size ≤ gb750)); replace HB := Aside0.mk (below_step (by repeat (with_reducible first | exact HB.out | apply below_alloc | apply pw_below_drewN | apply below_drew1)) hb); clear hb hbox hg; have hcz33_0 : w32.cell? ⟨gb750, 0, none⟩ = some (.int .i64 0) := (blk_cell BK750.out 0).trans rfl; have hcz33_1 : w32.cell? ⟨gb750, 1, none⟩ = some (.int .i64 0) := (blk_cell BK750.out 1).trans rfl; have hcz33_2 : w32.cell? ⟨gb750, 2, none⟩ = some (.slice none 0 0) := (blk_cell BK750.out 2).trans rfl; have hfz33_0 := blk_frozen BK750.out 0; have hfz33_1 := blk_frozen BK750.out 1; have hfz33_2 := blk_frozen BK750.out 2; obtain ⟨Ao34, co34, eo34⟩ := Kd.V_slice HO748.out; subst eo34; obtain ⟨Ao35, co35, eo35⟩ := Kd.V_slice HO743.out; subst eo35) | ((with_reducible refine gate_callee (f := 24) rfl ?_); refine goesL_ (some 53) rfl rfl Tryz.func24 (by kernel_rfl) rfl #[.int .i64 t734, .slice Ao35 t741.length co35, .agg #[.int .i64 t744, .int .i64 t745, .slice Ao34 t746.length co34]] rfl (by (try simp only [List.map_toArray, List.map_cons, List.map_nil]); first | done | rfl | (simp only [List.length_drop, List.length_take]; rfl)) ?_; (with_reducible refine (impl_ProofOk.calls kj7 t734 _ _ t741 t744 t745 _ _ t746 true _ ?side1 ?side2 ?side3 ?side4 A20.out HE.out ?sideB).mono ?_); (case side1 => refine (Kd.V_reads' (e := 3) (base := w.heap.size) (ok := fun k_ => (some k_ ≠ (.slice Ao10 t735.length co10 : Value).ownBlock ∧ k_ ≠ gb750)) (n := t741.length) (c := co35) ?_).2.2; exact (by (with_reducible repeat (first | apply Kd.V_alloc | apply Kd.V_drewN | apply Kd.V_drew)); exact (Kd.V_mono (Kd.V_far (p := ⟨gb750, 2, none⟩) (Kd.V_far (p := ⟨gb750, 1, none⟩) (Kd.V_far (p := ⟨gb750, 0, none⟩) (Kd.V_mono HO743.out (fun k_ hk => (⟨hk, hk.2⟩ : _ ∧ k_ ≠ gb750))) (fun _ hk => hk.2) (.int .i64 t744)) (fun _ hk => hk.2) (.int .i64 t745)) (fun _ hk => hk.2) (.slice Ao34 t746.length co34)) (fun _ h_ => h_.1)))); (case side2 => exact (Kd.V_reads' HO743.out).2.1); (case side3 => refine (Kd.V_reads' (e := 3) (base := w.heap.size) (ok := fun k_ => (some k_ ≠ (.slice Ao10 t735.length co10 : Value).ownBlock ∧ k_ ≠ gb750)) (n := t746.length) (c := co34) ?_).2.2; exact (by (with_reducible repeat (first | apply Kd.V_alloc | apply Kd.V_drewN | apply Kd.V_drew)); exact (Kd.V_mono (Kd.V_far (p := ⟨gb750, 2, none⟩) (Kd.V_far (p := ⟨gb750, 1, none⟩) (Kd.V_far (p := ⟨gb750, 0, none⟩) (Kd.V_mono HO748.out (fun k_ hk => (⟨hk, hk.2⟩ : _ ∧ k_ ≠ gb750))) (fun _ hk => hk.2) (.int .i64 t744)) (fun _ hk => hk.2) (.int .i64 t745)) (fun _ hk => hk.2) (.slice Ao34 t746.length co34)) (fun _ h_ => h_.1)))); (case side4 => exact (Kd.V_reads' HO748.out).2.1); (case sideB => exact (by repeat (with_reducible first | exact HB.out | apply below_alloc | apply pw_below_drewN | apply below_drew1 | refine below_set ?_ GE750.out))); rintro e w36 ⟨rfl, hb⟩; refine ⟨_, rfl, ?_⟩; replace HO_6 := Aside0.mk (Kd.R_below ((Kd.R_mono (Kd.R_far (p := ⟨gb750, 2, none⟩) (Kd.R_far (p := ⟨gb750, 1, none⟩) (Kd.R_far (p := ⟨gb750, 0, none⟩) (Kd.R_types HO_6.out BK750.out (by decide)) (fun _ hk => hk.2) (.int .i64 t744)) (fun _ hk => hk.2) (.int .i64 t745)) (fun _ hk => hk.2) (.slice Ao34 t746.length co34)) (fun _ h_ => h_.1))) hb); replace HO743 := Aside0.mk (Kd.V_below (by (with_reducible repeat (first | apply Kd.V_alloc | apply Kd.V_drewN | apply Kd.V_drew)); exact (Kd.V_mono (Kd.V_far (p := ⟨gb750, 2, none⟩) (Kd.V_far (p := ⟨gb750, 1, none⟩) (Kd.V_far (p := ⟨gb750, 0, none⟩) (Kd.V_mono HO743.out (fun k_ hk => (⟨hk, hk.2⟩ : _ ∧ k_ ≠ gb750))) (fun _ hk => hk.2) (.int .i64 t744)) (fun _ hk => hk.2) (.int .i64 t745)) (fun _ hk => hk.2) (.slice Ao34 t746.length co34)) (fun _ h_ => h_.1))) hb); replace HO748 := Aside0.mk (Kd.V_below (by (with_reducible repeat (first | apply Kd.V_alloc | apply Kd.V_drewN | apply Kd.V_drew)); exact (Kd.V_mono (Kd.V_far (p := ⟨gb750, 2, none⟩) (Kd.V_far (p := ⟨gb750, 1, none⟩) (Kd.V_far (p := ⟨gb750, 0, none⟩) (Kd.V_mono HO748.out (fun k_ hk => (⟨hk, hk.2⟩ : _ ∧ k_ ≠ gb750))) (fun _ hk => hk.2) (.int .i64 t744)) (fun _ hk => hk.2) (.int .i64 t745)) (fun _ hk => hk.2) (.slice Ao34 t746.length co34)) (fun _ h_ => h_.1))) hb); replace BK750 := Aside0.mk (blk_below (g := gb750) (o := .cells #[.int .i64 t744, .int .i64 t745, .slice Ao34 t746.length co34] 40 (0, 0)) (by refine blk_put (cs := #[.int .i64 t744, .int .i64 t745, .slice none 0 0]) ?_ 2 _ rfl; refine blk_put (cs := #[.int .i64 t744, .int .i64 0, .slice none 0 0]) ?_ 1 _ rfl; refine blk_put (cs := #[.int .i64 0, .int .i64 0, .slice none 0 0]) ?_ 0 _ rfl; exact BK750.out) hb); replace HB := Aside0.mk (below_step (by repeat (with_reducible first | exact HB.out | apply below_alloc | apply pw_below_drewN | apply below_drew1 | refine below_set ?_ GE750.out)) hb); clear hb) | ((with_reducible refine gate_dst (N := 55) rfl ?_); refine Kd.R_lit (Kd.int .i64) _ 3 ?hg (N := 55) ?hd (xs := ([] : List Int)) (inner := []) (ok := fun _ => True) (okp := fun _ => True) ?hr ?hp (fun _ hk => hk) trivial (Below.refl _ _) (Nat.le_refl _) (by simp) ?_; (case hd => rfl); (case hg => rfl); (case hr => first | (go_simp; done) | (go_simp; rfl)); (case hp => exact (Reps.none _ _)); intro v753 w37 ho38 hb hg_ hnew_; clear hg_ hnew_; (first | rw [← Ny752.out] at ho38 | (simp only [Int.reduceToNat] at ho38; rw [← Ny752.out] at ho38)); replace HO743 := Aside0.mk (Kd.V_elder' (by (with_reducible repeat (first | apply Kd.V_alloc | apply Kd.V_drewN | apply Kd.V_drew)); exact HO743.out) (Kd.R_base ho38) hb); replace HO748 := Aside0.mk (Kd.V_elder' (by (with_reducible repeat (first | apply Kd.V_alloc | apply Kd.V_drewN | apply Kd.V_drew)); exact HO748.out) (Kd.R_base ho38) hb); replace HO754 := Aside0.mk (Kd.R_lower (Kd.R_new' ho38 (Kd.R_lt (HO_6.out))) (below_size (by repeat (with_reducible first | exact HB.out | apply below_alloc | apply pw_below_drewN | apply below_drew1 | refine below_set ?_ GE750.out)))); replace HO_6 := Aside0.mk (Kd.R_elder' (HO_6.out) (Kd.R_base ho38) hb); replace BK750 := Aside0.mk (blk_below (g := gb750) (o := .cells #[.int .i64 t744, .int .i64 t745, .slice Ao34 t746.length co34] 40 (0, 0)) (by exact BK750.out) hb); replace HB := Aside0.mk (below_step (by repeat (with_reducible first | exact HB.out | apply below_alloc | apply pw_below_drewN | apply below_drew1 | refine below_set ?_ GE750.out)) hb); clear hb ho38) | ((with_reducible refine gate_builtin (b := .append) (xs := #[.tmp 55, .tmp 56]) rfl ?_); at_builtin; refine Kd.R_append_rows (Kd.int .i64) (w0 := w) w.heap.size rfl (.tmp 55) (.tmp 56) 22 3 (.int .i64 0) 8 rfl Tryz.underlying22 info3 rfl (by decide) (by omega) v753 y752 t735 _ _ _ (fun k_ => some k_ ≠ (.slice Ao10 t735.length co10 : Value).ownBlock) (fun _ => False) rfl rfl ?aO ?aR (fun _ _ h => h) (fun _ h => h.elim) ?aF ?aB ?aS ?aL ?_; (case aR => exact (Kd.R_reads' HO_6.out).2.2); (case aB => exact (by repeat (with_reducible first | exact HB.out | apply below_alloc | apply pw_below_drewN | apply below_drew1 | refine below_set ?_ GE750.out))); (case aF => exact (fun k_ hk => Kd.fresh' (Kd.R_lt (HO_6.out)) k_ hk)); (case aO => exact (Kd.R_mono HO754.out (fun _ hk => hk.2))); (case aS => exact (below_size (by repeat (with_reducible first | exact HB.out | apply below_alloc | apply pw_below_drewN | apply below_drew1 | refine below_set ?_ GE750.out)))); (case aL => have := LMc22.out; omega); intro v756 w39 ho hb hg hat; rw [← Ny755.out] at ho; replace HO_6 := Aside0.mk (Kd.R_after (ok := (fun _ => True)) (HO_6.out) hg hat); replace HO743 := Aside0.mk (Kd.V_afterv (ok := (fun k_ => some k_ ≠ (.slice Ao10 t735.length co10 : Value).ownBlock ∧ k_ ≠ gb750)) (by (with_reducible repeat (first | apply Kd.V_alloc | apply Kd.V_drewN | apply Kd.V_drew)); exact HO743.out) hg hat); replace HO748 := Aside0.mk (Kd.V_afterv (ok := (fun k_ => some k_ ≠ (.slice Ao10 t735.length co10 : Value).ownBlock ∧ k_ ≠ gb750)) (by (with_reducible repeat (first | apply Kd.V_alloc | apply Kd.V_drewN | apply Kd.V_drew)); exact HO748.out) hg hat); replace BK750 := Aside0.mk (blk_grown (g := gb750) (o := .cells #[.int .i64 t744, .int .i64 t745, .slice Ao34 t746.length co34] 40 (0, 0)) (by exact BK750.out) hg (Kd.R_ne HO754.out BK750.out (by decide))); replace HB := Aside0.mk (hb); replace HO757 := Aside0.mk (ho); clear HO754; clear ho hb hg hat; have hcz40_0 : w39.cell? ⟨gb750, 0, none⟩ = some (.int .i64 t744) := (blk_cell BK750.out 0).trans rfl; have hcz40_1 : w39.cell? ⟨gb750, 1, none⟩ = some (.int .i64 t745) := (blk_cell BK750.out 1).trans rfl; have hcz40_2 : w39.cell? ⟨gb750, 2, none⟩ = some (.slice Ao34 t746.length co34) := (blk_cell BK750.out 2).trans rfl; have hfz40_0 := blk_frozen BK750.out 0; have hfz40_1 := blk_frozen BK750.out 1; have hfz40_2 := blk_frozen BK750.out 2; obtain ⟨Ao41, co41, eo41⟩ := Kd.R_slice HO757.out; subst eo41; have p758 : 0 ≤ ((ji24) : Int) := of_decide_eq_true ‹_›; have q758 : (ji24) < (y755.length : Int) := of_decide_eq_true ‹_›; obtain ⟨ad758, e758, hx758_0⟩ := Kd.at_int (Kd.R_reads' HO757.out).2.2 (ji24) p758 q758; cases e758; replace p758 := eq_true p758; replace q758 := eq_true q758) | (refine gsD c31x32 (impl_FieldSum.calls (rd y755 (ji24)) (1 + ((l1.length : Int) % 30)) t759 _ A27.out) ?_; intro nd; (try (rw [drewN_self w39]; generalize hq_ : World.drewN w39 _ = w39; have n0_ : Aside0 (Kd.V (Kd.int .i64) 3 w39 w.heap.size (fun k_ => some k_ ≠ (.slice (some ad758) y755.length co41 : Value).ownBlock ∧ some k_ ≠ (.slice Ao10 t735.length co10 : Value).ownBlock ∧ k_ ≠ gb750) (.slice Ao35 t741.length co35) t741) := ⟨by rw [← hq_]; exact (by (with_reducible repeat (first | apply Kd.V_alloc | apply Kd.V_drewN | apply Kd.V_drew)); exact Kd.V_mono HO743.out (fun _ hk => ⟨hk.2, ⟨hk.1.1, hk.1.2⟩⟩))⟩; have n1_ : Aside0 (Kd.V (Kd.int .i64) 3 w39 w.heap.size (fun k_ => some k_ ≠ (.slice (some ad758) y755.length co41 : Value).ownBlock ∧ some k_ ≠ (.slice Ao10 t735.length co10 : Value).ownBlock ∧ k_ ≠ gb750) (.slice Ao34 t746.length co34) t746) := ⟨by rw [← hq_]; exact (by (with_reducible repeat (first | apply Kd.V_alloc | apply Kd.V_drewN | apply Kd.V_drew)); exact Kd.V_mono HO748.out (fun _ hk => ⟨hk.2, ⟨hk.1.1, hk.1.2⟩⟩))⟩; have n2_ : Aside0 (Kd.R (Kd.int .i64) 3 w39 w.heap.size (fun k_ => some k_ ≠ (.slice Ao10 t735.length co10 : Value).ownBlock) (.slice (some ad758) y755.length co41) y755) := ⟨by rw [← hq_]; exact (HO757.out)⟩; have n3_ : Aside0 (Kd.R (Kd.int .i64) 3 w39 w.heap.size (fun k_ => some k_ ≠ (.slice (some ad758) y755.length co41 : Value).ownBlock) (.slice Ao10 t735.length co10) t735) := ⟨by rw [← hq_]; exact (Kd.R_mono HO_6.out (fun _ hk => hk.2))⟩; have n4_ : Aside0 (w39.heap[gb750]? = some (.cells #[.int .i64 t744, .int .i64 t745, .slice Ao34 t746.length co34] 40 (0, 0))) := ⟨by rw [← hq_]; exact (by exact BK750.out)⟩; have n5_ : Aside0 (Below w.heap.size w w39) := ⟨by rw [← hq_]; exact (by repeat (with_reducible first | exact HB.out | apply below_alloc | apply pw_below_drewN | apply below_drew1 | refine below_set ?_ GE750.out))⟩; clear HO743 HO748 HO757 HO_6 BK750 HB hq_; have HO743 := n0_; have HO748 := n1_; have HO757 := n2_; have HO_6 := n3_; have BK750 := n4_; have HB := n5_; clear n0_ n1_ n2_ n3_ n4_ n5_)); have p28 : 0 ≤ ((ji24) : Int) := of_decide_eq_true ‹_›; have q28 : ((ji24) : Int) < ((y755.length : Int) : Int) := of_decide_eq_true ‹_›; obtain ⟨go28, co28, eo28, gb28, gl28, cl28, HG28⟩ := Kd.R_form HO757.out (by omega); (first | cases eo28 | (injection eo28 with ea_ en_ ec_; (first | subst ea_ | (injection ea_ with ea_; subst ea_)); subst ec_; clear en_)); have GB28 := Aside0.mk gb28; have GG28 := Aside0.mk HG28; clear gb28 gl28 HG28; (first | simp only [add_plain] at hx758_0 | skip); obtain ⟨hx28_0, hf28_0⟩ := Kd.R_celln 0 HO757.out ((ji24) : Int) p28 q28; replace p28 := eq_true p28; replace q28 := eq_true q28; obtain ⟨hy42_, hz42_⟩ := Kd.R_celln 0 HO757.out ((ji24) : Int) (of_decide_eq_true ‹_›) (of_decide_eq_true ‹_›); have HP42 := Kd.R_putg HO757.out ((ji24) : Int) t759) | ((with_reducible refine gate_store (t := 3) (p := 79) rfl ?_); refine store_event (t := 3) (p := 79) (v := ?vo_w43) (w1 := (w39.setCell ⟨go28, ((ji24) : Int).toNat, none⟩ (.int .i64 t759))) ?hg ?ho ?hn ?hr ?_; (case ho => rfl); (case hg => rfl); (case hn => rfl); (case hr => first | (go_simp; done) | (go_simp; rfl)); intro w43 hw; have hg : w39.grownBy w43 (some go28) := (by rw [hw]; exact HP42.2); have hp_ : Kd.R (Kd.int .i64) 3 w43 w.heap.size (fun k_ => some k_ ≠ (.slice Ao10 t735.length co10 : Value).ownBlock) (.slice (some ⟨go28, 0, none⟩) y755.length co41) y760 := (by rw [hw, Ny760.out]; exact HP42.1); clear HP42; replace HO_6 := Aside0.mk (Kd.R_after (v := (.slice (some ⟨go28, 0, none⟩) y755.length co41)) (v1 := (.slice (some ⟨go28, 0, none⟩) y755.length co41)) (ok := (fun _ => True)) (by (with_reducible repeat (first | apply Kd.R_alloc | apply Kd.R_drewN | apply Kd.R_drew)); first | exact HO_6.out | exact Kd.R_mono HO_6.out (fun k_ hk_ => ⟨trivial, hk_⟩) | exact Kd.V_mono HO_6.out (fun k_ hk_ => ⟨hk_.2, hk_.1⟩)) hg (.inl rfl)); replace HO743 := Aside0.mk (Kd.V_afterv (v := (.slice (some ⟨go28, 0, none⟩) y755.length co41)) (v1 := (.slice (some ⟨go28, 0, none⟩) y755.length co41)) (ok := (fun k_ => some k_ ≠ (.slice Ao10 t735.length co10 : Value).ownBlock ∧ k_ ≠ gb750)) (by (with_reducible repeat (first | apply Kd.V_alloc | apply Kd.V_drewN | apply Kd.V_drew)); first | exact HO743.out | exact Kd.R_mono HO743.out (fun k_ hk_ => ⟨trivial, hk_⟩) | exact Kd.V_mono HO743.out (fun k_ hk_ => ⟨hk_.2, hk_.1⟩)) hg (.inl rfl)); replace HO748 := Aside0.mk (Kd.V_afterv (v := (.slice (some ⟨go28, 0, none⟩) y755.length co41)) (v1 := (.slice (some ⟨go28, 0, none⟩) y755.length co41)) (ok := (fun k_ => some k_ ≠ (.slice Ao10 t735.length co10 : Value).ownBlock ∧ k_ ≠ gb750)) (by (with_reducible repeat (first | apply Kd.V_alloc | apply Kd.V_drewN | apply Kd.V_drew)); first | exact HO748.out | exact Kd.R_mono HO748.out (fun k_ hk_ => ⟨trivial, hk_⟩) | exact Kd.V_mono HO748.out (fun k_ hk_ => ⟨hk_.2, hk_.1⟩)) hg (.inl rfl)); replace BK750 := Aside0.mk (blk_grown (g := gb750) (o := .cells #[.int .i64 t744, .int .i64 t745, .slice Ao34 t746.length co34] 40 (0, 0)) (by exact BK750.out) hg (Kd.R_ne HO757.out BK750.out (by decide))); replace HO757 := Aside0.mk (hp_); replace HB := Aside0.mk ((by rw [hw]; exact below_set (HB.out) GB28.out : Below w.heap.size w w43)); clear hg hw hp_) | ((with_reducible refine gate_callee (f := 27) rfl ?_); refine goesL_ (some 82) rfl rfl Tryz.func27 (by kernel_rfl) rfl #[.int .i64 t734, .slice (some ⟨go28, 0, none⟩) y760.length co41] rfl (by (try simp only [List.map_toArray, List.map_cons, List.map_nil]); first | done | (rw [show y760.length = y755.length from (Kd.R_reads' HO757.out).1.symm] <;> rfl) | rfl | (simp only [List.length_drop, List.length_take]; rfl)) ?_; (with_reducible refine (impl_QueryChance.calls kj7 t734 _ _ y760 t761 _ ?side1 ?side2 A29.out).mono ?_); (case side1 => exact (Kd.R_reads' HO757.out).2.2); (case side2 => rw [show y760.length = y755.length from (Kd.R_reads' HO757.out).1.symm]; exact (Kd.R_reads' HO757.out).2.1); rintro e w44 ⟨rfl, hb⟩; refine ⟨_, rfl, ?_⟩; replace HO_6 := Aside0.mk (Kd.R_below (HO_6.out) hb); replace HO743 := Aside0.mk (Kd.V_below (by (with_reducible repeat (first | apply Kd.V_alloc | apply Kd.V_drewN | apply Kd.V_drew)); exact HO743.out) hb); replace HO748 := Aside0.mk (Kd.V_below (by (with_reducible repeat (first | apply Kd.V_alloc | apply Kd.V_drewN | apply Kd.V_drew)); exact HO748.out) hb); replace HO757 := Aside0.mk (Kd.R_below (HO757.out) hb); replace BK750 := Aside0.mk (blk_below (g := gb750) (o := .cells #[.int .i64 t744, .int .i64 t745, .slice Ao34 t746.length co34] 40 (0, 0)) (by exact BK750.out) hb); replace HB := Aside0.mk (below_step (by repeat (with_reducible first | exact HB.out | apply below_alloc | apply pw_below_drewN | apply below_drew1 | refine below_set ?_ GE750.out)) hb); clear hb) | (refine gsC c30x32 (impl_QueryBound.calls t734 t762 _ A30.out) ?_; rintro e w45 ⟨rfl, hb⟩; refine ⟨_, rfl, ?_⟩; replace HO_6 := Aside0.mk (Kd.R_below (HO_6.out) hb); replace HO743 := Aside0.mk (Kd.V_below (by (with_reducible repeat (first | apply Kd.V_alloc | apply Kd.V_drewN | apply Kd.V_drew)); exact HO743.out) hb); replace HO748 := Aside0.mk (Kd.V_below (by (with_reducible repeat (first | apply Kd.V_alloc | apply Kd.V_drewN | apply Kd.V_drew)); exact HO748.out) hb); replace HO757 := Aside0.mk (Kd.R_below (HO757.out) hb); replace BK750 := Aside0.mk (blk_below (g := gb750) (o := .cells #[.int .i64 t744, .int .i64 t745, .slice Ao34 t746.length co34] 40 (0, 0)) (by exact BK750.out) hb); replace HB := Aside0.mk (below_step (by repeat (with_reducible first | exact HB.out | apply below_alloc | apply pw_below_drewN | apply below_drew1 | refine below_set ?_ GE750.out)) hb); clear hb))
            go_ret
            exact ⟨by first | rfl | (simp [errW_none, errW_some] <;> rfl) | (simp only [← hji24]; first | rfl | (simp [errW_none, errW_some] <;> rfl)) | (simp [*, errW_none, errW_some] <;> rfl), by repeat (with_reducible first | exact HB.out | apply below_alloc | apply pw_below_drewN | apply below_drew1 | refine below_set ?_ GE750.out)⟩
           ·rw [if_neg c26] at H
            exact absurd H (by simp)
          ·rw [if_neg c25] at H
           exact absurd H (by simp)
        ·rw [if_neg c22] at H
         exact absurd H (by simp)
       ·replace c21 := Bool.eq_false_iff.mpr c21
        subst c21
        rw [if_neg (show ¬ (false = true) by decide)] at H
        obtain rfl := Option.some.inj H
        go_wp2_with (first | ((with_reducible refine gate_callee (f := 23) rfl ?_); refine goesL_ (some 46) rfl rfl Tryz.func23 (by kernel_rfl) rfl #[.int .i64 t734, .slice Ao10 t735.length co10] rfl (by (try simp only [List.map_toArray, List.map_cons, List.map_nil]); first | done | rfl | (simp only [List.length_drop, List.length_take]; rfl)) ?_; (with_reducible refine (impl_ProofCut.calls t734 _ _ t735 t741 t744 t745 t746 t749 _ ?side1 ?side2 A19.out).mono ?_); (case side1 => exact (Kd.R_reads' HO_6.out).2.2); (case side2 => exact (Kd.R_reads' HO_6.out).2.1); rintro e w46 ⟨v742, v747, rfl, ho0, ho1, hb⟩; refine ⟨_, rfl, ?_⟩; replace HO743 := Aside0.mk (Kd.V_lower (Kd.V_mono (ok' := fun k_ => some k_ ≠ (.slice Ao10 t735.length co10 : Value).ownBlock) ho0 (fun k_ hk_ => (Kd.fresh' (Kd.R_lt (HO_6.out)) k_ hk_))) (below_size (by repeat (with_reducible first | exact HB.out | apply below_alloc | apply pw_below_drewN | apply below_drew1)))); replace HO748 := Aside0.mk (Kd.V_lower (Kd.V_mono (ok' := fun k_ => some k_ ≠ (.slice Ao10 t735.length co10 : Value).ownBlock) ho1 (fun k_ hk_ => (Kd.fresh' (Kd.R_lt (HO_6.out)) k_ hk_))) (below_size (by repeat (with_reducible first | exact HB.out | apply below_alloc | apply pw_below_drewN | apply below_drew1)))); replace HO_6 := Aside0.mk (Kd.R_below (HO_6.out) hb); replace HB := Aside0.mk (below_step (by repeat (with_reducible first | exact HB.out | apply below_alloc | apply pw_below_drewN | apply below_drew1)) hb); clear hb ho0 ho1) | ((with_reducible refine gate_dst (N := 9) rfl ?_); refine box_event ?hg (N := 9) ?hd (cs := #[.int .i64 0, .int .i64 0, .slice none 0 0]) (t := 40) ?hr ?_; (case hd => rfl); (case hg => rfl); (case hr => first | (go_simp; done) | (go_simp; rfl)); intro gb750 hg w47 hbox hb; replace HO_6 := Aside0.mk (Kd.R_below (HO_6.out) hb); replace HO743 := Aside0.mk (Kd.V_below (Kd.V_elderB (by (with_reducible repeat (first | apply Kd.V_alloc | apply Kd.V_drewN | apply Kd.V_drew)); exact HO743.out) gb750 (Nat.le_of_eq hg.symm)) hb); replace HO748 := Aside0.mk (Kd.V_below (Kd.V_elderB (by (with_reducible repeat (first | apply Kd.V_alloc | apply Kd.V_drewN | apply Kd.V_drew)); exact HO748.out) gb750 (Nat.le_of_eq hg.symm)) hb); replace BK750 := Aside0.mk (hbox); replace GW750 := Aside0.mk ((by rw [hg]; exact (below_size (by repeat (with_reducible first | exact HB.out | apply below_alloc | apply pw_below_drewN | apply below_drew1))) : w.heap.size ≤ gb750)); replace GE750 := Aside0.mk ((by rw [hg]; exact (below_size (by repeat (with_reducible first | exact HB.out | apply below_alloc | apply pw_below_drewN | apply below_drew1))) : w.heap.size ≤ gb750)); replace HB := Aside0.mk (below_step (by repeat (with_reducible first | exact HB.out | apply below_alloc | apply pw_below_drewN | apply below_drew1)) hb); clear hb hbox hg; have hcz48_0 : w47.cell? ⟨gb750, 0, none⟩ = some (.int .i64 0) := (blk_cell BK750.out 0).trans rfl; have hcz48_1 : w47.cell? ⟨gb750, 1, none⟩ = some (.int .i64 0) := (blk_cell BK750.out 1).trans rfl; have hcz48_2 : w47.cell? ⟨gb750, 2, none⟩ = some (.slice none 0 0) := (blk_cell BK750.out 2).trans rfl; have hfz48_0 := blk_frozen BK750.out 0; have hfz48_1 := blk_frozen BK750.out 1; have hfz48_2 := blk_frozen BK750.out 2; obtain ⟨Ao49, co49, eo49⟩ := Kd.V_slice HO748.out; subst eo49; obtain ⟨Ao50, co50, eo50⟩ := Kd.V_slice HO743.out; subst eo50) | ((with_reducible refine gate_callee (f := 24) rfl ?_); refine goesL_ (some 53) rfl rfl Tryz.func24 (by kernel_rfl) rfl #[.int .i64 t734, .slice Ao50 t741.length co50, .agg #[.int .i64 t744, .int .i64 t745, .slice Ao49 t746.length co49]] rfl (by (try simp only [List.map_toArray, List.map_cons, List.map_nil]); first | done | rfl | (simp only [List.length_drop, List.length_take]; rfl)) ?_; (with_reducible refine (impl_ProofOk.calls kj7 t734 _ _ t741 t744 t745 _ _ t746 false _ ?side1 ?side2 ?side3 ?side4 A20.out HE.out ?sideB).mono ?_); (case side1 => refine (Kd.V_reads' (e := 3) (base := w.heap.size) (ok := fun k_ => (some k_ ≠ (.slice Ao10 t735.length co10 : Value).ownBlock ∧ k_ ≠ gb750)) (n := t741.length) (c := co50) ?_).2.2; exact (by (with_reducible repeat (first | apply Kd.V_alloc | apply Kd.V_drewN | apply Kd.V_drew)); exact (Kd.V_mono (Kd.V_far (p := ⟨gb750, 2, none⟩) (Kd.V_far (p := ⟨gb750, 1, none⟩) (Kd.V_far (p := ⟨gb750, 0, none⟩) (Kd.V_mono HO743.out (fun k_ hk => (⟨hk, hk.2⟩ : _ ∧ k_ ≠ gb750))) (fun _ hk => hk.2) (.int .i64 t744)) (fun _ hk => hk.2) (.int .i64 t745)) (fun _ hk => hk.2) (.slice Ao49 t746.length co49)) (fun _ h_ => h_.1)))); (case side2 => exact (Kd.V_reads' HO743.out).2.1); (case side3 => refine (Kd.V_reads' (e := 3) (base := w.heap.size) (ok := fun k_ => (some k_ ≠ (.slice Ao10 t735.length co10 : Value).ownBlock ∧ k_ ≠ gb750)) (n := t746.length) (c := co49) ?_).2.2; exact (by (with_reducible repeat (first | apply Kd.V_alloc | apply Kd.V_drewN | apply Kd.V_drew)); exact (Kd.V_mono (Kd.V_far (p := ⟨gb750, 2, none⟩) (Kd.V_far (p := ⟨gb750, 1, none⟩) (Kd.V_far (p := ⟨gb750, 0, none⟩) (Kd.V_mono HO748.out (fun k_ hk => (⟨hk, hk.2⟩ : _ ∧ k_ ≠ gb750))) (fun _ hk => hk.2) (.int .i64 t744)) (fun _ hk => hk.2) (.int .i64 t745)) (fun _ hk => hk.2) (.slice Ao49 t746.length co49)) (fun _ h_ => h_.1)))); (case side4 => exact (Kd.V_reads' HO748.out).2.1); (case sideB => exact (by repeat (with_reducible first | exact HB.out | apply below_alloc | apply pw_below_drewN | apply below_drew1 | refine below_set ?_ GE750.out))); rintro e w51 ⟨rfl, hb⟩; refine ⟨_, rfl, ?_⟩; replace HO_6 := Aside0.mk (Kd.R_below ((Kd.R_mono (Kd.R_far (p := ⟨gb750, 2, none⟩) (Kd.R_far (p := ⟨gb750, 1, none⟩) (Kd.R_far (p := ⟨gb750, 0, none⟩) (Kd.R_types HO_6.out BK750.out (by decide)) (fun _ hk => hk.2) (.int .i64 t744)) (fun _ hk => hk.2) (.int .i64 t745)) (fun _ hk => hk.2) (.slice Ao49 t746.length co49)) (fun _ h_ => h_.1))) hb); replace HO743 := Aside0.mk (Kd.V_below (by (with_reducible repeat (first | apply Kd.V_alloc | apply Kd.V_drewN | apply Kd.V_drew)); exact (Kd.V_mono (Kd.V_far (p := ⟨gb750, 2, none⟩) (Kd.V_far (p := ⟨gb750, 1, none⟩) (Kd.V_far (p := ⟨gb750, 0, none⟩) (Kd.V_mono HO743.out (fun k_ hk => (⟨hk, hk.2⟩ : _ ∧ k_ ≠ gb750))) (fun _ hk => hk.2) (.int .i64 t744)) (fun _ hk => hk.2) (.int .i64 t745)) (fun _ hk => hk.2) (.slice Ao49 t746.length co49)) (fun _ h_ => h_.1))) hb); replace HO748 := Aside0.mk (Kd.V_below (by (with_reducible repeat (first | apply Kd.V_alloc | apply Kd.V_drewN | apply Kd.V_drew)); exact (Kd.V_mono (Kd.V_far (p := ⟨gb750, 2, none⟩) (Kd.V_far (p := ⟨gb750, 1, none⟩) (Kd.V_far (p := ⟨gb750, 0, none⟩) (Kd.V_mono HO748.out (fun k_ hk => (⟨hk, hk.2⟩ : _ ∧ k_ ≠ gb750))) (fun _ hk => hk.2) (.int .i64 t744)) (fun _ hk => hk.2) (.int .i64 t745)) (fun _ hk => hk.2) (.slice Ao49 t746.length co49)) (fun _ h_ => h_.1))) hb); replace BK750 := Aside0.mk (blk_below (g := gb750) (o := .cells #[.int .i64 t744, .int .i64 t745, .slice Ao49 t746.length co49] 40 (0, 0)) (by refine blk_put (cs := #[.int .i64 t744, .int .i64 t745, .slice none 0 0]) ?_ 2 _ rfl; refine blk_put (cs := #[.int .i64 t744, .int .i64 0, .slice none 0 0]) ?_ 1 _ rfl; refine blk_put (cs := #[.int .i64 0, .int .i64 0, .slice none 0 0]) ?_ 0 _ rfl; exact BK750.out) hb); replace HB := Aside0.mk (below_step (by repeat (with_reducible first | exact HB.out | apply below_alloc | apply pw_below_drewN | apply below_drew1 | refine below_set ?_ GE750.out)) hb); clear hb))
        go_ret
        exact ⟨rfl, by repeat (with_reducible first | exact HB.out | apply below_alloc | apply pw_below_drewN | apply below_drew1 | refine below_set ?_ GE750.out)⟩
def laws_FnChanceSplit.Pure : Prop := ∀ (l0 : List Int) (l1 : List Int), l0.length ≤ maxLen → l0.length * 1 ≤ 140737488351232 → (∀ x ∈ l0, (Lit.int .u8 x).wf = true) → l1.length ≤ maxLen → l1.length * 1 ≤ 140737488351232 → (∀ x ∈ l1, (Lit.int .u8 x).wf = true) → ∃ k, laws_FnChanceSplit.f k l0 l1 = some true
end Go.Proofs.YtlgbblaidohljaaGreatDoor.Zc
