import Derived.Test.YtlgbblaidohljaaGreatDoorZ
import Derived.Test.YtlgbblaidohljaaGreatDoorZc0
import Derived.Test.YtlgbblaidohljaaGreatDoorZc1
import Derived.Test.YtlgbblaidohljaaGreatDoorZc2
import Derived.Test.YtlgbblaidohljaaGreatDoorZc7
import Derived.Test.YtlgbblaidohljaaGreatDoorZc14
import Derived.Test.YtlgbblaidohljaaGreatDoorZc17
import Derived.Test.YtlgbblaidohljaaGreatDoorZc21
import Derived.Test.YtlgbblaidohljaaGreatDoorZc29
namespace Go.Proofs.YtlgbblaidohljaaGreatDoor.Zc
open Go.RowKit Go.Proofs.YtlgbblaidohljaaGreatDoorU.PrintWords Go.Proofs.YtlgbblaidohljaaGreatDoorU.PrintLast Go.Proofs.YtlgbblaidohljaaGreatDoorU.PrintMore Go.Proofs.YtlgbblaidohljaaGreatDoor.Z
attribute [local go_sem] max2_int min2_int max_two min_two max_three min_three max_four min_four
set_option linter.unusedVariables false
set_option linter.unusedSimpArgs false
theorem c29x30 : Ent Tryz.prog 29 := ent Tryz.func29 (by kernel_rfl) rfl
theorem c30x30 : Ent Tryz.prog 30 := ent Tryz.func30 (by kernel_rfl) rfl
def laws_FnChanceBound.j0 : Nat → Int → List Int → Int → Bool → Option (Bool)
 | 0, _, _, _, _ => none
 | k + 1, x3, x4, x5, x29 => if x29 = true then ((spec_QueryChance.f k x3 x4).bind fun t716 => (some (x5 == t716))) else ((impl_ProofCut.f x3 x4).bind fun bt717 => ((impl_TypeLen.f x3).bind fun t727 => ((impl_QueryBound.f x3).bind fun t728 => (if t728 < (wrap64 ((wrap64 (30 - t727)) * 31)) then ((impl_ProofOk.f k x3 bt717.1 bt717.2.1 bt717.2.2.1 bt717.2.2.2.1).bind fun t729 => (if t729 = true then (some true) else ((impl_QueryBound.f x3).bind fun t730 => (some (decide (x5 ≤ t730)))))) else (some false)))))
def laws_FnChanceBound.f (k : Nat) (l0 : List Int) : Option (Bool) := if (l0.length : Int) > 1048576 then (some true) else ((spec_DrawQueryChance.f k l0).bind fun bt710 => ((impl_QueryChance.f k bt710.1 bt710.2).bind fun t714 => ((spec_QueryChance.f k bt710.1 bt710.2).bind fun t715 => (if t714 = t715 then (laws_FnChanceBound.j0 k bt710.1 bt710.2 t714 (decide (t714 < 0))) else (laws_FnChanceBound.j0 k bt710.1 bt710.2 t714 true)))))
set_option maxHeartbeats 8000000 in
set_option maxRecDepth 100000 in
theorem laws_FnChanceBound.calls (k : Nat) (A0 : Option Addr) (c0 : Nat) (l0 : List Int) (r : Bool) (w : World) (hr0 : Kd.C (Kd.int .u8) w A0 l0.length l0) (hc0 : l0.length ≤ c0) (h : laws_FnChanceBound.f k l0 = some r) (hTr : r = true) {a : Addr} (hE : errAt a w) :
  Calls Tryz.prog 7 #[.slice A0 l0.length c0] w fun e w' => e = .returned (.bool r) ∧ Below w.heap.size w w' := by
 have HT0_ := Aside0.mk hTr
 clear hTr
 have HE := Aside0.mk hE
 clear hE
 have hu40 := Tryz.underlying40
 have HR0 := Aside0.mk hr0
 have HC0 := Aside0.mk hc0
 clear hr0 hc0
 have HB := Aside0.mk (Below.refl w.heap.size w)
 have H := h
 unfold laws_FnChanceBound.f at H
 clear h
 by_cases c2 : (l0.length : Int) > 1048576
 ·rw [if_pos c2] at H
  have c2b0 : decide (1048576 < (l0.length : Int)) = true := decide_eq_true c2
  have c2b1 : decide (1048576 < l0.length) = true := decide_eq_true (by omega)
  clear c2
  obtain rfl := Option.some.inj H
  go_enter Tryz.func7, Tryz.ntmps7
  go_wp2
  go_ret
  exact ⟨rfl, by repeat (with_reducible first | exact HB.out | apply below_alloc | apply pw_below_drewN | apply below_drew1)⟩
 ·rw [if_neg c2] at H
  have c2b0 : decide (1048576 < (l0.length : Int)) = false := decide_eq_false c2
  have c2b1 : decide (1048576 < l0.length) = false := decide_eq_false (by omega)
  clear c2
  replace H := bnd H
  obtain ⟨⟨t710, t711⟩, A3, H⟩ := H
  dsimp only at H
  replace H := bnd H
  obtain ⟨t714, A4, H⟩ := H
  have HC5 := Aside0.mk H
  clear H
  go_enter Tryz.func7, Tryz.ntmps7
  go_upto_region 5 with (first | ((with_reducible refine gate_callee (f := 26) rfl ?_); refine goesL_ (some 15) rfl rfl Tryz.func26 (by kernel_rfl) rfl #[.slice A0 l0.length c0] rfl (by (try simp only [List.map_toArray, List.map_cons, List.map_nil]); first | done | rfl | (simp only [List.length_drop, List.length_take]; rfl)) ?_; (with_reducible refine (spec_DrawQueryChance.calls k _ _ l0 t710 t711 _ ?side1 ?side2 A3.out).mono ?_); (case side1 => exact HR0.out); (case side2 => exact HC0.out); rintro e w6 ⟨v712, rfl, ho0, hb⟩; refine ⟨_, rfl, ?_⟩; have n0_ := Aside0.mk (Kd.R_lower ho0 (below_size (by repeat (with_reducible first | exact HB.out | apply below_alloc | apply pw_below_drewN | apply below_drew1)))); have n1_ := Aside0.mk (below_step (by repeat (with_reducible first | exact HB.out | apply below_alloc | apply pw_below_drewN | apply below_drew1)) hb); clear HB; have HO713 := n0_; have HB := n1_; clear n0_ n1_; (try clear hb); (try clear hb2); (try clear hk); (try clear hi); (try clear ho0); obtain ⟨Ao7, co7, eo7⟩ := Kd.R_slice HO713.out; subst eo7) | ((with_reducible refine gate_callee (f := 27) rfl ?_); refine goesL_ (some 20) rfl rfl Tryz.func27 (by kernel_rfl) rfl #[.int .i64 t710, .slice Ao7 t711.length co7] rfl (by (try simp only [List.map_toArray, List.map_cons, List.map_nil]); first | done | rfl | (simp only [List.length_drop, List.length_take]; rfl)) ?_; (with_reducible refine (impl_QueryChance.calls k t710 _ _ t711 t714 _ ?side1 ?side2 A4.out).mono ?_); (case side1 => exact (Kd.R_reads' HO713.out).2.2); (case side2 => exact (Kd.R_reads' HO713.out).2.1); rintro e w8 ⟨rfl, hb⟩; refine ⟨_, rfl, ?_⟩; have n0_ := Aside0.mk (Kd.R_below (HO713.out) hb); have n1_ := Aside0.mk (below_step (by repeat (with_reducible first | exact HB.out | apply below_alloc | apply pw_below_drewN | apply below_drew1)) hb); clear HO713; clear HB; have HO713 := n0_; have HB := n1_; clear n0_ n1_; (try clear hb); (try clear hb2); (try clear hk); (try clear hi)))
  (try simp only [Act.put, List.setIfInBounds_toArray, List.set_cons_zero, List.set_cons_succ])
  go_cut [29] (fun v29 wc => ∃ (kq : Nat) (x29_4 : Bool), v29 = .bool x29_4 ∧ Aside0 (laws_FnChanceBound.j0 kq t710 t711 t714 x29_4 = some r) ∧ Aside0 (kq ≤ k) ∧ Aside0 (Kd.R (Kd.int .i64) 3 wc w.heap.size (fun _ => True) (.slice Ao7 t711.length co7) t711) ∧ Aside0 (Below w.heap.size w wc))
  case first =>
   have H := HC5.out
   clear HC5
   replace H := bnd H
   obtain ⟨t715, A9, H⟩ := H
   by_cases c10 : t714 = t715
   ·rw [if_pos c10] at H
    have c10b0 : (t714 == t715) = true := beq_iff_eq.mpr c10
    have c10b1 : (t714 != t715) = false := bne_eq_false_iff_eq.mpr c10
    clear c10
    (first | rw [c10b0] | (simp only [i64_w, i32_w]; rw [c10b0]) | skip)
    have H' := Aside0.mk H
    clear H
    go_wp2_with (first | ((with_reducible refine gate_callee (f := 28) rfl ?_); refine goesL_ (some 24) rfl rfl Tryz.func28 (by kernel_rfl) rfl #[.int .i64 t710, .slice Ao7 t711.length co7] rfl (by (try simp only [List.map_toArray, List.map_cons, List.map_nil]); first | done | rfl | (simp only [List.length_drop, List.length_take]; rfl)) ?_; (with_reducible refine (spec_QueryChance.calls k t710 _ _ t711 t715 _ ?side1 ?side2 A9.out).mono ?_); (case side1 => exact (Kd.R_reads' HO713.out).2.2); (case side2 => exact (Kd.R_reads' HO713.out).2.1); rintro e w11 ⟨rfl, hb⟩; refine ⟨_, rfl, ?_⟩; replace HO713 := Aside0.mk (Kd.R_below (HO713.out) hb); replace HB := Aside0.mk (below_step (by repeat (with_reducible first | exact HB.out | apply below_alloc | apply pw_below_drewN | apply below_drew1)) hb); clear hb))
    go_meet
    case rel => exact ⟨_, (decide (t714 < 0)), rfl, H', ⟨by first | omega | exact Nat.le_refl _⟩, ⟨HO713.out⟩, ⟨by repeat (with_reducible first | exact HB.out | apply below_alloc | apply pw_below_drewN | apply below_drew1)⟩⟩
   ·rw [if_neg c10] at H
    have c10b0 : (t714 == t715) = false := beq_eq_false_iff_ne.mpr c10
    have c10b1 : (t714 != t715) = true := bne_iff_ne.mpr c10
    (first | rw [c10b0] | (simp only [i64_w, i32_w]; rw [c10b0]) | skip)
    have H' := Aside0.mk H
    clear H
    go_wp2_with (first | ((with_reducible refine gate_callee (f := 28) rfl ?_); refine goesL_ (some 24) rfl rfl Tryz.func28 (by kernel_rfl) rfl #[.int .i64 t710, .slice Ao7 t711.length co7] rfl (by (try simp only [List.map_toArray, List.map_cons, List.map_nil]); first | done | rfl | (simp only [List.length_drop, List.length_take]; rfl)) ?_; (with_reducible refine (spec_QueryChance.calls k t710 _ _ t711 t715 _ ?side1 ?side2 A9.out).mono ?_); (case side1 => exact (Kd.R_reads' HO713.out).2.2); (case side2 => exact (Kd.R_reads' HO713.out).2.1); rintro e w12 ⟨rfl, hb⟩; refine ⟨_, rfl, ?_⟩; replace HO713 := Aside0.mk (Kd.R_below (HO713.out) hb); replace HB := Aside0.mk (below_step (by repeat (with_reducible first | exact HB.out | apply below_alloc | apply pw_below_drewN | apply below_drew1)) hb); clear hb))
    go_meet
    case rel => exact ⟨_, (true), rfl, H', ⟨by first | omega | exact Nat.le_refl _⟩, ⟨HO713.out⟩, ⟨by repeat (with_reducible first | exact HB.out | apply below_alloc | apply pw_below_drewN | apply below_drew1)⟩⟩
  case rest =>
   clear HC5
   try clear c1
   try clear c2
   try clear c2b0
   try clear c2b1
   try clear p2
   try clear c7
   try clear c10
   try clear c10b0
   try clear c10b1
   obtain ⟨kq, x29_4, rfl, HA, HJ4, HO_4, HB⟩ := hcut
   cases kq with
   | zero => exact absurd HA.out (by simp [laws_FnChanceBound.j0])
   | succ kj4 =>
    have H := HA.out
    clear HA
    simp only [laws_FnChanceBound.j0] at H
    by_cases c13 : x29_4 = true
    ·subst c13
     rw [if_pos rfl] at H
     replace H := bnd H
     obtain ⟨t716, A14, H⟩ := H
     obtain rfl := Option.some.inj H
     go_wp2_with (first | ((with_reducible refine gate_callee (f := 28) rfl ?_); refine goesL_ (some 33) rfl rfl Tryz.func28 (by kernel_rfl) rfl #[.int .i64 t710, .slice Ao7 t711.length co7] rfl (by (try simp only [List.map_toArray, List.map_cons, List.map_nil]); first | done | rfl | (simp only [List.length_drop, List.length_take]; rfl)) ?_; (with_reducible refine (spec_QueryChance.calls kj4 t710 _ _ t711 t716 _ ?side1 ?side2 A14.out).mono ?_); (case side1 => exact (Kd.R_reads' HO_4.out).2.2); (case side2 => exact (Kd.R_reads' HO_4.out).2.1); rintro e w15 ⟨rfl, hb⟩; refine ⟨_, rfl, ?_⟩; replace HO_4 := Aside0.mk (Kd.R_below (HO_4.out) hb); replace HB := Aside0.mk (below_step (by repeat (with_reducible first | exact HB.out | apply below_alloc | apply pw_below_drewN | apply below_drew1)) hb); clear hb))
     go_ret
     exact ⟨rfl, by repeat (with_reducible first | exact HB.out | apply below_alloc | apply pw_below_drewN | apply below_drew1)⟩
    ·replace c13 := Bool.eq_false_iff.mpr c13
     subst c13
     rw [if_neg (show ¬ (false = true) by decide)] at H
     replace H := bnd H
     obtain ⟨⟨t717, t720, t721, t722, t725⟩, A16, H⟩ := H
     dsimp only at H
     replace H := bnd H
     obtain ⟨t727, A17, H⟩ := H
     replace H := bnd H
     obtain ⟨t728, A18, H⟩ := H
     by_cases c19 : t728 < (wrap64 ((wrap64 (30 - t727)) * 31))
     ·rw [if_pos c19] at H
      have c19b0 : decide (t728 < (wrap64 ((wrap64 (30 - t727)) * 31))) = true := decide_eq_true c19
      clear c19
      replace H := bnd H
      obtain ⟨t729, A20, H⟩ := H
      by_cases c21 : t729 = true
      ·subst c21
       rw [if_pos rfl] at H
       obtain rfl := Option.some.inj H
       go_wp2_with (first | ((with_reducible refine gate_callee (f := 23) rfl ?_); refine goesL_ (some 38) rfl rfl Tryz.func23 (by kernel_rfl) rfl #[.int .i64 t710, .slice Ao7 t711.length co7] rfl (by (try simp only [List.map_toArray, List.map_cons, List.map_nil]); first | done | rfl | (simp only [List.length_drop, List.length_take]; rfl)) ?_; (with_reducible refine (impl_ProofCut.calls t710 _ _ t711 t717 t720 t721 t722 t725 _ ?side1 ?side2 A16.out).mono ?_); (case side1 => exact (Kd.R_reads' HO_4.out).2.2); (case side2 => exact (Kd.R_reads' HO_4.out).2.1); rintro e w22 ⟨v718, v723, rfl, ho0, ho1, hb⟩; refine ⟨_, rfl, ?_⟩; replace HO719 := Aside0.mk (Kd.V_lower (Kd.V_mono (ok' := fun k_ => some k_ ≠ (.slice Ao7 t711.length co7 : Value).ownBlock) ho0 (fun k_ hk_ => (Kd.fresh' (Kd.R_lt (HO_4.out)) k_ hk_))) (below_size (by repeat (with_reducible first | exact HB.out | apply below_alloc | apply pw_below_drewN | apply below_drew1)))); replace HO724 := Aside0.mk (Kd.V_lower (Kd.V_mono (ok' := fun k_ => some k_ ≠ (.slice Ao7 t711.length co7 : Value).ownBlock) ho1 (fun k_ hk_ => (Kd.fresh' (Kd.R_lt (HO_4.out)) k_ hk_))) (below_size (by repeat (with_reducible first | exact HB.out | apply below_alloc | apply pw_below_drewN | apply below_drew1)))); replace HO_4 := Aside0.mk (Kd.R_below (HO_4.out) hb); replace HB := Aside0.mk (below_step (by repeat (with_reducible first | exact HB.out | apply below_alloc | apply pw_below_drewN | apply below_drew1)) hb); clear hb ho0 ho1) | ((with_reducible refine gate_dst (N := 7) rfl ?_); refine box_event ?hg (N := 7) ?hd (cs := #[.int .i64 0, .int .i64 0, .slice none 0 0]) (t := 40) ?hr ?_; (case hd => rfl); (case hg => rfl); (case hr => first | (go_simp; done) | (go_simp; rfl)); intro gb726 hg w23 hbox hb; replace HO_4 := Aside0.mk (Kd.R_below (HO_4.out) hb); replace HO719 := Aside0.mk (Kd.V_below (Kd.V_elderB (by (with_reducible repeat (first | apply Kd.V_alloc | apply Kd.V_drewN | apply Kd.V_drew)); exact HO719.out) gb726 (Nat.le_of_eq hg.symm)) hb); replace HO724 := Aside0.mk (Kd.V_below (Kd.V_elderB (by (with_reducible repeat (first | apply Kd.V_alloc | apply Kd.V_drewN | apply Kd.V_drew)); exact HO724.out) gb726 (Nat.le_of_eq hg.symm)) hb); replace BK726 := Aside0.mk (hbox); replace GW726 := Aside0.mk ((by rw [hg]; exact (below_size (by repeat (with_reducible first | exact HB.out | apply below_alloc | apply pw_below_drewN | apply below_drew1))) : w.heap.size ≤ gb726)); replace GE726 := Aside0.mk ((by rw [hg]; exact (below_size (by repeat (with_reducible first | exact HB.out | apply below_alloc | apply pw_below_drewN | apply below_drew1))) : w.heap.size ≤ gb726)); replace HB := Aside0.mk (below_step (by repeat (with_reducible first | exact HB.out | apply below_alloc | apply pw_below_drewN | apply below_drew1)) hb); clear hb hbox hg; have hcz24_0 : w23.cell? ⟨gb726, 0, none⟩ = some (.int .i64 0) := (blk_cell BK726.out 0).trans rfl; have hcz24_1 : w23.cell? ⟨gb726, 1, none⟩ = some (.int .i64 0) := (blk_cell BK726.out 1).trans rfl; have hcz24_2 : w23.cell? ⟨gb726, 2, none⟩ = some (.slice none 0 0) := (blk_cell BK726.out 2).trans rfl; have hfz24_0 := blk_frozen BK726.out 0; have hfz24_1 := blk_frozen BK726.out 1; have hfz24_2 := blk_frozen BK726.out 2; obtain ⟨Ao25, co25, eo25⟩ := Kd.V_slice HO724.out; subst eo25) | (refine gsC c29x30 (impl_TypeLen.calls t710 t727 _ A17.out) ?_; rintro e w26 ⟨rfl, hb⟩; refine ⟨_, rfl, ?_⟩; replace HO_4 := Aside0.mk (Kd.R_below ((Kd.R_mono (Kd.R_far (p := ⟨gb726, 2, none⟩) (Kd.R_far (p := ⟨gb726, 1, none⟩) (Kd.R_far (p := ⟨gb726, 0, none⟩) (Kd.R_types HO_4.out BK726.out (by decide)) (fun _ hk => hk.2) (.int .i64 t720)) (fun _ hk => hk.2) (.int .i64 t721)) (fun _ hk => hk.2) (.slice Ao25 t722.length co25)) (fun _ h_ => h_.1))) hb); replace HO719 := Aside0.mk (Kd.V_below (by (with_reducible repeat (first | apply Kd.V_alloc | apply Kd.V_drewN | apply Kd.V_drew)); exact (Kd.V_mono (Kd.V_far (p := ⟨gb726, 2, none⟩) (Kd.V_far (p := ⟨gb726, 1, none⟩) (Kd.V_far (p := ⟨gb726, 0, none⟩) (Kd.V_mono HO719.out (fun k_ hk => (⟨hk, hk.2⟩ : _ ∧ k_ ≠ gb726))) (fun _ hk => hk.2) (.int .i64 t720)) (fun _ hk => hk.2) (.int .i64 t721)) (fun _ hk => hk.2) (.slice Ao25 t722.length co25)) (fun _ h_ => h_.1))) hb); replace HO724 := Aside0.mk (Kd.V_below (by (with_reducible repeat (first | apply Kd.V_alloc | apply Kd.V_drewN | apply Kd.V_drew)); exact (Kd.V_mono (Kd.V_far (p := ⟨gb726, 2, none⟩) (Kd.V_far (p := ⟨gb726, 1, none⟩) (Kd.V_far (p := ⟨gb726, 0, none⟩) (Kd.V_mono HO724.out (fun k_ hk => (⟨hk, hk.2⟩ : _ ∧ k_ ≠ gb726))) (fun _ hk => hk.2) (.int .i64 t720)) (fun _ hk => hk.2) (.int .i64 t721)) (fun _ hk => hk.2) (.slice Ao25 t722.length co25)) (fun _ h_ => h_.1))) hb); replace BK726 := Aside0.mk (blk_below (g := gb726) (o := .cells #[.int .i64 t720, .int .i64 t721, .slice Ao25 t722.length co25] 40 (0, 0)) (by refine blk_put (cs := #[.int .i64 t720, .int .i64 t721, .slice none 0 0]) ?_ 2 _ rfl; refine blk_put (cs := #[.int .i64 t720, .int .i64 0, .slice none 0 0]) ?_ 1 _ rfl; refine blk_put (cs := #[.int .i64 0, .int .i64 0, .slice none 0 0]) ?_ 0 _ rfl; exact BK726.out) hb); replace HB := Aside0.mk (below_step (by repeat (with_reducible first | exact HB.out | apply below_alloc | apply pw_below_drewN | apply below_drew1 | refine below_set ?_ GE726.out)) hb); clear hb) | (refine gsC c30x30 (impl_QueryBound.calls t710 t728 _ A18.out) ?_; rintro e w27 ⟨rfl, hb⟩; refine ⟨_, rfl, ?_⟩; replace HO_4 := Aside0.mk (Kd.R_below (HO_4.out) hb); replace HO719 := Aside0.mk (Kd.V_below (by (with_reducible repeat (first | apply Kd.V_alloc | apply Kd.V_drewN | apply Kd.V_drew)); exact HO719.out) hb); replace HO724 := Aside0.mk (Kd.V_below (by (with_reducible repeat (first | apply Kd.V_alloc | apply Kd.V_drewN | apply Kd.V_drew)); exact HO724.out) hb); replace BK726 := Aside0.mk (blk_below (g := gb726) (o := .cells #[.int .i64 t720, .int .i64 t721, .slice Ao25 t722.length co25] 40 (0, 0)) (by exact BK726.out) hb); replace HB := Aside0.mk (below_step (by repeat (with_reducible first | exact HB.out | apply below_alloc | apply pw_below_drewN | apply below_drew1 | refine below_set ?_ GE726.out)) hb); (try clear hb); (try clear hb2); (try clear hk); (try clear hi); have hcz28_0 : w27.cell? ⟨gb726, 0, none⟩ = some (.int .i64 t720) := (blk_cell BK726.out 0).trans rfl; have hcz28_1 : w27.cell? ⟨gb726, 1, none⟩ = some (.int .i64 t721) := (blk_cell BK726.out 1).trans rfl; have hcz28_2 : w27.cell? ⟨gb726, 2, none⟩ = some (.slice Ao25 t722.length co25) := (blk_cell BK726.out 2).trans rfl; have hfz28_0 := blk_frozen BK726.out 0; have hfz28_1 := blk_frozen BK726.out 1; have hfz28_2 := blk_frozen BK726.out 2; obtain ⟨Ao29, co29, eo29⟩ := Kd.V_slice HO719.out; subst eo29) | (go_at_call 24; (with_reducible refine (impl_ProofOk.calls kj4 t710 _ _ t717 t720 t721 _ _ t722 true _ ?side1 ?side2 ?side3 ?side4 A20.out HE.out ?sideB).mono ?_); (case side1 => exact (Kd.V_reads' HO719.out).2.2); (case side2 => exact (Kd.V_reads' HO719.out).2.1); (case side3 => exact (Kd.V_reads' HO724.out).2.2); (case side4 => exact (Kd.V_reads' HO724.out).2.1); (case sideB => exact (by repeat (with_reducible first | exact HB.out | apply below_alloc | apply pw_below_drewN | apply below_drew1 | refine below_set ?_ GE726.out))); rintro e w30 ⟨rfl, hb⟩; replace HO_4 := Aside0.mk (Kd.R_below (HO_4.out) hb); replace HO719 := Aside0.mk (Kd.V_below (by (with_reducible repeat (first | apply Kd.V_alloc | apply Kd.V_drewN | apply Kd.V_drew)); exact HO719.out) hb); replace HO724 := Aside0.mk (Kd.V_below (by (with_reducible repeat (first | apply Kd.V_alloc | apply Kd.V_drewN | apply Kd.V_drew)); exact HO724.out) hb); replace BK726 := Aside0.mk (blk_below (g := gb726) (o := .cells #[.int .i64 t720, .int .i64 t721, .slice Ao25 t722.length co25] 40 (0, 0)) (by exact BK726.out) hb); replace HB := Aside0.mk (below_step (by repeat (with_reducible first | exact HB.out | apply below_alloc | apply pw_below_drewN | apply below_drew1 | refine below_set ?_ GE726.out)) hb); clear hb))
       go_ret
       exact ⟨rfl, by repeat (with_reducible first | exact HB.out | apply below_alloc | apply pw_below_drewN | apply below_drew1 | refine below_set ?_ GE726.out)⟩
      ·replace c21 := Bool.eq_false_iff.mpr c21
       subst c21
       rw [if_neg (show ¬ (false = true) by decide)] at H
       replace H := bnd H
       obtain ⟨t730, A31, H⟩ := H
       obtain rfl := Option.some.inj H
       go_wp2_with (first | ((with_reducible refine gate_callee (f := 23) rfl ?_); refine goesL_ (some 38) rfl rfl Tryz.func23 (by kernel_rfl) rfl #[.int .i64 t710, .slice Ao7 t711.length co7] rfl (by (try simp only [List.map_toArray, List.map_cons, List.map_nil]); first | done | rfl | (simp only [List.length_drop, List.length_take]; rfl)) ?_; (with_reducible refine (impl_ProofCut.calls t710 _ _ t711 t717 t720 t721 t722 t725 _ ?side1 ?side2 A16.out).mono ?_); (case side1 => exact (Kd.R_reads' HO_4.out).2.2); (case side2 => exact (Kd.R_reads' HO_4.out).2.1); rintro e w32 ⟨v718, v723, rfl, ho0, ho1, hb⟩; refine ⟨_, rfl, ?_⟩; replace HO719 := Aside0.mk (Kd.V_lower (Kd.V_mono (ok' := fun k_ => some k_ ≠ (.slice Ao7 t711.length co7 : Value).ownBlock) ho0 (fun k_ hk_ => (Kd.fresh' (Kd.R_lt (HO_4.out)) k_ hk_))) (below_size (by repeat (with_reducible first | exact HB.out | apply below_alloc | apply pw_below_drewN | apply below_drew1)))); replace HO724 := Aside0.mk (Kd.V_lower (Kd.V_mono (ok' := fun k_ => some k_ ≠ (.slice Ao7 t711.length co7 : Value).ownBlock) ho1 (fun k_ hk_ => (Kd.fresh' (Kd.R_lt (HO_4.out)) k_ hk_))) (below_size (by repeat (with_reducible first | exact HB.out | apply below_alloc | apply pw_below_drewN | apply below_drew1)))); replace HO_4 := Aside0.mk (Kd.R_below (HO_4.out) hb); replace HB := Aside0.mk (below_step (by repeat (with_reducible first | exact HB.out | apply below_alloc | apply pw_below_drewN | apply below_drew1)) hb); clear hb ho0 ho1) | ((with_reducible refine gate_dst (N := 7) rfl ?_); refine box_event ?hg (N := 7) ?hd (cs := #[.int .i64 0, .int .i64 0, .slice none 0 0]) (t := 40) ?hr ?_; (case hd => rfl); (case hg => rfl); (case hr => first | (go_simp; done) | (go_simp; rfl)); intro gb726 hg w33 hbox hb; replace HO_4 := Aside0.mk (Kd.R_below (HO_4.out) hb); replace HO719 := Aside0.mk (Kd.V_below (Kd.V_elderB (by (with_reducible repeat (first | apply Kd.V_alloc | apply Kd.V_drewN | apply Kd.V_drew)); exact HO719.out) gb726 (Nat.le_of_eq hg.symm)) hb); replace HO724 := Aside0.mk (Kd.V_below (Kd.V_elderB (by (with_reducible repeat (first | apply Kd.V_alloc | apply Kd.V_drewN | apply Kd.V_drew)); exact HO724.out) gb726 (Nat.le_of_eq hg.symm)) hb); replace BK726 := Aside0.mk (hbox); replace GW726 := Aside0.mk ((by rw [hg]; exact (below_size (by repeat (with_reducible first | exact HB.out | apply below_alloc | apply pw_below_drewN | apply below_drew1))) : w.heap.size ≤ gb726)); replace GE726 := Aside0.mk ((by rw [hg]; exact (below_size (by repeat (with_reducible first | exact HB.out | apply below_alloc | apply pw_below_drewN | apply below_drew1))) : w.heap.size ≤ gb726)); replace HB := Aside0.mk (below_step (by repeat (with_reducible first | exact HB.out | apply below_alloc | apply pw_below_drewN | apply below_drew1)) hb); clear hb hbox hg; have hcz34_0 : w33.cell? ⟨gb726, 0, none⟩ = some (.int .i64 0) := (blk_cell BK726.out 0).trans rfl; have hcz34_1 : w33.cell? ⟨gb726, 1, none⟩ = some (.int .i64 0) := (blk_cell BK726.out 1).trans rfl; have hcz34_2 : w33.cell? ⟨gb726, 2, none⟩ = some (.slice none 0 0) := (blk_cell BK726.out 2).trans rfl; have hfz34_0 := blk_frozen BK726.out 0; have hfz34_1 := blk_frozen BK726.out 1; have hfz34_2 := blk_frozen BK726.out 2; obtain ⟨Ao35, co35, eo35⟩ := Kd.V_slice HO724.out; subst eo35) | (refine gsC c29x30 (impl_TypeLen.calls t710 t727 _ A17.out) ?_; rintro e w36 ⟨rfl, hb⟩; refine ⟨_, rfl, ?_⟩; replace HO_4 := Aside0.mk (Kd.R_below ((Kd.R_mono (Kd.R_far (p := ⟨gb726, 2, none⟩) (Kd.R_far (p := ⟨gb726, 1, none⟩) (Kd.R_far (p := ⟨gb726, 0, none⟩) (Kd.R_types HO_4.out BK726.out (by decide)) (fun _ hk => hk.2) (.int .i64 t720)) (fun _ hk => hk.2) (.int .i64 t721)) (fun _ hk => hk.2) (.slice Ao35 t722.length co35)) (fun _ h_ => h_.1))) hb); replace HO719 := Aside0.mk (Kd.V_below (by (with_reducible repeat (first | apply Kd.V_alloc | apply Kd.V_drewN | apply Kd.V_drew)); exact (Kd.V_mono (Kd.V_far (p := ⟨gb726, 2, none⟩) (Kd.V_far (p := ⟨gb726, 1, none⟩) (Kd.V_far (p := ⟨gb726, 0, none⟩) (Kd.V_mono HO719.out (fun k_ hk => (⟨hk, hk.2⟩ : _ ∧ k_ ≠ gb726))) (fun _ hk => hk.2) (.int .i64 t720)) (fun _ hk => hk.2) (.int .i64 t721)) (fun _ hk => hk.2) (.slice Ao35 t722.length co35)) (fun _ h_ => h_.1))) hb); replace HO724 := Aside0.mk (Kd.V_below (by (with_reducible repeat (first | apply Kd.V_alloc | apply Kd.V_drewN | apply Kd.V_drew)); exact (Kd.V_mono (Kd.V_far (p := ⟨gb726, 2, none⟩) (Kd.V_far (p := ⟨gb726, 1, none⟩) (Kd.V_far (p := ⟨gb726, 0, none⟩) (Kd.V_mono HO724.out (fun k_ hk => (⟨hk, hk.2⟩ : _ ∧ k_ ≠ gb726))) (fun _ hk => hk.2) (.int .i64 t720)) (fun _ hk => hk.2) (.int .i64 t721)) (fun _ hk => hk.2) (.slice Ao35 t722.length co35)) (fun _ h_ => h_.1))) hb); replace BK726 := Aside0.mk (blk_below (g := gb726) (o := .cells #[.int .i64 t720, .int .i64 t721, .slice Ao35 t722.length co35] 40 (0, 0)) (by refine blk_put (cs := #[.int .i64 t720, .int .i64 t721, .slice none 0 0]) ?_ 2 _ rfl; refine blk_put (cs := #[.int .i64 t720, .int .i64 0, .slice none 0 0]) ?_ 1 _ rfl; refine blk_put (cs := #[.int .i64 0, .int .i64 0, .slice none 0 0]) ?_ 0 _ rfl; exact BK726.out) hb); replace HB := Aside0.mk (below_step (by repeat (with_reducible first | exact HB.out | apply below_alloc | apply pw_below_drewN | apply below_drew1 | refine below_set ?_ GE726.out)) hb); clear hb) | (refine gsC c30x30 (impl_QueryBound.calls t710 t728 _ A18.out) ?_; rintro e w37 ⟨rfl, hb⟩; refine ⟨_, rfl, ?_⟩; replace HO_4 := Aside0.mk (Kd.R_below (HO_4.out) hb); replace HO719 := Aside0.mk (Kd.V_below (by (with_reducible repeat (first | apply Kd.V_alloc | apply Kd.V_drewN | apply Kd.V_drew)); exact HO719.out) hb); replace HO724 := Aside0.mk (Kd.V_below (by (with_reducible repeat (first | apply Kd.V_alloc | apply Kd.V_drewN | apply Kd.V_drew)); exact HO724.out) hb); replace BK726 := Aside0.mk (blk_below (g := gb726) (o := .cells #[.int .i64 t720, .int .i64 t721, .slice Ao35 t722.length co35] 40 (0, 0)) (by exact BK726.out) hb); replace HB := Aside0.mk (below_step (by repeat (with_reducible first | exact HB.out | apply below_alloc | apply pw_below_drewN | apply below_drew1 | refine below_set ?_ GE726.out)) hb); (try clear hb); (try clear hb2); (try clear hk); (try clear hi); have hcz38_0 : w37.cell? ⟨gb726, 0, none⟩ = some (.int .i64 t720) := (blk_cell BK726.out 0).trans rfl; have hcz38_1 : w37.cell? ⟨gb726, 1, none⟩ = some (.int .i64 t721) := (blk_cell BK726.out 1).trans rfl; have hcz38_2 : w37.cell? ⟨gb726, 2, none⟩ = some (.slice Ao35 t722.length co35) := (blk_cell BK726.out 2).trans rfl; have hfz38_0 := blk_frozen BK726.out 0; have hfz38_1 := blk_frozen BK726.out 1; have hfz38_2 := blk_frozen BK726.out 2; obtain ⟨Ao39, co39, eo39⟩ := Kd.V_slice HO719.out; subst eo39) | (go_at_call 24; (with_reducible refine (impl_ProofOk.calls kj4 t710 _ _ t717 t720 t721 _ _ t722 false _ ?side1 ?side2 ?side3 ?side4 A20.out HE.out ?sideB).mono ?_); (case side1 => exact (Kd.V_reads' HO719.out).2.2); (case side2 => exact (Kd.V_reads' HO719.out).2.1); (case side3 => exact (Kd.V_reads' HO724.out).2.2); (case side4 => exact (Kd.V_reads' HO724.out).2.1); (case sideB => exact (by repeat (with_reducible first | exact HB.out | apply below_alloc | apply pw_below_drewN | apply below_drew1 | refine below_set ?_ GE726.out))); rintro e w40 ⟨rfl, hb⟩; replace HO_4 := Aside0.mk (Kd.R_below (HO_4.out) hb); replace HO719 := Aside0.mk (Kd.V_below (by (with_reducible repeat (first | apply Kd.V_alloc | apply Kd.V_drewN | apply Kd.V_drew)); exact HO719.out) hb); replace HO724 := Aside0.mk (Kd.V_below (by (with_reducible repeat (first | apply Kd.V_alloc | apply Kd.V_drewN | apply Kd.V_drew)); exact HO724.out) hb); replace BK726 := Aside0.mk (blk_below (g := gb726) (o := .cells #[.int .i64 t720, .int .i64 t721, .slice Ao35 t722.length co35] 40 (0, 0)) (by exact BK726.out) hb); replace HB := Aside0.mk (below_step (by repeat (with_reducible first | exact HB.out | apply below_alloc | apply pw_below_drewN | apply below_drew1 | refine below_set ?_ GE726.out)) hb); clear hb) | (go_at_call 30; (with_reducible refine (impl_QueryBound.calls t710 t730 _ A31.out).mono ?_); rintro e w41 ⟨rfl, hb⟩; replace HO_4 := Aside0.mk (Kd.R_below (HO_4.out) hb); replace HO719 := Aside0.mk (Kd.V_below (by (with_reducible repeat (first | apply Kd.V_alloc | apply Kd.V_drewN | apply Kd.V_drew)); exact HO719.out) hb); replace HO724 := Aside0.mk (Kd.V_below (by (with_reducible repeat (first | apply Kd.V_alloc | apply Kd.V_drewN | apply Kd.V_drew)); exact HO724.out) hb); replace BK726 := Aside0.mk (blk_below (g := gb726) (o := .cells #[.int .i64 t720, .int .i64 t721, .slice Ao35 t722.length co35] 40 (0, 0)) (by exact BK726.out) hb); replace HB := Aside0.mk (below_step (by repeat (with_reducible first | exact HB.out | apply below_alloc | apply pw_below_drewN | apply below_drew1 | refine below_set ?_ GE726.out)) hb); clear hb))
       go_ret
       exact ⟨rfl, by repeat (with_reducible first | exact HB.out | apply below_alloc | apply pw_below_drewN | apply below_drew1 | refine below_set ?_ GE726.out)⟩
     ·rw [if_neg c19] at H
      have c19b0 : decide (t728 < (wrap64 ((wrap64 (30 - t727)) * 31))) = false := decide_eq_false c19
      clear c19
      exact absurd (Option.some.inj (H.trans (congrArg some HT0_.out))) (by decide)
def laws_FnChanceBound.Pure : Prop := ∀ (l0 : List Int), l0.length ≤ maxLen → l0.length * 1 ≤ 140737488351232 → (∀ x ∈ l0, (Lit.int .u8 x).wf = true) → ∃ k, laws_FnChanceBound.f k l0 = some true
end Go.Proofs.YtlgbblaidohljaaGreatDoor.Zc
