import Derived.Test.YtlgbblaidohljaaGreatDoorZ
import Derived.Test.YtlgbblaidohljaaGreatDoorZc0
import Derived.Test.YtlgbblaidohljaaGreatDoorZc1
import Derived.Test.YtlgbblaidohljaaGreatDoorZc2
import Derived.Test.YtlgbblaidohljaaGreatDoorZc7
import Derived.Test.YtlgbblaidohljaaGreatDoorZc14
import Derived.Test.YtlgbblaidohljaaGreatDoorZc17
import Derived.Test.YtlgbblaidohljaaGreatDoorZc21
namespace Go.Proofs.YtlgbblaidohljaaGreatDoor.Zc
open Go.RowKit Go.Proofs.YtlgbblaidohljaaGreatDoorU.PrintWords Go.Proofs.YtlgbblaidohljaaGreatDoorU.PrintLast Go.Proofs.YtlgbblaidohljaaGreatDoorU.PrintMore Go.Proofs.YtlgbblaidohljaaGreatDoor.Z
attribute [local go_sem] max2_int min2_int max_two min_two max_three min_three max_four min_four
set_option linter.unusedVariables false
set_option linter.unusedSimpArgs false
theorem c29x22 : Ent Tryz.prog 29 := ent Tryz.func29 (by kernel_rfl) rfl
def laws_FnChanceAll.j0 : Nat → Int → List Int → Int → Bool → Option (Bool)
 | 0, _, _, _, _ => none
 | k + 1, x3, x4, x5, x29 => if x29 = true then ((spec_QueryChance.f k x3 x4).bind fun t586 => (some (x5 == t586))) else ((impl_ProofCut.f x3 x4).bind fun bt587 => ((impl_TypeLen.f x3).bind fun t597 => ((impl_ProofOk.f k x3 bt587.1 bt587.2.1 bt587.2.2.1 bt587.2.2.2.1).bind fun t598 => (if t598 = true then (some (x5 == (wrap64 ((wrap64 (30 - t597)) * 31)))) else (some true)))))
def laws_FnChanceAll.f (k : Nat) (l0 : List Int) : Option (Bool) := if (l0.length : Int) > 1048576 then (some true) else ((spec_DrawQueryChance.f k l0).bind fun bt580 => ((impl_QueryChance.f k bt580.1 bt580.2).bind fun t584 => ((spec_QueryChance.f k bt580.1 bt580.2).bind fun t585 => (if t584 = t585 then (laws_FnChanceAll.j0 k bt580.1 bt580.2 t584 (decide (t584 < 0))) else (laws_FnChanceAll.j0 k bt580.1 bt580.2 t584 true)))))
set_option maxHeartbeats 8000000 in
set_option maxRecDepth 100000 in
theorem laws_FnChanceAll.calls (k : Nat) (A0 : Option Addr) (c0 : Nat) (l0 : List Int) (r : Bool) (w : World) (hr0 : Kd.C (Kd.int .u8) w A0 l0.length l0) (hc0 : l0.length ≤ c0) (h : laws_FnChanceAll.f k l0 = some r) (hTr : r = true) {a : Addr} (hE : errAt a w) :
  Calls Tryz.prog 6 #[.slice A0 l0.length c0] w fun e w' => e = .returned (.bool r) ∧ Below w.heap.size w w' := by
 have HT0_ := Aside0.mk hTr
 clear hTr
 have HE := Aside0.mk hE
 clear hE
 have hu40 := Tryz.underlying40
 have HR0 := Aside0.mk hr0
 have HC0 := Aside0.mk hc0
 clear hr0 hc0
 have HB := Aside0.mk (Below.refl w.heap.size w)
 have H := h
 unfold laws_FnChanceAll.f at H
 clear h
 by_cases c2 : (l0.length : Int) > 1048576
 ·rw [if_pos c2] at H
  have c2b0 : decide (1048576 < (l0.length : Int)) = true := decide_eq_true c2
  have c2b1 : decide (1048576 < l0.length) = true := decide_eq_true (by omega)
  clear c2
  obtain rfl := Option.some.inj H
  go_enter Tryz.func6, Tryz.ntmps6
  go_wp2
  go_ret
  exact ⟨rfl, by repeat (with_reducible first | exact HB.out | apply below_alloc | apply pw_below_drewN | apply below_drew1)⟩
 ·rw [if_neg c2] at H
  have c2b0 : decide (1048576 < (l0.length : Int)) = false := decide_eq_false c2
  have c2b1 : decide (1048576 < l0.length) = false := decide_eq_false (by omega)
  clear c2
  replace H := bnd H
  obtain ⟨⟨t580, t581⟩, A3, H⟩ := H
  dsimp only at H
  replace H := bnd H
  obtain ⟨t584, A4, H⟩ := H
  have HC5 := Aside0.mk H
  clear H
  go_enter Tryz.func6, Tryz.ntmps6
  go_upto_region 5 with (first | ((with_reducible refine gate_callee (f := 26) rfl ?_); refine goesL_ (some 15) rfl rfl Tryz.func26 (by kernel_rfl) rfl #[.slice A0 l0.length c0] rfl (by (try simp only [List.map_toArray, List.map_cons, List.map_nil]); first | done | rfl | (simp only [List.length_drop, List.length_take]; rfl)) ?_; (with_reducible refine (spec_DrawQueryChance.calls k _ _ l0 t580 t581 _ ?side1 ?side2 A3.out).mono ?_); (case side1 => exact HR0.out); (case side2 => exact HC0.out); rintro e w6 ⟨v582, rfl, ho0, hb⟩; refine ⟨_, rfl, ?_⟩; have n0_ := Aside0.mk (Kd.R_lower ho0 (below_size (by repeat (with_reducible first | exact HB.out | apply below_alloc | apply pw_below_drewN | apply below_drew1)))); have n1_ := Aside0.mk (below_step (by repeat (with_reducible first | exact HB.out | apply below_alloc | apply pw_below_drewN | apply below_drew1)) hb); clear HB; have HO583 := n0_; have HB := n1_; clear n0_ n1_; (try clear hb); (try clear hb2); (try clear hk); (try clear hi); (try clear ho0); obtain ⟨Ao7, co7, eo7⟩ := Kd.R_slice HO583.out; subst eo7) | ((with_reducible refine gate_callee (f := 27) rfl ?_); refine goesL_ (some 20) rfl rfl Tryz.func27 (by kernel_rfl) rfl #[.int .i64 t580, .slice Ao7 t581.length co7] rfl (by (try simp only [List.map_toArray, List.map_cons, List.map_nil]); first | done | rfl | (simp only [List.length_drop, List.length_take]; rfl)) ?_; (with_reducible refine (impl_QueryChance.calls k t580 _ _ t581 t584 _ ?side1 ?side2 A4.out).mono ?_); (case side1 => exact (Kd.R_reads' HO583.out).2.2); (case side2 => exact (Kd.R_reads' HO583.out).2.1); rintro e w8 ⟨rfl, hb⟩; refine ⟨_, rfl, ?_⟩; have n0_ := Aside0.mk (Kd.R_below (HO583.out) hb); have n1_ := Aside0.mk (below_step (by repeat (with_reducible first | exact HB.out | apply below_alloc | apply pw_below_drewN | apply below_drew1)) hb); clear HO583; clear HB; have HO583 := n0_; have HB := n1_; clear n0_ n1_; (try clear hb); (try clear hb2); (try clear hk); (try clear hi)))
  (try simp only [Act.put, List.setIfInBounds_toArray, List.set_cons_zero, List.set_cons_succ])
  go_cut [29] (fun v29 wc => ∃ (kq : Nat) (x29_4 : Bool), v29 = .bool x29_4 ∧ Aside0 (laws_FnChanceAll.j0 kq t580 t581 t584 x29_4 = some r) ∧ Aside0 (kq ≤ k) ∧ Aside0 (Kd.R (Kd.int .i64) 3 wc w.heap.size (fun _ => True) (.slice Ao7 t581.length co7) t581) ∧ Aside0 (Below w.heap.size w wc))
  case first =>
   have H := HC5.out
   clear HC5
   replace H := bnd H
   obtain ⟨t585, A9, H⟩ := H
   by_cases c10 : t584 = t585
   ·rw [if_pos c10] at H
    have c10b0 : (t584 == t585) = true := beq_iff_eq.mpr c10
    have c10b1 : (t584 != t585) = false := bne_eq_false_iff_eq.mpr c10
    clear c10
    (first | rw [c10b0] | (simp only [i64_w, i32_w]; rw [c10b0]) | skip)
    have H' := Aside0.mk H
    clear H
    go_wp2_with (first | ((with_reducible refine gate_callee (f := 28) rfl ?_); refine goesL_ (some 24) rfl rfl Tryz.func28 (by kernel_rfl) rfl #[.int .i64 t580, .slice Ao7 t581.length co7] rfl (by (try simp only [List.map_toArray, List.map_cons, List.map_nil]); first | done | rfl | (simp only [List.length_drop, List.length_take]; rfl)) ?_; (with_reducible refine (spec_QueryChance.calls k t580 _ _ t581 t585 _ ?side1 ?side2 A9.out).mono ?_); (case side1 => exact (Kd.R_reads' HO583.out).2.2); (case side2 => exact (Kd.R_reads' HO583.out).2.1); rintro e w11 ⟨rfl, hb⟩; refine ⟨_, rfl, ?_⟩; replace HO583 := Aside0.mk (Kd.R_below (HO583.out) hb); replace HB := Aside0.mk (below_step (by repeat (with_reducible first | exact HB.out | apply below_alloc | apply pw_below_drewN | apply below_drew1)) hb); clear hb))
    go_meet
    case rel => exact ⟨_, (decide (t584 < 0)), rfl, H', ⟨by first | omega | exact Nat.le_refl _⟩, ⟨HO583.out⟩, ⟨by repeat (with_reducible first | exact HB.out | apply below_alloc | apply pw_below_drewN | apply below_drew1)⟩⟩
   ·rw [if_neg c10] at H
    have c10b0 : (t584 == t585) = false := beq_eq_false_iff_ne.mpr c10
    have c10b1 : (t584 != t585) = true := bne_iff_ne.mpr c10
    (first | rw [c10b0] | (simp only [i64_w, i32_w]; rw [c10b0]) | skip)
    have H' := Aside0.mk H
    clear H
    go_wp2_with (first | ((with_reducible refine gate_callee (f := 28) rfl ?_); refine goesL_ (some 24) rfl rfl Tryz.func28 (by kernel_rfl) rfl #[.int .i64 t580, .slice Ao7 t581.length co7] rfl (by (try simp only [List.map_toArray, List.map_cons, List.map_nil]); first | done | rfl | (simp only [List.length_drop, List.length_take]; rfl)) ?_; (with_reducible refine (spec_QueryChance.calls k t580 _ _ t581 t585 _ ?side1 ?side2 A9.out).mono ?_); (case side1 => exact (Kd.R_reads' HO583.out).2.2); (case side2 => exact (Kd.R_reads' HO583.out).2.1); rintro e w12 ⟨rfl, hb⟩; refine ⟨_, rfl, ?_⟩; replace HO583 := Aside0.mk (Kd.R_below (HO583.out) hb); replace HB := Aside0.mk (below_step (by repeat (with_reducible first | exact HB.out | apply below_alloc | apply pw_below_drewN | apply below_drew1)) hb); clear hb))
    go_meet
    case rel => exact ⟨_, (true), rfl, H', ⟨by first | omega | exact Nat.le_refl _⟩, ⟨HO583.out⟩, ⟨by repeat (with_reducible first | exact HB.out | apply below_alloc | apply pw_below_drewN | apply below_drew1)⟩⟩
  case rest =>
   clear HC5
   try clear c1
   try clear c2
   try clear c2b0
   try clear c2b1
   try clear p2
   try clear c6
   try clear c10
   try clear c10b0
   try clear c10b1
   obtain ⟨kq, x29_4, rfl, HA, HJ4, HO_4, HB⟩ := hcut
   cases kq with
   | zero => exact absurd HA.out (by simp [laws_FnChanceAll.j0])
   | succ kj4 =>
    have H := HA.out
    clear HA
    simp only [laws_FnChanceAll.j0] at H
    by_cases c13 : x29_4 = true
    ·subst c13
     rw [if_pos rfl] at H
     replace H := bnd H
     obtain ⟨t586, A14, H⟩ := H
     obtain rfl := Option.some.inj H
     go_wp2_with (first | ((with_reducible refine gate_callee (f := 28) rfl ?_); refine goesL_ (some 33) rfl rfl Tryz.func28 (by kernel_rfl) rfl #[.int .i64 t580, .slice Ao7 t581.length co7] rfl (by (try simp only [List.map_toArray, List.map_cons, List.map_nil]); first | done | rfl | (simp only [List.length_drop, List.length_take]; rfl)) ?_; (with_reducible refine (spec_QueryChance.calls kj4 t580 _ _ t581 t586 _ ?side1 ?side2 A14.out).mono ?_); (case side1 => exact (Kd.R_reads' HO_4.out).2.2); (case side2 => exact (Kd.R_reads' HO_4.out).2.1); rintro e w15 ⟨rfl, hb⟩; refine ⟨_, rfl, ?_⟩; replace HO_4 := Aside0.mk (Kd.R_below (HO_4.out) hb); replace HB := Aside0.mk (below_step (by repeat (with_reducible first | exact HB.out | apply below_alloc | apply pw_below_drewN | apply below_drew1)) hb); clear hb))
     go_ret
     exact ⟨rfl, by repeat (with_reducible first | exact HB.out | apply below_alloc | apply pw_below_drewN | apply below_drew1)⟩
    ·replace c13 := Bool.eq_false_iff.mpr c13
     subst c13
     rw [if_neg (show ¬ (false = true) by decide)] at H
     replace H := bnd H
     obtain ⟨⟨t587, t590, t591, t592, t595⟩, A16, H⟩ := H
     dsimp only at H
     replace H := bnd H
     obtain ⟨t597, A17, H⟩ := H
     replace H := bnd H
     obtain ⟨t598, A18, H⟩ := H
     by_cases c19 : t598 = true
     ·subst c19
      rw [if_pos rfl] at H
      obtain rfl := Option.some.inj H
      go_wp2_with (first | ((with_reducible refine gate_callee (f := 23) rfl ?_); refine goesL_ (some 38) rfl rfl Tryz.func23 (by kernel_rfl) rfl #[.int .i64 t580, .slice Ao7 t581.length co7] rfl (by (try simp only [List.map_toArray, List.map_cons, List.map_nil]); first | done | rfl | (simp only [List.length_drop, List.length_take]; rfl)) ?_; (with_reducible refine (impl_ProofCut.calls t580 _ _ t581 t587 t590 t591 t592 t595 _ ?side1 ?side2 A16.out).mono ?_); (case side1 => exact (Kd.R_reads' HO_4.out).2.2); (case side2 => exact (Kd.R_reads' HO_4.out).2.1); rintro e w20 ⟨v588, v593, rfl, ho0, ho1, hb⟩; refine ⟨_, rfl, ?_⟩; replace HO589 := Aside0.mk (Kd.V_lower (Kd.V_mono (ok' := fun k_ => some k_ ≠ (.slice Ao7 t581.length co7 : Value).ownBlock) ho0 (fun k_ hk_ => (Kd.fresh' (Kd.R_lt (HO_4.out)) k_ hk_))) (below_size (by repeat (with_reducible first | exact HB.out | apply below_alloc | apply pw_below_drewN | apply below_drew1)))); replace HO594 := Aside0.mk (Kd.V_lower (Kd.V_mono (ok' := fun k_ => some k_ ≠ (.slice Ao7 t581.length co7 : Value).ownBlock) ho1 (fun k_ hk_ => (Kd.fresh' (Kd.R_lt (HO_4.out)) k_ hk_))) (below_size (by repeat (with_reducible first | exact HB.out | apply below_alloc | apply pw_below_drewN | apply below_drew1)))); replace HO_4 := Aside0.mk (Kd.R_below (HO_4.out) hb); replace HB := Aside0.mk (below_step (by repeat (with_reducible first | exact HB.out | apply below_alloc | apply pw_below_drewN | apply below_drew1)) hb); clear hb ho0 ho1) | ((with_reducible refine gate_dst (N := 7) rfl ?_); refine box_event ?hg (N := 7) ?hd (cs := #[.int .i64 0, .int .i64 0, .slice none 0 0]) (t := 40) ?hr ?_; (case hd => rfl); (case hg => rfl); (case hr => first | (go_simp; done) | (go_simp; rfl)); intro gb596 hg w21 hbox hb; replace HO_4 := Aside0.mk (Kd.R_below (HO_4.out) hb); replace HO589 := Aside0.mk (Kd.V_below (Kd.V_elderB (by (with_reducible repeat (first | apply Kd.V_alloc | apply Kd.V_drewN | apply Kd.V_drew)); exact HO589.out) gb596 (Nat.le_of_eq hg.symm)) hb); replace HO594 := Aside0.mk (Kd.V_below (Kd.V_elderB (by (with_reducible repeat (first | apply Kd.V_alloc | apply Kd.V_drewN | apply Kd.V_drew)); exact HO594.out) gb596 (Nat.le_of_eq hg.symm)) hb); replace BK596 := Aside0.mk (hbox); replace GW596 := Aside0.mk ((by rw [hg]; exact (below_size (by repeat (with_reducible first | exact HB.out | apply below_alloc | apply pw_below_drewN | apply below_drew1))) : w.heap.size ≤ gb596)); replace GE596 := Aside0.mk ((by rw [hg]; exact (below_size (by repeat (with_reducible first | exact HB.out | apply below_alloc | apply pw_below_drewN | apply below_drew1))) : w.heap.size ≤ gb596)); replace HB := Aside0.mk (below_step (by repeat (with_reducible first | exact HB.out | apply below_alloc | apply pw_below_drewN | apply below_drew1)) hb); clear hb hbox hg; have hcz22_0 : w21.cell? ⟨gb596, 0, none⟩ = some (.int .i64 0) := (blk_cell BK596.out 0).trans rfl; have hcz22_1 : w21.cell? ⟨gb596, 1, none⟩ = some (.int .i64 0) := (blk_cell BK596.out 1).trans rfl; have hcz22_2 : w21.cell? ⟨gb596, 2, none⟩ = some (.slice none 0 0) := (blk_cell BK596.out 2).trans rfl; have hfz22_0 := blk_frozen BK596.out 0; have hfz22_1 := blk_frozen BK596.out 1; have hfz22_2 := blk_frozen BK596.out 2; obtain ⟨Ao23, co23, eo23⟩ := Kd.V_slice HO594.out; subst eo23) | (refine gsC c29x22 (impl_TypeLen.calls t580 t597 _ A17.out) ?_; rintro e w24 ⟨rfl, hb⟩; refine ⟨_, rfl, ?_⟩; replace HO_4 := Aside0.mk (Kd.R_below ((Kd.R_mono (Kd.R_far (p := ⟨gb596, 2, none⟩) (Kd.R_far (p := ⟨gb596, 1, none⟩) (Kd.R_far (p := ⟨gb596, 0, none⟩) (Kd.R_types HO_4.out BK596.out (by decide)) (fun _ hk => hk.2) (.int .i64 t590)) (fun _ hk => hk.2) (.int .i64 t591)) (fun _ hk => hk.2) (.slice Ao23 t592.length co23)) (fun _ h_ => h_.1))) hb); replace HO589 := Aside0.mk (Kd.V_below (by (with_reducible repeat (first | apply Kd.V_alloc | apply Kd.V_drewN | apply Kd.V_drew)); exact (Kd.V_mono (Kd.V_far (p := ⟨gb596, 2, none⟩) (Kd.V_far (p := ⟨gb596, 1, none⟩) (Kd.V_far (p := ⟨gb596, 0, none⟩) (Kd.V_mono HO589.out (fun k_ hk => (⟨hk, hk.2⟩ : _ ∧ k_ ≠ gb596))) (fun _ hk => hk.2) (.int .i64 t590)) (fun _ hk => hk.2) (.int .i64 t591)) (fun _ hk => hk.2) (.slice Ao23 t592.length co23)) (fun _ h_ => h_.1))) hb); replace HO594 := Aside0.mk (Kd.V_below (by (with_reducible repeat (first | apply Kd.V_alloc | apply Kd.V_drewN | apply Kd.V_drew)); exact (Kd.V_mono (Kd.V_far (p := ⟨gb596, 2, none⟩) (Kd.V_far (p := ⟨gb596, 1, none⟩) (Kd.V_far (p := ⟨gb596, 0, none⟩) (Kd.V_mono HO594.out (fun k_ hk => (⟨hk, hk.2⟩ : _ ∧ k_ ≠ gb596))) (fun _ hk => hk.2) (.int .i64 t590)) (fun _ hk => hk.2) (.int .i64 t591)) (fun _ hk => hk.2) (.slice Ao23 t592.length co23)) (fun _ h_ => h_.1))) hb); replace BK596 := Aside0.mk (blk_below (g := gb596) (o := .cells #[.int .i64 t590, .int .i64 t591, .slice Ao23 t592.length co23] 40 (0, 0)) (by refine blk_put (cs := #[.int .i64 t590, .int .i64 t591, .slice none 0 0]) ?_ 2 _ rfl; refine blk_put (cs := #[.int .i64 t590, .int .i64 0, .slice none 0 0]) ?_ 1 _ rfl; refine blk_put (cs := #[.int .i64 0, .int .i64 0, .slice none 0 0]) ?_ 0 _ rfl; exact BK596.out) hb); replace HB := Aside0.mk (below_step (by repeat (with_reducible first | exact HB.out | apply below_alloc | apply pw_below_drewN | apply below_drew1 | refine below_set ?_ GE596.out)) hb); (try clear hb); (try clear hb2); (try clear hk); (try clear hi); have hcz25_0 : w24.cell? ⟨gb596, 0, none⟩ = some (.int .i64 t590) := (blk_cell BK596.out 0).trans rfl; have hcz25_1 : w24.cell? ⟨gb596, 1, none⟩ = some (.int .i64 t591) := (blk_cell BK596.out 1).trans rfl; have hcz25_2 : w24.cell? ⟨gb596, 2, none⟩ = some (.slice Ao23 t592.length co23) := (blk_cell BK596.out 2).trans rfl; have hfz25_0 := blk_frozen BK596.out 0; have hfz25_1 := blk_frozen BK596.out 1; have hfz25_2 := blk_frozen BK596.out 2; obtain ⟨Ao26, co26, eo26⟩ := Kd.V_slice HO589.out; subst eo26) | ((with_reducible refine gate_callee (f := 24) rfl ?_); refine goesL_ (some 49) rfl rfl Tryz.func24 (by kernel_rfl) rfl #[.int .i64 t580, .slice Ao26 t587.length co26, .agg #[.int .i64 t590, .int .i64 t591, .slice Ao23 t592.length co23]] rfl (by (try simp only [List.map_toArray, List.map_cons, List.map_nil]); first | done | rfl | (simp only [List.length_drop, List.length_take]; rfl)) ?_; (with_reducible refine (impl_ProofOk.calls kj4 t580 _ _ t587 t590 t591 _ _ t592 true _ ?side1 ?side2 ?side3 ?side4 A18.out HE.out ?sideB).mono ?_); (case side1 => exact (Kd.V_reads' HO589.out).2.2); (case side2 => exact (Kd.V_reads' HO589.out).2.1); (case side3 => exact (Kd.V_reads' HO594.out).2.2); (case side4 => exact (Kd.V_reads' HO594.out).2.1); (case sideB => exact (by repeat (with_reducible first | exact HB.out | apply below_alloc | apply pw_below_drewN | apply below_drew1 | refine below_set ?_ GE596.out))); rintro e w27 ⟨rfl, hb⟩; refine ⟨_, rfl, ?_⟩; replace HO_4 := Aside0.mk (Kd.R_below (HO_4.out) hb); replace HO589 := Aside0.mk (Kd.V_below (by (with_reducible repeat (first | apply Kd.V_alloc | apply Kd.V_drewN | apply Kd.V_drew)); exact HO589.out) hb); replace HO594 := Aside0.mk (Kd.V_below (by (with_reducible repeat (first | apply Kd.V_alloc | apply Kd.V_drewN | apply Kd.V_drew)); exact HO594.out) hb); replace BK596 := Aside0.mk (blk_below (g := gb596) (o := .cells #[.int .i64 t590, .int .i64 t591, .slice Ao23 t592.length co23] 40 (0, 0)) (by exact BK596.out) hb); replace HB := Aside0.mk (below_step (by repeat (with_reducible first | exact HB.out | apply below_alloc | apply pw_below_drewN | apply below_drew1 | refine below_set ?_ GE596.out)) hb); clear hb))
      go_ret
      exact ⟨rfl, by repeat (with_reducible first | exact HB.out | apply below_alloc | apply pw_below_drewN | apply below_drew1 | refine below_set ?_ GE596.out)⟩
     ·replace c19 := Bool.eq_false_iff.mpr c19
      subst c19
      rw [if_neg (show ¬ (false = true) by decide)] at H
      obtain rfl := Option.some.inj H
      go_wp2_with (first | ((with_reducible refine gate_callee (f := 23) rfl ?_); refine goesL_ (some 38) rfl rfl Tryz.func23 (by kernel_rfl) rfl #[.int .i64 t580, .slice Ao7 t581.length co7] rfl (by (try simp only [List.map_toArray, List.map_cons, List.map_nil]); first | done | rfl | (simp only [List.length_drop, List.length_take]; rfl)) ?_; (with_reducible refine (impl_ProofCut.calls t580 _ _ t581 t587 t590 t591 t592 t595 _ ?side1 ?side2 A16.out).mono ?_); (case side1 => exact (Kd.R_reads' HO_4.out).2.2); (case side2 => exact (Kd.R_reads' HO_4.out).2.1); rintro e w28 ⟨v588, v593, rfl, ho0, ho1, hb⟩; refine ⟨_, rfl, ?_⟩; replace HO589 := Aside0.mk (Kd.V_lower (Kd.V_mono (ok' := fun k_ => some k_ ≠ (.slice Ao7 t581.length co7 : Value).ownBlock) ho0 (fun k_ hk_ => (Kd.fresh' (Kd.R_lt (HO_4.out)) k_ hk_))) (below_size (by repeat (with_reducible first | exact HB.out | apply below_alloc | apply pw_below_drewN | apply below_drew1)))); replace HO594 := Aside0.mk (Kd.V_lower (Kd.V_mono (ok' := fun k_ => some k_ ≠ (.slice Ao7 t581.length co7 : Value).ownBlock) ho1 (fun k_ hk_ => (Kd.fresh' (Kd.R_lt (HO_4.out)) k_ hk_))) (below_size (by repeat (with_reducible first | exact HB.out | apply below_alloc | apply pw_below_drewN | apply below_drew1)))); replace HO_4 := Aside0.mk (Kd.R_below (HO_4.out) hb); replace HB := Aside0.mk (below_step (by repeat (with_reducible first | exact HB.out | apply below_alloc | apply pw_below_drewN | apply below_drew1)) hb); clear hb ho0 ho1) | ((with_reducible refine gate_dst (N := 7) rfl ?_); refine box_event ?hg (N := 7) ?hd (cs := #[.int .i64 0, .int .i64 0, .slice none 0 0]) (t := 40) ?hr ?_; (case hd => rfl); (case hg => rfl); (case hr => first | (go_simp; done) | (go_simp; rfl)); intro gb596 hg w29 hbox hb; replace HO_4 := Aside0.mk (Kd.R_below (HO_4.out) hb); replace HO589 := Aside0.mk (Kd.V_below (Kd.V_elderB (by (with_reducible repeat (first | apply Kd.V_alloc | apply Kd.V_drewN | apply Kd.V_drew)); exact HO589.out) gb596 (Nat.le_of_eq hg.symm)) hb); replace HO594 := Aside0.mk (Kd.V_below (Kd.V_elderB (by (with_reducible repeat (first | apply Kd.V_alloc | apply Kd.V_drewN | apply Kd.V_drew)); exact HO594.out) gb596 (Nat.le_of_eq hg.symm)) hb); replace BK596 := Aside0.mk (hbox); replace GW596 := Aside0.mk ((by rw [hg]; exact (below_size (by repeat (with_reducible first | exact HB.out | apply below_alloc | apply pw_below_drewN | apply below_drew1))) : w.heap.size ≤ gb596)); replace GE596 := Aside0.mk ((by rw [hg]; exact (below_size (by repeat (with_reducible first | exact HB.out | apply below_alloc | apply pw_below_drewN | apply below_drew1))) : w.heap.size ≤ gb596)); replace HB := Aside0.mk (below_step (by repeat (with_reducible first | exact HB.out | apply below_alloc | apply pw_below_drewN | apply below_drew1)) hb); clear hb hbox hg; have hcz30_0 : w29.cell? ⟨gb596, 0, none⟩ = some (.int .i64 0) := (blk_cell BK596.out 0).trans rfl; have hcz30_1 : w29.cell? ⟨gb596, 1, none⟩ = some (.int .i64 0) := (blk_cell BK596.out 1).trans rfl; have hcz30_2 : w29.cell? ⟨gb596, 2, none⟩ = some (.slice none 0 0) := (blk_cell BK596.out 2).trans rfl; have hfz30_0 := blk_frozen BK596.out 0; have hfz30_1 := blk_frozen BK596.out 1; have hfz30_2 := blk_frozen BK596.out 2; obtain ⟨Ao31, co31, eo31⟩ := Kd.V_slice HO594.out; subst eo31) | (refine gsC c29x22 (impl_TypeLen.calls t580 t597 _ A17.out) ?_; rintro e w32 ⟨rfl, hb⟩; refine ⟨_, rfl, ?_⟩; replace HO_4 := Aside0.mk (Kd.R_below ((Kd.R_mono (Kd.R_far (p := ⟨gb596, 2, none⟩) (Kd.R_far (p := ⟨gb596, 1, none⟩) (Kd.R_far (p := ⟨gb596, 0, none⟩) (Kd.R_types HO_4.out BK596.out (by decide)) (fun _ hk => hk.2) (.int .i64 t590)) (fun _ hk => hk.2) (.int .i64 t591)) (fun _ hk => hk.2) (.slice Ao31 t592.length co31)) (fun _ h_ => h_.1))) hb); replace HO589 := Aside0.mk (Kd.V_below (by (with_reducible repeat (first | apply Kd.V_alloc | apply Kd.V_drewN | apply Kd.V_drew)); exact (Kd.V_mono (Kd.V_far (p := ⟨gb596, 2, none⟩) (Kd.V_far (p := ⟨gb596, 1, none⟩) (Kd.V_far (p := ⟨gb596, 0, none⟩) (Kd.V_mono HO589.out (fun k_ hk => (⟨hk, hk.2⟩ : _ ∧ k_ ≠ gb596))) (fun _ hk => hk.2) (.int .i64 t590)) (fun _ hk => hk.2) (.int .i64 t591)) (fun _ hk => hk.2) (.slice Ao31 t592.length co31)) (fun _ h_ => h_.1))) hb); replace HO594 := Aside0.mk (Kd.V_below (by (with_reducible repeat (first | apply Kd.V_alloc | apply Kd.V_drewN | apply Kd.V_drew)); exact (Kd.V_mono (Kd.V_far (p := ⟨gb596, 2, none⟩) (Kd.V_far (p := ⟨gb596, 1, none⟩) (Kd.V_far (p := ⟨gb596, 0, none⟩) (Kd.V_mono HO594.out (fun k_ hk => (⟨hk, hk.2⟩ : _ ∧ k_ ≠ gb596))) (fun _ hk => hk.2) (.int .i64 t590)) (fun _ hk => hk.2) (.int .i64 t591)) (fun _ hk => hk.2) (.slice Ao31 t592.length co31)) (fun _ h_ => h_.1))) hb); replace BK596 := Aside0.mk (blk_below (g := gb596) (o := .cells #[.int .i64 t590, .int .i64 t591, .slice Ao31 t592.length co31] 40 (0, 0)) (by refine blk_put (cs := #[.int .i64 t590, .int .i64 t591, .slice none 0 0]) ?_ 2 _ rfl; refine blk_put (cs := #[.int .i64 t590, .int .i64 0, .slice none 0 0]) ?_ 1 _ rfl; refine blk_put (cs := #[.int .i64 0, .int .i64 0, .slice none 0 0]) ?_ 0 _ rfl; exact BK596.out) hb); replace HB := Aside0.mk (below_step (by repeat (with_reducible first | exact HB.out | apply below_alloc | apply pw_below_drewN | apply below_drew1 | refine below_set ?_ GE596.out)) hb); (try clear hb); (try clear hb2); (try clear hk); (try clear hi); have hcz33_0 : w32.cell? ⟨gb596, 0, none⟩ = some (.int .i64 t590) := (blk_cell BK596.out 0).trans rfl; have hcz33_1 : w32.cell? ⟨gb596, 1, none⟩ = some (.int .i64 t591) := (blk_cell BK596.out 1).trans rfl; have hcz33_2 : w32.cell? ⟨gb596, 2, none⟩ = some (.slice Ao31 t592.length co31) := (blk_cell BK596.out 2).trans rfl; have hfz33_0 := blk_frozen BK596.out 0; have hfz33_1 := blk_frozen BK596.out 1; have hfz33_2 := blk_frozen BK596.out 2; obtain ⟨Ao34, co34, eo34⟩ := Kd.V_slice HO589.out; subst eo34) | ((with_reducible refine gate_callee (f := 24) rfl ?_); refine goesL_ (some 49) rfl rfl Tryz.func24 (by kernel_rfl) rfl #[.int .i64 t580, .slice Ao34 t587.length co34, .agg #[.int .i64 t590, .int .i64 t591, .slice Ao31 t592.length co31]] rfl (by (try simp only [List.map_toArray, List.map_cons, List.map_nil]); first | done | rfl | (simp only [List.length_drop, List.length_take]; rfl)) ?_; (with_reducible refine (impl_ProofOk.calls kj4 t580 _ _ t587 t590 t591 _ _ t592 false _ ?side1 ?side2 ?side3 ?side4 A18.out HE.out ?sideB).mono ?_); (case side1 => exact (Kd.V_reads' HO589.out).2.2); (case side2 => exact (Kd.V_reads' HO589.out).2.1); (case side3 => exact (Kd.V_reads' HO594.out).2.2); (case side4 => exact (Kd.V_reads' HO594.out).2.1); (case sideB => exact (by repeat (with_reducible first | exact HB.out | apply below_alloc | apply pw_below_drewN | apply below_drew1 | refine below_set ?_ GE596.out))); rintro e w35 ⟨rfl, hb⟩; refine ⟨_, rfl, ?_⟩; replace HO_4 := Aside0.mk (Kd.R_below (HO_4.out) hb); replace HO589 := Aside0.mk (Kd.V_below (by (with_reducible repeat (first | apply Kd.V_alloc | apply Kd.V_drewN | apply Kd.V_drew)); exact HO589.out) hb); replace HO594 := Aside0.mk (Kd.V_below (by (with_reducible repeat (first | apply Kd.V_alloc | apply Kd.V_drewN | apply Kd.V_drew)); exact HO594.out) hb); replace BK596 := Aside0.mk (blk_below (g := gb596) (o := .cells #[.int .i64 t590, .int .i64 t591, .slice Ao31 t592.length co31] 40 (0, 0)) (by exact BK596.out) hb); replace HB := Aside0.mk (below_step (by repeat (with_reducible first | exact HB.out | apply below_alloc | apply pw_below_drewN | apply below_drew1 | refine below_set ?_ GE596.out)) hb); clear hb))
      go_ret
      exact ⟨rfl, by repeat (with_reducible first | exact HB.out | apply below_alloc | apply pw_below_drewN | apply below_drew1 | refine below_set ?_ GE596.out)⟩
def laws_FnChanceAll.Pure : Prop := ∀ (l0 : List Int), l0.length ≤ maxLen → l0.length * 1 ≤ 140737488351232 → (∀ x ∈ l0, (Lit.int .u8 x).wf = true) → ∃ k, laws_FnChanceAll.f k l0 = some true
end Go.Proofs.YtlgbblaidohljaaGreatDoor.Zc
