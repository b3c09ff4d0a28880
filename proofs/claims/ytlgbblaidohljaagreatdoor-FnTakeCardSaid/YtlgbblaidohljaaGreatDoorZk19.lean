import Derived.Test.YtlgbblaidohljaaGreatDoorZ
import Derived.Test.YtlgbblaidohljaaGreatDoorZk0
import Derived.Test.YtlgbblaidohljaaGreatDoorZk11
import Derived.Test.YtlgbblaidohljaaGreatDoorZk12
import Derived.Test.YtlgbblaidohljaaGreatDoorZk18
namespace Go.Proofs.YtlgbblaidohljaaGreatDoor.Zk
open Go.RowKit Go.Proofs.YtlgbblaidohljaaGreatDoorT.PrintWords Go.Proofs.YtlgbblaidohljaaGreatDoorT.PrintLast Go.Proofs.YtlgbblaidohljaaGreatDoorT.PrintMore Go.Proofs.YtlgbblaidohljaaGreatDoor.Z
attribute [local go_sem] max2_int min2_int max_two min_two max_three min_three max_four min_four
set_option linter.unusedVariables false
set_option linter.unusedSimpArgs false
def spec_DrawPartsTake.f (k : Nat) (l0 : List Int) : Option (Int × Int × Int × List Int × Int × Int × Int × List Int × Int × Int) := (spec_l6Open.f l0).bind fun bt589 => ((spec_l92Two.f k bt589.1 bt589.2).bind fun bt592 => ((spec_l6Rd_pick.f k bt589.1 bt592.2.2.2.2.2.2.2.2 26).bind fun bt607 => ((spec_l6Rd_pick.f k bt589.1 bt607.2 16).bind fun bt609 => ((spec_l91Num.f k bt589.1 bt609.2).bind fun bt611 => (some (bt592.1, bt592.2.1, bt592.2.2.1, bt592.2.2.2.1, bt592.2.2.2.2.1, bt592.2.2.2.2.2.1, bt592.2.2.2.2.2.2.1, bt592.2.2.2.2.2.2.2.1, wrap64 ((wrap64 (5 + bt607.1)) - (wrap64 ((wrap64 (Int.tdiv bt609.1 15)) * 4))), bt611.1))))))
def spec_DrawPartsTake.T3 : Bool × List (List Nat × List Nat) := (true, [([], []), ([], []), ([], []), ([2], [2]), ([3], [3]), ([], []), ([5, 3], [5]), ([6], [6]), ([7], [7]), ([4, 8], [4, 8]), ([], []), ([10, 6], [10]), ([0, 11, 0], [0]), ([1, 12, 0, 1, 12], [1]), ([9, 13, 0, 1, 2, 3, 4, 5, 6, 7, 8, 9, 12, 13], [9]), ([11, 14, 0, 1, 2, 3, 4, 5, 6, 7, 8, 9, 10, 11, 12, 13, 14], [11])])
def spec_DrawPartsTake.B3 : List Nat := [0, 0, 0, 4, 12, 0, 44, 108, 236, 508, 0, 1132, 3181, 7279, 16383, 32767]
theorem spec_DrawPartsTake.tab3 : rtab .any (opsOf Tryz.f32 3) = spec_DrawPartsTake.T3 := by kernel_rfl
theorem spec_DrawPartsTake.bits3 : waitsOk spec_DrawPartsTake.T3.2 spec_DrawPartsTake.B3 = true := by kernel_rfl
set_option maxHeartbeats 8000000 in
set_option maxRecDepth 100000 in
theorem spec_DrawPartsTake.calls (k : Nat) (A0 : Option Addr) (c0 : Nat) (l0 : List Int) (r1 : Int) (r2 : Int) (r3 : Int) (r4 : List Int) (r5 : Int) (r6 : Int) (r7 : Int) (r8 : List Int) (r9 : Int) (r10 : Int) (w : World) (hr0 : Kd.C (Kd.int .u8) w A0 l0.length l0) (hc0 : l0.length ≤ c0) (h : spec_DrawPartsTake.f k l0 = some (r1, r2, r3, r4, r5, r6, r7, r8, r9, r10)) :
  Calls Tryz.prog 32 #[.slice A0 l0.length c0] w fun e w' => ∃ v3_ v7_ : Value, e = .returned (.tuple #[.agg #[.int .i64 r1, .int .i64 r2, .int .i64 r3, v3_], .agg #[.int .i64 r5, .int .i64 r6, .int .i64 r7, v7_], .int .i64 r9, .int .i64 r10]) ∧ Kd.R (Kd.int .i64) 3 w' w.heap.size (fun k_ => some k_ ≠ (v7_ : Value).ownBlock) v3_ r4 ∧ Kd.R (Kd.int .i64) 3 w' w.heap.size (fun k_ => some k_ ≠ (v3_ : Value).ownBlock) v7_ r8 ∧ Below w.heap.size w w' := by
 have hu27 := Tryz.underlying27
 have HR0 := Aside0.mk hr0
 have HC0 := Aside0.mk hc0
 clear hr0 hc0
 have HB := Aside0.mk (Below.refl w.heap.size w)
 have H := h
 unfold spec_DrawPartsTake.f at H
 clear h
 replace H := bnd H
 obtain ⟨⟨t589, t590⟩, A2, H⟩ := H
 dsimp only at H
 replace H := bnd H
 obtain ⟨⟨t592, t593, t594, t595, t598, t599, t600, t601, t604⟩, A3, H⟩ := H
 dsimp only at H
 replace H := bnd H
 obtain ⟨⟨t607, t608⟩, A4, H⟩ := H
 dsimp only at H
 replace H := bnd H
 obtain ⟨⟨t609, t610⟩, A5, H⟩ := H
 dsimp only at H
 replace H := bnd H
 obtain ⟨⟨t611, t612⟩, A6, H⟩ := H
 dsimp only at H
 simp only [Option.some.injEq, Prod.mk.injEq] at H
 obtain ⟨rfl, rfl, rfl, rfl, rfl, rfl, rfl, rfl, rfl, rfl⟩ := H
 go_enter Tryz.func32, Tryz.ntmps32
 try go_wp2_with (first | ((with_reducible refine gate_dst (N := 2) rfl ?_); refine boxZ (N := 2) (cs := #[.int .i64 0, .int .i64 0, .int .i64 0, .slice none 0 0]) (t := 27) ?_; intro gb587 hg w7 hbox hb; replace BK587 := Aside0.mk (hbox); replace GW587 := gwZ hg; replace GE587 := gwZ hg; replace HB := bnZ hb; clear hb hbox hg) | ((with_reducible refine gate_dst (N := 3) rfl ?_); refine boxZ (N := 3) (cs := #[.int .i64 0, .int .i64 0, .int .i64 0, .slice none 0 0]) (t := 27) ?_; intro gb588 hg w8 hbox hb; replace BK588 := Aside0.mk (hbox); replace GW588 := gwZ hg; replace GE588 := gwZ hg; replace HB := bnZ hb; replace NB587_588 := nbZ BK587.out hg; replace NB588_587 := nbY BK587.out hg; replace BK587 := bkZ hb BK587.out; clear hb hbox hg) | ((with_reducible refine gate_callee (f := 43) rfl ?_); refine goesZ (some 10) Tryz.func43 #[.slice A0 l0.length c0] ?_; (with_reducible refine (spec_l6Open.calls _ _ l0 t589 t590 w _ ?side1 ?side2 ?side3 A2.out).mono ?_); (case side1 => repeat (with_reducible first | exact HB.out | apply below_alloc | apply pw_below_drewN | apply below_drew1 | refine below_set ?_ GE587.out | refine below_set ?_ GE588.out)); (case side2 => exact HR0.out); (case side3 => exact HC0.out); rintro e w9 ⟨g591, rfl, hi, hb, hb2⟩; refine ⟨_, rfl, ?_⟩; replace HB := Aside0.mk (hb); replace HI591 := Aside0.mk (hi); replace NB591_587 := Aside0.mk (IsS94.ne_blk hi (blk_below (g := gb587) (o := .cells #[.int .i64 0, .int .i64 0, .int .i64 0, .slice none 0 0] 27 (0, 0)) (by exact BK587.out) hb2) (by decide)); replace NB587_591 := Aside0.mk (Ne.symm (IsS94.ne_blk hi (blk_below (g := gb587) (o := .cells #[.int .i64 0, .int .i64 0, .int .i64 0, .slice none 0 0] 27 (0, 0)) (by exact BK587.out) hb2) (by decide))); replace BK587 := bkZ hb2 BK587.out; replace NB591_588 := Aside0.mk (IsS94.ne_blk hi (blk_below (g := gb588) (o := .cells #[.int .i64 0, .int .i64 0, .int .i64 0, .slice none 0 0] 27 (0, 0)) (by exact BK588.out) hb2) (by decide)); replace NB588_591 := Aside0.mk (Ne.symm (IsS94.ne_blk hi (blk_below (g := gb588) (o := .cells #[.int .i64 0, .int .i64 0, .int .i64 0, .slice none 0 0] 27 (0, 0)) (by exact BK588.out) hb2) (by decide))); replace BK588 := bkZ hb2 BK588.out; clear hb hb2 hi) | ((with_reducible refine gate_callee (f := 71) rfl ?_); refine goesZ (some 13) Tryz.func71 #[.pointer (some ⟨g591, 0, none⟩)] ?_; (with_reducible refine (spec_l92Two.calls k g591 t589 t590 t592 t593 t594 t595 t598 t599 t600 t601 t604 w _ ?side1 ?side2 A3.out).mono ?_); (case side1 => repeat (with_reducible first | exact HI591.out | apply IsS94.alloc | apply IsS94.drewN | apply IsS94.drew | apply IsS94.set_1 | refine IsS94.far ?_ NB591_587.out _ | refine IsS94.far ?_ NB591_588.out _)); (case side2 => repeat (with_reducible first | exact HB.out | apply below_alloc | apply pw_below_drewN | apply below_drew1 | refine below_set ?_ (IsS94.ge HI591.out) | refine below_set ?_ GE587.out | refine below_set ?_ GE588.out)); rintro e w10 ⟨v596, v602, rfl, ho0, ho1, hi, hb, hk⟩; refine ⟨_, rfl, ?_⟩; replace BK587 := kbZ hk BK587.out NB587_591.out; replace BK588 := kbZ hk BK588.out NB588_591.out; replace HO597 := Aside0.mk (Kd.R_lower ho0 (below_size (by repeat (with_reducible first | exact HB.out | apply below_alloc | apply pw_below_drewN | apply below_drew1 | refine below_set ?_ (IsS94.ge HI591.out) | refine below_set ?_ GE587.out | refine below_set ?_ GE588.out)))); replace HO603 := Aside0.mk (Kd.R_lower ho1 (below_size (by repeat (with_reducible first | exact HB.out | apply below_alloc | apply pw_below_drewN | apply below_drew1 | refine below_set ?_ (IsS94.ge HI591.out) | refine below_set ?_ GE587.out | refine below_set ?_ GE588.out)))); replace HB := Aside0.mk (hb); replace HI591 := Aside0.mk (hi); clear hb hk hi ho0 ho1) | ((with_reducible refine gate_dst (N := 7) rfl ?_); refine boxZ (N := 7) (cs := #[.int .i64 0, .int .i64 0, .int .i64 0, .slice none 0 0]) (t := 27) ?_; intro gb605 hg w11 hbox hb; replace HO597 := Aside0.mk (Kd.R_below (HO597.out) hb); replace HO603 := Aside0.mk (Kd.R_below (HO603.out) hb); replace BK605 := Aside0.mk (hbox); replace GW605 := Aside0.mk ((by rw [hg]; exact (below_size (by repeat (with_reducible first | exact HB.out | apply below_alloc | apply pw_below_drewN | apply below_drew1 | refine below_set ?_ (IsS94.ge HI591.out) | refine below_set ?_ GE587.out | refine below_set ?_ GE588.out))) : w.heap.size ≤ gb605)); replace GE605 := Aside0.mk ((by rw [hg]; exact (below_size (by repeat (with_reducible first | exact HB.out | apply below_alloc | apply pw_below_drewN | apply below_drew1 | refine below_set ?_ (IsS94.ge HI591.out) | refine below_set ?_ GE587.out | refine below_set ?_ GE588.out))) : w.heap.size ≤ gb605)); replace HB := Aside0.mk (below_step (by repeat (with_reducible first | exact HB.out | apply below_alloc | apply pw_below_drewN | apply below_drew1 | refine below_set ?_ (IsS94.ge HI591.out) | refine below_set ?_ GE587.out | refine below_set ?_ GE588.out)) hb); replace NB587_605 := nbZ BK587.out hg; replace NB605_587 := nbY BK587.out hg; replace BK587 := bkZ hb BK587.out; replace NB588_605 := nbZ BK588.out hg; replace NB605_588 := nbY BK588.out hg; replace BK588 := bkZ hb BK588.out; replace NB591_605 := Aside0.mk ((by rw [hg]; exact Nat.ne_of_lt (IsS94.lt (show IsS94 w _ g591 t589 t604 from by repeat (with_reducible first | exact HI591.out | apply IsS94.alloc | apply IsS94.drewN | apply IsS94.drew | apply IsS94.set_1 | refine IsS94.far ?_ NB591_587.out _ | refine IsS94.far ?_ NB591_588.out _))) : g591 ≠ gb605)); replace NB605_591 := Aside0.mk ((by rw [hg]; exact Nat.ne_of_gt (IsS94.lt (show IsS94 w _ g591 t589 t604 from by repeat (with_reducible first | exact HI591.out | apply IsS94.alloc | apply IsS94.drewN | apply IsS94.drew | apply IsS94.set_1 | refine IsS94.far ?_ NB591_587.out _ | refine IsS94.far ?_ NB591_588.out _))) : gb605 ≠ g591)); replace HI591 := Aside0.mk (IsS94.below (by repeat (with_reducible first | exact HI591.out | apply IsS94.alloc | apply IsS94.drewN | apply IsS94.drew | apply IsS94.set_1 | refine IsS94.far ?_ NB591_587.out _ | refine IsS94.far ?_ NB591_588.out _)) hb); clear hb hbox hg) | ((with_reducible refine gate_dst (N := 8) rfl ?_); refine boxZ (N := 8) (cs := #[.int .i64 0, .int .i64 0, .int .i64 0, .slice none 0 0]) (t := 27) ?_; intro gb606 hg w12 hbox hb; replace HO597 := Aside0.mk (Kd.R_below (HO597.out) hb); replace HO603 := Aside0.mk (Kd.R_below (HO603.out) hb); replace BK606 := Aside0.mk (hbox); replace GW606 := Aside0.mk ((by rw [hg]; exact (below_size (by repeat (with_reducible first | exact HB.out | apply below_alloc | apply pw_below_drewN | apply below_drew1 | refine below_set ?_ (IsS94.ge HI591.out) | refine below_set ?_ GE587.out | refine below_set ?_ GE588.out | refine below_set ?_ GE605.out))) : w.heap.size ≤ gb606)); replace GE606 := Aside0.mk ((by rw [hg]; exact (below_size (by repeat (with_reducible first | exact HB.out | apply below_alloc | apply pw_below_drewN | apply below_drew1 | refine below_set ?_ (IsS94.ge HI591.out) | refine below_set ?_ GE587.out | refine below_set ?_ GE588.out | refine below_set ?_ GE605.out))) : w.heap.size ≤ gb606)); replace HB := Aside0.mk (below_step (by repeat (with_reducible first | exact HB.out | apply below_alloc | apply pw_below_drewN | apply below_drew1 | refine below_set ?_ (IsS94.ge HI591.out) | refine below_set ?_ GE587.out | refine below_set ?_ GE588.out | refine below_set ?_ GE605.out)) hb); replace NB587_606 := nbZ BK587.out hg; replace NB606_587 := nbY BK587.out hg; replace BK587 := bkZ hb BK587.out; replace NB588_606 := nbZ BK588.out hg; replace NB606_588 := nbY BK588.out hg; replace BK588 := bkZ hb BK588.out; replace NB605_606 := nbZ BK605.out hg; replace NB606_605 := nbY BK605.out hg; replace BK605 := bkZ hb BK605.out; replace NB591_606 := Aside0.mk ((by rw [hg]; exact Nat.ne_of_lt (IsS94.lt (show IsS94 w _ g591 t589 t604 from by repeat (with_reducible first | exact HI591.out | apply IsS94.alloc | apply IsS94.drewN | apply IsS94.drew | apply IsS94.set_1 | refine IsS94.far ?_ NB591_587.out _ | refine IsS94.far ?_ NB591_588.out _ | refine IsS94.far ?_ NB591_605.out _))) : g591 ≠ gb606)); replace NB606_591 := Aside0.mk ((by rw [hg]; exact Nat.ne_of_gt (IsS94.lt (show IsS94 w _ g591 t589 t604 from by repeat (with_reducible first | exact HI591.out | apply IsS94.alloc | apply IsS94.drewN | apply IsS94.drew | apply IsS94.set_1 | refine IsS94.far ?_ NB591_587.out _ | refine IsS94.far ?_ NB591_588.out _ | refine IsS94.far ?_ NB591_605.out _))) : gb606 ≠ g591)); replace HI591 := Aside0.mk (IsS94.below (by repeat (with_reducible first | exact HI591.out | apply IsS94.alloc | apply IsS94.drewN | apply IsS94.drew | apply IsS94.set_1 | refine IsS94.far ?_ NB591_587.out _ | refine IsS94.far ?_ NB591_588.out _ | refine IsS94.far ?_ NB591_605.out _)) hb); clear hb hbox hg; have hnb13 := NB605_587.out; have hnc13 := NB587_605.out; have hnb14 := NB605_588.out; have hnc14 := NB588_605.out; have hnb15 := NB605_606.out; have hnc15 := NB606_605.out; have hnb16 := NB605_591.out; have hnc16 := NB591_605.out; have hcz17_0 : w12.cell? ⟨gb605, 0, none⟩ = some (.int .i64 0) := (blk_cell BK605.out 0).trans rfl; have hcz17_1 : w12.cell? ⟨gb605, 1, none⟩ = some (.int .i64 0) := (blk_cell BK605.out 1).trans rfl; have hcz17_2 : w12.cell? ⟨gb605, 2, none⟩ = some (.int .i64 0) := (blk_cell BK605.out 2).trans rfl; have hcz17_3 : w12.cell? ⟨gb605, 3, none⟩ = some (.slice none 0 0) := (blk_cell BK605.out 3).trans rfl; have hfz17_0 := blk_frozen BK605.out 0; have hfz17_1 := blk_frozen BK605.out 1; have hfz17_2 := blk_frozen BK605.out 2; have hfz17_3 := blk_frozen BK605.out 3; obtain ⟨Ao18, co18, eo18⟩ := Kd.R_slice HO597.out; subst eo18; have hnb19 := NB606_587.out; have hnc19 := NB587_606.out; have hnb20 := NB606_588.out; have hnc20 := NB588_606.out; have hnb21 := NB606_591.out; have hnc21 := NB591_606.out; have hcz22_0 : w12.cell? ⟨gb606, 0, none⟩ = some (.int .i64 0) := (blk_cell BK606.out 0).trans rfl; have hcz22_1 : w12.cell? ⟨gb606, 1, none⟩ = some (.int .i64 0) := (blk_cell BK606.out 1).trans rfl; have hcz22_2 : w12.cell? ⟨gb606, 2, none⟩ = some (.int .i64 0) := (blk_cell BK606.out 2).trans rfl; have hcz22_3 : w12.cell? ⟨gb606, 3, none⟩ = some (.slice none 0 0) := (blk_cell BK606.out 3).trans rfl; have hfz22_0 := blk_frozen BK606.out 0; have hfz22_1 := blk_frozen BK606.out 1; have hfz22_2 := blk_frozen BK606.out 2; have hfz22_3 := blk_frozen BK606.out 3; obtain ⟨Ao23, co23, eo23⟩ := Kd.R_slice HO603.out; subst eo23))
 replace HO597 : Aside0 (Kd.R (Kd.int .i64) 3 ((((((((w12.setCell ⟨gb605, 0, none⟩ (.int .i64 t592)).setCell ⟨gb605, 1, none⟩ (.int .i64 t593)).setCell ⟨gb605, 2, none⟩ (.int .i64 t594)).setCell ⟨gb605, 3, none⟩ (.slice Ao18 t595.length co18)).setCell ⟨gb606, 0, none⟩ (.int .i64 t598)).setCell ⟨gb606, 1, none⟩ (.int .i64 t599)).setCell ⟨gb606, 2, none⟩ (.int .i64 t600)).setCell ⟨gb606, 3, none⟩ (.slice Ao23 t601.length co23)) w.heap.size (fun k_ => some k_ ≠ (.slice Ao23 t601.length co23 : Value).ownBlock) (.slice Ao18 t595.length co18) t595) := ⟨Kd.R_mono (Kd.R_far (p := ⟨gb606, 3, none⟩) (Kd.R_far (p := ⟨gb606, 2, none⟩) (Kd.R_far (p := ⟨gb606, 1, none⟩) (Kd.R_far (p := ⟨gb606, 0, none⟩) (Kd.R_far (p := ⟨gb605, 3, none⟩) (Kd.R_far (p := ⟨gb605, 2, none⟩) (Kd.R_far (p := ⟨gb605, 1, none⟩) (Kd.R_far (p := ⟨gb605, 0, none⟩) (Kd.R_types (Kd.R_types HO597.out BK605.out (by decide)) BK606.out (by decide)) (fun _ hk => hk.1.2) (.int .i64 t592)) (fun _ hk => hk.1.2) (.int .i64 t593)) (fun _ hk => hk.1.2) (.int .i64 t594)) (fun _ hk => hk.1.2) (.slice Ao18 t595.length co18)) (fun _ hk => hk.2) (.int .i64 t598)) (fun _ hk => hk.2) (.int .i64 t599)) (fun _ hk => hk.2) (.int .i64 t600)) (fun _ hk => hk.2) (.slice Ao23 t601.length co23)) (fun _ hk => hk.1.1)⟩
 replace HO603 : Aside0 (Kd.R (Kd.int .i64) 3 ((((((((w12.setCell ⟨gb605, 0, none⟩ (.int .i64 t592)).setCell ⟨gb605, 1, none⟩ (.int .i64 t593)).setCell ⟨gb605, 2, none⟩ (.int .i64 t594)).setCell ⟨gb605, 3, none⟩ (.slice Ao18 t595.length co18)).setCell ⟨gb606, 0, none⟩ (.int .i64 t598)).setCell ⟨gb606, 1, none⟩ (.int .i64 t599)).setCell ⟨gb606, 2, none⟩ (.int .i64 t600)).setCell ⟨gb606, 3, none⟩ (.slice Ao23 t601.length co23)) w.heap.size (fun k_ => some k_ ≠ (.slice Ao18 t595.length co18 : Value).ownBlock) (.slice Ao23 t601.length co23) t601) := ⟨Kd.R_mono (Kd.R_far (p := ⟨gb606, 3, none⟩) (Kd.R_far (p := ⟨gb606, 2, none⟩) (Kd.R_far (p := ⟨gb606, 1, none⟩) (Kd.R_far (p := ⟨gb606, 0, none⟩) (Kd.R_far (p := ⟨gb605, 3, none⟩) (Kd.R_far (p := ⟨gb605, 2, none⟩) (Kd.R_far (p := ⟨gb605, 1, none⟩) (Kd.R_far (p := ⟨gb605, 0, none⟩) (Kd.R_types (Kd.R_types HO603.out BK605.out (by decide)) BK606.out (by decide)) (fun _ hk => hk.1.2) (.int .i64 t592)) (fun _ hk => hk.1.2) (.int .i64 t593)) (fun _ hk => hk.1.2) (.int .i64 t594)) (fun _ hk => hk.1.2) (.slice Ao18 t595.length co18)) (fun _ hk => hk.2) (.int .i64 t598)) (fun _ hk => hk.2) (.int .i64 t599)) (fun _ hk => hk.2) (.int .i64 t600)) (fun _ hk => hk.2) (.slice Ao23 t601.length co23)) (fun _ hk => hk.1.1)⟩
 replace BK587 : Aside0 (((((((((w12.setCell ⟨gb605, 0, none⟩ (.int .i64 t592)).setCell ⟨gb605, 1, none⟩ (.int .i64 t593)).setCell ⟨gb605, 2, none⟩ (.int .i64 t594)).setCell ⟨gb605, 3, none⟩ (.slice Ao18 t595.length co18)).setCell ⟨gb606, 0, none⟩ (.int .i64 t598)).setCell ⟨gb606, 1, none⟩ (.int .i64 t599)).setCell ⟨gb606, 2, none⟩ (.int .i64 t600)).setCell ⟨gb606, 3, none⟩ (.slice Ao23 t601.length co23)).heap[gb587]? = some (.cells #[.int .i64 0, .int .i64 0, .int .i64 0, .slice none 0 0] 27 (0, 0))) := ⟨by refine blk_far ?_ NB587_606.out _; refine blk_far ?_ NB587_606.out _; refine blk_far ?_ NB587_606.out _; refine blk_far ?_ NB587_606.out _; refine blk_far ?_ NB587_605.out _; refine blk_far ?_ NB587_605.out _; refine blk_far ?_ NB587_605.out _; refine blk_far ?_ NB587_605.out _; exact BK587.out⟩
 replace BK588 : Aside0 (((((((((w12.setCell ⟨gb605, 0, none⟩ (.int .i64 t592)).setCell ⟨gb605, 1, none⟩ (.int .i64 t593)).setCell ⟨gb605, 2, none⟩ (.int .i64 t594)).setCell ⟨gb605, 3, none⟩ (.slice Ao18 t595.length co18)).setCell ⟨gb606, 0, none⟩ (.int .i64 t598)).setCell ⟨gb606, 1, none⟩ (.int .i64 t599)).setCell ⟨gb606, 2, none⟩ (.int .i64 t600)).setCell ⟨gb606, 3, none⟩ (.slice Ao23 t601.length co23)).heap[gb588]? = some (.cells #[.int .i64 0, .int .i64 0, .int .i64 0, .slice none 0 0] 27 (0, 0))) := ⟨by refine blk_far ?_ NB588_606.out _; refine blk_far ?_ NB588_606.out _; refine blk_far ?_ NB588_606.out _; refine blk_far ?_ NB588_606.out _; refine blk_far ?_ NB588_605.out _; refine blk_far ?_ NB588_605.out _; refine blk_far ?_ NB588_605.out _; refine blk_far ?_ NB588_605.out _; exact BK588.out⟩
 replace BK605 : Aside0 (((((((((w12.setCell ⟨gb605, 0, none⟩ (.int .i64 t592)).setCell ⟨gb605, 1, none⟩ (.int .i64 t593)).setCell ⟨gb605, 2, none⟩ (.int .i64 t594)).setCell ⟨gb605, 3, none⟩ (.slice Ao18 t595.length co18)).setCell ⟨gb606, 0, none⟩ (.int .i64 t598)).setCell ⟨gb606, 1, none⟩ (.int .i64 t599)).setCell ⟨gb606, 2, none⟩ (.int .i64 t600)).setCell ⟨gb606, 3, none⟩ (.slice Ao23 t601.length co23)).heap[gb605]? = some (.cells #[.int .i64 t592, .int .i64 t593, .int .i64 t594, .slice Ao18 t595.length co18] 27 (0, 0))) := ⟨by refine blk_far ?_ NB605_606.out _; refine blk_far ?_ NB605_606.out _; refine blk_far ?_ NB605_606.out _; refine blk_far ?_ NB605_606.out _; refine blk_put (cs := #[.int .i64 t592, .int .i64 t593, .int .i64 t594, .slice none 0 0]) ?_ 3 _ rfl; refine blk_put (cs := #[.int .i64 t592, .int .i64 t593, .int .i64 0, .slice none 0 0]) ?_ 2 _ rfl; refine blk_put (cs := #[.int .i64 t592, .int .i64 0, .int .i64 0, .slice none 0 0]) ?_ 1 _ rfl; refine blk_put (cs := #[.int .i64 0, .int .i64 0, .int .i64 0, .slice none 0 0]) ?_ 0 _ rfl; exact BK605.out⟩
 replace BK606 : Aside0 (((((((((w12.setCell ⟨gb605, 0, none⟩ (.int .i64 t592)).setCell ⟨gb605, 1, none⟩ (.int .i64 t593)).setCell ⟨gb605, 2, none⟩ (.int .i64 t594)).setCell ⟨gb605, 3, none⟩ (.slice Ao18 t595.length co18)).setCell ⟨gb606, 0, none⟩ (.int .i64 t598)).setCell ⟨gb606, 1, none⟩ (.int .i64 t599)).setCell ⟨gb606, 2, none⟩ (.int .i64 t600)).setCell ⟨gb606, 3, none⟩ (.slice Ao23 t601.length co23)).heap[gb606]? = some (.cells #[.int .i64 t598, .int .i64 t599, .int .i64 t600, .slice Ao23 t601.length co23] 27 (0, 0))) := ⟨by refine blk_put (cs := #[.int .i64 t598, .int .i64 t599, .int .i64 t600, .slice none 0 0]) ?_ 3 _ rfl; refine blk_put (cs := #[.int .i64 t598, .int .i64 t599, .int .i64 0, .slice none 0 0]) ?_ 2 _ rfl; refine blk_put (cs := #[.int .i64 t598, .int .i64 0, .int .i64 0, .slice none 0 0]) ?_ 1 _ rfl; refine blk_put (cs := #[.int .i64 0, .int .i64 0, .int .i64 0, .slice none 0 0]) ?_ 0 _ rfl; refine blk_far ?_ NB606_605.out _; refine blk_far ?_ NB606_605.out _; refine blk_far ?_ NB606_605.out _; refine blk_far ?_ NB606_605.out _; exact BK606.out⟩
 replace HB : Aside0 (Below w.heap.size w ((((((((w12.setCell ⟨gb605, 0, none⟩ (.int .i64 t592)).setCell ⟨gb605, 1, none⟩ (.int .i64 t593)).setCell ⟨gb605, 2, none⟩ (.int .i64 t594)).setCell ⟨gb605, 3, none⟩ (.slice Ao18 t595.length co18)).setCell ⟨gb606, 0, none⟩ (.int .i64 t598)).setCell ⟨gb606, 1, none⟩ (.int .i64 t599)).setCell ⟨gb606, 2, none⟩ (.int .i64 t600)).setCell ⟨gb606, 3, none⟩ (.slice Ao23 t601.length co23))) := ⟨by repeat (with_reducible first | exact HB.out | apply below_alloc | apply pw_below_drewN | apply below_drew1 | refine below_set ?_ (IsS94.ge HI591.out) | refine below_set ?_ GE587.out | refine below_set ?_ GE588.out | refine below_set ?_ GE605.out | refine below_set ?_ GE606.out)⟩
 replace HI591 : Aside0 (IsS94 w ((((((((w12.setCell ⟨gb605, 0, none⟩ (.int .i64 t592)).setCell ⟨gb605, 1, none⟩ (.int .i64 t593)).setCell ⟨gb605, 2, none⟩ (.int .i64 t594)).setCell ⟨gb605, 3, none⟩ (.slice Ao18 t595.length co18)).setCell ⟨gb606, 0, none⟩ (.int .i64 t598)).setCell ⟨gb606, 1, none⟩ (.int .i64 t599)).setCell ⟨gb606, 2, none⟩ (.int .i64 t600)).setCell ⟨gb606, 3, none⟩ (.slice Ao23 t601.length co23)) g591 t589 t604) := ⟨by repeat (with_reducible first | exact HI591.out | apply IsS94.alloc | apply IsS94.drewN | apply IsS94.drew | apply IsS94.set_1 | refine IsS94.far ?_ NB591_587.out _ | refine IsS94.far ?_ NB591_588.out _ | refine IsS94.far ?_ NB591_605.out _ | refine IsS94.far ?_ NB591_606.out _)⟩
 generalize ((((((((w12.setCell ⟨gb605, 0, none⟩ (.int .i64 t592)).setCell ⟨gb605, 1, none⟩ (.int .i64 t593)).setCell ⟨gb605, 2, none⟩ (.int .i64 t594)).setCell ⟨gb605, 3, none⟩ (.slice Ao18 t595.length co18)).setCell ⟨gb606, 0, none⟩ (.int .i64 t598)).setCell ⟨gb606, 1, none⟩ (.int .i64 t599)).setCell ⟨gb606, 2, none⟩ (.int .i64 t600)).setCell ⟨gb606, 3, none⟩ (.slice Ao23 t601.length co23)) = w24 at HO597 HO603 BK587 BK588 BK605 BK606 HI591 HB ⊢
 replace HO597 := Aside0.mk (Kd.R_drew HO597.out)
 replace HO603 := Aside0.mk (Kd.R_drew HO603.out)
 replace BK587 := Aside0.mk (blk_drew BK587.out)
 replace BK588 := Aside0.mk (blk_drew BK588.out)
 replace BK605 := Aside0.mk (blk_drew BK605.out)
 replace BK606 := Aside0.mk (blk_drew BK606.out)
 replace HI591 := Aside0.mk (IsS94.drew HI591.out)
 replace HB := Aside0.mk (below_drew1 HB.out)
 refine start_ (n := 16) (S := fun w' => w'.cell? ⟨gb605, 0, none⟩ = some (.int .i64 t592) ∧ w'.cell? ⟨gb605, 1, none⟩ = some (.int .i64 t593) ∧ w'.cell? ⟨gb605, 2, none⟩ = some (.int .i64 t594) ∧ w'.cell? ⟨gb605, 3, none⟩ = some (.slice Ao18 t595.length co18) ∧ w'.cell? ⟨gb606, 0, none⟩ = some (.int .i64 t598) ∧ w'.cell? ⟨gb606, 1, none⟩ = some (.int .i64 t599) ∧ w'.cell? ⟨gb606, 2, none⟩ = some (.int .i64 t600) ∧ w'.cell? ⟨gb606, 3, none⟩ = some (.slice Ao23 t601.length co23)) (ds := []) (bs 16 0) (by kernel_rfl) rfl rfl ⟨(blk_cell BK605.out 0).trans rfl, (blk_cell BK605.out 1).trans rfl, (blk_cell BK605.out 2).trans rfl, (blk_cell BK605.out 3).trans rfl, (blk_cell BK606.out 0).trans rfl, (blk_cell BK606.out 1).trans rfl, (blk_cell BK606.out 2).trans rfl, (blk_cell BK606.out 3).trans rfl⟩ (fun hHeld => ?_); refine with_tabW spec_DrawPartsTake.tab3 spec_DrawPartsTake.bits3 (fun HT_ HW_ => ?_)
 generalize w24.drew = w25 at HO597 HO603 BK587 BK588 BK605 BK606 HI591 HB hHeld ⊢
 refine pZ 2 (some 18) (bs 16 4) rfl rfl (any_of HT_.out (by kernel_rfl)) ?_
 refine pZ 5 (some 21) (bs 16 36) rfl rfl (any_of HT_.out (by kernel_rfl)) ?_
 refine pZ 10 (some 26) (bs 16 1060) rfl rfl (any_of HT_.out (by kernel_rfl)) ?_
 refine tZ 0 (some 16) (bs 16 1061) rfl rfl (take_ofW HT_.out HW_.out (by kernel_rfl)) hHeld (by rintro w' ⟨s0, s1, s2, s3, s4, s5, s6, s7⟩; go_simp; with_reducible rfl) ?_
 refine tZ 1 (some 17) (bs 16 1063) rfl rfl (take_ofW HT_.out HW_.out (by kernel_rfl)) hHeld (by rintro w' ⟨s0, s1, s2, s3, s4, s5, s6, s7⟩; go_simp; with_reducible rfl) ?_
 refine one_ (i := 3) (N := some 19) (bs 16 1071) rfl rfl (one_of HT_.out (by kernel_rfl)) (by decide) (fun K hK => ?_)
 refine goes_ Tryz.func45 (by kernel_rfl) rfl #[.pointer (some ⟨g591, 0, none⟩), .int .i64 26] (by rfl) rfl rfl (by (try simp only [List.map_toArray, List.map_cons, List.map_nil]); first | done | rfl | (simp only [List.length_drop, List.length_take]; rfl)) ?_
 with_reducible refine (spec_l6Rd_pick.calls k g591 t589 t604 26 t607 t608 w _ ?side1 ?side2 A4.out).mono ?_
 (case side1 => repeat (with_reducible first | exact HI591.out | apply IsS94.alloc | apply IsS94.drewN | apply IsS94.drew | apply IsS94.set_1 | refine IsS94.far ?_ NB591_587.out _ | refine IsS94.far ?_ NB591_588.out _ | refine IsS94.far ?_ NB591_605.out _ | refine IsS94.far ?_ NB591_606.out _))
 (case side2 => repeat (with_reducible first | exact HB.out | apply below_alloc | apply pw_below_drewN | apply below_drew1 | refine below_set ?_ (IsS94.ge HI591.out) | refine below_set ?_ GE587.out | refine below_set ?_ GE588.out | refine below_set ?_ GE605.out | refine below_set ?_ GE606.out))
 rintro e w26 ⟨rfl, hi, hb, hk⟩
 refine ⟨_, rfl, ?_⟩
 replace BK587 := kbZ hk BK587.out NB587_591.out
 replace BK588 := kbZ hk BK588.out NB588_591.out
 replace HO597 := Aside0.mk (Kd.R_mono (Kd.R_keep (IsS94.apart (show IsS94 w _ g591 t589 t604 from by repeat (with_reducible first | exact HI591.out | apply IsS94.alloc | apply IsS94.drewN | apply IsS94.drew | apply IsS94.set_1 | refine IsS94.far ?_ NB591_587.out _ | refine IsS94.far ?_ NB591_588.out _ | refine IsS94.far ?_ NB591_605.out _ | refine IsS94.far ?_ NB591_606.out _)) (HO597.out) (by decide)) hk (fun _ h => h.2)) (fun _ h => h.1))
 replace HO603 := Aside0.mk (Kd.R_mono (Kd.R_keep (IsS94.apart (show IsS94 w _ g591 t589 t604 from by repeat (with_reducible first | exact HI591.out | apply IsS94.alloc | apply IsS94.drewN | apply IsS94.drew | apply IsS94.set_1 | refine IsS94.far ?_ NB591_587.out _ | refine IsS94.far ?_ NB591_588.out _ | refine IsS94.far ?_ NB591_605.out _ | refine IsS94.far ?_ NB591_606.out _)) (HO603.out) (by decide)) hk (fun _ h => h.2)) (fun _ h => h.1))
 replace BK605 := kbZ hk BK605.out NB605_591.out
 replace BK606 := kbZ hk BK606.out NB606_591.out
 replace HB := Aside0.mk (hb)
 replace HI591 := Aside0.mk (hi)
 (try clear hb)
 (try clear hb2)
 (try clear hk)
 (try clear hi)
 refine hK.out _ _ ⟨(blk_cell BK605.out 0).trans rfl, (blk_cell BK605.out 1).trans rfl, (blk_cell BK605.out 2).trans rfl, (blk_cell BK605.out 3).trans rfl, (blk_cell BK606.out 0).trans rfl, (blk_cell BK606.out 1).trans rfl, (blk_cell BK606.out 2).trans rfl, (blk_cell BK606.out 3).trans rfl⟩ (fun hHeld => ?_)
 clear hK K
 refine norm_ (a' := ?_) ?_ ?_
 rotate_left
 ·show Act.put _ (some 19) _ = _
  simp only [Act.put, List.setIfInBounds_toArray, List.set_cons_zero, List.set_cons_succ, i64_w, i32_w]
  rfl
 refine pZ 4 (some 20) (bs 16 1087) rfl rfl (any_of HT_.out (by kernel_rfl)) ?_
 refine one_ (i := 6) (N := some 22) (bs 16 1151) rfl rfl (one_of HT_.out (by kernel_rfl)) (by decide) (fun K hK => ?_)
 refine goes_ Tryz.func45 (by kernel_rfl) rfl #[.pointer (some ⟨g591, 0, none⟩), .int .i64 16] (by rfl) rfl rfl (by (try simp only [List.map_toArray, List.map_cons, List.map_nil]); first | done | rfl | (simp only [List.length_drop, List.length_take]; rfl)) ?_
 with_reducible refine (spec_l6Rd_pick.calls k g591 t589 t608 16 t609 t610 w _ ?side1 ?side2 A5.out).mono ?_
 (case side1 => repeat (with_reducible first | exact HI591.out | apply IsS94.alloc | apply IsS94.drewN | apply IsS94.drew | apply IsS94.set_1 | refine IsS94.far ?_ NB591_587.out _ | refine IsS94.far ?_ NB591_588.out _ | refine IsS94.far ?_ NB591_605.out _ | refine IsS94.far ?_ NB591_606.out _))
 (case side2 => repeat (with_reducible first | exact HB.out | apply below_alloc | apply pw_below_drewN | apply below_drew1 | refine below_set ?_ (IsS94.ge HI591.out) | refine below_set ?_ GE587.out | refine below_set ?_ GE588.out | refine below_set ?_ GE605.out | refine below_set ?_ GE606.out))
 rintro e w27 ⟨rfl, hi, hb, hk⟩
 refine ⟨_, rfl, ?_⟩
 replace BK587 := kbZ hk BK587.out NB587_591.out
 replace BK588 := kbZ hk BK588.out NB588_591.out
 replace HO597 := Aside0.mk (Kd.R_mono (Kd.R_keep (IsS94.apart (show IsS94 w _ g591 t589 t608 from by repeat (with_reducible first | exact HI591.out | apply IsS94.alloc | apply IsS94.drewN | apply IsS94.drew | apply IsS94.set_1 | refine IsS94.far ?_ NB591_587.out _ | refine IsS94.far ?_ NB591_588.out _ | refine IsS94.far ?_ NB591_605.out _ | refine IsS94.far ?_ NB591_606.out _)) (HO597.out) (by decide)) hk (fun _ h => h.2)) (fun _ h => h.1))
 replace HO603 := Aside0.mk (Kd.R_mono (Kd.R_keep (IsS94.apart (show IsS94 w _ g591 t589 t608 from by repeat (with_reducible first | exact HI591.out | apply IsS94.alloc | apply IsS94.drewN | apply IsS94.drew | apply IsS94.set_1 | refine IsS94.far ?_ NB591_587.out _ | refine IsS94.far ?_ NB591_588.out _ | refine IsS94.far ?_ NB591_605.out _ | refine IsS94.far ?_ NB591_606.out _)) (HO603.out) (by decide)) hk (fun _ h => h.2)) (fun _ h => h.1))
 replace BK605 := kbZ hk BK605.out NB605_591.out
 replace BK606 := kbZ hk BK606.out NB606_591.out
 replace HB := Aside0.mk (hb)
 replace HI591 := Aside0.mk (hi)
 (try clear hb)
 (try clear hb2)
 (try clear hk)
 (try clear hi)
 refine hK.out _ _ ⟨(blk_cell BK605.out 0).trans rfl, (blk_cell BK605.out 1).trans rfl, (blk_cell BK605.out 2).trans rfl, (blk_cell BK605.out 3).trans rfl, (blk_cell BK606.out 0).trans rfl, (blk_cell BK606.out 1).trans rfl, (blk_cell BK606.out 2).trans rfl, (blk_cell BK606.out 3).trans rfl⟩ (fun hHeld => ?_)
 clear hK K
 refine norm_ (a' := ?_) ?_ ?_
 rotate_left
 ·show Act.put _ (some 22) _ = _
  simp only [Act.put, List.setIfInBounds_toArray, List.set_cons_zero, List.set_cons_succ, i64_w, i32_w]
  rfl
 refine pZ 7 (some 23) (bs 16 1279) rfl rfl (any_of HT_.out (by kernel_rfl)) ?_
 refine pZ 8 (some 24) (bs 16 1535) rfl rfl (any_of HT_.out (by kernel_rfl)) ?_
 refine pZ 9 (some 25) (bs 16 2047) rfl rfl (any_of HT_.out (by kernel_rfl)) ?_
 refine one_ (i := 11) (N := some 27) (bs 16 4095) rfl rfl (one_of HT_.out (by kernel_rfl)) (by decide) (fun K hK => ?_)
 refine goes_ Tryz.func46 (by kernel_rfl) rfl #[.pointer (some ⟨g591, 0, none⟩)] (by rfl) rfl rfl (by (try simp only [List.map_toArray, List.map_cons, List.map_nil]); first | done | rfl | (simp only [List.length_drop, List.length_take]; rfl)) ?_
 with_reducible refine (spec_l91Num.calls k g591 t589 t610 t611 t612 w _ ?side1 ?side2 A6.out).mono ?_
 (case side1 => repeat (with_reducible first | exact HI591.out | apply IsS94.alloc | apply IsS94.drewN | apply IsS94.drew | apply IsS94.set_1 | refine IsS94.far ?_ NB591_587.out _ | refine IsS94.far ?_ NB591_588.out _ | refine IsS94.far ?_ NB591_605.out _ | refine IsS94.far ?_ NB591_606.out _))
 (case side2 => repeat (with_reducible first | exact HB.out | apply below_alloc | apply pw_below_drewN | apply below_drew1 | refine below_set ?_ (IsS94.ge HI591.out) | refine below_set ?_ GE587.out | refine below_set ?_ GE588.out | refine below_set ?_ GE605.out | refine below_set ?_ GE606.out))
 rintro e w28 ⟨rfl, hi, hb, hk⟩
 refine ⟨_, rfl, ?_⟩
 replace BK587 := kbZ hk BK587.out NB587_591.out
 replace BK588 := kbZ hk BK588.out NB588_591.out
 replace HO597 := Aside0.mk (Kd.R_mono (Kd.R_keep (IsS94.apart (show IsS94 w _ g591 t589 t610 from by repeat (with_reducible first | exact HI591.out | apply IsS94.alloc | apply IsS94.drewN | apply IsS94.drew | apply IsS94.set_1 | refine IsS94.far ?_ NB591_587.out _ | refine IsS94.far ?_ NB591_588.out _ | refine IsS94.far ?_ NB591_605.out _ | refine IsS94.far ?_ NB591_606.out _)) (HO597.out) (by decide)) hk (fun _ h => h.2)) (fun _ h => h.1))
 replace HO603 := Aside0.mk (Kd.R_mono (Kd.R_keep (IsS94.apart (show IsS94 w _ g591 t589 t610 from by repeat (with_reducible first | exact HI591.out | apply IsS94.alloc | apply IsS94.drewN | apply IsS94.drew | apply IsS94.set_1 | refine IsS94.far ?_ NB591_587.out _ | refine IsS94.far ?_ NB591_588.out _ | refine IsS94.far ?_ NB591_605.out _ | refine IsS94.far ?_ NB591_606.out _)) (HO603.out) (by decide)) hk (fun _ h => h.2)) (fun _ h => h.1))
 replace BK605 := kbZ hk BK605.out NB605_591.out
 replace BK606 := kbZ hk BK606.out NB606_591.out
 replace HB := Aside0.mk (hb)
 replace HI591 := Aside0.mk (hi)
 (try clear hb)
 (try clear hb2)
 (try clear hk)
 (try clear hi)
 refine hK.out _ _ ⟨(blk_cell BK605.out 0).trans rfl, (blk_cell BK605.out 1).trans rfl, (blk_cell BK605.out 2).trans rfl, (blk_cell BK605.out 3).trans rfl, (blk_cell BK606.out 0).trans rfl, (blk_cell BK606.out 1).trans rfl, (blk_cell BK606.out 2).trans rfl, (blk_cell BK606.out 3).trans rfl⟩ (fun hHeld => ?_)
 clear hK K
 refine norm_ (a' := ?_) ?_ ?_
 rotate_left
 ·show Act.put _ (some 27) _ = _
  simp only [Act.put, List.setIfInBounds_toArray, List.set_cons_zero, List.set_cons_succ, i64_w, i32_w]
  rfl
 refine one_ (i := 12) (N := none) (bs 16 8191) rfl rfl (one_of HT_.out (by kernel_rfl)) (by decide) (fun K hK => ?_)
 have hs29 : w28.cell? ⟨gb587, 0, none⟩ = some (.int .i64 0) := (blk_cell BK587.out 0).trans rfl
 have hfs29 := blk_frozen BK587.out 0
 have hns29_1 := NB588_587.out
 have hns29_2 := NB605_587.out
 have hns29_3 := NB606_587.out
 have hms29_1 := NB587_588.out
 have hms29_2 := NB587_605.out
 have hms29_3 := NB587_606.out
 have hs30 : w28.cell? ⟨gb587, 1, none⟩ = some (.int .i64 0) := (blk_cell BK587.out 1).trans rfl
 have hfs30 := blk_frozen BK587.out 1
 have hns30_1 := NB588_587.out
 have hns30_2 := NB605_587.out
 have hns30_3 := NB606_587.out
 have hms30_1 := NB587_588.out
 have hms30_2 := NB587_605.out
 have hms30_3 := NB587_606.out
 have hs31 : w28.cell? ⟨gb587, 2, none⟩ = some (.int .i64 0) := (blk_cell BK587.out 2).trans rfl
 have hfs31 := blk_frozen BK587.out 2
 have hns31_1 := NB588_587.out
 have hns31_2 := NB605_587.out
 have hns31_3 := NB606_587.out
 have hms31_1 := NB587_588.out
 have hms31_2 := NB587_605.out
 have hms31_3 := NB587_606.out
 have hs32 : w28.cell? ⟨gb587, 3, none⟩ = some (.slice none 0 0) := (blk_cell BK587.out 3).trans rfl
 have hfs32 := blk_frozen BK587.out 3
 have hns32_1 := NB588_587.out
 have hns32_2 := NB605_587.out
 have hns32_3 := NB606_587.out
 have hms32_1 := NB587_588.out
 have hms32_2 := NB587_605.out
 have hms32_3 := NB587_606.out
 refine skip_ (w1 := ?_) (by rfl) rfl ?_ ?_
 rotate_left
 ·go_simp
  rfl
 refine hK.out _ _ ⟨((cell_far (p := ⟨gb587, _, none⟩) NB605_587.out _).trans (((cell_far (p := ⟨gb587, _, none⟩) NB605_587.out _).trans (((cell_far (p := ⟨gb587, _, none⟩) NB605_587.out _).trans (((cell_far (p := ⟨gb587, _, none⟩) NB605_587.out _).trans (hHeld.1)))))))), ((cell_far (p := ⟨gb587, _, none⟩) NB605_587.out _).trans (((cell_far (p := ⟨gb587, _, none⟩) NB605_587.out _).trans (((cell_far (p := ⟨gb587, _, none⟩) NB605_587.out _).trans (((cell_far (p := ⟨gb587, _, none⟩) NB605_587.out _).trans (hHeld.2.1)))))))), ((cell_far (p := ⟨gb587, _, none⟩) NB605_587.out _).trans (((cell_far (p := ⟨gb587, _, none⟩) NB605_587.out _).trans (((cell_far (p := ⟨gb587, _, none⟩) NB605_587.out _).trans (((cell_far (p := ⟨gb587, _, none⟩) NB605_587.out _).trans (hHeld.2.2.1)))))))), ((cell_far (p := ⟨gb587, _, none⟩) NB605_587.out _).trans (((cell_far (p := ⟨gb587, _, none⟩) NB605_587.out _).trans (((cell_far (p := ⟨gb587, _, none⟩) NB605_587.out _).trans (((cell_far (p := ⟨gb587, _, none⟩) NB605_587.out _).trans (hHeld.2.2.2.1)))))))), ((cell_far (p := ⟨gb587, _, none⟩) NB606_587.out _).trans (((cell_far (p := ⟨gb587, _, none⟩) NB606_587.out _).trans (((cell_far (p := ⟨gb587, _, none⟩) NB606_587.out _).trans (((cell_far (p := ⟨gb587, _, none⟩) NB606_587.out _).trans (hHeld.2.2.2.2.1)))))))), ((cell_far (p := ⟨gb587, _, none⟩) NB606_587.out _).trans (((cell_far (p := ⟨gb587, _, none⟩) NB606_587.out _).trans (((cell_far (p := ⟨gb587, _, none⟩) NB606_587.out _).trans (((cell_far (p := ⟨gb587, _, none⟩) NB606_587.out _).trans (hHeld.2.2.2.2.2.1)))))))), ((cell_far (p := ⟨gb587, _, none⟩) NB606_587.out _).trans (((cell_far (p := ⟨gb587, _, none⟩) NB606_587.out _).trans (((cell_far (p := ⟨gb587, _, none⟩) NB606_587.out _).trans (((cell_far (p := ⟨gb587, _, none⟩) NB606_587.out _).trans (hHeld.2.2.2.2.2.2.1)))))))), ((cell_far (p := ⟨gb587, _, none⟩) NB606_587.out _).trans (((cell_far (p := ⟨gb587, _, none⟩) NB606_587.out _).trans (((cell_far (p := ⟨gb587, _, none⟩) NB606_587.out _).trans (((cell_far (p := ⟨gb587, _, none⟩) NB606_587.out _).trans (hHeld.2.2.2.2.2.2.2))))))))⟩ (fun hHeld => ?_)
 clear hK K
 refine one_ (i := 13) (N := none) (bs 16 16383) rfl rfl (one_of HT_.out (by kernel_rfl)) (by decide) (fun K hK => ?_)
 have hs33 : w28.cell? ⟨gb588, 0, none⟩ = some (.int .i64 0) := (blk_cell BK588.out 0).trans rfl
 have hfs33 := blk_frozen BK588.out 0
 have hns33_0 := NB587_588.out
 have hns33_2 := NB605_588.out
 have hns33_3 := NB606_588.out
 have hms33_0 := NB588_587.out
 have hms33_2 := NB588_605.out
 have hms33_3 := NB588_606.out
 have hs34 : w28.cell? ⟨gb588, 1, none⟩ = some (.int .i64 0) := (blk_cell BK588.out 1).trans rfl
 have hfs34 := blk_frozen BK588.out 1
 have hns34_0 := NB587_588.out
 have hns34_2 := NB605_588.out
 have hns34_3 := NB606_588.out
 have hms34_0 := NB588_587.out
 have hms34_2 := NB588_605.out
 have hms34_3 := NB588_606.out
 have hs35 : w28.cell? ⟨gb588, 2, none⟩ = some (.int .i64 0) := (blk_cell BK588.out 2).trans rfl
 have hfs35 := blk_frozen BK588.out 2
 have hns35_0 := NB587_588.out
 have hns35_2 := NB605_588.out
 have hns35_3 := NB606_588.out
 have hms35_0 := NB588_587.out
 have hms35_2 := NB588_605.out
 have hms35_3 := NB588_606.out
 have hs36 : w28.cell? ⟨gb588, 3, none⟩ = some (.slice none 0 0) := (blk_cell BK588.out 3).trans rfl
 have hfs36 := blk_frozen BK588.out 3
 have hns36_0 := NB587_588.out
 have hns36_2 := NB605_588.out
 have hns36_3 := NB606_588.out
 have hms36_0 := NB588_587.out
 have hms36_2 := NB588_605.out
 have hms36_3 := NB588_606.out
 refine skip_ (w1 := ?_) (by rfl) rfl ?_ ?_
 rotate_left
 ·go_simp
  rfl
 refine hK.out _ _ ⟨((cell_far (p := ⟨gb588, _, none⟩) NB605_588.out _).trans (((cell_far (p := ⟨gb588, _, none⟩) NB605_588.out _).trans (((cell_far (p := ⟨gb588, _, none⟩) NB605_588.out _).trans (((cell_far (p := ⟨gb588, _, none⟩) NB605_588.out _).trans (hHeld.1)))))))), ((cell_far (p := ⟨gb588, _, none⟩) NB605_588.out _).trans (((cell_far (p := ⟨gb588, _, none⟩) NB605_588.out _).trans (((cell_far (p := ⟨gb588, _, none⟩) NB605_588.out _).trans (((cell_far (p := ⟨gb588, _, none⟩) NB605_588.out _).trans (hHeld.2.1)))))))), ((cell_far (p := ⟨gb588, _, none⟩) NB605_588.out _).trans (((cell_far (p := ⟨gb588, _, none⟩) NB605_588.out _).trans (((cell_far (p := ⟨gb588, _, none⟩) NB605_588.out _).trans (((cell_far (p := ⟨gb588, _, none⟩) NB605_588.out _).trans (hHeld.2.2.1)))))))), ((cell_far (p := ⟨gb588, _, none⟩) NB605_588.out _).trans (((cell_far (p := ⟨gb588, _, none⟩) NB605_588.out _).trans (((cell_far (p := ⟨gb588, _, none⟩) NB605_588.out _).trans (((cell_far (p := ⟨gb588, _, none⟩) NB605_588.out _).trans (hHeld.2.2.2.1)))))))), ((cell_far (p := ⟨gb588, _, none⟩) NB606_588.out _).trans (((cell_far (p := ⟨gb588, _, none⟩) NB606_588.out _).trans (((cell_far (p := ⟨gb588, _, none⟩) NB606_588.out _).trans (((cell_far (p := ⟨gb588, _, none⟩) NB606_588.out _).trans (hHeld.2.2.2.2.1)))))))), ((cell_far (p := ⟨gb588, _, none⟩) NB606_588.out _).trans (((cell_far (p := ⟨gb588, _, none⟩) NB606_588.out _).trans (((cell_far (p := ⟨gb588, _, none⟩) NB606_588.out _).trans (((cell_far (p := ⟨gb588, _, none⟩) NB606_588.out _).trans (hHeld.2.2.2.2.2.1)))))))), ((cell_far (p := ⟨gb588, _, none⟩) NB606_588.out _).trans (((cell_far (p := ⟨gb588, _, none⟩) NB606_588.out _).trans (((cell_far (p := ⟨gb588, _, none⟩) NB606_588.out _).trans (((cell_far (p := ⟨gb588, _, none⟩) NB606_588.out _).trans (hHeld.2.2.2.2.2.2.1)))))))), ((cell_far (p := ⟨gb588, _, none⟩) NB606_588.out _).trans (((cell_far (p := ⟨gb588, _, none⟩) NB606_588.out _).trans (((cell_far (p := ⟨gb588, _, none⟩) NB606_588.out _).trans (((cell_far (p := ⟨gb588, _, none⟩) NB606_588.out _).trans (hHeld.2.2.2.2.2.2.2))))))))⟩ (fun hHeld => ?_)
 clear hK K
 refine pZ 14 (some 4) (bs 16 32767) rfl rfl (any_of HT_.out (by kernel_rfl)) ?_
 refine pZ 15 (some 5) (bs 16 65535) rfl rfl (any_of HT_.out (by kernel_rfl)) ?_
 refine done_ (done_of HT_.out (by kernel_rfl)) ?_
 try go_wp2
 refine bodyPost_ret (results_list (rs := [.cell 2 27, .cell 3 27, .tmp 4, .tmp 5]) rfl (by simp) (.cell gb587 27 #[.int .i64 t592, .int .i64 t593, .int .i64 t594, .slice Ao18 t595.length co18] (0, 0) _ rfl (by refine blk_far ?_ NB587_588.out _; refine blk_far ?_ NB587_588.out _; refine blk_far ?_ NB587_588.out _; refine blk_far ?_ NB587_588.out _; refine blk_put (cs := #[.int .i64 t592, .int .i64 t593, .int .i64 t594, .slice none 0 0]) ?_ 3 _ rfl; refine blk_put (cs := #[.int .i64 t592, .int .i64 t593, .int .i64 0, .slice none 0 0]) ?_ 2 _ rfl; refine blk_put (cs := #[.int .i64 t592, .int .i64 0, .int .i64 0, .slice none 0 0]) ?_ 1 _ rfl; refine blk_put (cs := #[.int .i64 0, .int .i64 0, .int .i64 0, .slice none 0 0]) ?_ 0 _ rfl; exact BK587.out) Tryz.underlying27 rfl (by kernel_rfl) (.cell gb588 27 #[.int .i64 t598, .int .i64 t599, .int .i64 t600, .slice Ao23 t601.length co23] (0, 0) _ rfl (by refine blk_put (cs := #[.int .i64 t598, .int .i64 t599, .int .i64 t600, .slice none 0 0]) ?_ 3 _ rfl; refine blk_put (cs := #[.int .i64 t598, .int .i64 t599, .int .i64 0, .slice none 0 0]) ?_ 2 _ rfl; refine blk_put (cs := #[.int .i64 t598, .int .i64 0, .int .i64 0, .slice none 0 0]) ?_ 1 _ rfl; refine blk_put (cs := #[.int .i64 0, .int .i64 0, .int .i64 0, .slice none 0 0]) ?_ 0 _ rfl; refine blk_far ?_ NB588_587.out _; refine blk_far ?_ NB588_587.out _; refine blk_far ?_ NB588_587.out _; refine blk_far ?_ NB588_587.out _; exact BK588.out) Tryz.underlying27 rfl (by kernel_rfl) (.tmp (.tmp .nil))))) rfl ?_
 exact ⟨_, _, rfl, Kd.R_mono (Kd.R_far (p := ⟨gb588, 3, none⟩) (Kd.R_far (p := ⟨gb588, 2, none⟩) (Kd.R_far (p := ⟨gb588, 1, none⟩) (Kd.R_far (p := ⟨gb588, 0, none⟩) (Kd.R_far (p := ⟨gb587, 3, none⟩) (Kd.R_far (p := ⟨gb587, 2, none⟩) (Kd.R_far (p := ⟨gb587, 1, none⟩) (Kd.R_far (p := ⟨gb587, 0, none⟩) (Kd.R_types (Kd.R_types HO597.out BK587.out (by decide)) BK588.out (by decide)) (fun _ hk => hk.1.2) (.int .i64 t592)) (fun _ hk => hk.1.2) (.int .i64 t593)) (fun _ hk => hk.1.2) (.int .i64 t594)) (fun _ hk => hk.1.2) (.slice Ao18 t595.length co18)) (fun _ hk => hk.2) (.int .i64 t598)) (fun _ hk => hk.2) (.int .i64 t599)) (fun _ hk => hk.2) (.int .i64 t600)) (fun _ hk => hk.2) (.slice Ao23 t601.length co23)) (fun _ hk => hk.1.1), Kd.R_mono (Kd.R_far (p := ⟨gb588, 3, none⟩) (Kd.R_far (p := ⟨gb588, 2, none⟩) (Kd.R_far (p := ⟨gb588, 1, none⟩) (Kd.R_far (p := ⟨gb588, 0, none⟩) (Kd.R_far (p := ⟨gb587, 3, none⟩) (Kd.R_far (p := ⟨gb587, 2, none⟩) (Kd.R_far (p := ⟨gb587, 1, none⟩) (Kd.R_far (p := ⟨gb587, 0, none⟩) (Kd.R_types (Kd.R_types HO603.out BK587.out (by decide)) BK588.out (by decide)) (fun _ hk => hk.1.2) (.int .i64 t592)) (fun _ hk => hk.1.2) (.int .i64 t593)) (fun _ hk => hk.1.2) (.int .i64 t594)) (fun _ hk => hk.1.2) (.slice Ao18 t595.length co18)) (fun _ hk => hk.2) (.int .i64 t598)) (fun _ hk => hk.2) (.int .i64 t599)) (fun _ hk => hk.2) (.int .i64 t600)) (fun _ hk => hk.2) (.slice Ao23 t601.length co23)) (fun _ hk => hk.1.1), by repeat (with_reducible first | exact HB.out | apply below_alloc | apply pw_below_drewN | apply below_drew1 | refine below_set ?_ (IsS94.ge HI591.out) | refine below_set ?_ GE587.out | refine below_set ?_ GE588.out | refine below_set ?_ GE605.out | refine below_set ?_ GE606.out)⟩
end Go.Proofs.YtlgbblaidohljaaGreatDoor.Zk
