import Derived.Test.YtlgbblaidohljaaGreatDoorZ
import Derived.Test.YtlgbblaidohljaaGreatDoorZk0
import Derived.Test.YtlgbblaidohljaaGreatDoorZk1
import Derived.Test.YtlgbblaidohljaaGreatDoorZk2
import Derived.Test.YtlgbblaidohljaaGreatDoorZk5
namespace Go.Proofs.YtlgbblaidohljaaGreatDoor.Zk
open Go.RowKit Go.Proofs.YtlgbblaidohljaaGreatDoorT.PrintWords Go.Proofs.YtlgbblaidohljaaGreatDoorT.PrintLast Go.Proofs.YtlgbblaidohljaaGreatDoorT.PrintMore Go.Proofs.YtlgbblaidohljaaGreatDoor.Z
attribute [local go_sem] max2_int min2_int max_two min_two max_three min_three max_four min_four
set_option linter.unusedVariables false
set_option linter.unusedSimpArgs false
private theorem c88x25 : Ent Tryz.prog 88 := ent Tryz.func88 (by kernel_rfl) rfl
private theorem c55x1 : Ent Tryz.prog 55 := ent Tryz.func55 (by kernel_rfl) rfl
def spec_PartsTake.j0 : Nat → Int → Int → Bool → Int → Int → Int → List Int → Int → Int → Int → List Int → Option (Bool)
  | 0, _, _, _, _, _, _, _, _, _, _, _ => none
  | k + 1, x2, x3, x24, x217000, x217001, x217002, x217003, x218000, x218001, x218002, x218003 => if x24 = true then (some false) else ((spec_l13Ask.f k x217001 x217003 true x2 x3).bind fun t221 => ((spec_l13Ask.f k x218001 x218003 false x2 x3).bind fun t224 => ((spec_l13Decide.f k t221 t224).bind fun t227 => (some t227))))
def spec_PartsTake.f (k : Nat) (a0_0 : Int) (a0_1 : Int) (a0_2 : Int) (l0_3 : List Int) (a1_0 : Int) (a1_1 : Int) (a1_2 : Int) (l1_3 : List Int) (a2 : Int) (a3 : Int) : Option (Bool) := (spec_PartsFit.f k a0_0 a0_1 a0_2 l0_3 a1_0 a1_1 a1_2 l1_3).bind fun t218 => (if t218 = true then ((spec_QueryMay.f a0_1 a2).bind fun t219 => (if t219 = true then ((spec_FieldOk.f a3).bind fun t220 => (spec_PartsTake.j0 k a2 a3 (!t220) a0_0 a0_1 a0_2 l0_3 a1_0 a1_1 a1_2 l1_3)) else (spec_PartsTake.j0 k a2 a3 true a0_0 a0_1 a0_2 l0_3 a1_0 a1_1 a1_2 l1_3))) else (spec_PartsTake.j0 k a2 a3 true a0_0 a0_1 a0_2 l0_3 a1_0 a1_1 a1_2 l1_3))
def spec_PartsTake.T3 : Bool × List (List Nat × List Nat) := (true, [([], []), ([0], [0]), ([], []), ([2], [2]), ([], []), ([], []), ([1, 3, 4, 5], [1, 3, 4, 5]), ([], []), ([7], [7]), ([], []), ([9], [9]), ([], []), ([], []), ([8, 10, 11, 12, 6], [8, 10, 11, 12]), ([6, 13, 13], [6, 13]), ([14, 14, 0, 1, 2, 3, 4, 5, 6, 7, 8, 9, 10, 11, 12, 13, 14], [14])])
def spec_PartsTake.B3 : List Nat := [0, 1, 0, 4, 0, 0, 63, 0, 128, 0, 512, 0, 0, 8191, 16383, 32767]
theorem spec_PartsTake.tab3 : rtab .any (opsOf Tryz.f11 3) = spec_PartsTake.T3 := by kernel_rfl
theorem spec_PartsTake.bits3 : waitsOk spec_PartsTake.T3.2 spec_PartsTake.B3 = true := by kernel_rfl
set_option maxHeartbeats 8000000 in
set_option maxRecDepth 100000 in
theorem spec_PartsTake.calls (k : Nat) (a0_0 : Int) (a0_1 : Int) (a0_2 : Int) (A0_3 : Option Addr) (c0_3 : Nat) (l0_3 : List Int) (a1_0 : Int) (a1_1 : Int) (a1_2 : Int) (A1_3 : Option Addr) (c1_3 : Nat) (l1_3 : List Int) (a2 : Int) (a3 : Int) (r : Bool) (w : World) (hr0_3 : Kd.C (Kd.int .i64) w A0_3 l0_3.length l0_3) (hc0_3 : l0_3.length ≤ c0_3) (hr1_3 : Kd.C (Kd.int .i64) w A1_3 l1_3.length l1_3) (hc1_3 : l1_3.length ≤ c1_3) (h : spec_PartsTake.f k a0_0 a0_1 a0_2 l0_3 a1_0 a1_1 a1_2 l1_3 a2 a3 = some r) :
    Calls Tryz.prog 11 #[.agg #[.int .i64 a0_0, .int .i64 a0_1, .int .i64 a0_2, .slice A0_3 l0_3.length c0_3], .agg #[.int .i64 a1_0, .int .i64 a1_1, .int .i64 a1_2, .slice A1_3 l1_3.length c1_3], .int .i64 a2, .int .i64 a3] w fun e w' => e = .returned (.bool r) ∧ Below w.heap.size w w' := by
  have hu27 := Tryz.underlying27
  have HR0_3 := Aside0.mk hr0_3
  have HC0_3 := Aside0.mk hc0_3
  clear hr0_3 hc0_3
  have HR1_3 := Aside0.mk hr1_3
  have HC1_3 := Aside0.mk hc1_3
  clear hr1_3 hc1_3
  have HB := Aside0.mk (Below.refl w.heap.size w)
  have H := h
  unfold spec_PartsTake.f at H
  clear h
  have HC5 := Aside0.mk H
  clear H
  go_enter Tryz.func11, Tryz.ntmps11
  go_upto_region 1 with (first | ((with_reducible refine gate_dst (N := 4) rfl ?_); refine boxZ (N := 4) (cs := #[.int .i64 a0_0, .int .i64 a0_1, .int .i64 a0_2, .slice A0_3 l0_3.length c0_3]) (t := 27) ?_; intro gb216 hg w6 hbox hb; have n0_ := bnZ hb; have n1_ := Aside0.mk (hbox); have n2_ := Aside0.mk ((by rw [hg]; exact bsZ : w.heap.size ≤ gb216)); have n3_ := Aside0.mk ((by rw [hg]; exact bsZ : w.heap.size ≤ gb216)); clear HB; have HB := n0_; have BK216 := n1_; have GW216 := n2_; have GE216 := n3_; clear n0_ n1_ n2_ n3_; clear hb hbox hg) | ((with_reducible refine gate_dst (N := 5) rfl ?_); refine boxZ (N := 5) (cs := #[.int .i64 a1_0, .int .i64 a1_1, .int .i64 a1_2, .slice A1_3 l1_3.length c1_3]) (t := 27) ?_; intro gb217 hg w7 hbox hb; have n0_ := Aside0.mk (blk_below (g := gb216) (o := .cells #[.int .i64 a0_0, .int .i64 a0_1, .int .i64 a0_2, .slice A0_3 l0_3.length c0_3] 27 (0, 0)) (by exact BK216.out) hb); have n1_ := bnZ hb; have n2_ := Aside0.mk (hbox); have n3_ := Aside0.mk ((by rw [hg]; exact bsZ : w.heap.size ≤ gb217)); have n4_ := Aside0.mk ((by rw [hg]; exact bsZ : w.heap.size ≤ gb217)); have n5_ := Aside0.mk ((by rw [hg]; exact Nat.ne_of_lt (blk_lt (g := gb216) (o := .cells #[.int .i64 a0_0, .int .i64 a0_1, .int .i64 a0_2, .slice A0_3 l0_3.length c0_3] 27 (0, 0)) (by exact BK216.out)) : gb216 ≠ gb217)); have n6_ := Aside0.mk ((by rw [hg]; exact Nat.ne_of_gt (blk_lt (g := gb216) (o := .cells #[.int .i64 a0_0, .int .i64 a0_1, .int .i64 a0_2, .slice A0_3 l0_3.length c0_3] 27 (0, 0)) (by exact BK216.out)) : gb217 ≠ gb216)); clear BK216; clear HB; have BK216 := n0_; have HB := n1_; have BK217 := n2_; have GW217 := n3_; have GE217 := n4_; have NB216_217 := n5_; have NB217_216 := n6_; clear n0_ n1_ n2_ n3_ n4_ n5_ n6_; clear hb hbox hg))
  (try simp only [Act.put, List.setIfInBounds_toArray, List.set_cons_zero, List.set_cons_succ])
  go_cut [24] (fun v24 wc => ∃ (kq : Nat) (x24_4 : Bool), v24 = .bool x24_4 ∧ Aside0 (spec_PartsTake.j0 kq a2 a3 x24_4 a0_0 a0_1 a0_2 l0_3 a1_0 a1_1 a1_2 l1_3 = some r) ∧ Aside0 (kq ≤ k) ∧ Aside0 (wc.heap[gb216]? = some (.cells #[.int .i64 a0_0, .int .i64 a0_1, .int .i64 a0_2, (.slice A0_3 l0_3.length c0_3)] 27 (0, 0))) ∧ Aside0 (wc.heap[gb217]? = some (.cells #[.int .i64 a1_0, .int .i64 a1_1, .int .i64 a1_2, (.slice A1_3 l1_3.length c1_3)] 27 (0, 0))) ∧ Aside0 (Below w.heap.size w wc))
  case first =>
    have H := HC5.out
    clear HC5
    replace H := bnd H
    obtain ⟨t218, A8, H⟩ := H
    by_cases c9 : t218 = true
    · subst c9
      rw [if_pos rfl] at H
      replace H := bnd H
      obtain ⟨t219, A10, H⟩ := H
      by_cases c11 : t219 = true
      · subst c11
        rw [if_pos rfl] at H
        replace H := bnd H
        obtain ⟨t220, A12, H⟩ := H
        have H' := Aside0.mk H
        clear H
        have hnb13 := NB216_217.out
        have hnc13 := NB217_216.out
        have hcz14_0 : w7.cell? ⟨gb216, 0, none⟩ = some (.int .i64 a0_0) := (blk_cell BK216.out 0).trans rfl
        have hcz14_1 : w7.cell? ⟨gb216, 1, none⟩ = some (.int .i64 a0_1) := (blk_cell BK216.out 1).trans rfl
        have hcz14_2 : w7.cell? ⟨gb216, 2, none⟩ = some (.int .i64 a0_2) := (blk_cell BK216.out 2).trans rfl
        have hcz14_3 : w7.cell? ⟨gb216, 3, none⟩ = some (.slice A0_3 l0_3.length c0_3) := (blk_cell BK216.out 3).trans rfl
        have hfz14_0 := blk_frozen BK216.out 0
        have hfz14_1 := blk_frozen BK216.out 1
        have hfz14_2 := blk_frozen BK216.out 2
        have hfz14_3 := blk_frozen BK216.out 3
        have hcz15_0 : w7.cell? ⟨gb217, 0, none⟩ = some (.int .i64 a1_0) := (blk_cell BK217.out 0).trans rfl
        have hcz15_1 : w7.cell? ⟨gb217, 1, none⟩ = some (.int .i64 a1_1) := (blk_cell BK217.out 1).trans rfl
        have hcz15_2 : w7.cell? ⟨gb217, 2, none⟩ = some (.int .i64 a1_2) := (blk_cell BK217.out 2).trans rfl
        have hcz15_3 : w7.cell? ⟨gb217, 3, none⟩ = some (.slice A1_3 l1_3.length c1_3) := (blk_cell BK217.out 3).trans rfl
        have hfz15_0 := blk_frozen BK217.out 0
        have hfz15_1 := blk_frozen BK217.out 1
        have hfz15_2 := blk_frozen BK217.out 2
        have hfz15_3 := blk_frozen BK217.out 3
        go_wp2_with (first | ((with_reducible refine gate_callee (f := 36) rfl ?_); refine goesZ (some 11) Tryz.func36 #[.agg #[.int .i64 a0_0, .int .i64 a0_1, .int .i64 a0_2, .slice A0_3 l0_3.length c0_3], .agg #[.int .i64 a1_0, .int .i64 a1_1, .int .i64 a1_2, .slice A1_3 l1_3.length c1_3]] ?_; (with_reducible refine (spec_PartsFit.calls k a0_0 a0_1 a0_2 _ _ l0_3 a1_0 a1_1 a1_2 _ _ l1_3 true _ ?side1 ?side2 ?side3 ?side4 A8.out).mono ?_); (case side1 => exact (Kd.C_below HR0_3.out HB.out)); (case side2 => exact HC0_3.out); (case side3 => exact (Kd.C_below HR1_3.out HB.out)); (case side4 => exact HC1_3.out); rintro e w16 ⟨rfl, hb⟩; refine ⟨_, rfl, ?_⟩; replace BK216 := bkZ hb BK216.out; replace BK217 := bkZ hb BK217.out; replace HB := bnZ hb; (try clear hb); (try clear hb2); (try clear hk); (try clear hi); have hcz17_0 : w16.cell? ⟨gb216, 0, none⟩ = some (.int .i64 a0_0) := (blk_cell BK216.out 0).trans rfl; have hcz17_1 : w16.cell? ⟨gb216, 1, none⟩ = some (.int .i64 a0_1) := (blk_cell BK216.out 1).trans rfl; have hcz17_2 : w16.cell? ⟨gb216, 2, none⟩ = some (.int .i64 a0_2) := (blk_cell BK216.out 2).trans rfl; have hcz17_3 : w16.cell? ⟨gb216, 3, none⟩ = some (.slice A0_3 l0_3.length c0_3) := (blk_cell BK216.out 3).trans rfl; have hfz17_0 := blk_frozen BK216.out 0; have hfz17_1 := blk_frozen BK216.out 1; have hfz17_2 := blk_frozen BK216.out 2; have hfz17_3 := blk_frozen BK216.out 3) | (go_at_call 37; (with_reducible refine (spec_QueryMay.calls a0_1 a2 true _ A10.out).mono ?_); rintro e w' ⟨rfl, ⟨nd, rfl⟩⟩) | (go_at_call 38; (with_reducible refine (spec_FieldOk.calls a3 t220 _ A12.out).mono ?_); rintro e w' ⟨rfl, ⟨nd, rfl⟩⟩))
        go_meet
        case rel => exact ⟨_, (!t220), rfl, H', ⟨by first | omega | exact Nat.le_refl _⟩, ⟨by exact BK216.out⟩, ⟨by exact BK217.out⟩, ⟨by repeat (with_reducible first | exact HB.out | apply below_alloc | apply pw_below_drewN | apply below_drew1 | refine below_set ?_ GE216.out | refine below_set ?_ GE217.out)⟩⟩
      · replace c11 := Bool.eq_false_iff.mpr c11
        subst c11
        rw [if_neg (show ¬ (false = true) by decide)] at H
        have H' := Aside0.mk H
        clear H
        have hnb18 := NB216_217.out
        have hnc18 := NB217_216.out
        have hcz19_0 : w7.cell? ⟨gb216, 0, none⟩ = some (.int .i64 a0_0) := (blk_cell BK216.out 0).trans rfl
        have hcz19_1 : w7.cell? ⟨gb216, 1, none⟩ = some (.int .i64 a0_1) := (blk_cell BK216.out 1).trans rfl
        have hcz19_2 : w7.cell? ⟨gb216, 2, none⟩ = some (.int .i64 a0_2) := (blk_cell BK216.out 2).trans rfl
        have hcz19_3 : w7.cell? ⟨gb216, 3, none⟩ = some (.slice A0_3 l0_3.length c0_3) := (blk_cell BK216.out 3).trans rfl
        have hfz19_0 := blk_frozen BK216.out 0
        have hfz19_1 := blk_frozen BK216.out 1
        have hfz19_2 := blk_frozen BK216.out 2
        have hfz19_3 := blk_frozen BK216.out 3
        have hcz20_0 : w7.cell? ⟨gb217, 0, none⟩ = some (.int .i64 a1_0) := (blk_cell BK217.out 0).trans rfl
        have hcz20_1 : w7.cell? ⟨gb217, 1, none⟩ = some (.int .i64 a1_1) := (blk_cell BK217.out 1).trans rfl
        have hcz20_2 : w7.cell? ⟨gb217, 2, none⟩ = some (.int .i64 a1_2) := (blk_cell BK217.out 2).trans rfl
        have hcz20_3 : w7.cell? ⟨gb217, 3, none⟩ = some (.slice A1_3 l1_3.length c1_3) := (blk_cell BK217.out 3).trans rfl
        have hfz20_0 := blk_frozen BK217.out 0
        have hfz20_1 := blk_frozen BK217.out 1
        have hfz20_2 := blk_frozen BK217.out 2
        have hfz20_3 := blk_frozen BK217.out 3
        go_wp2_with (first | ((with_reducible refine gate_callee (f := 36) rfl ?_); refine goesZ (some 11) Tryz.func36 #[.agg #[.int .i64 a0_0, .int .i64 a0_1, .int .i64 a0_2, .slice A0_3 l0_3.length c0_3], .agg #[.int .i64 a1_0, .int .i64 a1_1, .int .i64 a1_2, .slice A1_3 l1_3.length c1_3]] ?_; (with_reducible refine (spec_PartsFit.calls k a0_0 a0_1 a0_2 _ _ l0_3 a1_0 a1_1 a1_2 _ _ l1_3 true _ ?side1 ?side2 ?side3 ?side4 A8.out).mono ?_); (case side1 => exact (Kd.C_below HR0_3.out HB.out)); (case side2 => exact HC0_3.out); (case side3 => exact (Kd.C_below HR1_3.out HB.out)); (case side4 => exact HC1_3.out); rintro e w21 ⟨rfl, hb⟩; refine ⟨_, rfl, ?_⟩; replace BK216 := bkZ hb BK216.out; replace BK217 := bkZ hb BK217.out; replace HB := bnZ hb; (try clear hb); (try clear hb2); (try clear hk); (try clear hi); have hcz22_0 : w21.cell? ⟨gb216, 0, none⟩ = some (.int .i64 a0_0) := (blk_cell BK216.out 0).trans rfl; have hcz22_1 : w21.cell? ⟨gb216, 1, none⟩ = some (.int .i64 a0_1) := (blk_cell BK216.out 1).trans rfl; have hcz22_2 : w21.cell? ⟨gb216, 2, none⟩ = some (.int .i64 a0_2) := (blk_cell BK216.out 2).trans rfl; have hcz22_3 : w21.cell? ⟨gb216, 3, none⟩ = some (.slice A0_3 l0_3.length c0_3) := (blk_cell BK216.out 3).trans rfl; have hfz22_0 := blk_frozen BK216.out 0; have hfz22_1 := blk_frozen BK216.out 1; have hfz22_2 := blk_frozen BK216.out 2; have hfz22_3 := blk_frozen BK216.out 3) | (go_at_call 37; (with_reducible refine (spec_QueryMay.calls a0_1 a2 false _ A10.out).mono ?_); rintro e w' ⟨rfl, ⟨nd, rfl⟩⟩))
        go_meet
        case rel => exact ⟨_, (true), rfl, H', ⟨by first | omega | exact Nat.le_refl _⟩, ⟨by exact BK216.out⟩, ⟨by exact BK217.out⟩, ⟨by repeat (with_reducible first | exact HB.out | apply below_alloc | apply pw_below_drewN | apply below_drew1 | refine below_set ?_ GE216.out | refine below_set ?_ GE217.out)⟩⟩
    · replace c9 := Bool.eq_false_iff.mpr c9
      subst c9
      rw [if_neg (show ¬ (false = true) by decide)] at H
      have H' := Aside0.mk H
      clear H
      have hnb23 := NB216_217.out
      have hnc23 := NB217_216.out
      have hcz24_0 : w7.cell? ⟨gb216, 0, none⟩ = some (.int .i64 a0_0) := (blk_cell BK216.out 0).trans rfl
      have hcz24_1 : w7.cell? ⟨gb216, 1, none⟩ = some (.int .i64 a0_1) := (blk_cell BK216.out 1).trans rfl
      have hcz24_2 : w7.cell? ⟨gb216, 2, none⟩ = some (.int .i64 a0_2) := (blk_cell BK216.out 2).trans rfl
      have hcz24_3 : w7.cell? ⟨gb216, 3, none⟩ = some (.slice A0_3 l0_3.length c0_3) := (blk_cell BK216.out 3).trans rfl
      have hfz24_0 := blk_frozen BK216.out 0
      have hfz24_1 := blk_frozen BK216.out 1
      have hfz24_2 := blk_frozen BK216.out 2
      have hfz24_3 := blk_frozen BK216.out 3
      have hcz25_0 : w7.cell? ⟨gb217, 0, none⟩ = some (.int .i64 a1_0) := (blk_cell BK217.out 0).trans rfl
      have hcz25_1 : w7.cell? ⟨gb217, 1, none⟩ = some (.int .i64 a1_1) := (blk_cell BK217.out 1).trans rfl
      have hcz25_2 : w7.cell? ⟨gb217, 2, none⟩ = some (.int .i64 a1_2) := (blk_cell BK217.out 2).trans rfl
      have hcz25_3 : w7.cell? ⟨gb217, 3, none⟩ = some (.slice A1_3 l1_3.length c1_3) := (blk_cell BK217.out 3).trans rfl
      have hfz25_0 := blk_frozen BK217.out 0
      have hfz25_1 := blk_frozen BK217.out 1
      have hfz25_2 := blk_frozen BK217.out 2
      have hfz25_3 := blk_frozen BK217.out 3
      go_wp2_with (first | ((with_reducible refine gate_callee (f := 36) rfl ?_); refine goesZ (some 11) Tryz.func36 #[.agg #[.int .i64 a0_0, .int .i64 a0_1, .int .i64 a0_2, .slice A0_3 l0_3.length c0_3], .agg #[.int .i64 a1_0, .int .i64 a1_1, .int .i64 a1_2, .slice A1_3 l1_3.length c1_3]] ?_; (with_reducible refine (spec_PartsFit.calls k a0_0 a0_1 a0_2 _ _ l0_3 a1_0 a1_1 a1_2 _ _ l1_3 false _ ?side1 ?side2 ?side3 ?side4 A8.out).mono ?_); (case side1 => exact (Kd.C_below HR0_3.out HB.out)); (case side2 => exact HC0_3.out); (case side3 => exact (Kd.C_below HR1_3.out HB.out)); (case side4 => exact HC1_3.out); rintro e w26 ⟨rfl, hb⟩; refine ⟨_, rfl, ?_⟩; replace BK216 := bkZ hb BK216.out; replace BK217 := bkZ hb BK217.out; replace HB := bnZ hb; clear hb))
      go_meet
      case rel => exact ⟨_, (true), rfl, H', ⟨by first | omega | exact Nat.le_refl _⟩, ⟨by exact BK216.out⟩, ⟨by exact BK217.out⟩, ⟨by repeat (with_reducible first | exact HB.out | apply below_alloc | apply pw_below_drewN | apply below_drew1 | refine below_set ?_ GE216.out | refine below_set ?_ GE217.out)⟩⟩
  case rest =>
    clear HC5
    try clear c1
    try clear c2
    try clear p2
    try clear c3
    try clear c9
    try clear c11
    try clear c13
    try clear c18
    try clear c23
    try clear hcz14_0
    try clear hcz14_1
    try clear hcz14_2
    try clear hcz14_3
    try clear hcz15_0
    try clear hcz15_1
    try clear hcz15_2
    try clear hcz15_3
    try clear hcz17_0
    try clear hcz17_1
    try clear hcz17_2
    try clear hcz17_3
    try clear hcz19_0
    try clear hcz19_1
    try clear hcz19_2
    try clear hcz19_3
    try clear hcz20_0
    try clear hcz20_1
    try clear hcz20_2
    try clear hcz20_3
    try clear hcz22_0
    try clear hcz22_1
    try clear hcz22_2
    try clear hcz22_3
    try clear hcz24_0
    try clear hcz24_1
    try clear hcz24_2
    try clear hcz24_3
    try clear hcz25_0
    try clear hcz25_1
    try clear hcz25_2
    try clear hcz25_3
    try clear hfz14_0
    try clear hfz14_1
    try clear hfz14_2
    try clear hfz14_3
    try clear hfz15_0
    try clear hfz15_1
    try clear hfz15_2
    try clear hfz15_3
    try clear hfz17_0
    try clear hfz17_1
    try clear hfz17_2
    try clear hfz17_3
    try clear hfz19_0
    try clear hfz19_1
    try clear hfz19_2
    try clear hfz19_3
    try clear hfz20_0
    try clear hfz20_1
    try clear hfz20_2
    try clear hfz20_3
    try clear hfz22_0
    try clear hfz22_1
    try clear hfz22_2
    try clear hfz22_3
    try clear hfz24_0
    try clear hfz24_1
    try clear hfz24_2
    try clear hfz24_3
    try clear hfz25_0
    try clear hfz25_1
    try clear hfz25_2
    try clear hfz25_3
    obtain ⟨kq, x24_4, rfl, HA, HJ4, BK216, BK217, HB⟩ := hcut
    cases kq with
    | zero => exact absurd HA.out (by simp [spec_PartsTake.j0])
    | succ kj4 =>
      have H := HA.out
      clear HA
      simp only [spec_PartsTake.j0] at H
      by_cases c27 : x24_4 = true
      · subst c27
        rw [if_pos rfl] at H
        obtain rfl := Option.some.inj H
        go_wp2
        go_ret
        exact ⟨rfl, by repeat (with_reducible first | exact HB.out | apply below_alloc | apply pw_below_drewN | apply below_drew1 | refine below_set ?_ GE216.out | refine below_set ?_ GE217.out)⟩
      · replace c27 := Bool.eq_false_iff.mpr c27
        subst c27
        rw [if_neg (show ¬ (false = true) by decide)] at H
        replace H := bnd H
        obtain ⟨t221, A28, H⟩ := H
        replace H := bnd H
        obtain ⟨t224, A29, H⟩ := H
        replace H := bnd H
        obtain ⟨t227, A30, H⟩ := H
        obtain rfl := Option.some.inj H
        try go_wp2
        replace BK216 := Aside0.mk (blk_drew BK216.out)
        replace BK217 := Aside0.mk (blk_drew BK217.out)
        replace HB := Aside0.mk (below_drew1 HB.out)
        refine start_ (n := 16) (S := fun w' => w'.cell? ⟨gb216, 0, none⟩ = some (.int .i64 a0_0) ∧ w'.cell? ⟨gb216, 1, none⟩ = some (.int .i64 a0_1) ∧ w'.cell? ⟨gb216, 2, none⟩ = some (.int .i64 a0_2) ∧ w'.cell? ⟨gb216, 3, none⟩ = some (.slice A0_3 l0_3.length c0_3) ∧ w'.cell? ⟨gb217, 0, none⟩ = some (.int .i64 a1_0) ∧ w'.cell? ⟨gb217, 1, none⟩ = some (.int .i64 a1_1) ∧ w'.cell? ⟨gb217, 2, none⟩ = some (.int .i64 a1_2) ∧ w'.cell? ⟨gb217, 3, none⟩ = some (.slice A1_3 l1_3.length c1_3)) (ds := []) (bs 16 0) (by kernel_rfl) rfl rfl ⟨(blk_cell BK216.out 0).trans rfl, (blk_cell BK216.out 1).trans rfl, (blk_cell BK216.out 2).trans rfl, (blk_cell BK216.out 3).trans rfl, (blk_cell BK217.out 0).trans rfl, (blk_cell BK217.out 1).trans rfl, (blk_cell BK217.out 2).trans rfl, (blk_cell BK217.out 3).trans rfl⟩ (fun hHeld => ?_); refine with_tabW spec_PartsTake.tab3 spec_PartsTake.bits3 (fun HT_ HW_ => ?_)
        generalize wc.drew = w31 at BK216 BK217 HB hHeld ⊢
        refine pure_ (i := 0) (N := some 25) (v := ?_) (a' := ?_) (bs 16 1) rfl rfl (any_of HT_.out (by kernel_rfl)) (fun _ _ _ h => h) (Or.inl ⟨by rfl, ?_⟩) ?_ ?_
        rotate_left
        · intro w'
          go_simp
          with_reducible rfl
        rotate_left
        · simp only [Act.put, List.setIfInBounds_toArray, List.set_cons_zero, List.set_cons_succ, i64_w, i32_w]
          rfl
        refine pure_ (i := 2) (N := some 27) (v := ?_) (a' := ?_) (bs 16 5) rfl rfl (any_of HT_.out (by kernel_rfl)) (fun _ _ _ h => h) (Or.inl ⟨by rfl, ?_⟩) ?_ ?_
        rotate_left
        · intro w'
          go_simp
          with_reducible rfl
        rotate_left
        · simp only [Act.put, List.setIfInBounds_toArray, List.set_cons_zero, List.set_cons_succ, i64_w, i32_w]
          rfl
        refine pure_ (i := 4) (N := some 29) (v := ?_) (a' := ?_) (bs 16 21) rfl rfl (any_of HT_.out (by kernel_rfl)) (fun _ _ _ h => h) (Or.inl ⟨by rfl, ?_⟩) ?_ ?_
        rotate_left
        · intro w'
          go_simp
          with_reducible rfl
        rotate_left
        · simp only [Act.put, List.setIfInBounds_toArray, List.set_cons_zero, List.set_cons_succ, i64_w, i32_w]
          rfl
        refine pure_ (i := 5) (N := some 30) (v := ?_) (a' := ?_) (bs 16 53) rfl rfl (any_of HT_.out (by kernel_rfl)) (fun _ _ _ h => h) (Or.inl ⟨by rfl, ?_⟩) ?_ ?_
        rotate_left
        · intro w'
          go_simp
          with_reducible rfl
        rotate_left
        · simp only [Act.put, List.setIfInBounds_toArray, List.set_cons_zero, List.set_cons_succ, i64_w, i32_w]
          rfl
        refine pure_ (i := 7) (N := some 32) (v := ?_) (a' := ?_) (bs 16 181) rfl rfl (any_of HT_.out (by kernel_rfl)) (fun _ _ _ h => h) (Or.inl ⟨by rfl, ?_⟩) ?_ ?_
        rotate_left
        · intro w'
          go_simp
          with_reducible rfl
        rotate_left
        · simp only [Act.put, List.setIfInBounds_toArray, List.set_cons_zero, List.set_cons_succ, i64_w, i32_w]
          rfl
        refine pure_ (i := 9) (N := some 34) (v := ?_) (a' := ?_) (bs 16 693) rfl rfl (any_of HT_.out (by kernel_rfl)) (fun _ _ _ h => h) (Or.inl ⟨by rfl, ?_⟩) ?_ ?_
        rotate_left
        · intro w'
          go_simp
          with_reducible rfl
        rotate_left
        · simp only [Act.put, List.setIfInBounds_toArray, List.set_cons_zero, List.set_cons_succ, i64_w, i32_w]
          rfl
        refine pure_ (i := 11) (N := some 36) (v := ?_) (a' := ?_) (bs 16 2741) rfl rfl (any_of HT_.out (by kernel_rfl)) (fun _ _ _ h => h) (Or.inl ⟨by rfl, ?_⟩) ?_ ?_
        rotate_left
        · intro w'
          go_simp
          with_reducible rfl
        rotate_left
        · simp only [Act.put, List.setIfInBounds_toArray, List.set_cons_zero, List.set_cons_succ, i64_w, i32_w]
          rfl
        refine pure_ (i := 12) (N := some 37) (v := ?_) (a' := ?_) (bs 16 6837) rfl rfl (any_of HT_.out (by kernel_rfl)) (fun _ _ _ h => h) (Or.inl ⟨by rfl, ?_⟩) ?_ ?_
        rotate_left
        · intro w'
          go_simp
          with_reducible rfl
        rotate_left
        · simp only [Act.put, List.setIfInBounds_toArray, List.set_cons_zero, List.set_cons_succ, i64_w, i32_w]
          rfl
        refine take_ (i := 1) (N := some 26) (v := ?_) (a' := ?_) (bs 16 6839) rfl rfl (take_ofW HT_.out HW_.out (by kernel_rfl)) (fun _ _ _ h => h) (Or.inl ⟨by rfl, ?_⟩) hHeld ?_ ?_
        rotate_left
        · rintro w' ⟨s0, s1, s2, s3, s4, s5, s6, s7⟩
          go_simp
          with_reducible rfl
        rotate_left
        · simp only [Act.put, List.setIfInBounds_toArray, List.set_cons_zero, List.set_cons_succ, i64_w, i32_w]
          rfl
        refine take_ (i := 3) (N := some 28) (v := ?_) (a' := ?_) (bs 16 6847) rfl rfl (take_ofW HT_.out HW_.out (by kernel_rfl)) (fun _ _ _ h => h) (Or.inl ⟨by rfl, ?_⟩) hHeld ?_ ?_
        rotate_left
        · rintro w' ⟨s0, s1, s2, s3, s4, s5, s6, s7⟩
          go_simp
          with_reducible rfl
        rotate_left
        · simp only [Act.put, List.setIfInBounds_toArray, List.set_cons_zero, List.set_cons_succ, i64_w, i32_w]
          rfl
        refine take_ (i := 8) (N := some 33) (v := ?_) (a' := ?_) (bs 16 7103) rfl rfl (take_ofW HT_.out HW_.out (by kernel_rfl)) (fun _ _ _ h => h) (Or.inl ⟨by rfl, ?_⟩) hHeld ?_ ?_
        rotate_left
        · rintro w' ⟨s0, s1, s2, s3, s4, s5, s6, s7⟩
          go_simp
          with_reducible rfl
        rotate_left
        · simp only [Act.put, List.setIfInBounds_toArray, List.set_cons_zero, List.set_cons_succ, i64_w, i32_w]
          rfl
        refine take_ (i := 10) (N := some 35) (v := ?_) (a' := ?_) (bs 16 8127) rfl rfl (take_ofW HT_.out HW_.out (by kernel_rfl)) (fun _ _ _ h => h) (Or.inl ⟨by rfl, ?_⟩) hHeld ?_ ?_
        rotate_left
        · rintro w' ⟨s0, s1, s2, s3, s4, s5, s6, s7⟩
          go_simp
          with_reducible rfl
        rotate_left
        · simp only [Act.put, List.setIfInBounds_toArray, List.set_cons_zero, List.set_cons_succ, i64_w, i32_w]
          rfl
        refine one_ (i := 6) (N := some 31) (bs 16 8191) rfl rfl (one_of HT_.out (by kernel_rfl)) (by decide) (fun K hK => ?_)
        refine goes_ Tryz.func40 (by kernel_rfl) rfl #[.int .i64 a0_1, .slice A0_3 l0_3.length c0_3, .bool true, .int .i64 a2, .int .i64 a3] (by rfl) rfl rfl (by (try simp only [List.map_toArray, List.map_cons, List.map_nil]); first | done | rfl | (simp only [List.length_drop, List.length_take]; rfl)) ?_
        with_reducible refine (spec_l13Ask.calls kj4 a0_1 _ _ l0_3 true a2 a3 t221 _ ?side1 ?side2 A28.out).mono ?_
        (case side1 => exact (Kd.C_below HR0_3.out HB.out))
        (case side2 => exact HC0_3.out)
        rintro e w32 ⟨v222, rfl, ho0, hb⟩
        refine ⟨_, rfl, ?_⟩
        replace HO223 := Aside0.mk (Kd.R_lower ho0 bsZ)
        replace BK216 := bkZ hb BK216.out
        replace BK217 := bkZ hb BK217.out
        replace HB := bnZ hb
        (try clear hb)
        (try clear hb2)
        (try clear hk)
        (try clear hi)
        (try clear ho0)
        refine hK.out _ _ ⟨(blk_cell BK216.out 0).trans rfl, (blk_cell BK216.out 1).trans rfl, (blk_cell BK216.out 2).trans rfl, (blk_cell BK216.out 3).trans rfl, (blk_cell BK217.out 0).trans rfl, (blk_cell BK217.out 1).trans rfl, (blk_cell BK217.out 2).trans rfl, (blk_cell BK217.out 3).trans rfl⟩ (fun hHeld => ?_)
        clear hK K
        refine norm_ (a' := ?_) ?_ ?_
        rotate_left
        · show Act.put _ (some 31) _ = _
          simp only [Act.put, List.setIfInBounds_toArray, List.set_cons_zero, List.set_cons_succ, i64_w, i32_w]
          rfl
        refine one_ (i := 13) (N := some 38) (bs 16 16383) rfl rfl (one_of HT_.out (by kernel_rfl)) (by decide) (fun K hK => ?_)
        refine goes_ Tryz.func40 (by kernel_rfl) rfl #[.int .i64 a1_1, .slice A1_3 l1_3.length c1_3, .bool false, .int .i64 a2, .int .i64 a3] (by rfl) rfl rfl (by (try simp only [List.map_toArray, List.map_cons, List.map_nil]); first | done | rfl | (simp only [List.length_drop, List.length_take]; rfl)) ?_
        with_reducible refine (spec_l13Ask.calls kj4 a1_1 _ _ l1_3 false a2 a3 t224 _ ?side1 ?side2 A29.out).mono ?_
        (case side1 => exact (Kd.C_below HR1_3.out HB.out))
        (case side2 => exact HC1_3.out)
        rintro e w33 ⟨v225, rfl, ho0, hb⟩
        refine ⟨_, rfl, ?_⟩
        replace HO226 := Aside0.mk (Kd.R_lower (Kd.R_new' ho0 (Kd.R_lt (HO223.out))) bsZ)
        replace HO223 := Aside0.mk (Kd.R_elder' (HO223.out) (Kd.R_base ho0) hb)
        replace BK216 := bkZ hb BK216.out
        replace BK217 := bkZ hb BK217.out
        replace HB := bnZ hb
        (try clear hb)
        (try clear hb2)
        (try clear hk)
        (try clear hi)
        (try clear ho0)
        obtain ⟨Ao34, co34, eo34⟩ := Kd.R_slice HO223.out
        (first | subst eo34 | (injection eo34 with f1_ f2_ f3_; have f4_ := f1_.symm; have f5_ := f3_.symm; clear f1_ f2_ f3_; subst f4_; subst f5_))
        obtain ⟨Ao35, co35, eo35⟩ := Kd.R_slice HO226.out
        (first | subst eo35 | (injection eo35 with f1_ f2_ f3_; have f4_ := f1_.symm; have f5_ := f3_.symm; clear f1_ f2_ f3_; subst f4_; subst f5_))
        refine hK.out _ _ ⟨(blk_cell BK216.out 0).trans rfl, (blk_cell BK216.out 1).trans rfl, (blk_cell BK216.out 2).trans rfl, (blk_cell BK216.out 3).trans rfl, (blk_cell BK217.out 0).trans rfl, (blk_cell BK217.out 1).trans rfl, (blk_cell BK217.out 2).trans rfl, (blk_cell BK217.out 3).trans rfl⟩ (fun hHeld => ?_)
        clear hK K
        refine norm_ (a' := ?_) ?_ ?_
        rotate_left
        · show Act.put _ (some 38) _ = _
          simp only [Act.put, List.setIfInBounds_toArray, List.set_cons_zero, List.set_cons_succ, i64_w, i32_w]
          rfl
        refine one_ (i := 14) (N := some 39) (bs 16 32767) rfl rfl (one_of HT_.out (by kernel_rfl)) (by decide) (fun K hK => ?_)
        refine goes_ Tryz.func39 (by kernel_rfl) rfl #[.slice Ao34 t221.length co34, .slice Ao35 t224.length co35] (by rfl) rfl rfl (by (try simp only [List.map_toArray, List.map_cons, List.map_nil]); first | done | rfl | (simp only [List.length_drop, List.length_take]; rfl)) ?_
        with_reducible refine (spec_l13Decide.calls kj4 _ _ t221 _ _ t224 t227 _ ?side1 ?side2 ?side3 ?side4 A30.out).mono ?_
        (case side1 => exact (Kd.R_reads' HO223.out).2.2)
        (case side2 => exact (Kd.R_reads' HO223.out).2.1)
        (case side3 => exact (Kd.R_reads' HO226.out).2.2)
        (case side4 => exact (Kd.R_reads' HO226.out).2.1)
        rintro e w36 ⟨rfl, hb⟩
        refine ⟨_, rfl, ?_⟩
        replace HO223 := Aside0.mk (Kd.R_below (HO223.out) hb)
        replace HO226 := Aside0.mk (Kd.R_below (HO226.out) hb)
        replace BK216 := bkZ hb BK216.out
        replace BK217 := bkZ hb BK217.out
        replace HB := bnZ hb
        (try clear hb)
        (try clear hb2)
        (try clear hk)
        (try clear hi)
        refine hK.out _ _ ⟨(blk_cell BK216.out 0).trans rfl, (blk_cell BK216.out 1).trans rfl, (blk_cell BK216.out 2).trans rfl, (blk_cell BK216.out 3).trans rfl, (blk_cell BK217.out 0).trans rfl, (blk_cell BK217.out 1).trans rfl, (blk_cell BK217.out 2).trans rfl, (blk_cell BK217.out 3).trans rfl⟩ (fun hHeld => ?_)
        clear hK K
        refine norm_ (a' := ?_) ?_ ?_
        rotate_left
        · show Act.put _ (some 39) _ = _
          simp only [Act.put, List.setIfInBounds_toArray, List.set_cons_zero, List.set_cons_succ, i64_w, i32_w]
          rfl
        refine pure_ (i := 15) (N := some 8) (v := ?_) (a' := ?_) (bs 16 65535) rfl rfl (any_of HT_.out (by kernel_rfl)) (fun _ _ _ h => h) (Or.inl ⟨by rfl, ?_⟩) ?_ ?_
        rotate_left
        · intro w'
          go_simp
          with_reducible rfl
        rotate_left
        · simp only [Act.put, List.setIfInBounds_toArray, List.set_cons_zero, List.set_cons_succ, i64_w, i32_w]
          rfl
        refine done_ (done_of HT_.out (by kernel_rfl)) ?_
        try go_wp2
        go_ret
        exact ⟨rfl, by repeat (with_reducible first | exact HB.out | apply below_alloc | apply pw_below_drewN | apply below_drew1 | refine below_set ?_ GE216.out | refine below_set ?_ GE217.out)⟩
theorem measureOf.c1 (w : World) : Calls Tryz.prog 54 #[.int .i64 1] w fun e w' => e = .returned (.iface 103 (.agg #[])) ∧ w = w' := by
 go_enter Tryz.func54, Tryz.ntmps54
 go_wp2
 go_ret
 exact ⟨rfl, rfl⟩
theorem measureOf.c2 (w : World) : Calls Tryz.prog 54 #[.int .i64 2] w fun e w' => e = .returned (.iface 104 (.agg #[])) ∧ w = w' := by
 go_enter Tryz.func54, Tryz.ntmps54
 go_wp2
 go_ret
 exact ⟨rfl, rfl⟩
theorem measureOf.c3 (w : World) : Calls Tryz.prog 54 #[.int .i64 3] w fun e w' => e = .returned (.iface 105 (.agg #[])) ∧ w = w' := by
 go_enter Tryz.func54, Tryz.ntmps54
 go_wp2
 go_ret
 exact ⟨rfl, rfl⟩
theorem measureOf.c0 (n : Int) (w : World) (h1 : n ≠ 1) (h2 : n ≠ 2) (h3 : n ≠ 3) : Calls Tryz.prog 54 #[.int .i64 n] w fun e w' => e = .returned .nilIface ∧ w = w' := by
 have e1 : (n == 1) = false := beq_eq_false_iff_ne.2 h1
 have e2 : (n == 2) = false := beq_eq_false_iff_ne.2 h2
 have e3 : (n == 3) = false := beq_eq_false_iff_ne.2 h3
 go_enter Tryz.func54, Tryz.ntmps54
 go_wp2
 go_ret
 exact ⟨rfl, rfl⟩
theorem bitMeasure_size.calls (w : World) : Calls Tryz.prog 157 #[.agg #[]] w fun e w' => e = .returned (.int .i64 1) ∧ w.alloc (.cells #[] 103) = w' := by
 go_enter Tryz.func157, Tryz.ntmps157
 go_wp2
 go_ret
 exact ⟨rfl, rfl⟩
theorem bitMeasure_size.meth (w : World) : (method 297 103 (.agg #[]) "loop.example/scrutineer/impl.size").run Tryz.prog w = .ok (157, .agg #[]) w := by kernel_rfl
theorem pickMeasure_size.calls (w : World) : Calls Tryz.prog 160 #[.agg #[]] w fun e w' => e = .returned (.int .i64 4) ∧ w.alloc (.cells #[] 104) = w' := by
 go_enter Tryz.func160, Tryz.ntmps160
 go_wp2
 go_ret
 exact ⟨rfl, rfl⟩
theorem pickMeasure_size.meth (w : World) : (method 297 104 (.agg #[]) "loop.example/scrutineer/impl.size").run Tryz.prog w = .ok (160, .agg #[]) w := by kernel_rfl
theorem numMeasure_size.calls (w : World) : Calls Tryz.prog 163 #[.agg #[]] w fun e w' => e = .returned (.int .i64 3) ∧ w.alloc (.cells #[] 105) = w' := by
 go_enter Tryz.func163, Tryz.ntmps163
 go_wp2
 go_ret
 exact ⟨rfl, rfl⟩
theorem numMeasure_size.meth (w : World) : (method 297 105 (.agg #[]) "loop.example/scrutineer/impl.size").run Tryz.prog w = .ok (163, .agg #[]) w := by kernel_rfl
def tLen (n : Int) : Int := if n = 1 then 1 else if n = 2 then 4 else if n = 3 then 3 else 0
def impl_TypeLen.f (a0 : Int) : Option Int := some (tLen a0)
theorem impl_TypeLen.calls (a0 : Int) (r : Int) (w : World) (h : impl_TypeLen.f a0 = some r) :
  Calls Tryz.prog 29 #[.int .i64 a0] w fun e w' => e = .returned (.int .i64 r) ∧ Below w.heap.size w w' := by
 obtain rfl := Option.some.inj h
 clear h
 by_cases h1 : a0 = 1
 ·subst h1
  rw [show tLen 1 = 1 from rfl]
  have hm := bitMeasure_size.meth
  go_enter Tryz.func29, Tryz.ntmps29
  go_wp2_with (first | (go_at_call 54; refine (measureOf.c1 _).mono ?_; rintro e w' ⟨rfl, rfl⟩) | (go_at_call 157; refine (bitMeasure_size.calls _).mono ?_; rintro e w' ⟨rfl, rfl⟩))
  go_ret
  exact ⟨rfl, below_alloc (Below.refl _ _) _⟩
 by_cases h2 : a0 = 2
 ·subst h2
  rw [show tLen 2 = 4 from rfl]
  have hm := pickMeasure_size.meth
  go_enter Tryz.func29, Tryz.ntmps29
  go_wp2_with (first | (go_at_call 54; refine (measureOf.c2 _).mono ?_; rintro e w' ⟨rfl, rfl⟩) | (go_at_call 160; refine (pickMeasure_size.calls _).mono ?_; rintro e w' ⟨rfl, rfl⟩))
  go_ret
  exact ⟨rfl, below_alloc (Below.refl _ _) _⟩
 by_cases h3 : a0 = 3
 ·subst h3
  rw [show tLen 3 = 3 from rfl]
  have hm := numMeasure_size.meth
  go_enter Tryz.func29, Tryz.ntmps29
  go_wp2_with (first | (go_at_call 54; refine (measureOf.c3 _).mono ?_; rintro e w' ⟨rfl, rfl⟩) | (go_at_call 163; refine (numMeasure_size.calls _).mono ?_; rintro e w' ⟨rfl, rfl⟩))
  go_ret
  exact ⟨rfl, below_alloc (Below.refl _ _) _⟩
 ·rw [show tLen a0 = 0 by simp [tLen, h1, h2, h3]]
  go_enter Tryz.func29, Tryz.ntmps29
  go_wp2_with (first | (go_at_call 54; refine (measureOf.c0 a0 _ h1 h2 h3).mono ?_; rintro e w' ⟨rfl, rfl⟩))
  go_ret
  exact ⟨rfl, Below.refl _ _⟩
def impl_within.f (a0 : Int) (a1 : Int) (a2 : Int) : Option (Bool) := if a0 ≥ a1 then (some (decide (a0 ≤ a2))) else (some false)
set_option maxHeartbeats 8000000 in
set_option maxRecDepth 100000 in
theorem impl_within.calls (a0 : Int) (a1 : Int) (a2 : Int) (r : Bool) (w : World) (h : impl_within.f a0 a1 a2 = some r) :
  Calls Tryz.prog 55 #[.int .i64 a0, .int .i64 a1, .int .i64 a2] w fun e w' => e = .returned (.bool r) ∧ Drawn0 w w' := by
 have H : (if a0 ≥ a1 then (some (decide (a0 ≤ a2))) else (some false)) = some r := h
 clear h
 by_cases c4 : a0 ≥ a1
 ·rw [if_pos c4] at H
  have c4b0 : decide (a1 ≤ a0) = true := decide_eq_true c4
  clear c4
  obtain rfl := Option.some.inj H
  go_enter Tryz.func55, Tryz.ntmps55
  go_wp2
  go_ret
  exact ⟨rfl, by repeat (first | exact Drawn0.refl _ | apply Drawn0.step)⟩
 ·rw [if_neg c4] at H
  have c4b0 : decide (a1 ≤ a0) = false := decide_eq_false c4
  clear c4
  obtain rfl := Option.some.inj H
  go_enter Tryz.func55, Tryz.ntmps55
  go_wp2
  go_ret
  exact ⟨rfl, by repeat (first | exact Drawn0.refl _ | apply Drawn0.step)⟩
def kOk (n : Int) : Bool := decide (n = 1 ∨ n = 2 ∨ n = 3)
def impl_kindOk.f (a0 : Int) : Option Bool := some (kOk a0)
theorem impl_kindOk.calls (a0 : Int) (r : Bool) (w : World) (h : impl_kindOk.f a0 = some r) :
  Calls Tryz.prog 88 #[.int .i64 a0] w fun e w' => e = .returned (.bool r) ∧ Drawn0 w w' := by
 obtain rfl := Option.some.inj h
 clear h
 by_cases h1 : a0 = 1
 ·subst h1
  rw [show kOk 1 = true from rfl]
  go_enter Tryz.func88, Tryz.ntmps88
  go_wp2_with (first | (go_at_call 54; refine (measureOf.c1 _).mono ?_; rintro e w' ⟨rfl, rfl⟩))
  go_ret
  exact ⟨rfl, Drawn0.refl _⟩
 by_cases h2 : a0 = 2
 ·subst h2
  rw [show kOk 2 = true from rfl]
  go_enter Tryz.func88, Tryz.ntmps88
  go_wp2_with (first | (go_at_call 54; refine (measureOf.c2 _).mono ?_; rintro e w' ⟨rfl, rfl⟩))
  go_ret
  exact ⟨rfl, Drawn0.refl _⟩
 by_cases h3 : a0 = 3
 ·subst h3
  rw [show kOk 3 = true from rfl]
  go_enter Tryz.func88, Tryz.ntmps88
  go_wp2_with (first | (go_at_call 54; refine (measureOf.c3 _).mono ?_; rintro e w' ⟨rfl, rfl⟩))
  go_ret
  exact ⟨rfl, Drawn0.refl _⟩
 ·rw [show kOk a0 = false by simp [kOk, h1, h2, h3]]
  go_enter Tryz.func88, Tryz.ntmps88
  go_wp2_with (first | (go_at_call 54; refine (measureOf.c0 a0 _ h1 h2 h3).mono ?_; rintro e w' ⟨rfl, rfl⟩))
  go_ret
  exact ⟨rfl, Drawn0.refl _⟩
def impl_QueryMay.f (a0 : Int) (a1 : Int) : Option (Bool) := (impl_kindOk.f a0).bind fun t228 => (if t228 = true then ((impl_TypeLen.f a0).bind fun t229 => ((impl_within.f a1 (wrap64 (t229 + 1)) 30).bind fun t230 => (some t230))) else (some false))
set_option maxHeartbeats 8000000 in
set_option maxRecDepth 100000 in
theorem impl_QueryMay.calls (a0 : Int) (a1 : Int) (r : Bool) (w : World) (h : impl_QueryMay.f a0 a1 = some r) :
  Calls Tryz.prog 49 #[.int .i64 a0, .int .i64 a1] w fun e w' => e = .returned (.bool r) ∧ Below w.heap.size w w' := by
 have HB := Aside0.mk (Below.refl w.heap.size w)
 have H := h
 unfold impl_QueryMay.f at H
 clear h
 replace H := bnd H
 obtain ⟨t657, A3, H⟩ := H
 by_cases c4 : t657 = true
 ·subst c4
  rw [if_pos rfl] at H
  replace H := bnd H
  obtain ⟨t658, A5, H⟩ := H
  replace H := bnd H
  obtain ⟨t659, A6, H⟩ := H
  obtain rfl := Option.some.inj H
  go_enter Tryz.func49, Tryz.ntmps49
  go_wp2_with (first | (refine gsD c88x25 (impl_kindOk.calls a0 true _ A3.out) ?_; intro nd) | (go_at_call 29; (with_reducible refine (impl_TypeLen.calls a0 t658 _ A5.out).mono ?_); rintro e w7 ⟨rfl, hb⟩; replace HB := bnZ hb; clear hb) | (go_at_call 55; (with_reducible refine (impl_within.calls a1 (wrap64 (t658 + 1)) 30 t659 _ A6.out).mono ?_); rintro e w' ⟨rfl, ⟨nd, rfl⟩⟩))
  go_ret
  exact ⟨rfl, by repeat (with_reducible first | exact HB.out | apply below_alloc | apply pw_below_drewN | apply below_drew1)⟩
 ·replace c4 := Bool.eq_false_iff.mpr c4
  subst c4
  rw [if_neg (show ¬ (false = true) by decide)] at H
  obtain rfl := Option.some.inj H
  go_enter Tryz.func49, Tryz.ntmps49
  go_wp2_with (first | (refine gsD c88x25 (impl_kindOk.calls a0 false _ A3.out) ?_; intro nd))
  go_ret
  exact ⟨rfl, by repeat (with_reducible first | exact HB.out | apply below_alloc | apply pw_below_drewN | apply below_drew1)⟩
def impl_FieldOk.f (a0 : Int) : Option (Bool) := (impl_within.f a0 0 30).bind fun t231 => (some t231)
set_option maxHeartbeats 8000000 in
set_option maxRecDepth 100000 in
theorem impl_FieldOk.calls (a0 : Int) (r : Bool) (w : World) (h : impl_FieldOk.f a0 = some r) :
  Calls Tryz.prog 50 #[.int .i64 a0] w fun e w' => e = .returned (.bool r) ∧ Drawn0 w w' := by
 have H : ((impl_within.f a0 0 30).bind fun t101 => (some t101)) = some r := h
 clear h
 replace H := bnd H
 obtain ⟨t101, A2, H⟩ := H
 obtain rfl := Option.some.inj H
 go_enter Tryz.func50, Tryz.ntmps50
 go_wp2_with (first | (refine gsD c55x1 (impl_within.calls a0 0 30 t101 _ A2.out) ?_; intro nd))
 go_ret
 exact ⟨rfl, ⟨_, rfl⟩⟩
def fOk (n : Int) : Bool := decide (0 ≤ n) && decide (n ≤ 30)
set_option maxHeartbeats 400000 in
set_option maxRecDepth 100000 in
theorem elementsOk1.yes (n : Int) (w : World) (h : fOk n = true) : Calls Tryz.prog 107 #[.int .i64 n] w fun e w' => e = .returned (.bool false) ∧ Drawn0 w w' := by
 simp only [fOk, Bool.and_eq_true, decide_eq_true_eq] at h
 obtain ⟨h1, h2⟩ := h
 go_enter Tryz.func107, Tryz.ntmps107
 go_wp2
 go_ret
 exact ⟨rfl, Drawn0.refl _⟩
set_option maxHeartbeats 400000 in
set_option maxRecDepth 100000 in
theorem elementsOk1.no (n : Int) (w : World) (h : fOk n = false) : Calls Tryz.prog 107 #[.int .i64 n] w fun e w' => e = .returned (.bool true) ∧ Drawn0 w w' := by
 have h' : n < 0 ∨ 30 < n := by simp only [fOk, Bool.and_eq_false_iff, decide_eq_false_iff_not] at h; omega
 clear h
 rcases h' with h1 | h1
 ·go_enter Tryz.func107, Tryz.ntmps107
  go_wp2
  go_ret
  exact ⟨rfl, Drawn0.refl _⟩
 ·have h0 : decide (0 ≤ n) = true := by simp; omega
  have h2 : decide (n ≤ 30) = false := by simp; omega
  go_enter Tryz.func107, Tryz.ntmps107
  go_wp2
  go_ret
  exact ⟨rfl, Drawn0.refl _⟩
set_option maxHeartbeats 1000000 in
set_option maxRecDepth 100000 in
theorem IndexFunc.ok (A0 : Option Addr) (c0 : Nat) (l0 : List Int) (w : World) (hr0 : Kd.C (Kd.int .i64) w A0 l0.length l0) (hm : l0.length ≤ 9223372036854775807) (h : l0.all fOk = true) :
  Calls Tryz.prog 128 #[.slice A0 l0.length c0, .func (.func 107) #[] #[]] w fun e w' => e = .returned (.int .i64 (-1)) ∧ Drawn0 w w' := by
 have HR0 := Aside0.mk hr0
 clear hr0
 have H := Aside0.mk h
 clear h
 go_enter Tryz.func128, Tryz.ntmps128
 go_wp2
 go_loopw [8] (fun i wr => ∃ k : Nat, k ≤ l0.length ∧ i = .int .i64 k ∧ Drawn0 w wr) (fun i _ => l0.length - (intOf i).toNat)
 case atStart => exact ⟨0, Nat.zero_le _, rfl, Drawn0.refl _⟩
 case round =>
  obtain ⟨k, hk, rfl, ⟨m1, rfl⟩⟩ := hrel
  by_cases hlt : k < l0.length
  ·have hok : fOk (rd l0 k) = true := by
    have := List.all_eq_true.1 H.out (l0[k]) (List.getElem_mem hlt)
    simpa [rd, hlt] using this
   have HOK := Aside0.mk hok
   clear hok
   obtain ⟨ad, e, hx⟩ := Kd.at_int HR0.out (k : Int) (by omega) (by omega)
   cases e
   simp only [Int.toNat_natCast] at hx
   go_wp2_with (first | (go_at_call 107; refine (elementsOk1.yes _ _ HOK.out).mono ?_; rintro e w' ⟨rfl, ⟨nd, rfl⟩⟩))
   go_roundw
   case rel => exact ⟨k + 1, by omega, by go_num, ⟨_, rfl⟩⟩
   case measure => simp [intOf]; omega
  ·go_wp2
   go_ret
   exact ⟨rfl, ⟨_, rfl⟩⟩
theorem all_rd (l : List Int) (h : ∀ i, i < l.length → fOk (rd l i) = true) : l.all fOk = true := by
 rw [List.all_eq_true]
 intro x hx
 obtain ⟨i, hi, rfl⟩ := List.getElem_of_mem hx
 have := h i hi
 simpa [rd, hi] using this
def SomeNat (w : World) (e : Ending) (w' : World) : Prop := ∃ j : Nat, e = .returned (.int .i64 j) ∧ Drawn0 w w'
set_option maxHeartbeats 1000000 in
set_option maxRecDepth 100000 in
theorem IndexFunc.bad (A0 : Option Addr) (c0 : Nat) (l0 : List Int) (w : World) (hr0 : Kd.C (Kd.int .i64) w A0 l0.length l0) (hm : l0.length ≤ 9223372036854775807) (h : l0.all fOk = false) :
  Calls Tryz.prog 128 #[.slice A0 l0.length c0, .func (.func 107) #[] #[]] w (SomeNat w) := by
 have HR0 := Aside0.mk hr0
 clear hr0
 have H := Aside0.mk h
 clear h
 go_enter Tryz.func128, Tryz.ntmps128
 go_wp2
 go_loopw [8] (fun i wr => ∃ k : Nat, k ≤ l0.length ∧ i = .int .i64 k ∧ Drawn0 w wr ∧ Aside0 (∀ i, i < k → fOk (rd l0 i) = true)) (fun i _ => l0.length - (intOf i).toNat)
 case atStart => exact ⟨0, Nat.zero_le _, rfl, Drawn0.refl _, ⟨by omega⟩⟩
 case round =>
  obtain ⟨k, hk, rfl, ⟨m1, rfl⟩, hall⟩ := hrel
  by_cases hlt : k < l0.length
  ·obtain ⟨ad, e, hx⟩ := Kd.at_int HR0.out (k : Int) (by omega) (by omega)
   cases e
   simp only [Int.toNat_natCast] at hx
   cases hok : fOk (rd l0 k)
   ·have HOK := Aside0.mk hok
    clear hok
    go_wp2_with (first | (go_at_call 107; refine (elementsOk1.no _ _ HOK.out).mono ?_; rintro e w' ⟨rfl, ⟨nd, rfl⟩⟩))
    go_ret
    exact ⟨k, rfl, ⟨_, rfl⟩⟩
   ·have HOK := Aside0.mk hok
    clear hok
    go_wp2_with (first | (go_at_call 107; refine (elementsOk1.yes _ _ HOK.out).mono ?_; rintro e w' ⟨rfl, ⟨nd, rfl⟩⟩))
    go_roundw
    case rel => exact ⟨k + 1, by omega, by go_num, ⟨_, rfl⟩, ⟨fun i hi => by
     rcases Nat.lt_or_ge i k with h1 | h1
     ·exact hall.out i h1
     ·obtain rfl : i = k := by omega
      exact HOK.out⟩⟩
    case measure => simp [intOf]; omega
  ·exfalso
   have := all_rd l0 (fun i hi => hall.out i (by omega))
   rw [H.out] at this
   cases this
theorem ContainsFunc.ok (A0 : Option Addr) (c0 : Nat) (l0 : List Int) (w : World) (hr0 : Kd.C (Kd.int .i64) w A0 l0.length l0) (hm : l0.length ≤ 9223372036854775807) (h : l0.all fOk = true) :
  Calls Tryz.prog 106 #[.slice A0 l0.length c0, .func (.func 107) #[] #[]] w fun e w' => e = .returned (.bool false) ∧ Drawn0 w w' := by
 have HR0 := Aside0.mk hr0
 clear hr0
 have H := Aside0.mk h
 clear h
 go_enter Tryz.func106, Tryz.ntmps106
 go_wp2_with (first | (go_at_call 128; refine (IndexFunc.ok A0 c0 l0 _ HR0.out hm H.out).mono ?_; rintro e w' ⟨rfl, ⟨nd, rfl⟩⟩))
 go_ret
 exact ⟨rfl, ⟨_, rfl⟩⟩
theorem ContainsFunc.bad (A0 : Option Addr) (c0 : Nat) (l0 : List Int) (w : World) (hr0 : Kd.C (Kd.int .i64) w A0 l0.length l0) (hm : l0.length ≤ 9223372036854775807) (h : l0.all fOk = false) :
  Calls Tryz.prog 106 #[.slice A0 l0.length c0, .func (.func 107) #[] #[]] w fun e w' => e = .returned (.bool true) ∧ Drawn0 w w' := by
 have HR0 := Aside0.mk hr0
 clear hr0
 have H := Aside0.mk h
 clear h
 go_enter Tryz.func106, Tryz.ntmps106
 go_wp2_with (first | (go_at_call 128; refine (IndexFunc.bad A0 c0 l0 _ HR0.out hm H.out).mono ?_; rintro e w' ⟨j, rfl, ⟨nd, rfl⟩⟩))
 go_ret
 exact ⟨by simp, ⟨_, rfl⟩⟩
def impl_elementsOk.f (l0 : List Int) (a1 : Int) : Option Bool := some (decide ((l0.length : Int) ≤ a1) && l0.all fOk)
set_option maxHeartbeats 1000000 in
set_option maxRecDepth 100000 in
theorem impl_elementsOk.calls (A0 : Option Addr) (c0 : Nat) (l0 : List Int) (a1 : Int) (r : Bool) (w : World) (hr0 : Kd.C (Kd.int .i64) w A0 l0.length l0) (hc0 : l0.length ≤ c0) (h : impl_elementsOk.f l0 a1 = some r) :
  Calls Tryz.prog 73 #[.slice A0 l0.length c0, .int .i64 a1] w fun e w' => e = .returned (.bool r) ∧ Drawn0 w w' := by
 obtain rfl := Option.some.inj h
 clear h
 have hm : l0.length ≤ 9223372036854775807 := hr0.2.1
 have HR0 := Aside0.mk hr0
 clear hr0
 by_cases c2 : (l0.length : Int) ≤ a1
 ·have c2b0 : decide ((l0.length : Int) ≤ a1) = true := decide_eq_true c2
  cases hall : l0.all fOk
  ·have H := Aside0.mk hall
   rw [c2b0]
   clear hall c2
   go_enter Tryz.func73, Tryz.ntmps73
   go_wp2_with (first | (go_at_call 106; refine (ContainsFunc.bad A0 c0 l0 _ HR0.out hm H.out).mono ?_; rintro e w' ⟨rfl, ⟨nd, rfl⟩⟩))
   go_ret
   exact ⟨rfl, ⟨_, rfl⟩⟩
  ·have H := Aside0.mk hall
   rw [c2b0]
   clear hall c2
   go_enter Tryz.func73, Tryz.ntmps73
   go_wp2_with (first | (go_at_call 106; refine (ContainsFunc.ok A0 c0 l0 _ HR0.out hm H.out).mono ?_; rintro e w' ⟨rfl, ⟨nd, rfl⟩⟩))
   go_ret
   exact ⟨rfl, ⟨_, rfl⟩⟩
 ·have c2b0 : decide ((l0.length : Int) ≤ a1) = false := decide_eq_false c2
  rw [c2b0]
  clear c2
  go_enter Tryz.func73, Tryz.ntmps73
  go_wp2
  go_ret
  exact ⟨rfl, by repeat (first | exact Drawn0.refl _ | apply Drawn0.step)⟩
end Go.Proofs.YtlgbblaidohljaaGreatDoor.Zk
