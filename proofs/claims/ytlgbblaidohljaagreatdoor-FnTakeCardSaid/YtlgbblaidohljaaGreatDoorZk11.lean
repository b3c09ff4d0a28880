import Derived.Test.YtlgbblaidohljaaGreatDoorZ
import Derived.Test.YtlgbblaidohljaaGreatDoorZk0
import Derived.Test.YtlgbblaidohljaaGreatDoorZk6
import Derived.Test.YtlgbblaidohljaaGreatDoorZk7
import Derived.Test.YtlgbblaidohljaaGreatDoorZk9
import Derived.Test.YtlgbblaidohljaaGreatDoorZk10
namespace Go.Proofs.YtlgbblaidohljaaGreatDoor.Zk
open Go.RowKit Go.Proofs.YtlgbblaidohljaaGreatDoorT.PrintWords Go.Proofs.YtlgbblaidohljaaGreatDoorT.PrintLast Go.Proofs.YtlgbblaidohljaaGreatDoorT.PrintMore Go.Proofs.YtlgbblaidohljaaGreatDoor.Z
attribute [local go_sem] max2_int min2_int max_two min_two max_three min_three max_four min_four
set_option linter.unusedVariables false
set_option linter.unusedSimpArgs false
def impl_PartsFit.f (a0_0 : Int) (a0_1 : Int) (a0_2 : Int) (l0_3 : List Int) (a1_0 : Int) (a1_1 : Int) (a1_2 : Int) (l1_3 : List Int) : Option (Bool) := (impl_PartOk.f a0_0 a0_1 a0_2 l0_3).bind fun t290 => (if t290 = true then ((impl_PartOk.f a1_0 a1_1 a1_2 l1_3).bind fun t291 => (if t291 = true then (if a0_0 = a1_0 then (if a0_1 = a1_1 then (if a0_2 = 1 then (some (a1_2 == 2)) else (some false)) else (some false)) else (some false)) else (some false))) else (some false))
set_option maxHeartbeats 8000000 in
set_option maxRecDepth 100000 in
theorem impl_PartsFit.calls (a0_0 : Int) (a0_1 : Int) (a0_2 : Int) (A0_3 : Option Addr) (c0_3 : Nat) (l0_3 : List Int) (a1_0 : Int) (a1_1 : Int) (a1_2 : Int) (A1_3 : Option Addr) (c1_3 : Nat) (l1_3 : List Int) (r : Bool) (w : World) (hr0_3 : Kd.C (Kd.int .i64) w A0_3 l0_3.length l0_3) (hc0_3 : l0_3.length ≤ c0_3) (hr1_3 : Kd.C (Kd.int .i64) w A1_3 l1_3.length l1_3) (hc1_3 : l1_3.length ≤ c1_3) (h : impl_PartsFit.f a0_0 a0_1 a0_2 l0_3 a1_0 a1_1 a1_2 l1_3 = some r) (hT : typeAt w) :
    Calls Tryz.prog 33 #[.agg #[.int .i64 a0_0, .int .i64 a0_1, .int .i64 a0_2, .slice A0_3 l0_3.length c0_3], .agg #[.int .i64 a1_0, .int .i64 a1_1, .int .i64 a1_2, .slice A1_3 l1_3.length c1_3]] w fun e w' => e = .returned (.bool r) ∧ Below w.heap.size w w' := by
  have HT := Aside0.mk hT
  clear hT
  have hu27 := Tryz.underlying27
  have HR0_3 := Aside0.mk hr0_3
  have HC0_3 := Aside0.mk hc0_3
  clear hr0_3 hc0_3
  have HR1_3 := Aside0.mk hr1_3
  have HC1_3 := Aside0.mk hc1_3
  clear hr1_3 hc1_3
  have HB := Aside0.mk (Below.refl w.heap.size w)
  have H := h
  unfold impl_PartsFit.f at H
  clear h
  replace H := bnd H
  obtain ⟨t290, A3, H⟩ := H
  by_cases c4 : t290 = true
  · subst c4
    rw [if_pos rfl] at H
    replace H := bnd H
    obtain ⟨t291, A5, H⟩ := H
    by_cases c6 : t291 = true
    · subst c6
      rw [if_pos rfl] at H
      by_cases c7 : a0_0 = a1_0
      · rw [if_pos c7] at H
        have c7b0 : (a0_0 == a1_0) = true := beq_iff_eq.mpr c7
        have c7b1 : (a0_0 != a1_0) = false := bne_eq_false_iff_eq.mpr c7
        clear c7
        by_cases c8 : a0_1 = a1_1
        · rw [if_pos c8] at H
          have c8b0 : (a0_1 == a1_1) = true := beq_iff_eq.mpr c8
          have c8b1 : (a0_1 != a1_1) = false := bne_eq_false_iff_eq.mpr c8
          clear c8
          by_cases c9 : a0_2 = 1
          · rw [if_pos c9] at H
            have c9b0 : (a0_2 == 1) = true := beq_iff_eq.mpr c9
            have c9b1 : (a0_2 != 1) = false := bne_eq_false_iff_eq.mpr c9
            clear c9
            obtain rfl := Option.some.inj H
            go_enter Tryz.func33, Tryz.ntmps33
            go_wp2_with (first | ((with_reducible refine gate_dst (N := 2) rfl ?_); refine boxZ (N := 2) (cs := #[.int .i64 a0_0, .int .i64 a0_1, .int .i64 a0_2, .slice A0_3 l0_3.length c0_3]) (t := 27) ?_; intro gb288 hg w10 hbox hb; replace BK288 := Aside0.mk (hbox); replace GW288 := gwZ hg; replace GE288 := gwZ hg; replace HB := bnZ hb; clear hb hbox hg) | ((with_reducible refine gate_dst (N := 3) rfl ?_); refine boxZ (N := 3) (cs := #[.int .i64 a1_0, .int .i64 a1_1, .int .i64 a1_2, .slice A1_3 l1_3.length c1_3]) (t := 27) ?_; intro gb289 hg w11 hbox hb; replace BK289 := Aside0.mk (hbox); replace GW289 := gwZ hg; replace GE289 := gwZ hg; replace HB := bnZ hb; replace NB288_289 := nbZ BK288.out hg; replace NB289_288 := nbY BK288.out hg; replace BK288 := bkZ hb BK288.out; clear hb hbox hg; have hnb12 := NB288_289.out; have hnc12 := NB289_288.out; have hcz13_0 : w11.cell? ⟨gb288, 0, none⟩ = some (.int .i64 a0_0) := (blk_cell BK288.out 0).trans rfl; have hcz13_1 : w11.cell? ⟨gb288, 1, none⟩ = some (.int .i64 a0_1) := (blk_cell BK288.out 1).trans rfl; have hcz13_2 : w11.cell? ⟨gb288, 2, none⟩ = some (.int .i64 a0_2) := (blk_cell BK288.out 2).trans rfl; have hcz13_3 : w11.cell? ⟨gb288, 3, none⟩ = some (.slice A0_3 l0_3.length c0_3) := (blk_cell BK288.out 3).trans rfl; have hfz13_0 := blk_frozen BK288.out 0; have hfz13_1 := blk_frozen BK288.out 1; have hfz13_2 := blk_frozen BK288.out 2; have hfz13_3 := blk_frozen BK288.out 3) | ((with_reducible refine gate_callee (f := 72) rfl ?_); refine goesZ (some 6) Tryz.func72 #[.agg #[.int .i64 a0_0, .int .i64 a0_1, .int .i64 a0_2, .slice A0_3 l0_3.length c0_3]] ?_; (with_reducible refine (impl_PartOk.calls a0_0 a0_1 a0_2 _ _ l0_3 true _ ?side1 ?side2 A3.out HT.out ?sideB).mono ?_); (case side1 => exact (Kd.C_below HR0_3.out HB.out)); (case side2 => exact HC0_3.out); (case sideB => exact bZ); rintro e w14 ⟨rfl, hb⟩; refine ⟨_, rfl, ?_⟩; replace BK288 := bkZ hb BK288.out; replace BK289 := bkZ hb BK289.out; replace HB := bnZ hb; (try clear hb); (try clear hb2); (try clear hk); (try clear hi); have hcz15_0 : w14.cell? ⟨gb289, 0, none⟩ = some (.int .i64 a1_0) := (blk_cell BK289.out 0).trans rfl; have hcz15_1 : w14.cell? ⟨gb289, 1, none⟩ = some (.int .i64 a1_1) := (blk_cell BK289.out 1).trans rfl; have hcz15_2 : w14.cell? ⟨gb289, 2, none⟩ = some (.int .i64 a1_2) := (blk_cell BK289.out 2).trans rfl; have hcz15_3 : w14.cell? ⟨gb289, 3, none⟩ = some (.slice A1_3 l1_3.length c1_3) := (blk_cell BK289.out 3).trans rfl; have hfz15_0 := blk_frozen BK289.out 0; have hfz15_1 := blk_frozen BK289.out 1; have hfz15_2 := blk_frozen BK289.out 2; have hfz15_3 := blk_frozen BK289.out 3) | (go_at_call 72; (with_reducible refine (impl_PartOk.calls a1_0 a1_1 a1_2 _ _ l1_3 true _ ?side1 ?side2 A5.out HT.out ?sideB).mono ?_); (case side1 => exact (Kd.C_below HR1_3.out HB.out)); (case side2 => exact HC1_3.out); (case sideB => exact bZ); rintro e w16 ⟨rfl, hb⟩; replace BK288 := bkZ hb BK288.out; replace BK289 := bkZ hb BK289.out; replace HB := bnZ hb; (try clear hb); (try clear hb2); (try clear hk); (try clear hi); have hcz17_0 : w16.cell? ⟨gb288, 0, none⟩ = some (.int .i64 a0_0) := (blk_cell BK288.out 0).trans rfl; have hcz17_1 : w16.cell? ⟨gb288, 1, none⟩ = some (.int .i64 a0_1) := (blk_cell BK288.out 1).trans rfl; have hcz17_2 : w16.cell? ⟨gb288, 2, none⟩ = some (.int .i64 a0_2) := (blk_cell BK288.out 2).trans rfl; have hcz17_3 : w16.cell? ⟨gb288, 3, none⟩ = some (.slice A0_3 l0_3.length c0_3) := (blk_cell BK288.out 3).trans rfl; have hfz17_0 := blk_frozen BK288.out 0; have hfz17_1 := blk_frozen BK288.out 1; have hfz17_2 := blk_frozen BK288.out 2; have hfz17_3 := blk_frozen BK288.out 3; have hcz18_0 : w16.cell? ⟨gb289, 0, none⟩ = some (.int .i64 a1_0) := (blk_cell BK289.out 0).trans rfl; have hcz18_1 : w16.cell? ⟨gb289, 1, none⟩ = some (.int .i64 a1_1) := (blk_cell BK289.out 1).trans rfl; have hcz18_2 : w16.cell? ⟨gb289, 2, none⟩ = some (.int .i64 a1_2) := (blk_cell BK289.out 2).trans rfl; have hcz18_3 : w16.cell? ⟨gb289, 3, none⟩ = some (.slice A1_3 l1_3.length c1_3) := (blk_cell BK289.out 3).trans rfl; have hfz18_0 := blk_frozen BK289.out 0; have hfz18_1 := blk_frozen BK289.out 1; have hfz18_2 := blk_frozen BK289.out 2; have hfz18_3 := blk_frozen BK289.out 3))
            go_ret
            exact ⟨rfl, by repeat (with_reducible first | exact HB.out | apply below_alloc | apply pw_below_drewN | apply below_drew1 | refine below_set ?_ GE288.out | refine below_set ?_ GE289.out)⟩
          · rw [if_neg c9] at H
            have c9b0 : (a0_2 == 1) = false := beq_eq_false_iff_ne.mpr c9
            have c9b1 : (a0_2 != 1) = true := bne_iff_ne.mpr c9
            obtain rfl := Option.some.inj H
            go_enter Tryz.func33, Tryz.ntmps33
            go_wp2_with (first | ((with_reducible refine gate_dst (N := 2) rfl ?_); refine boxZ (N := 2) (cs := #[.int .i64 a0_0, .int .i64 a0_1, .int .i64 a0_2, .slice A0_3 l0_3.length c0_3]) (t := 27) ?_; intro gb288 hg w19 hbox hb; replace BK288 := Aside0.mk (hbox); replace GW288 := gwZ hg; replace GE288 := gwZ hg; replace HB := bnZ hb; clear hb hbox hg) | ((with_reducible refine gate_dst (N := 3) rfl ?_); refine boxZ (N := 3) (cs := #[.int .i64 a1_0, .int .i64 a1_1, .int .i64 a1_2, .slice A1_3 l1_3.length c1_3]) (t := 27) ?_; intro gb289 hg w20 hbox hb; replace BK289 := Aside0.mk (hbox); replace GW289 := gwZ hg; replace GE289 := gwZ hg; replace HB := bnZ hb; replace NB288_289 := nbZ BK288.out hg; replace NB289_288 := nbY BK288.out hg; replace BK288 := bkZ hb BK288.out; clear hb hbox hg; have hnb21 := NB288_289.out; have hnc21 := NB289_288.out; have hcz22_0 : w20.cell? ⟨gb288, 0, none⟩ = some (.int .i64 a0_0) := (blk_cell BK288.out 0).trans rfl; have hcz22_1 : w20.cell? ⟨gb288, 1, none⟩ = some (.int .i64 a0_1) := (blk_cell BK288.out 1).trans rfl; have hcz22_2 : w20.cell? ⟨gb288, 2, none⟩ = some (.int .i64 a0_2) := (blk_cell BK288.out 2).trans rfl; have hcz22_3 : w20.cell? ⟨gb288, 3, none⟩ = some (.slice A0_3 l0_3.length c0_3) := (blk_cell BK288.out 3).trans rfl; have hfz22_0 := blk_frozen BK288.out 0; have hfz22_1 := blk_frozen BK288.out 1; have hfz22_2 := blk_frozen BK288.out 2; have hfz22_3 := blk_frozen BK288.out 3) | ((with_reducible refine gate_callee (f := 72) rfl ?_); refine goesZ (some 6) Tryz.func72 #[.agg #[.int .i64 a0_0, .int .i64 a0_1, .int .i64 a0_2, .slice A0_3 l0_3.length c0_3]] ?_; (with_reducible refine (impl_PartOk.calls a0_0 a0_1 a0_2 _ _ l0_3 true _ ?side1 ?side2 A3.out HT.out ?sideB).mono ?_); (case side1 => exact (Kd.C_below HR0_3.out HB.out)); (case side2 => exact HC0_3.out); (case sideB => exact bZ); rintro e w23 ⟨rfl, hb⟩; refine ⟨_, rfl, ?_⟩; replace BK288 := bkZ hb BK288.out; replace BK289 := bkZ hb BK289.out; replace HB := bnZ hb; (try clear hb); (try clear hb2); (try clear hk); (try clear hi); have hcz24_0 : w23.cell? ⟨gb289, 0, none⟩ = some (.int .i64 a1_0) := (blk_cell BK289.out 0).trans rfl; have hcz24_1 : w23.cell? ⟨gb289, 1, none⟩ = some (.int .i64 a1_1) := (blk_cell BK289.out 1).trans rfl; have hcz24_2 : w23.cell? ⟨gb289, 2, none⟩ = some (.int .i64 a1_2) := (blk_cell BK289.out 2).trans rfl; have hcz24_3 : w23.cell? ⟨gb289, 3, none⟩ = some (.slice A1_3 l1_3.length c1_3) := (blk_cell BK289.out 3).trans rfl; have hfz24_0 := blk_frozen BK289.out 0; have hfz24_1 := blk_frozen BK289.out 1; have hfz24_2 := blk_frozen BK289.out 2; have hfz24_3 := blk_frozen BK289.out 3) | (go_at_call 72; (with_reducible refine (impl_PartOk.calls a1_0 a1_1 a1_2 _ _ l1_3 true _ ?side1 ?side2 A5.out HT.out ?sideB).mono ?_); (case side1 => exact (Kd.C_below HR1_3.out HB.out)); (case side2 => exact HC1_3.out); (case sideB => exact bZ); rintro e w25 ⟨rfl, hb⟩; replace BK288 := bkZ hb BK288.out; replace BK289 := bkZ hb BK289.out; replace HB := bnZ hb; (try clear hb); (try clear hb2); (try clear hk); (try clear hi); have hcz26_0 : w25.cell? ⟨gb288, 0, none⟩ = some (.int .i64 a0_0) := (blk_cell BK288.out 0).trans rfl; have hcz26_1 : w25.cell? ⟨gb288, 1, none⟩ = some (.int .i64 a0_1) := (blk_cell BK288.out 1).trans rfl; have hcz26_2 : w25.cell? ⟨gb288, 2, none⟩ = some (.int .i64 a0_2) := (blk_cell BK288.out 2).trans rfl; have hcz26_3 : w25.cell? ⟨gb288, 3, none⟩ = some (.slice A0_3 l0_3.length c0_3) := (blk_cell BK288.out 3).trans rfl; have hfz26_0 := blk_frozen BK288.out 0; have hfz26_1 := blk_frozen BK288.out 1; have hfz26_2 := blk_frozen BK288.out 2; have hfz26_3 := blk_frozen BK288.out 3; have hcz27_0 : w25.cell? ⟨gb289, 0, none⟩ = some (.int .i64 a1_0) := (blk_cell BK289.out 0).trans rfl; have hcz27_1 : w25.cell? ⟨gb289, 1, none⟩ = some (.int .i64 a1_1) := (blk_cell BK289.out 1).trans rfl; have hcz27_2 : w25.cell? ⟨gb289, 2, none⟩ = some (.int .i64 a1_2) := (blk_cell BK289.out 2).trans rfl; have hcz27_3 : w25.cell? ⟨gb289, 3, none⟩ = some (.slice A1_3 l1_3.length c1_3) := (blk_cell BK289.out 3).trans rfl; have hfz27_0 := blk_frozen BK289.out 0; have hfz27_1 := blk_frozen BK289.out 1; have hfz27_2 := blk_frozen BK289.out 2; have hfz27_3 := blk_frozen BK289.out 3))
            go_ret
            exact ⟨rfl, by repeat (with_reducible first | exact HB.out | apply below_alloc | apply pw_below_drewN | apply below_drew1 | refine below_set ?_ GE288.out | refine below_set ?_ GE289.out)⟩
        · rw [if_neg c8] at H
          have c8b0 : (a0_1 == a1_1) = false := beq_eq_false_iff_ne.mpr c8
          have c8b1 : (a0_1 != a1_1) = true := bne_iff_ne.mpr c8
          obtain rfl := Option.some.inj H
          go_enter Tryz.func33, Tryz.ntmps33
          go_wp2_with (first | ((with_reducible refine gate_dst (N := 2) rfl ?_); refine boxZ (N := 2) (cs := #[.int .i64 a0_0, .int .i64 a0_1, .int .i64 a0_2, .slice A0_3 l0_3.length c0_3]) (t := 27) ?_; intro gb288 hg w28 hbox hb; replace BK288 := Aside0.mk (hbox); replace GW288 := gwZ hg; replace GE288 := gwZ hg; replace HB := bnZ hb; clear hb hbox hg) | ((with_reducible refine gate_dst (N := 3) rfl ?_); refine boxZ (N := 3) (cs := #[.int .i64 a1_0, .int .i64 a1_1, .int .i64 a1_2, .slice A1_3 l1_3.length c1_3]) (t := 27) ?_; intro gb289 hg w29 hbox hb; replace BK289 := Aside0.mk (hbox); replace GW289 := gwZ hg; replace GE289 := gwZ hg; replace HB := bnZ hb; replace NB288_289 := nbZ BK288.out hg; replace NB289_288 := nbY BK288.out hg; replace BK288 := bkZ hb BK288.out; clear hb hbox hg; have hnb30 := NB288_289.out; have hnc30 := NB289_288.out; have hcz31_0 : w29.cell? ⟨gb288, 0, none⟩ = some (.int .i64 a0_0) := (blk_cell BK288.out 0).trans rfl; have hcz31_1 : w29.cell? ⟨gb288, 1, none⟩ = some (.int .i64 a0_1) := (blk_cell BK288.out 1).trans rfl; have hcz31_2 : w29.cell? ⟨gb288, 2, none⟩ = some (.int .i64 a0_2) := (blk_cell BK288.out 2).trans rfl; have hcz31_3 : w29.cell? ⟨gb288, 3, none⟩ = some (.slice A0_3 l0_3.length c0_3) := (blk_cell BK288.out 3).trans rfl; have hfz31_0 := blk_frozen BK288.out 0; have hfz31_1 := blk_frozen BK288.out 1; have hfz31_2 := blk_frozen BK288.out 2; have hfz31_3 := blk_frozen BK288.out 3) | ((with_reducible refine gate_callee (f := 72) rfl ?_); refine goesZ (some 6) Tryz.func72 #[.agg #[.int .i64 a0_0, .int .i64 a0_1, .int .i64 a0_2, .slice A0_3 l0_3.length c0_3]] ?_; (with_reducible refine (impl_PartOk.calls a0_0 a0_1 a0_2 _ _ l0_3 true _ ?side1 ?side2 A3.out HT.out ?sideB).mono ?_); (case side1 => exact (Kd.C_below HR0_3.out HB.out)); (case side2 => exact HC0_3.out); (case sideB => exact bZ); rintro e w32 ⟨rfl, hb⟩; refine ⟨_, rfl, ?_⟩; replace BK288 := bkZ hb BK288.out; replace BK289 := bkZ hb BK289.out; replace HB := bnZ hb; (try clear hb); (try clear hb2); (try clear hk); (try clear hi); have hcz33_0 : w32.cell? ⟨gb289, 0, none⟩ = some (.int .i64 a1_0) := (blk_cell BK289.out 0).trans rfl; have hcz33_1 : w32.cell? ⟨gb289, 1, none⟩ = some (.int .i64 a1_1) := (blk_cell BK289.out 1).trans rfl; have hcz33_2 : w32.cell? ⟨gb289, 2, none⟩ = some (.int .i64 a1_2) := (blk_cell BK289.out 2).trans rfl; have hcz33_3 : w32.cell? ⟨gb289, 3, none⟩ = some (.slice A1_3 l1_3.length c1_3) := (blk_cell BK289.out 3).trans rfl; have hfz33_0 := blk_frozen BK289.out 0; have hfz33_1 := blk_frozen BK289.out 1; have hfz33_2 := blk_frozen BK289.out 2; have hfz33_3 := blk_frozen BK289.out 3) | (go_at_call 72; (with_reducible refine (impl_PartOk.calls a1_0 a1_1 a1_2 _ _ l1_3 true _ ?side1 ?side2 A5.out HT.out ?sideB).mono ?_); (case side1 => exact (Kd.C_below HR1_3.out HB.out)); (case side2 => exact HC1_3.out); (case sideB => exact bZ); rintro e w34 ⟨rfl, hb⟩; replace BK288 := bkZ hb BK288.out; replace BK289 := bkZ hb BK289.out; replace HB := bnZ hb; (try clear hb); (try clear hb2); (try clear hk); (try clear hi); have hcz35_0 : w34.cell? ⟨gb288, 0, none⟩ = some (.int .i64 a0_0) := (blk_cell BK288.out 0).trans rfl; have hcz35_1 : w34.cell? ⟨gb288, 1, none⟩ = some (.int .i64 a0_1) := (blk_cell BK288.out 1).trans rfl; have hcz35_2 : w34.cell? ⟨gb288, 2, none⟩ = some (.int .i64 a0_2) := (blk_cell BK288.out 2).trans rfl; have hcz35_3 : w34.cell? ⟨gb288, 3, none⟩ = some (.slice A0_3 l0_3.length c0_3) := (blk_cell BK288.out 3).trans rfl; have hfz35_0 := blk_frozen BK288.out 0; have hfz35_1 := blk_frozen BK288.out 1; have hfz35_2 := blk_frozen BK288.out 2; have hfz35_3 := blk_frozen BK288.out 3; have hcz36_0 : w34.cell? ⟨gb289, 0, none⟩ = some (.int .i64 a1_0) := (blk_cell BK289.out 0).trans rfl; have hcz36_1 : w34.cell? ⟨gb289, 1, none⟩ = some (.int .i64 a1_1) := (blk_cell BK289.out 1).trans rfl; have hcz36_2 : w34.cell? ⟨gb289, 2, none⟩ = some (.int .i64 a1_2) := (blk_cell BK289.out 2).trans rfl; have hcz36_3 : w34.cell? ⟨gb289, 3, none⟩ = some (.slice A1_3 l1_3.length c1_3) := (blk_cell BK289.out 3).trans rfl; have hfz36_0 := blk_frozen BK289.out 0; have hfz36_1 := blk_frozen BK289.out 1; have hfz36_2 := blk_frozen BK289.out 2; have hfz36_3 := blk_frozen BK289.out 3))
          go_ret
          exact ⟨rfl, by repeat (with_reducible first | exact HB.out | apply below_alloc | apply pw_below_drewN | apply below_drew1 | refine below_set ?_ GE288.out | refine below_set ?_ GE289.out)⟩
      · rw [if_neg c7] at H
        have c7b0 : (a0_0 == a1_0) = false := beq_eq_false_iff_ne.mpr c7
        have c7b1 : (a0_0 != a1_0) = true := bne_iff_ne.mpr c7
        obtain rfl := Option.some.inj H
        go_enter Tryz.func33, Tryz.ntmps33
        go_wp2_with (first | ((with_reducible refine gate_dst (N := 2) rfl ?_); refine boxZ (N := 2) (cs := #[.int .i64 a0_0, .int .i64 a0_1, .int .i64 a0_2, .slice A0_3 l0_3.length c0_3]) (t := 27) ?_; intro gb288 hg w37 hbox hb; replace BK288 := Aside0.mk (hbox); replace GW288 := gwZ hg; replace GE288 := gwZ hg; replace HB := bnZ hb; clear hb hbox hg) | ((with_reducible refine gate_dst (N := 3) rfl ?_); refine boxZ (N := 3) (cs := #[.int .i64 a1_0, .int .i64 a1_1, .int .i64 a1_2, .slice A1_3 l1_3.length c1_3]) (t := 27) ?_; intro gb289 hg w38 hbox hb; replace BK289 := Aside0.mk (hbox); replace GW289 := gwZ hg; replace GE289 := gwZ hg; replace HB := bnZ hb; replace NB288_289 := nbZ BK288.out hg; replace NB289_288 := nbY BK288.out hg; replace BK288 := bkZ hb BK288.out; clear hb hbox hg; have hnb39 := NB288_289.out; have hnc39 := NB289_288.out; have hcz40_0 : w38.cell? ⟨gb288, 0, none⟩ = some (.int .i64 a0_0) := (blk_cell BK288.out 0).trans rfl; have hcz40_1 : w38.cell? ⟨gb288, 1, none⟩ = some (.int .i64 a0_1) := (blk_cell BK288.out 1).trans rfl; have hcz40_2 : w38.cell? ⟨gb288, 2, none⟩ = some (.int .i64 a0_2) := (blk_cell BK288.out 2).trans rfl; have hcz40_3 : w38.cell? ⟨gb288, 3, none⟩ = some (.slice A0_3 l0_3.length c0_3) := (blk_cell BK288.out 3).trans rfl; have hfz40_0 := blk_frozen BK288.out 0; have hfz40_1 := blk_frozen BK288.out 1; have hfz40_2 := blk_frozen BK288.out 2; have hfz40_3 := blk_frozen BK288.out 3) | ((with_reducible refine gate_callee (f := 72) rfl ?_); refine goesZ (some 6) Tryz.func72 #[.agg #[.int .i64 a0_0, .int .i64 a0_1, .int .i64 a0_2, .slice A0_3 l0_3.length c0_3]] ?_; (with_reducible refine (impl_PartOk.calls a0_0 a0_1 a0_2 _ _ l0_3 true _ ?side1 ?side2 A3.out HT.out ?sideB).mono ?_); (case side1 => exact (Kd.C_below HR0_3.out HB.out)); (case side2 => exact HC0_3.out); (case sideB => exact bZ); rintro e w41 ⟨rfl, hb⟩; refine ⟨_, rfl, ?_⟩; replace BK288 := bkZ hb BK288.out; replace BK289 := bkZ hb BK289.out; replace HB := bnZ hb; (try clear hb); (try clear hb2); (try clear hk); (try clear hi); have hcz42_0 : w41.cell? ⟨gb289, 0, none⟩ = some (.int .i64 a1_0) := (blk_cell BK289.out 0).trans rfl; have hcz42_1 : w41.cell? ⟨gb289, 1, none⟩ = some (.int .i64 a1_1) := (blk_cell BK289.out 1).trans rfl; have hcz42_2 : w41.cell? ⟨gb289, 2, none⟩ = some (.int .i64 a1_2) := (blk_cell BK289.out 2).trans rfl; have hcz42_3 : w41.cell? ⟨gb289, 3, none⟩ = some (.slice A1_3 l1_3.length c1_3) := (blk_cell BK289.out 3).trans rfl; have hfz42_0 := blk_frozen BK289.out 0; have hfz42_1 := blk_frozen BK289.out 1; have hfz42_2 := blk_frozen BK289.out 2; have hfz42_3 := blk_frozen BK289.out 3) | (go_at_call 72; (with_reducible refine (impl_PartOk.calls a1_0 a1_1 a1_2 _ _ l1_3 true _ ?side1 ?side2 A5.out HT.out ?sideB).mono ?_); (case side1 => exact (Kd.C_below HR1_3.out HB.out)); (case side2 => exact HC1_3.out); (case sideB => exact bZ); rintro e w43 ⟨rfl, hb⟩; replace BK288 := bkZ hb BK288.out; replace BK289 := bkZ hb BK289.out; replace HB := bnZ hb; (try clear hb); (try clear hb2); (try clear hk); (try clear hi); have hcz44_0 : w43.cell? ⟨gb288, 0, none⟩ = some (.int .i64 a0_0) := (blk_cell BK288.out 0).trans rfl; have hcz44_1 : w43.cell? ⟨gb288, 1, none⟩ = some (.int .i64 a0_1) := (blk_cell BK288.out 1).trans rfl; have hcz44_2 : w43.cell? ⟨gb288, 2, none⟩ = some (.int .i64 a0_2) := (blk_cell BK288.out 2).trans rfl; have hcz44_3 : w43.cell? ⟨gb288, 3, none⟩ = some (.slice A0_3 l0_3.length c0_3) := (blk_cell BK288.out 3).trans rfl; have hfz44_0 := blk_frozen BK288.out 0; have hfz44_1 := blk_frozen BK288.out 1; have hfz44_2 := blk_frozen BK288.out 2; have hfz44_3 := blk_frozen BK288.out 3; have hcz45_0 : w43.cell? ⟨gb289, 0, none⟩ = some (.int .i64 a1_0) := (blk_cell BK289.out 0).trans rfl; have hcz45_1 : w43.cell? ⟨gb289, 1, none⟩ = some (.int .i64 a1_1) := (blk_cell BK289.out 1).trans rfl; have hcz45_2 : w43.cell? ⟨gb289, 2, none⟩ = some (.int .i64 a1_2) := (blk_cell BK289.out 2).trans rfl; have hcz45_3 : w43.cell? ⟨gb289, 3, none⟩ = some (.slice A1_3 l1_3.length c1_3) := (blk_cell BK289.out 3).trans rfl; have hfz45_0 := blk_frozen BK289.out 0; have hfz45_1 := blk_frozen BK289.out 1; have hfz45_2 := blk_frozen BK289.out 2; have hfz45_3 := blk_frozen BK289.out 3))
        go_ret
        exact ⟨rfl, by repeat (with_reducible first | exact HB.out | apply below_alloc | apply pw_below_drewN | apply below_drew1 | refine below_set ?_ GE288.out | refine below_set ?_ GE289.out)⟩
    · replace c6 := Bool.eq_false_iff.mpr c6
      subst c6
      rw [if_neg (show ¬ (false = true) by decide)] at H
      obtain rfl := Option.some.inj H
      go_enter Tryz.func33, Tryz.ntmps33
      go_wp2_with (first | ((with_reducible refine gate_dst (N := 2) rfl ?_); refine boxZ (N := 2) (cs := #[.int .i64 a0_0, .int .i64 a0_1, .int .i64 a0_2, .slice A0_3 l0_3.length c0_3]) (t := 27) ?_; intro gb288 hg w46 hbox hb; replace BK288 := Aside0.mk (hbox); replace GW288 := gwZ hg; replace GE288 := gwZ hg; replace HB := bnZ hb; clear hb hbox hg) | ((with_reducible refine gate_dst (N := 3) rfl ?_); refine boxZ (N := 3) (cs := #[.int .i64 a1_0, .int .i64 a1_1, .int .i64 a1_2, .slice A1_3 l1_3.length c1_3]) (t := 27) ?_; intro gb289 hg w47 hbox hb; replace BK289 := Aside0.mk (hbox); replace GW289 := gwZ hg; replace GE289 := gwZ hg; replace HB := bnZ hb; replace NB288_289 := nbZ BK288.out hg; replace NB289_288 := nbY BK288.out hg; replace BK288 := bkZ hb BK288.out; clear hb hbox hg; have hnb48 := NB288_289.out; have hnc48 := NB289_288.out; have hcz49_0 : w47.cell? ⟨gb288, 0, none⟩ = some (.int .i64 a0_0) := (blk_cell BK288.out 0).trans rfl; have hcz49_1 : w47.cell? ⟨gb288, 1, none⟩ = some (.int .i64 a0_1) := (blk_cell BK288.out 1).trans rfl; have hcz49_2 : w47.cell? ⟨gb288, 2, none⟩ = some (.int .i64 a0_2) := (blk_cell BK288.out 2).trans rfl; have hcz49_3 : w47.cell? ⟨gb288, 3, none⟩ = some (.slice A0_3 l0_3.length c0_3) := (blk_cell BK288.out 3).trans rfl; have hfz49_0 := blk_frozen BK288.out 0; have hfz49_1 := blk_frozen BK288.out 1; have hfz49_2 := blk_frozen BK288.out 2; have hfz49_3 := blk_frozen BK288.out 3) | ((with_reducible refine gate_callee (f := 72) rfl ?_); refine goesZ (some 6) Tryz.func72 #[.agg #[.int .i64 a0_0, .int .i64 a0_1, .int .i64 a0_2, .slice A0_3 l0_3.length c0_3]] ?_; (with_reducible refine (impl_PartOk.calls a0_0 a0_1 a0_2 _ _ l0_3 true _ ?side1 ?side2 A3.out HT.out ?sideB).mono ?_); (case side1 => exact (Kd.C_below HR0_3.out HB.out)); (case side2 => exact HC0_3.out); (case sideB => exact bZ); rintro e w50 ⟨rfl, hb⟩; refine ⟨_, rfl, ?_⟩; replace BK288 := bkZ hb BK288.out; replace BK289 := bkZ hb BK289.out; replace HB := bnZ hb; (try clear hb); (try clear hb2); (try clear hk); (try clear hi); have hcz51_0 : w50.cell? ⟨gb289, 0, none⟩ = some (.int .i64 a1_0) := (blk_cell BK289.out 0).trans rfl; have hcz51_1 : w50.cell? ⟨gb289, 1, none⟩ = some (.int .i64 a1_1) := (blk_cell BK289.out 1).trans rfl; have hcz51_2 : w50.cell? ⟨gb289, 2, none⟩ = some (.int .i64 a1_2) := (blk_cell BK289.out 2).trans rfl; have hcz51_3 : w50.cell? ⟨gb289, 3, none⟩ = some (.slice A1_3 l1_3.length c1_3) := (blk_cell BK289.out 3).trans rfl; have hfz51_0 := blk_frozen BK289.out 0; have hfz51_1 := blk_frozen BK289.out 1; have hfz51_2 := blk_frozen BK289.out 2; have hfz51_3 := blk_frozen BK289.out 3) | (go_at_call 72; (with_reducible refine (impl_PartOk.calls a1_0 a1_1 a1_2 _ _ l1_3 false _ ?side1 ?side2 A5.out HT.out ?sideB).mono ?_); (case side1 => exact (Kd.C_below HR1_3.out HB.out)); (case side2 => exact HC1_3.out); (case sideB => exact bZ); rintro e w52 ⟨rfl, hb⟩; replace BK288 := bkZ hb BK288.out; replace BK289 := bkZ hb BK289.out; replace HB := bnZ hb; clear hb))
      go_ret
      exact ⟨rfl, by repeat (with_reducible first | exact HB.out | apply below_alloc | apply pw_below_drewN | apply below_drew1 | refine below_set ?_ GE288.out | refine below_set ?_ GE289.out)⟩
  · replace c4 := Bool.eq_false_iff.mpr c4
    subst c4
    rw [if_neg (show ¬ (false = true) by decide)] at H
    obtain rfl := Option.some.inj H
    go_enter Tryz.func33, Tryz.ntmps33
    go_wp2_with (first | ((with_reducible refine gate_dst (N := 2) rfl ?_); refine boxZ (N := 2) (cs := #[.int .i64 a0_0, .int .i64 a0_1, .int .i64 a0_2, .slice A0_3 l0_3.length c0_3]) (t := 27) ?_; intro gb288 hg w53 hbox hb; replace BK288 := Aside0.mk (hbox); replace GW288 := gwZ hg; replace GE288 := gwZ hg; replace HB := bnZ hb; clear hb hbox hg) | ((with_reducible refine gate_dst (N := 3) rfl ?_); refine boxZ (N := 3) (cs := #[.int .i64 a1_0, .int .i64 a1_1, .int .i64 a1_2, .slice A1_3 l1_3.length c1_3]) (t := 27) ?_; intro gb289 hg w54 hbox hb; replace BK289 := Aside0.mk (hbox); replace GW289 := gwZ hg; replace GE289 := gwZ hg; replace HB := bnZ hb; replace NB288_289 := nbZ BK288.out hg; replace NB289_288 := nbY BK288.out hg; replace BK288 := bkZ hb BK288.out; clear hb hbox hg; have hnb55 := NB288_289.out; have hnc55 := NB289_288.out; have hcz56_0 : w54.cell? ⟨gb288, 0, none⟩ = some (.int .i64 a0_0) := (blk_cell BK288.out 0).trans rfl; have hcz56_1 : w54.cell? ⟨gb288, 1, none⟩ = some (.int .i64 a0_1) := (blk_cell BK288.out 1).trans rfl; have hcz56_2 : w54.cell? ⟨gb288, 2, none⟩ = some (.int .i64 a0_2) := (blk_cell BK288.out 2).trans rfl; have hcz56_3 : w54.cell? ⟨gb288, 3, none⟩ = some (.slice A0_3 l0_3.length c0_3) := (blk_cell BK288.out 3).trans rfl; have hfz56_0 := blk_frozen BK288.out 0; have hfz56_1 := blk_frozen BK288.out 1; have hfz56_2 := blk_frozen BK288.out 2; have hfz56_3 := blk_frozen BK288.out 3) | ((with_reducible refine gate_callee (f := 72) rfl ?_); refine goesZ (some 6) Tryz.func72 #[.agg #[.int .i64 a0_0, .int .i64 a0_1, .int .i64 a0_2, .slice A0_3 l0_3.length c0_3]] ?_; (with_reducible refine (impl_PartOk.calls a0_0 a0_1 a0_2 _ _ l0_3 false _ ?side1 ?side2 A3.out HT.out ?sideB).mono ?_); (case side1 => exact (Kd.C_below HR0_3.out HB.out)); (case side2 => exact HC0_3.out); (case sideB => exact bZ); rintro e w57 ⟨rfl, hb⟩; refine ⟨_, rfl, ?_⟩; replace BK288 := bkZ hb BK288.out; replace BK289 := bkZ hb BK289.out; replace HB := bnZ hb; clear hb))
    go_ret
    exact ⟨rfl, by repeat (with_reducible first | exact HB.out | apply below_alloc | apply pw_below_drewN | apply below_drew1 | refine below_set ?_ GE288.out | refine below_set ?_ GE289.out)⟩
theorem tmod31 (n : Int) : -30 ≤ Int.tmod n 31 ∧ Int.tmod n 31 ≤ 30 ∧ Int.tmod n 31 % 31 = n % 31 := by
 have h := @Int.tmod_eq_emod n 31
 split at h <;> simp at h <;> omega
theorem elementOf_f (n : Int) : impl_elementOf.f n = some (n % 31) := by
 unfold impl_elementOf.f
 have h := tmod31 n
 rw [show wrap64 (Int.tmod n 31 + 31) = Int.tmod n 31 + 31 by unfold wrap64; omega, Int.tmod_eq_emod_of_nonneg (by omega)]
 congr 1; omega
theorem plus_f (a b : Int) (ha : 0 ≤ a ∧ a ≤ 30) (hb : 0 ≤ b ∧ b ≤ 30) : impl_element_plus.f a b = some ((a + b) % 31) := by
 unfold impl_element_plus.f
 rw [show wrap64 (a + b) = a + b by unfold wrap64; omega, elementOf_f]; rfl
set_option maxHeartbeats 1000000 in
set_option maxRecDepth 100000 in
theorem plus_still (a b : Int) (w : World) (ha : 0 ≤ a ∧ a ≤ 30) (hb : 0 ≤ b ∧ b ≤ 30) : Calls Tryz.prog 70 #[.int .i64 a, .int .i64 b] w fun e w' => e = .returned (.int .i64 ((a + b) % 31)) ∧ w' = w := by
 obtain ⟨h1, h2⟩ := ha
 obtain ⟨h3, h4⟩ := hb
 have h5 : 0 ≤ a + b := by omega
 go_enter Tryz.func70, Tryz.ntmps70
 go_wp2
 go_ret
 exact ⟨by first | rfl | (simp; done) | (simp; omega), rfl⟩
set_option maxHeartbeats 1000000 in
set_option maxRecDepth 100000 in
theorem times_still (a b : Int) (w : World) (ha : 0 ≤ a ∧ a ≤ 30) (hb : 0 ≤ b ∧ b ≤ 30) : Calls Tryz.prog 67 #[.int .i64 a, .int .i64 b] w fun e w' => e = .returned (.int .i64 ((a * b) % 31)) ∧ w' = w := by
 have h5 : 0 ≤ a * b := Int.mul_nonneg ha.1 hb.1
 have h6 : a * b ≤ 30 * 30 := Int.mul_le_mul ha.2 hb.2 hb.1 (by omega)
 obtain ⟨h1, h2⟩ := ha
 obtain ⟨h3, h4⟩ := hb
 go_enter Tryz.func67, Tryz.ntmps67
 go_wp2
 go_ret
 exact ⟨by first | rfl | (simp; done) | (simp; omega), rfl⟩
def cells4 (x0 x1 x2 x3 : Int) : Array Value := #[.int .i64 x0, .int .i64 x1, .int .i64 x2, .int .i64 x3]
def fourSum (l0 l1 : List Int) (j : Nat) : Int := (rd l0 j + rd l1 j) % 31
def dec4 (l0 l1 : List Int) : Bool := (fourSum l0 l1 0 * fourSum l0 l1 1 % 31 == fourSum l0 l1 2) && (fourSum l0 l1 3 == 0)
def Part4 (l0 l1 : List Int) (k : Nat) (x0 x1 x2 x3 : Int) : Prop := (0 < k → x0 = fourSum l0 l1 0) ∧ (1 < k → x1 = fourSum l0 l1 1) ∧ (2 < k → x2 = fourSum l0 l1 2) ∧ (3 < k → x3 = fourSum l0 l1 3)
theorem rd_ok (l : List Int) (h : l.all fOk = true) (i : Nat) : 0 ≤ rd l i ∧ rd l i ≤ 30 := by
 unfold rd
 simp only [Int.toNat_natCast, List.getD_eq_getElem?_getD]
 rcases Nat.lt_or_ge i l.length with hi | hi
 ·have := List.all_eq_true.1 h l[i] (List.getElem_mem hi)
  rw [List.getElem?_eq_getElem hi]
  simp only [fOk, Bool.and_eq_true, decide_eq_true_eq] at this
  exact this
 ·rw [List.getElem?_eq_none hi]; simp
set_option maxHeartbeats 2000000 in
set_option maxRecDepth 100000 in
theorem QueryDecide.road (A0 A1 : Option Addr) (c0 c1 : Nat) (l0 l1 : List Int) (w : World) (hr0 : Kd.C (Kd.int .i64) w A0 l0.length l0) (hr1 : Kd.C (Kd.int .i64) w A1 l1.length l1)
 (h0 : l0.length = 4) (h1 : l1.length = 4) (ha : l0.all fOk = true) (hb : l1.all fOk = true) (hc0 : l0.length ≤ c0) (hc1 : l1.length ≤ c1) :
  Calls Tryz.prog 34 #[.slice A0 l0.length c0, .slice A1 l1.length c1] w fun e w' => e = .returned (.bool (dec4 l0 l1)) ∧ Below w.heap.size w w' := by
 have e0 : impl_elementsOk.f l0 4 = some true := by simp [impl_elementsOk.f, h0, ha]
 have e1 : impl_elementsOk.f l1 4 = some true := by simp [impl_elementsOk.f, h1, hb]
 have PL : Aside0 (∀ k : Nat, impl_element_plus.f (rd l0 k) (rd l1 k) = some (fourSum l0 l1 k)) := ⟨fun k => plus_f _ _ (rd_ok l0 ha k) (rd_ok l1 hb k)⟩
 have E0 := Aside0.mk e0
 have E1 := Aside0.mk e1
 have HR0 := Aside0.mk hr0
 have HR1 := Aside0.mk hr1
 have b0 : ((l0.length : Int) != 4) = false := by simp [h0]
 have b1 : ((l1.length : Int) != 4) = false := by simp [h1]
 have d0 : (l0.length != 4) = false := by simp [h0]
 have d1 : (l1.length != 4) = false := by simp [h1]
 have H0 := Aside0.mk h0
 have H1 := Aside0.mk h1
 have hA0 := Aside0.mk ha
 have hA1 := Aside0.mk hb
 clear e0 e1 hr0 hr1 ha hb h0 h1
 go_enter Tryz.func34, Tryz.ntmps34
 go_wp2_with (first | (go_at_call 73; (with_reducible refine (impl_elementsOk.calls A0 c0 l0 4 true _ HR0.out hc0 E0.out).mono ?_); rintro e w' ⟨rfl, ⟨nd, rfl⟩⟩) | (go_at_call 73; (with_reducible refine (impl_elementsOk.calls A1 c1 l1 4 true _ (Kd.C_below HR1.out (by repeat (first | exact Below.refl _ _ | apply pw_below_drewN | apply below_drew))) hc1 E1.out).mono ?_); rintro e w' ⟨rfl, ⟨nd, rfl⟩⟩))
 go_loopw [25] (fun i wr => ∃ (k : Nat) (x0 x1 x2 x3 : Int), k ≤ 4 ∧ i = .int .i64 k ∧ Aside0 (wr.heap[w.heap.size]? = some (.cells (cells4 x0 x1 x2 x3) 90 (0, 0))) ∧ Aside0 (Below w.heap.size w wr) ∧ Aside0 (Part4 l0 l1 k x0 x1 x2 x3)) (fun i _ => 4 - (intOf i).toNat)
 case atStart => exact ⟨0, 0, 0, 0, 0, by omega, rfl, ⟨by simpa [cells4] using blk_new (w.drewN _) _⟩, ⟨by repeat (first | exact Below.refl _ _ | apply below_alloc | apply pw_below_drewN | apply below_drew)⟩, ⟨by unfold Part4; omega⟩⟩
 case round =>
  obtain ⟨k, x0, x1, x2, x3, hk, rfl, HC, HB, HP⟩ := hrel
  rcases (show k = 0 ∨ k = 1 ∨ k = 2 ∨ k = 3 ∨ k = 4 by omega) with rfl | rfl | rfl | rfl | rfl
  ·have hb0 : (0 : Int) < (l0.length : Int) := by have := H0.out; omega
   have hb1 : (0 : Int) < (l1.length : Int) := by have := H1.out; omega
   obtain ⟨ad0, e0, hx0⟩ := Kd.at_int HR0.out (0 : Int) (by omega) hb0
   cases e0
   obtain ⟨ad1, e1, hx1⟩ := Kd.at_int HR1.out (0 : Int) (by omega) hb1
   cases e1
   replace hx0 := (HB.out.cell (World.block_lt_of_cell? w _ hx0)).trans hx0
   replace hx1 := (HB.out.cell (World.block_lt_of_cell? w _ hx1)).trans hx1
   have hn0 : 0 < l0.length := by have := H0.out; omega
   have hn1 : 0 < l1.length := by have := H1.out; omega
   have hy0 : wr.cell? ad0 = some (.int .i64 (rd l0 0)) := hx0
   have hy1 : wr.cell? ad1 = some (.int .i64 (rd l1 0)) := hx1
   clear hx0 hx1
   go_wp2
   go_still_tail 11, (by kernel_rfl)
   still_call (plus_still _ _ _ (rd_ok l0 hA0.out 0) (rd_ok l1 hA1.out 0))
   repeat still_step
   refine wpStill_nil ?_
   change wpList _ _ _ _ _ wr.drew
   have hcell : wr.drew.cell? ⟨w.heap.size, 0, none⟩ = some (.int .i64 x0) := blk_cell HC.out 0
   have hfro : wr.drew.frozen? ⟨w.heap.size, 0, none⟩ = false := blk_frozen HC.out 0
   have HC2 : Aside0 (wr.drew.heap[w.heap.size]? = some (.cells (cells4 x0 x1 x2 x3) 90 (0, 0))) := ⟨HC.out⟩
   have HB2 : Aside0 (Below w.heap.size w wr.drew) := ⟨below_drew HB.out⟩
   generalize hW : wr.drew = w2 at hcell hfro HC2 HB2
   clear hW
   go_wp2
   go_roundw
   case rel => exact ⟨1, fourSum l0 l1 0, x1, x2, x3, by omega, by first | rfl | go_num, ⟨blk_put HC2.out 0 _ rfl⟩, ⟨below_set HB2.out (Nat.le_refl _)⟩, ⟨by have := HP.out; unfold Part4 at this ⊢; refine ⟨?_, ?_, ?_, ?_⟩ <;> intro hh <;> first | rfl | omega | exact this.1 (by omega) | exact this.2.1 (by omega) | exact this.2.2.1 (by omega)⟩⟩
   case measure => simp [intOf]
  ·have hb0 : (1 : Int) < (l0.length : Int) := by have := H0.out; omega
   have hb1 : (1 : Int) < (l1.length : Int) := by have := H1.out; omega
   obtain ⟨ad0, e0, hx0⟩ := Kd.at_int HR0.out (1 : Int) (by omega) hb0
   cases e0
   obtain ⟨ad1, e1, hx1⟩ := Kd.at_int HR1.out (1 : Int) (by omega) hb1
   cases e1
   replace hx0 := (HB.out.cell (World.block_lt_of_cell? w _ hx0)).trans hx0
   replace hx1 := (HB.out.cell (World.block_lt_of_cell? w _ hx1)).trans hx1
   have hn0 : 1 < l0.length := by have := H0.out; omega
   have hn1 : 1 < l1.length := by have := H1.out; omega
   have hy0 : wr.cell? ⟨ad0.block, ad0.off + 1, none⟩ = some (.int .i64 (rd l0 1)) := hx0
   have hy1 : wr.cell? ⟨ad1.block, ad1.off + 1, none⟩ = some (.int .i64 (rd l1 1)) := hx1
   clear hx0 hx1
   go_wp2
   go_still_tail 11, (by kernel_rfl)
   still_call (plus_still _ _ _ (rd_ok l0 hA0.out 1) (rd_ok l1 hA1.out 1))
   repeat still_step
   refine wpStill_nil ?_
   change wpList _ _ _ _ _ wr.drew
   have hcell : wr.drew.cell? ⟨w.heap.size, 1, none⟩ = some (.int .i64 x1) := blk_cell HC.out 1
   have hfro : wr.drew.frozen? ⟨w.heap.size, 1, none⟩ = false := blk_frozen HC.out 1
   have HC2 : Aside0 (wr.drew.heap[w.heap.size]? = some (.cells (cells4 x0 x1 x2 x3) 90 (0, 0))) := ⟨HC.out⟩
   have HB2 : Aside0 (Below w.heap.size w wr.drew) := ⟨below_drew HB.out⟩
   generalize hW : wr.drew = w2 at hcell hfro HC2 HB2
   clear hW
   go_wp2
   go_roundw
   case rel => exact ⟨2, x0, fourSum l0 l1 1, x2, x3, by omega, by first | rfl | go_num, ⟨blk_put HC2.out 1 _ rfl⟩, ⟨below_set HB2.out (Nat.le_refl _)⟩, ⟨by have := HP.out; unfold Part4 at this ⊢; refine ⟨?_, ?_, ?_, ?_⟩ <;> intro hh <;> first | rfl | omega | exact this.1 (by omega) | exact this.2.1 (by omega) | exact this.2.2.1 (by omega)⟩⟩
   case measure => simp [intOf]
  ·have hb0 : (2 : Int) < (l0.length : Int) := by have := H0.out; omega
   have hb1 : (2 : Int) < (l1.length : Int) := by have := H1.out; omega
   obtain ⟨ad0, e0, hx0⟩ := Kd.at_int HR0.out (2 : Int) (by omega) hb0
   cases e0
   obtain ⟨ad1, e1, hx1⟩ := Kd.at_int HR1.out (2 : Int) (by omega) hb1
   cases e1
   replace hx0 := (HB.out.cell (World.block_lt_of_cell? w _ hx0)).trans hx0
   replace hx1 := (HB.out.cell (World.block_lt_of_cell? w _ hx1)).trans hx1
   have hn0 : 2 < l0.length := by have := H0.out; omega
   have hn1 : 2 < l1.length := by have := H1.out; omega
   have hy0 : wr.cell? ⟨ad0.block, ad0.off + 2, none⟩ = some (.int .i64 (rd l0 2)) := hx0
   have hy1 : wr.cell? ⟨ad1.block, ad1.off + 2, none⟩ = some (.int .i64 (rd l1 2)) := hx1
   clear hx0 hx1
   go_wp2
   go_still_tail 11, (by kernel_rfl)
   still_call (plus_still _ _ _ (rd_ok l0 hA0.out 2) (rd_ok l1 hA1.out 2))
   repeat still_step
   refine wpStill_nil ?_
   change wpList _ _ _ _ _ wr.drew
   have hcell : wr.drew.cell? ⟨w.heap.size, 2, none⟩ = some (.int .i64 x2) := blk_cell HC.out 2
   have hfro : wr.drew.frozen? ⟨w.heap.size, 2, none⟩ = false := blk_frozen HC.out 2
   have HC2 : Aside0 (wr.drew.heap[w.heap.size]? = some (.cells (cells4 x0 x1 x2 x3) 90 (0, 0))) := ⟨HC.out⟩
   have HB2 : Aside0 (Below w.heap.size w wr.drew) := ⟨below_drew HB.out⟩
   generalize hW : wr.drew = w2 at hcell hfro HC2 HB2
   clear hW
   go_wp2
   go_roundw
   case rel => exact ⟨3, x0, x1, fourSum l0 l1 2, x3, by omega, by first | rfl | go_num, ⟨blk_put HC2.out 2 _ rfl⟩, ⟨below_set HB2.out (Nat.le_refl _)⟩, ⟨by have := HP.out; unfold Part4 at this ⊢; refine ⟨?_, ?_, ?_, ?_⟩ <;> intro hh <;> first | rfl | omega | exact this.1 (by omega) | exact this.2.1 (by omega) | exact this.2.2.1 (by omega)⟩⟩
   case measure => simp [intOf]
  ·have hb0 : (3 : Int) < (l0.length : Int) := by have := H0.out; omega
   have hb1 : (3 : Int) < (l1.length : Int) := by have := H1.out; omega
   obtain ⟨ad0, e0, hx0⟩ := Kd.at_int HR0.out (3 : Int) (by omega) hb0
   cases e0
   obtain ⟨ad1, e1, hx1⟩ := Kd.at_int HR1.out (3 : Int) (by omega) hb1
   cases e1
   replace hx0 := (HB.out.cell (World.block_lt_of_cell? w _ hx0)).trans hx0
   replace hx1 := (HB.out.cell (World.block_lt_of_cell? w _ hx1)).trans hx1
   have hn0 : 3 < l0.length := by have := H0.out; omega
   have hn1 : 3 < l1.length := by have := H1.out; omega
   have hy0 : wr.cell? ⟨ad0.block, ad0.off + 3, none⟩ = some (.int .i64 (rd l0 3)) := hx0
   have hy1 : wr.cell? ⟨ad1.block, ad1.off + 3, none⟩ = some (.int .i64 (rd l1 3)) := hx1
   clear hx0 hx1
   go_wp2
   go_still_tail 11, (by kernel_rfl)
   still_call (plus_still _ _ _ (rd_ok l0 hA0.out 3) (rd_ok l1 hA1.out 3))
   repeat still_step
   refine wpStill_nil ?_
   change wpList _ _ _ _ _ wr.drew
   have hcell : wr.drew.cell? ⟨w.heap.size, 3, none⟩ = some (.int .i64 x3) := blk_cell HC.out 3
   have hfro : wr.drew.frozen? ⟨w.heap.size, 3, none⟩ = false := blk_frozen HC.out 3
   have HC2 : Aside0 (wr.drew.heap[w.heap.size]? = some (.cells (cells4 x0 x1 x2 x3) 90 (0, 0))) := ⟨HC.out⟩
   have HB2 : Aside0 (Below w.heap.size w wr.drew) := ⟨below_drew HB.out⟩
   generalize hW : wr.drew = w2 at hcell hfro HC2 HB2
   clear hW
   go_wp2
   go_roundw
   case rel => exact ⟨4, x0, x1, x2, fourSum l0 l1 3, by omega, by first | rfl | go_num, ⟨blk_put HC2.out 3 _ rfl⟩, ⟨below_set HB2.out (Nat.le_refl _)⟩, ⟨by have := HP.out; unfold Part4 at this ⊢; refine ⟨?_, ?_, ?_, ?_⟩ <;> intro hh <;> first | rfl | omega | exact this.1 (by omega) | exact this.2.1 (by omega) | exact this.2.2.1 (by omega)⟩⟩
   case measure => simp [intOf]
  ·have e4 : ((4 : Nat) : Int) = 4 := rfl
   rw [e4]
   clear e4
   obtain ⟨rfl, rfl, rfl, rfl⟩ : x0 = fourSum l0 l1 0 ∧ x1 = fourSum l0 l1 1 ∧ x2 = fourSum l0 l1 2 ∧ x3 = fourSum l0 l1 3 := by have := HP.out; unfold Part4 at this; exact ⟨this.1 (by omega), this.2.1 (by omega), this.2.2.1 (by omega), this.2.2.2 (by omega)⟩
   have g0 : wr.cell? ⟨w.heap.size, 0, none⟩ = some (.int .i64 (fourSum l0 l1 0)) := blk_cell HC.out 0
   have g1 : wr.cell? ⟨w.heap.size, 1, none⟩ = some (.int .i64 (fourSum l0 l1 1)) := blk_cell HC.out 1
   have g2 : wr.cell? ⟨w.heap.size, 2, none⟩ = some (.int .i64 (fourSum l0 l1 2)) := blk_cell HC.out 2
   have g3 : wr.cell? ⟨w.heap.size, 3, none⟩ = some (.int .i64 (fourSum l0 l1 3)) := blk_cell HC.out 3
   have hs : ∀ j, 0 ≤ fourSum l0 l1 j ∧ fourSum l0 l1 j ≤ 30 := fun j => by unfold fourSum; omega
   have HS := Aside0.mk hs
   clear hs
   cases hd : (fourSum l0 l1 0 * fourSum l0 l1 1 % 31 == fourSum l0 l1 2)
   ·have HD := Aside0.mk hd
    go_wp2
    refine wp_region_still_lit (by kernel_rfl) (by kernel_rfl) ?_
    repeat still_step
    still_call (times_still _ _ _ (HS.out 0) (HS.out 1))
    repeat still_step
    refine wpStill_nil ?_
    change Exit.then _ _ _ _ wr.drew
    go_wp2
    go_ret
    exact ⟨by unfold dec4; rw [HD.out]; first | rfl | (simp; done), below_drew HB.out⟩
   ·have HD := Aside0.mk hd
    go_wp2
    refine wp_region_still_lit (by kernel_rfl) (by kernel_rfl) ?_
    repeat still_step
    still_call (times_still _ _ _ (HS.out 0) (HS.out 1))
    repeat still_step
    refine wpStill_nil ?_
    change Exit.then _ _ _ _ wr.drew
    go_wp2
    go_ret
    exact ⟨by unfold dec4; rw [HD.out]; first | rfl | (simp; done), below_drew HB.out⟩
def impl_QueryDecide.f (l0 l1 : List Int) : Option Bool := some (decide (l0.length = 4) && decide (l1.length = 4) && l0.all fOk && l1.all fOk && dec4 l0 l1)
set_option maxHeartbeats 1000000 in
set_option maxRecDepth 100000 in
theorem impl_QueryDecide.calls (A0 : Option Addr) (c0 : Nat) (l0 : List Int) (A1 : Option Addr) (c1 : Nat) (l1 : List Int) (r : Bool) (w : World) (hr0 : Kd.C (Kd.int .i64) w A0 l0.length l0) (hc0 : l0.length ≤ c0) (hr1 : Kd.C (Kd.int .i64) w A1 l1.length l1) (hc1 : l1.length ≤ c1) (h : impl_QueryDecide.f l0 l1 = some r) :
  Calls Tryz.prog 34 #[.slice A0 l0.length c0, .slice A1 l1.length c1] w fun e w' => e = .returned (.bool r) ∧ Below w.heap.size w w' := by
 obtain rfl := Option.some.inj h
 clear h
 by_cases h0 : l0.length = 4
 ·by_cases h1 : l1.length = 4
  ·cases ha : l0.all fOk
   ·have e0 : impl_elementsOk.f l0 4 = some false := by simp [impl_elementsOk.f, h0, ha]
    have er : (decide (l0.length = 4) && decide (l1.length = 4) && false && l1.all fOk && dec4 l0 l1) = false := by simp
    rw [er]
    have E0 := Aside0.mk e0
    have HR0 := Aside0.mk hr0
    have b0 : ((l0.length : Int) != 4) = false := by simp [h0]
    have b1 : ((l1.length : Int) != 4) = false := by simp [h1]
    have d0 : (l0.length != 4) = false := by simp [h0]
    have d1 : (l1.length != 4) = false := by simp [h1]
    clear e0 er hr0 ha h0 h1
    go_enter Tryz.func34, Tryz.ntmps34
    go_wp2_with (first | (go_at_call 73; (with_reducible refine (impl_elementsOk.calls A0 c0 l0 4 false _ HR0.out hc0 E0.out).mono ?_); rintro e w' ⟨rfl, ⟨nd, rfl⟩⟩))
    go_ret
    exact ⟨by first | rfl | (simp; done), (by repeat (first | exact Below.refl _ _ | apply pw_below_drewN | apply below_drew))⟩
   ·cases hb : l1.all fOk
    ·have e0 : impl_elementsOk.f l0 4 = some true := by simp [impl_elementsOk.f, h0, ha]
     have e1 : impl_elementsOk.f l1 4 = some false := by simp [impl_elementsOk.f, h1, hb]
     have er : (decide (l0.length = 4) && decide (l1.length = 4) && true && false && dec4 l0 l1) = false := by simp
     rw [er]
     have E0 := Aside0.mk e0
     have E1 := Aside0.mk e1
     have HR0 := Aside0.mk hr0
     have HR1 := Aside0.mk hr1
     have b0 : ((l0.length : Int) != 4) = false := by simp [h0]
     have b1 : ((l1.length : Int) != 4) = false := by simp [h1]
     have d0 : (l0.length != 4) = false := by simp [h0]
     have d1 : (l1.length != 4) = false := by simp [h1]
     clear e0 e1 er hr0 hr1 ha hb h0 h1
     go_enter Tryz.func34, Tryz.ntmps34
     go_wp2_with (first | (go_at_call 73; (with_reducible refine (impl_elementsOk.calls A0 c0 l0 4 true _ HR0.out hc0 E0.out).mono ?_); rintro e w' ⟨rfl, ⟨nd, rfl⟩⟩) | (go_at_call 73; (with_reducible refine (impl_elementsOk.calls A1 c1 l1 4 false _ (Kd.C_below HR1.out (by repeat (first | exact Below.refl _ _ | apply pw_below_drewN | apply below_drew))) hc1 E1.out).mono ?_); rintro e w' ⟨rfl, ⟨nd, rfl⟩⟩))
     go_ret
     exact ⟨by first | rfl | (simp; done), (by repeat (first | exact Below.refl _ _ | apply pw_below_drewN | apply below_drew))⟩
    ·have er : (decide (l0.length = 4) && decide (l1.length = 4) && true && true && dec4 l0 l1) = dec4 l0 l1 := by simp [h0, h1]
     rw [er]
     exact QueryDecide.road A0 A1 c0 c1 l0 l1 w hr0 hr1 h0 h1 ha hb hc0 hc1
  ·have er : (decide (l0.length = 4) && decide (l1.length = 4) && l0.all fOk && l1.all fOk && dec4 l0 l1) = false := by simp [h1]
   rw [er]
   have b0 : ((l0.length : Int) != 4) = false := by simp [h0]
   have b1 : ((l1.length : Int) != 4) = true := by simp; omega
   have d0 : (l0.length != 4) = false := by simp [h0]
   have d1 : (l1.length != 4) = true := by simp [h1]
   clear er h0 h1
   go_enter Tryz.func34, Tryz.ntmps34
   go_wp2
   go_ret
   exact ⟨by first | rfl | (simp; done), (by repeat (first | exact Below.refl _ _ | apply pw_below_drewN | apply below_drew))⟩
 ·have er : (decide (l0.length = 4) && decide (l1.length = 4) && l0.all fOk && l1.all fOk && dec4 l0 l1) = false := by simp [h0]
  rw [er]
  have b0 : ((l0.length : Int) != 4) = true := by simp; omega
  have d0 : (l0.length != 4) = true := by simp [h0]
  clear er h0
  go_enter Tryz.func34, Tryz.ntmps34
  go_wp2
  go_ret
  exact ⟨by first | rfl | (simp; done), (by repeat (first | exact Below.refl _ _ | apply pw_below_drewN | apply below_drew))⟩
def impl_PartsTake.f (k : Nat) (a0_0 : Int) (a0_1 : Int) (a0_2 : Int) (l0_3 : List Int) (a1_0 : Int) (a1_1 : Int) (a1_2 : Int) (l1_3 : List Int) (a2 : Int) (a3 : Int) : Option (Bool) := (impl_PartsFit.f a0_0 a0_1 a0_2 l0_3 a1_0 a1_1 a1_2 l1_3).bind fun t294 => (if t294 = true then ((impl_QueryAsk.f k a0_1 l0_3 true a2 a3).bind fun bt295 => ((impl_QueryAsk.f k a1_1 l1_3 false a2 a3).bind fun bt299 => (if bt295.2 = true then (if bt299.2 = true then ((impl_QueryDecide.f bt295.1 bt299.1).bind fun t303 => (some t303)) else (some false)) else (some false)))) else (some false))
set_option maxHeartbeats 8000000 in
set_option maxRecDepth 100000 in
theorem impl_PartsTake.calls (k : Nat) (a0_0 : Int) (a0_1 : Int) (a0_2 : Int) (A0_3 : Option Addr) (c0_3 : Nat) (l0_3 : List Int) (a1_0 : Int) (a1_1 : Int) (a1_2 : Int) (A1_3 : Option Addr) (c1_3 : Nat) (l1_3 : List Int) (a2 : Int) (a3 : Int) (r : Bool) (w : World) (hr0_3 : Kd.C (Kd.int .i64) w A0_3 l0_3.length l0_3) (hc0_3 : l0_3.length ≤ c0_3) (hr1_3 : Kd.C (Kd.int .i64) w A1_3 l1_3.length l1_3) (hc1_3 : l1_3.length ≤ c1_3) (h : impl_PartsTake.f k a0_0 a0_1 a0_2 l0_3 a1_0 a1_1 a1_2 l1_3 a2 a3 = some r) (hT : typeAt w) :
    Calls Tryz.prog 13 #[.agg #[.int .i64 a0_0, .int .i64 a0_1, .int .i64 a0_2, .slice A0_3 l0_3.length c0_3], .agg #[.int .i64 a1_0, .int .i64 a1_1, .int .i64 a1_2, .slice A1_3 l1_3.length c1_3], .int .i64 a2, .int .i64 a3] w fun e w' => e = .returned (.bool r) ∧ Below w.heap.size w w' := by
  have HT := Aside0.mk hT
  clear hT
  have hu27 := Tryz.underlying27
  have HR0_3 := Aside0.mk hr0_3
  have HC0_3 := Aside0.mk hc0_3
  clear hr0_3 hc0_3
  have HR1_3 := Aside0.mk hr1_3
  have HC1_3 := Aside0.mk hc1_3
  clear hr1_3 hc1_3
  have HB := Aside0.mk (Below.refl w.heap.size w)
  have H := h
  unfold impl_PartsTake.f at H
  clear h
  replace H := bnd H
  obtain ⟨t294, A5, H⟩ := H
  by_cases c6 : t294 = true
  · subst c6
    rw [if_pos rfl] at H
    replace H := bnd H
    obtain ⟨⟨t295, t296⟩, A7, H⟩ := H
    dsimp only at H
    replace H := bnd H
    obtain ⟨⟨t299, t300⟩, A8, H⟩ := H
    dsimp only at H
    by_cases c9 : t296 = true
    · subst c9
      rw [if_pos rfl] at H
      by_cases c10 : t300 = true
      · subst c10
        rw [if_pos rfl] at H
        replace H := bnd H
        obtain ⟨t303, A11, H⟩ := H
        obtain rfl := Option.some.inj H
        go_enter Tryz.func13, Tryz.ntmps13
        go_wp2_with (first | ((with_reducible refine gate_dst (N := 4) rfl ?_); refine boxZ (N := 4) (cs := #[.int .i64 a0_0, .int .i64 a0_1, .int .i64 a0_2, .slice A0_3 l0_3.length c0_3]) (t := 27) ?_; intro gb292 hg w12 hbox hb; replace BK292 := Aside0.mk (hbox); replace GW292 := gwZ hg; replace GE292 := gwZ hg; replace HB := bnZ hb; clear hb hbox hg) | ((with_reducible refine gate_dst (N := 5) rfl ?_); refine boxZ (N := 5) (cs := #[.int .i64 a1_0, .int .i64 a1_1, .int .i64 a1_2, .slice A1_3 l1_3.length c1_3]) (t := 27) ?_; intro gb293 hg w13 hbox hb; replace BK293 := Aside0.mk (hbox); replace GW293 := gwZ hg; replace GE293 := gwZ hg; replace HB := bnZ hb; replace NB292_293 := nbZ BK292.out hg; replace NB293_292 := nbY BK292.out hg; replace BK292 := bkZ hb BK292.out; clear hb hbox hg; have hnb14 := NB292_293.out; have hnc14 := NB293_292.out; have hcz15_0 : w13.cell? ⟨gb292, 0, none⟩ = some (.int .i64 a0_0) := (blk_cell BK292.out 0).trans rfl; have hcz15_1 : w13.cell? ⟨gb292, 1, none⟩ = some (.int .i64 a0_1) := (blk_cell BK292.out 1).trans rfl; have hcz15_2 : w13.cell? ⟨gb292, 2, none⟩ = some (.int .i64 a0_2) := (blk_cell BK292.out 2).trans rfl; have hcz15_3 : w13.cell? ⟨gb292, 3, none⟩ = some (.slice A0_3 l0_3.length c0_3) := (blk_cell BK292.out 3).trans rfl; have hfz15_0 := blk_frozen BK292.out 0; have hfz15_1 := blk_frozen BK292.out 1; have hfz15_2 := blk_frozen BK292.out 2; have hfz15_3 := blk_frozen BK292.out 3; have hcz16_0 : w13.cell? ⟨gb293, 0, none⟩ = some (.int .i64 a1_0) := (blk_cell BK293.out 0).trans rfl; have hcz16_1 : w13.cell? ⟨gb293, 1, none⟩ = some (.int .i64 a1_1) := (blk_cell BK293.out 1).trans rfl; have hcz16_2 : w13.cell? ⟨gb293, 2, none⟩ = some (.int .i64 a1_2) := (blk_cell BK293.out 2).trans rfl; have hcz16_3 : w13.cell? ⟨gb293, 3, none⟩ = some (.slice A1_3 l1_3.length c1_3) := (blk_cell BK293.out 3).trans rfl; have hfz16_0 := blk_frozen BK293.out 0; have hfz16_1 := blk_frozen BK293.out 1; have hfz16_2 := blk_frozen BK293.out 2; have hfz16_3 := blk_frozen BK293.out 3) | ((with_reducible refine gate_callee (f := 33) rfl ?_); refine goesZ (some 15) Tryz.func33 #[.agg #[.int .i64 a0_0, .int .i64 a0_1, .int .i64 a0_2, .slice A0_3 l0_3.length c0_3], .agg #[.int .i64 a1_0, .int .i64 a1_1, .int .i64 a1_2, .slice A1_3 l1_3.length c1_3]] ?_; (with_reducible refine (impl_PartsFit.calls a0_0 a0_1 a0_2 _ _ l0_3 a1_0 a1_1 a1_2 _ _ l1_3 true _ ?side1 ?side2 ?side3 ?side4 A5.out ?sideT).mono ?_); (case side1 => exact (Kd.C_below HR0_3.out HB.out)); (case side2 => exact HC0_3.out); (case side3 => exact (Kd.C_below HR1_3.out HB.out)); (case side4 => exact HC1_3.out); (case sideT => exact typeAt_below HT.out bZ (Nat.le_refl _)); rintro e w17 ⟨rfl, hb⟩; refine ⟨_, rfl, ?_⟩; replace BK292 := bkZ hb BK292.out; replace BK293 := bkZ hb BK293.out; replace HB := bnZ hb; (try clear hb); (try clear hb2); (try clear hk); (try clear hi); have hcz18_0 : w17.cell? ⟨gb292, 0, none⟩ = some (.int .i64 a0_0) := (blk_cell BK292.out 0).trans rfl; have hcz18_1 : w17.cell? ⟨gb292, 1, none⟩ = some (.int .i64 a0_1) := (blk_cell BK292.out 1).trans rfl; have hcz18_2 : w17.cell? ⟨gb292, 2, none⟩ = some (.int .i64 a0_2) := (blk_cell BK292.out 2).trans rfl; have hcz18_3 : w17.cell? ⟨gb292, 3, none⟩ = some (.slice A0_3 l0_3.length c0_3) := (blk_cell BK292.out 3).trans rfl; have hfz18_0 := blk_frozen BK292.out 0; have hfz18_1 := blk_frozen BK292.out 1; have hfz18_2 := blk_frozen BK292.out 2; have hfz18_3 := blk_frozen BK292.out 3) | ((with_reducible refine gate_callee (f := 17) rfl ?_); refine goesZ (some 24) Tryz.func17 #[.int .i64 a0_1, .slice A0_3 l0_3.length c0_3, .bool true, .int .i64 a2, .int .i64 a3] ?_; (with_reducible refine (impl_QueryAsk.calls k a0_1 _ _ l0_3 true a2 a3 t295 true _ ?side1 ?side2 A7.out).mono ?_); (case side1 => exact (Kd.C_below HR0_3.out HB.out)); (case side2 => exact HC0_3.out); rintro e w19 ⟨v297, rfl, ho0, hb⟩; refine ⟨_, rfl, ?_⟩; replace HO298 := Aside0.mk (Kd.R_lower ho0 bsZ); replace BK292 := bkZ hb BK292.out; replace BK293 := bkZ hb BK293.out; replace HB := bnZ hb; (try clear hb); (try clear hb2); (try clear hk); (try clear hi); (try clear ho0); have hcz20_0 : w19.cell? ⟨gb293, 0, none⟩ = some (.int .i64 a1_0) := (blk_cell BK293.out 0).trans rfl; have hcz20_1 : w19.cell? ⟨gb293, 1, none⟩ = some (.int .i64 a1_1) := (blk_cell BK293.out 1).trans rfl; have hcz20_2 : w19.cell? ⟨gb293, 2, none⟩ = some (.int .i64 a1_2) := (blk_cell BK293.out 2).trans rfl; have hcz20_3 : w19.cell? ⟨gb293, 3, none⟩ = some (.slice A1_3 l1_3.length c1_3) := (blk_cell BK293.out 3).trans rfl; have hfz20_0 := blk_frozen BK293.out 0; have hfz20_1 := blk_frozen BK293.out 1; have hfz20_2 := blk_frozen BK293.out 2; have hfz20_3 := blk_frozen BK293.out 3) | ((with_reducible refine gate_callee (f := 17) rfl ?_); refine goesZ (some 34) Tryz.func17 #[.int .i64 a1_1, .slice A1_3 l1_3.length c1_3, .bool false, .int .i64 a2, .int .i64 a3] ?_; (with_reducible refine (impl_QueryAsk.calls k a1_1 _ _ l1_3 false a2 a3 t299 true _ ?side1 ?side2 A8.out).mono ?_); (case side1 => exact (Kd.C_below HR1_3.out HB.out)); (case side2 => exact HC1_3.out); rintro e w21 ⟨v301, rfl, ho0, hb⟩; refine ⟨_, rfl, ?_⟩; replace HO302 := Aside0.mk (Kd.R_lower (Kd.R_new' ho0 (Kd.R_lt (HO298.out))) bsZ); replace HO298 := Aside0.mk (Kd.R_elder' (HO298.out) (Kd.R_base ho0) hb); replace BK292 := bkZ hb BK292.out; replace BK293 := bkZ hb BK293.out; replace HB := bnZ hb; (try clear hb); (try clear hb2); (try clear hk); (try clear hi); (try clear ho0); obtain ⟨Ao22, co22, eo22⟩ := Kd.R_slice HO298.out; subst eo22; obtain ⟨Ao23, co23, eo23⟩ := Kd.R_slice HO302.out; subst eo23) | (go_at_call 34; (with_reducible refine (impl_QueryDecide.calls _ _ t295 _ _ t299 t303 _ ?side1 ?side2 ?side3 ?side4 A11.out).mono ?_); (case side1 => exact (Kd.R_reads' HO298.out).2.2); (case side2 => exact (Kd.R_reads' HO298.out).2.1); (case side3 => exact (Kd.R_reads' HO302.out).2.2); (case side4 => exact (Kd.R_reads' HO302.out).2.1); rintro e w24 ⟨rfl, hb⟩; replace HO298 := Aside0.mk (Kd.R_below (HO298.out) hb); replace HO302 := Aside0.mk (Kd.R_below (HO302.out) hb); replace BK292 := bkZ hb BK292.out; replace BK293 := bkZ hb BK293.out; replace HB := bnZ hb; clear hb))
        go_ret
        exact ⟨rfl, by repeat (with_reducible first | exact HB.out | apply below_alloc | apply pw_below_drewN | apply below_drew1 | refine below_set ?_ GE292.out | refine below_set ?_ GE293.out)⟩
      · replace c10 := Bool.eq_false_iff.mpr c10
        subst c10
        rw [if_neg (show ¬ (false = true) by decide)] at H
        obtain rfl := Option.some.inj H
        go_enter Tryz.func13, Tryz.ntmps13
        go_wp2_with (first | ((with_reducible refine gate_dst (N := 4) rfl ?_); refine boxZ (N := 4) (cs := #[.int .i64 a0_0, .int .i64 a0_1, .int .i64 a0_2, .slice A0_3 l0_3.length c0_3]) (t := 27) ?_; intro gb292 hg w25 hbox hb; replace BK292 := Aside0.mk (hbox); replace GW292 := gwZ hg; replace GE292 := gwZ hg; replace HB := bnZ hb; clear hb hbox hg) | ((with_reducible refine gate_dst (N := 5) rfl ?_); refine boxZ (N := 5) (cs := #[.int .i64 a1_0, .int .i64 a1_1, .int .i64 a1_2, .slice A1_3 l1_3.length c1_3]) (t := 27) ?_; intro gb293 hg w26 hbox hb; replace BK293 := Aside0.mk (hbox); replace GW293 := gwZ hg; replace GE293 := gwZ hg; replace HB := bnZ hb; replace NB292_293 := nbZ BK292.out hg; replace NB293_292 := nbY BK292.out hg; replace BK292 := bkZ hb BK292.out; clear hb hbox hg; have hnb27 := NB292_293.out; have hnc27 := NB293_292.out; have hcz28_0 : w26.cell? ⟨gb292, 0, none⟩ = some (.int .i64 a0_0) := (blk_cell BK292.out 0).trans rfl; have hcz28_1 : w26.cell? ⟨gb292, 1, none⟩ = some (.int .i64 a0_1) := (blk_cell BK292.out 1).trans rfl; have hcz28_2 : w26.cell? ⟨gb292, 2, none⟩ = some (.int .i64 a0_2) := (blk_cell BK292.out 2).trans rfl; have hcz28_3 : w26.cell? ⟨gb292, 3, none⟩ = some (.slice A0_3 l0_3.length c0_3) := (blk_cell BK292.out 3).trans rfl; have hfz28_0 := blk_frozen BK292.out 0; have hfz28_1 := blk_frozen BK292.out 1; have hfz28_2 := blk_frozen BK292.out 2; have hfz28_3 := blk_frozen BK292.out 3; have hcz29_0 : w26.cell? ⟨gb293, 0, none⟩ = some (.int .i64 a1_0) := (blk_cell BK293.out 0).trans rfl; have hcz29_1 : w26.cell? ⟨gb293, 1, none⟩ = some (.int .i64 a1_1) := (blk_cell BK293.out 1).trans rfl; have hcz29_2 : w26.cell? ⟨gb293, 2, none⟩ = some (.int .i64 a1_2) := (blk_cell BK293.out 2).trans rfl; have hcz29_3 : w26.cell? ⟨gb293, 3, none⟩ = some (.slice A1_3 l1_3.length c1_3) := (blk_cell BK293.out 3).trans rfl; have hfz29_0 := blk_frozen BK293.out 0; have hfz29_1 := blk_frozen BK293.out 1; have hfz29_2 := blk_frozen BK293.out 2; have hfz29_3 := blk_frozen BK293.out 3) | ((with_reducible refine gate_callee (f := 33) rfl ?_); refine goesZ (some 15) Tryz.func33 #[.agg #[.int .i64 a0_0, .int .i64 a0_1, .int .i64 a0_2, .slice A0_3 l0_3.length c0_3], .agg #[.int .i64 a1_0, .int .i64 a1_1, .int .i64 a1_2, .slice A1_3 l1_3.length c1_3]] ?_; (with_reducible refine (impl_PartsFit.calls a0_0 a0_1 a0_2 _ _ l0_3 a1_0 a1_1 a1_2 _ _ l1_3 true _ ?side1 ?side2 ?side3 ?side4 A5.out ?sideT).mono ?_); (case side1 => exact (Kd.C_below HR0_3.out HB.out)); (case side2 => exact HC0_3.out); (case side3 => exact (Kd.C_below HR1_3.out HB.out)); (case side4 => exact HC1_3.out); (case sideT => exact typeAt_below HT.out bZ (Nat.le_refl _)); rintro e w30 ⟨rfl, hb⟩; refine ⟨_, rfl, ?_⟩; replace BK292 := bkZ hb BK292.out; replace BK293 := bkZ hb BK293.out; replace HB := bnZ hb; (try clear hb); (try clear hb2); (try clear hk); (try clear hi); have hcz31_0 : w30.cell? ⟨gb292, 0, none⟩ = some (.int .i64 a0_0) := (blk_cell BK292.out 0).trans rfl; have hcz31_1 : w30.cell? ⟨gb292, 1, none⟩ = some (.int .i64 a0_1) := (blk_cell BK292.out 1).trans rfl; have hcz31_2 : w30.cell? ⟨gb292, 2, none⟩ = some (.int .i64 a0_2) := (blk_cell BK292.out 2).trans rfl; have hcz31_3 : w30.cell? ⟨gb292, 3, none⟩ = some (.slice A0_3 l0_3.length c0_3) := (blk_cell BK292.out 3).trans rfl; have hfz31_0 := blk_frozen BK292.out 0; have hfz31_1 := blk_frozen BK292.out 1; have hfz31_2 := blk_frozen BK292.out 2; have hfz31_3 := blk_frozen BK292.out 3) | ((with_reducible refine gate_callee (f := 17) rfl ?_); refine goesZ (some 24) Tryz.func17 #[.int .i64 a0_1, .slice A0_3 l0_3.length c0_3, .bool true, .int .i64 a2, .int .i64 a3] ?_; (with_reducible refine (impl_QueryAsk.calls k a0_1 _ _ l0_3 true a2 a3 t295 true _ ?side1 ?side2 A7.out).mono ?_); (case side1 => exact (Kd.C_below HR0_3.out HB.out)); (case side2 => exact HC0_3.out); rintro e w32 ⟨v297, rfl, ho0, hb⟩; refine ⟨_, rfl, ?_⟩; replace HO298 := Aside0.mk (Kd.R_lower ho0 bsZ); replace BK292 := bkZ hb BK292.out; replace BK293 := bkZ hb BK293.out; replace HB := bnZ hb; (try clear hb); (try clear hb2); (try clear hk); (try clear hi); (try clear ho0); have hcz33_0 : w32.cell? ⟨gb293, 0, none⟩ = some (.int .i64 a1_0) := (blk_cell BK293.out 0).trans rfl; have hcz33_1 : w32.cell? ⟨gb293, 1, none⟩ = some (.int .i64 a1_1) := (blk_cell BK293.out 1).trans rfl; have hcz33_2 : w32.cell? ⟨gb293, 2, none⟩ = some (.int .i64 a1_2) := (blk_cell BK293.out 2).trans rfl; have hcz33_3 : w32.cell? ⟨gb293, 3, none⟩ = some (.slice A1_3 l1_3.length c1_3) := (blk_cell BK293.out 3).trans rfl; have hfz33_0 := blk_frozen BK293.out 0; have hfz33_1 := blk_frozen BK293.out 1; have hfz33_2 := blk_frozen BK293.out 2; have hfz33_3 := blk_frozen BK293.out 3) | ((with_reducible refine gate_callee (f := 17) rfl ?_); refine goesZ (some 34) Tryz.func17 #[.int .i64 a1_1, .slice A1_3 l1_3.length c1_3, .bool false, .int .i64 a2, .int .i64 a3] ?_; (with_reducible refine (impl_QueryAsk.calls k a1_1 _ _ l1_3 false a2 a3 t299 false _ ?side1 ?side2 A8.out).mono ?_); (case side1 => exact (Kd.C_below HR1_3.out HB.out)); (case side2 => exact HC1_3.out); rintro e w34 ⟨v301, rfl, ho0, hb⟩; refine ⟨_, rfl, ?_⟩; replace HO302 := Aside0.mk (Kd.R_lower (Kd.R_new' ho0 (Kd.R_lt (HO298.out))) bsZ); replace HO298 := Aside0.mk (Kd.R_elder' (HO298.out) (Kd.R_base ho0) hb); replace BK292 := bkZ hb BK292.out; replace BK293 := bkZ hb BK293.out; replace HB := bnZ hb; clear hb ho0))
        go_ret
        exact ⟨rfl, by repeat (with_reducible first | exact HB.out | apply below_alloc | apply pw_below_drewN | apply below_drew1 | refine below_set ?_ GE292.out | refine below_set ?_ GE293.out)⟩
    · replace c9 := Bool.eq_false_iff.mpr c9
      subst c9
      rw [if_neg (show ¬ (false = true) by decide)] at H
      obtain rfl := Option.some.inj H
      go_enter Tryz.func13, Tryz.ntmps13
      go_wp2_with (first | ((with_reducible refine gate_dst (N := 4) rfl ?_); refine boxZ (N := 4) (cs := #[.int .i64 a0_0, .int .i64 a0_1, .int .i64 a0_2, .slice A0_3 l0_3.length c0_3]) (t := 27) ?_; intro gb292 hg w35 hbox hb; replace BK292 := Aside0.mk (hbox); replace GW292 := gwZ hg; replace GE292 := gwZ hg; replace HB := bnZ hb; clear hb hbox hg) | ((with_reducible refine gate_dst (N := 5) rfl ?_); refine boxZ (N := 5) (cs := #[.int .i64 a1_0, .int .i64 a1_1, .int .i64 a1_2, .slice A1_3 l1_3.length c1_3]) (t := 27) ?_; intro gb293 hg w36 hbox hb; replace BK293 := Aside0.mk (hbox); replace GW293 := gwZ hg; replace GE293 := gwZ hg; replace HB := bnZ hb; replace NB292_293 := nbZ BK292.out hg; replace NB293_292 := nbY BK292.out hg; replace BK292 := bkZ hb BK292.out; clear hb hbox hg; have hnb37 := NB292_293.out; have hnc37 := NB293_292.out; have hcz38_0 : w36.cell? ⟨gb292, 0, none⟩ = some (.int .i64 a0_0) := (blk_cell BK292.out 0).trans rfl; have hcz38_1 : w36.cell? ⟨gb292, 1, none⟩ = some (.int .i64 a0_1) := (blk_cell BK292.out 1).trans rfl; have hcz38_2 : w36.cell? ⟨gb292, 2, none⟩ = some (.int .i64 a0_2) := (blk_cell BK292.out 2).trans rfl; have hcz38_3 : w36.cell? ⟨gb292, 3, none⟩ = some (.slice A0_3 l0_3.length c0_3) := (blk_cell BK292.out 3).trans rfl; have hfz38_0 := blk_frozen BK292.out 0; have hfz38_1 := blk_frozen BK292.out 1; have hfz38_2 := blk_frozen BK292.out 2; have hfz38_3 := blk_frozen BK292.out 3; have hcz39_0 : w36.cell? ⟨gb293, 0, none⟩ = some (.int .i64 a1_0) := (blk_cell BK293.out 0).trans rfl; have hcz39_1 : w36.cell? ⟨gb293, 1, none⟩ = some (.int .i64 a1_1) := (blk_cell BK293.out 1).trans rfl; have hcz39_2 : w36.cell? ⟨gb293, 2, none⟩ = some (.int .i64 a1_2) := (blk_cell BK293.out 2).trans rfl; have hcz39_3 : w36.cell? ⟨gb293, 3, none⟩ = some (.slice A1_3 l1_3.length c1_3) := (blk_cell BK293.out 3).trans rfl; have hfz39_0 := blk_frozen BK293.out 0; have hfz39_1 := blk_frozen BK293.out 1; have hfz39_2 := blk_frozen BK293.out 2; have hfz39_3 := blk_frozen BK293.out 3) | ((with_reducible refine gate_callee (f := 33) rfl ?_); refine goesZ (some 15) Tryz.func33 #[.agg #[.int .i64 a0_0, .int .i64 a0_1, .int .i64 a0_2, .slice A0_3 l0_3.length c0_3], .agg #[.int .i64 a1_0, .int .i64 a1_1, .int .i64 a1_2, .slice A1_3 l1_3.length c1_3]] ?_; (with_reducible refine (impl_PartsFit.calls a0_0 a0_1 a0_2 _ _ l0_3 a1_0 a1_1 a1_2 _ _ l1_3 true _ ?side1 ?side2 ?side3 ?side4 A5.out ?sideT).mono ?_); (case side1 => exact (Kd.C_below HR0_3.out HB.out)); (case side2 => exact HC0_3.out); (case side3 => exact (Kd.C_below HR1_3.out HB.out)); (case side4 => exact HC1_3.out); (case sideT => exact typeAt_below HT.out bZ (Nat.le_refl _)); rintro e w40 ⟨rfl, hb⟩; refine ⟨_, rfl, ?_⟩; replace BK292 := bkZ hb BK292.out; replace BK293 := bkZ hb BK293.out; replace HB := bnZ hb; (try clear hb); (try clear hb2); (try clear hk); (try clear hi); have hcz41_0 : w40.cell? ⟨gb292, 0, none⟩ = some (.int .i64 a0_0) := (blk_cell BK292.out 0).trans rfl; have hcz41_1 : w40.cell? ⟨gb292, 1, none⟩ = some (.int .i64 a0_1) := (blk_cell BK292.out 1).trans rfl; have hcz41_2 : w40.cell? ⟨gb292, 2, none⟩ = some (.int .i64 a0_2) := (blk_cell BK292.out 2).trans rfl; have hcz41_3 : w40.cell? ⟨gb292, 3, none⟩ = some (.slice A0_3 l0_3.length c0_3) := (blk_cell BK292.out 3).trans rfl; have hfz41_0 := blk_frozen BK292.out 0; have hfz41_1 := blk_frozen BK292.out 1; have hfz41_2 := blk_frozen BK292.out 2; have hfz41_3 := blk_frozen BK292.out 3) | ((with_reducible refine gate_callee (f := 17) rfl ?_); refine goesZ (some 24) Tryz.func17 #[.int .i64 a0_1, .slice A0_3 l0_3.length c0_3, .bool true, .int .i64 a2, .int .i64 a3] ?_; (with_reducible refine (impl_QueryAsk.calls k a0_1 _ _ l0_3 true a2 a3 t295 false _ ?side1 ?side2 A7.out).mono ?_); (case side1 => exact (Kd.C_below HR0_3.out HB.out)); (case side2 => exact HC0_3.out); rintro e w42 ⟨v297, rfl, ho0, hb⟩; refine ⟨_, rfl, ?_⟩; replace HO298 := Aside0.mk (Kd.R_lower ho0 bsZ); replace BK292 := bkZ hb BK292.out; replace BK293 := bkZ hb BK293.out; replace HB := bnZ hb; (try clear hb); (try clear hb2); (try clear hk); (try clear hi); (try clear ho0); have hcz43_0 : w42.cell? ⟨gb293, 0, none⟩ = some (.int .i64 a1_0) := (blk_cell BK293.out 0).trans rfl; have hcz43_1 : w42.cell? ⟨gb293, 1, none⟩ = some (.int .i64 a1_1) := (blk_cell BK293.out 1).trans rfl; have hcz43_2 : w42.cell? ⟨gb293, 2, none⟩ = some (.int .i64 a1_2) := (blk_cell BK293.out 2).trans rfl; have hcz43_3 : w42.cell? ⟨gb293, 3, none⟩ = some (.slice A1_3 l1_3.length c1_3) := (blk_cell BK293.out 3).trans rfl; have hfz43_0 := blk_frozen BK293.out 0; have hfz43_1 := blk_frozen BK293.out 1; have hfz43_2 := blk_frozen BK293.out 2; have hfz43_3 := blk_frozen BK293.out 3) | ((with_reducible refine gate_callee (f := 17) rfl ?_); refine goesZ (some 34) Tryz.func17 #[.int .i64 a1_1, .slice A1_3 l1_3.length c1_3, .bool false, .int .i64 a2, .int .i64 a3] ?_; (with_reducible refine (impl_QueryAsk.calls k a1_1 _ _ l1_3 false a2 a3 t299 t300 _ ?side1 ?side2 A8.out).mono ?_); (case side1 => exact (Kd.C_below HR1_3.out HB.out)); (case side2 => exact HC1_3.out); rintro e w44 ⟨v301, rfl, ho0, hb⟩; refine ⟨_, rfl, ?_⟩; replace HO302 := Aside0.mk (Kd.R_lower (Kd.R_new' ho0 (Kd.R_lt (HO298.out))) bsZ); replace HO298 := Aside0.mk (Kd.R_elder' (HO298.out) (Kd.R_base ho0) hb); replace BK292 := bkZ hb BK292.out; replace BK293 := bkZ hb BK293.out; replace HB := bnZ hb; clear hb ho0))
      go_ret
      exact ⟨rfl, by repeat (with_reducible first | exact HB.out | apply below_alloc | apply pw_below_drewN | apply below_drew1 | refine below_set ?_ GE292.out | refine below_set ?_ GE293.out)⟩
  · replace c6 := Bool.eq_false_iff.mpr c6
    subst c6
    rw [if_neg (show ¬ (false = true) by decide)] at H
    obtain rfl := Option.some.inj H
    go_enter Tryz.func13, Tryz.ntmps13
    go_wp2_with (first | ((with_reducible refine gate_dst (N := 4) rfl ?_); refine boxZ (N := 4) (cs := #[.int .i64 a0_0, .int .i64 a0_1, .int .i64 a0_2, .slice A0_3 l0_3.length c0_3]) (t := 27) ?_; intro gb292 hg w45 hbox hb; replace BK292 := Aside0.mk (hbox); replace GW292 := gwZ hg; replace GE292 := gwZ hg; replace HB := bnZ hb; clear hb hbox hg) | ((with_reducible refine gate_dst (N := 5) rfl ?_); refine boxZ (N := 5) (cs := #[.int .i64 a1_0, .int .i64 a1_1, .int .i64 a1_2, .slice A1_3 l1_3.length c1_3]) (t := 27) ?_; intro gb293 hg w46 hbox hb; replace BK293 := Aside0.mk (hbox); replace GW293 := gwZ hg; replace GE293 := gwZ hg; replace HB := bnZ hb; replace NB292_293 := nbZ BK292.out hg; replace NB293_292 := nbY BK292.out hg; replace BK292 := bkZ hb BK292.out; clear hb hbox hg; have hnb47 := NB292_293.out; have hnc47 := NB293_292.out; have hcz48_0 : w46.cell? ⟨gb292, 0, none⟩ = some (.int .i64 a0_0) := (blk_cell BK292.out 0).trans rfl; have hcz48_1 : w46.cell? ⟨gb292, 1, none⟩ = some (.int .i64 a0_1) := (blk_cell BK292.out 1).trans rfl; have hcz48_2 : w46.cell? ⟨gb292, 2, none⟩ = some (.int .i64 a0_2) := (blk_cell BK292.out 2).trans rfl; have hcz48_3 : w46.cell? ⟨gb292, 3, none⟩ = some (.slice A0_3 l0_3.length c0_3) := (blk_cell BK292.out 3).trans rfl; have hfz48_0 := blk_frozen BK292.out 0; have hfz48_1 := blk_frozen BK292.out 1; have hfz48_2 := blk_frozen BK292.out 2; have hfz48_3 := blk_frozen BK292.out 3; have hcz49_0 : w46.cell? ⟨gb293, 0, none⟩ = some (.int .i64 a1_0) := (blk_cell BK293.out 0).trans rfl; have hcz49_1 : w46.cell? ⟨gb293, 1, none⟩ = some (.int .i64 a1_1) := (blk_cell BK293.out 1).trans rfl; have hcz49_2 : w46.cell? ⟨gb293, 2, none⟩ = some (.int .i64 a1_2) := (blk_cell BK293.out 2).trans rfl; have hcz49_3 : w46.cell? ⟨gb293, 3, none⟩ = some (.slice A1_3 l1_3.length c1_3) := (blk_cell BK293.out 3).trans rfl; have hfz49_0 := blk_frozen BK293.out 0; have hfz49_1 := blk_frozen BK293.out 1; have hfz49_2 := blk_frozen BK293.out 2; have hfz49_3 := blk_frozen BK293.out 3) | ((with_reducible refine gate_callee (f := 33) rfl ?_); refine goesZ (some 15) Tryz.func33 #[.agg #[.int .i64 a0_0, .int .i64 a0_1, .int .i64 a0_2, .slice A0_3 l0_3.length c0_3], .agg #[.int .i64 a1_0, .int .i64 a1_1, .int .i64 a1_2, .slice A1_3 l1_3.length c1_3]] ?_; (with_reducible refine (impl_PartsFit.calls a0_0 a0_1 a0_2 _ _ l0_3 a1_0 a1_1 a1_2 _ _ l1_3 false _ ?side1 ?side2 ?side3 ?side4 A5.out ?sideT).mono ?_); (case side1 => exact (Kd.C_below HR0_3.out HB.out)); (case side2 => exact HC0_3.out); (case side3 => exact (Kd.C_below HR1_3.out HB.out)); (case side4 => exact HC1_3.out); (case sideT => exact typeAt_below HT.out bZ (Nat.le_refl _)); rintro e w50 ⟨rfl, hb⟩; refine ⟨_, rfl, ?_⟩; replace BK292 := bkZ hb BK292.out; replace BK293 := bkZ hb BK293.out; replace HB := bnZ hb; clear hb))
    go_ret
    exact ⟨rfl, by repeat (with_reducible first | exact HB.out | apply below_alloc | apply pw_below_drewN | apply below_drew1 | refine below_set ?_ GE292.out | refine below_set ?_ GE293.out)⟩
def IsS94 (w0 W : World) (g : Nat) (f0 : List Int) (f1 : Int) : Prop := ∃ A0 c0, W.heap[g]? = some (.cells #[.slice A0 f0.length c0, .int .i64 f1] 94 (0, 0)) ∧ w0.heap.size ≤ g ∧ Kd.C (Kd.int .u8) w0 A0 f0.length f0
theorem IsS94.grown {w0 W : World} {g : Nat} {f0 : List Int} {f1 : Int} {W1 : World} {row : Option Nat} (h : IsS94 w0 W g f0 f1) (hw : W.grownBy W1 row) (hne : some g ≠ row) : IsS94 w0 W1 g f0 f1 := by
 obtain ⟨A0, c0, hb, hg, hr0⟩ := h
 exact ⟨A0, c0, blk_grown hb hw hne, hg, hr0⟩
theorem IsS94.kept {w0 W : World} {g : Nat} {f0 : List Int} {f1 : Int} {W1 : World} {S : Nat → Prop} (h : IsS94 w0 W g f0 f1) (hk : Kept W W1 S) (hne : ¬ S g) : IsS94 w0 W1 g f0 f1 := by
 obtain ⟨A0, c0, hb, hg, hr0⟩ := h
 exact ⟨A0, c0, blk_kept hb hk hne, hg, hr0⟩
theorem IsS94.below {w0 W : World} {g : Nat} {f0 : List Int} {f1 : Int} {W1 : World} (h : IsS94 w0 W g f0 f1) (hw : Below W.heap.size W W1) : IsS94 w0 W1 g f0 f1 := h.grown (grown_of_below hw none) (by simp)
theorem IsS94.alloc {w0 W : World} {g : Nat} {f0 : List Int} {f1 : Int} (h : IsS94 w0 W g f0 f1) (o : Obj) : IsS94 w0 (W.alloc o) g f0 f1 := h.below (below_alloc (Below.refl _ _) o)
theorem IsS94.drewN {w0 W : World} {g : Nat} {f0 : List Int} {f1 : Int} (h : IsS94 w0 W g f0 f1) (m : Nat) : IsS94 w0 (W.drewN m) g f0 f1 := h
theorem IsS94.drew {w0 W : World} {g : Nat} {f0 : List Int} {f1 : Int} (h : IsS94 w0 W g f0 f1) : IsS94 w0 W.drew g f0 f1 := h
theorem IsS94.at_ {w0 W : World} {g : Nat} {f0 : List Int} {f1 : Int} {w' : World} {m : Nat} (hq : W.drewN m = w') (h : IsS94 w0 W g f0 f1) : IsS94 w0 w' g f0 f1 := by subst hq; exact IsS94.drewN h m
theorem IsS94.apart {w0 W : World} {g : Nat} {f0 : List Int} {f1 : Int} {α : Type} {d : Kd α} {e : Nat} {base : Nat} {ok : Nat → Prop} {v : Value} {xs : List α} (h : IsS94 w0 W g f0 f1) (ho : d.R e W base ok v xs) (ht : ∀ q, q ∈ e :: d.E → q ≠ 94) : d.R e W base (fun k => ok k ∧ k ≠ g) v xs := by
 obtain ⟨A0, c0, hb, hg, hr0⟩ := h
 exact Kd.R_types ho hb ht
theorem IsS94.own_ne {w0 W : World} {g : Nat} {f0 : List Int} {f1 : Int} {α : Type} {d : Kd α} {e : Nat} {base : Nat} {ok : Nat → Prop} {v : Value} {xs : List α} (h : IsS94 w0 W g f0 f1) (ho : d.R e W base ok v xs) (ht : e ≠ 94) : some g ≠ v.ownBlock := by
 obtain ⟨A0, c0, hb, hg, hr0⟩ := h
 exact Kd.R_ne ho hb ht
theorem IsS94.lt {w0 W : World} {g : Nat} {f0 : List Int} {f1 : Int} (h : IsS94 w0 W g f0 f1) : g < W.heap.size := by
 obtain ⟨A0, c0, hb, hg, hr0⟩ := h
 exact blk_lt hb
theorem IsS94.ge {w0 W : World} {g : Nat} {f0 : List Int} {f1 : Int} (h : IsS94 w0 W g f0 f1) : w0.heap.size ≤ g := by
 obtain ⟨A0, c0, hb, hg, hr0⟩ := h
 exact hg
theorem IsS94.ne_blk {w0 W : World} {g : Nat} {f0 : List Int} {f1 : Int} {a : Nat} {cs : Array Value} {t : TypeId} {fr : Nat × Nat} (h : IsS94 w0 W g f0 f1) (hb2 : W.heap[a]? = some (.cells cs t fr)) (ht : t ≠ 94) : g ≠ a := by
 obtain ⟨A0, c0, hb, hg, hr0⟩ := h
 rintro rfl
 rw [hb] at hb2
 injection hb2 with hb2
 injection hb2 with _ ht2
 exact ht ht2.symm
theorem IsS94.far {w0 W : World} {g : Nat} {f0 : List Int} {f1 : Int} {p : Addr} (h : IsS94 w0 W g f0 f1) (hne : g ≠ p.block) (u : Value) : IsS94 w0 (W.setCell p u) g f0 f1 := by
 obtain ⟨A0, c0, hb, hg, hr0⟩ := h
 exact ⟨A0, c0, blk_far hb hne u, hg, hr0⟩
theorem cellS94_0 {W : World} {g : Nat} {A0 : Option Addr} {c0 : Nat} {f0 : List Int} {f1 : Int} (h : W.heap[g]? = some (.cells #[.slice A0 f0.length c0, .int .i64 f1] 94 (0, 0))) : W.cell? ⟨g, 0, none⟩ = some (.slice A0 f0.length c0) := (blk_cell h 0).trans rfl
theorem cellS94_1 {W : World} {g : Nat} {A0 : Option Addr} {c0 : Nat} {f0 : List Int} {f1 : Int} (h : W.heap[g]? = some (.cells #[.slice A0 f0.length c0, .int .i64 f1] 94 (0, 0))) : W.cell? ⟨g, 1, none⟩ = some (.int .i64 f1) := (blk_cell h 1).trans rfl
theorem IsS94.set_1 {w0 W : World} {g : Nat} {f0 : List Int} {f1 : Int} (h : IsS94 w0 W g f0 f1) (x : Int) : IsS94 w0 (W.setCell ⟨g, 1, none⟩ (.int .i64 x)) g f0 x := by
 obtain ⟨A0, c0, hb, hg, hr0⟩ := h
 exact ⟨A0, c0, by simpa using blk_set hb 1 (.int .i64 x), hg, hr0⟩
theorem IsS94.new (w0 W : World) (A0 : Option Addr) (c0 : Nat) (f0 : List Int) (f1 : Int) (hB : Below w0.heap.size w0 W) (hr0 : Kd.C (Kd.int .u8) w0 A0 f0.length f0) : IsS94 w0 (W.alloc (.cells #[.slice A0 f0.length c0, .int .i64 f1] 94)) W.heap.size f0 f1 := ⟨A0, c0, by simpa using heap_alloc_new W _, hB.size, hr0⟩
def spec_l6Open.f (l0 : List Int) : Option (List Int × Int) := if (l0.length : Int) > 2000 then (if 2000 ≤ (l0.length : Int) then (some (l0.take 2000, 0)) else (none)) else (some (l0, 0))
set_option maxHeartbeats 8000000 in
set_option maxRecDepth 100000 in
theorem spec_l6Open.calls (A0 : Option Addr) (c0 : Nat) (l0 : List Int) (r1 : List Int) (r2 : Int) (w0 w : World) (hB : Below w0.heap.size w0 w) (hr0 : Kd.C (Kd.int .u8) w0 A0 l0.length l0) (hc0 : l0.length ≤ c0) (h : spec_l6Open.f l0 = some (r1, r2)) :
  Calls Tryz.prog 43 #[.slice A0 l0.length c0] w fun e w' => ∃ g_ : Nat, e = .returned (.pointer (some ⟨g_, 0, none⟩)) ∧ IsS94 w0 w' g_ r1 r2 ∧ Below w0.heap.size w0 w' ∧ Below w.heap.size w w' := by
 have hu94 := Tryz.underlying94
 have HR0 := Aside0.mk hr0
 have HC0 := Aside0.mk hc0
 clear hr0 hc0
 have HBW := Aside0.mk (Below.refl w.heap.size w)
 have HW0 := Aside0.mk hB.size
 have HB := Aside0.mk hB
 clear hB
 have H := h
 unfold spec_l6Open.f at H
 clear h
 by_cases c2 : (l0.length : Int) > 2000
 ·rw [if_pos c2] at H
  have c2b0 : decide (2000 < (l0.length : Int)) = true := decide_eq_true c2
  have c2b1 : decide (2000 < l0.length) = true := decide_eq_true (by omega)
  clear c2
  by_cases c3 : 2000 ≤ (l0.length : Int)
  ·rw [if_pos c3] at H
   have c3b0 := eq_true c3
   have c3b1 : decide (2000 ≤ (l0.length : Int)) = true := decide_eq_true c3
   clear c3
   simp only [Option.some.injEq, Prod.mk.injEq] at H
   obtain ⟨rfl, rfl⟩ := H
   obtain ⟨i04, hi04, _, hsz4, _⟩ := info_parts info5
   obtain ⟨hcut4, hA4, hC4⟩ := print_take_of (P := Tryz.prog) (Value.int .u8) 0 31 5 .i64 Tryz.underlying31 hi04 hsz4 A0 c0 l0 2000 (by omega) (of_decide_eq_true ‹_›) HC0.out
   have HR196 := Aside0.mk (Kd.C_of_reads (h1 := fun _ => rfl) (hA4 _ (Kd.reads_of_C HR0.out)))
   have HC196 := Aside0.mk hC4
   clear hA4 hC4 hi04 hsz4
   go_enter Tryz.func43, Tryz.ntmps43
   go_wp2_with (first | ((with_reducible refine gate_dst (N := 10) rfl ?_); refine boxZ (N := 10) (cs := #[.slice A0 (l0.take 2000).length c0, .int .i64 0]) (t := 94) ?_; intro gb197 hg w5 hbox hb; replace HB := bnZ hb; replace BK197 := Aside0.mk (hbox); replace GW197 := Aside0.mk ((by rw [hg]; exact (below_size (by repeat (with_reducible first | exact HBW.out | apply below_alloc | apply pw_below_drewN | apply below_drew1))) : w.heap.size ≤ gb197)); replace GE197 := Aside0.mk ((Nat.le_trans HW0.out (by rw [hg]; exact (below_size (by repeat (with_reducible first | exact HBW.out | apply below_alloc | apply pw_below_drewN | apply below_drew1))) : w.heap.size ≤ gb197) : w0.heap.size ≤ gb197)); replace HBW := Aside0.mk (below_step HBW.out hb); clear hb hbox hg))
   go_ret
   exact ⟨_, rfl, (show IsS94 w0 _ gb197 (l0.take 2000) 0 from ⟨_, _, by exact BK197.out, GE197.out, HR196.out⟩), by repeat (with_reducible first | exact HB.out | apply below_alloc | apply pw_below_drewN | apply below_drew1 | refine below_set ?_ GE197.out), by repeat (with_reducible first | exact HBW.out | apply below_alloc | apply pw_below_drewN | apply below_drew1 | refine below_set ?_ GW197.out)⟩
  ·rw [if_neg c3] at H
   exact absurd H (by simp)
 ·rw [if_neg c2] at H
  have c2b0 : decide (2000 < (l0.length : Int)) = false := decide_eq_false c2
  have c2b1 : decide (2000 < l0.length) = false := decide_eq_false (by omega)
  clear c2
  simp only [Option.some.injEq, Prod.mk.injEq] at H
  obtain ⟨rfl, rfl⟩ := H
  go_enter Tryz.func43, Tryz.ntmps43
  go_wp2_with (first | ((with_reducible refine gate_dst (N := 10) rfl ?_); refine boxZ (N := 10) (cs := #[.slice A0 l0.length c0, .int .i64 0]) (t := 94) ?_; intro gb198 hg w6 hbox hb; replace HB := bnZ hb; replace BK198 := Aside0.mk (hbox); replace GW198 := Aside0.mk ((by rw [hg]; exact (below_size (by repeat (with_reducible first | exact HBW.out | apply below_alloc | apply pw_below_drewN | apply below_drew1))) : w.heap.size ≤ gb198)); replace GE198 := Aside0.mk ((Nat.le_trans HW0.out (by rw [hg]; exact (below_size (by repeat (with_reducible first | exact HBW.out | apply below_alloc | apply pw_below_drewN | apply below_drew1))) : w.heap.size ≤ gb198) : w0.heap.size ≤ gb198)); replace HBW := Aside0.mk (below_step HBW.out hb); clear hb hbox hg))
  go_ret
  exact ⟨_, rfl, (show IsS94 w0 _ gb198 l0 0 from ⟨_, _, by exact BK198.out, GE198.out, HR0.out⟩), by repeat (with_reducible first | exact HB.out | apply below_alloc | apply pw_below_drewN | apply below_drew1 | refine below_set ?_ GE198.out), by repeat (with_reducible first | exact HBW.out | apply below_alloc | apply pw_below_drewN | apply below_drew1 | refine below_set ?_ GW198.out)⟩
def spec_l6Rd_pick.j0 : Nat → Int → Bool → List Int → Int → Option (Int × Int)
  | 0, _, _, _, _ => none
  | k + 1, x1, x24, x1000, x1001 => if x24 = true then (some (0, x1001)) else (if (wrap64 (x1001 - 1)) < (x1000.length : Int) then (if 0 ≤ (wrap64 (x1001 - 1)) then (if x1 = 0 then (none) else (some (Int.tmod (wrap64 (rd x1000 (wrap64 (x1001 - 1)))) x1, x1001))) else (none)) else (if (x1000.length : Int) = 0 then (none) else (if 0 ≤ (Int.tmod (wrap64 (x1001 - 1)) (x1000.length : Int)) then (if (Int.tmod (wrap64 (x1001 - 1)) (x1000.length : Int)) < (x1000.length : Int) then (if 0 ≤ (Int.tmod (wrap64 ((wrap64 ((wrap64 (x1001 - 1)) * 7)) + 3)) (x1000.length : Int)) then (if (Int.tmod (wrap64 ((wrap64 ((wrap64 (x1001 - 1)) * 7)) + 3)) (x1000.length : Int)) < (x1000.length : Int) then (if x1 = 0 then (none) else (some (Int.tmod (Go.bits .xor .i64 (wrap64 ((wrap64 ((wrap64 ((wrap64 ((wrap64 (rd x1000 (Int.tmod (wrap64 (x1001 - 1)) (x1000.length : Int)))) * 131)) + (wrap64 ((wrap64 (rd x1000 (Int.tmod (wrap64 ((wrap64 ((wrap64 (x1001 - 1)) * 7)) + 3)) (x1000.length : Int)))) * 1117)))) + (wrap64 ((wrap64 (x1001 - 1)) * 29)))) + (wrap64 ((wrap64 (Int.tdiv (wrap64 (x1001 - 1)) (x1000.length : Int))) * 53)))) (wrap64 (Int.tdiv (wrap64 ((wrap64 ((wrap64 ((wrap64 ((wrap64 (rd x1000 (Int.tmod (wrap64 (x1001 - 1)) (x1000.length : Int)))) * 131)) + (wrap64 ((wrap64 (rd x1000 (Int.tmod (wrap64 ((wrap64 ((wrap64 (x1001 - 1)) * 7)) + 3)) (x1000.length : Int)))) * 1117)))) + (wrap64 ((wrap64 (x1001 - 1)) * 29)))) + (wrap64 ((wrap64 (Int.tdiv (wrap64 (x1001 - 1)) (x1000.length : Int))) * 53)))) 64))) x1, x1001))) else (none)) else (none)) else (none)) else (none))))
def spec_l6Rd_pick.f (k : Nat) (s0_0 : List Int) (s0_1 : Int) (a1 : Int) : Option (Int × Int) := if a1 < 1 then (spec_l6Rd_pick.j0 k a1 true s0_0 (wrap64 (s0_1 + 1))) else (spec_l6Rd_pick.j0 k a1 ((s0_0.length : Int) == 0) s0_0 (wrap64 (s0_1 + 1)))
set_option maxHeartbeats 8000000 in
set_option maxRecDepth 100000 in
theorem spec_l6Rd_pick.calls (k : Nat) (g : Nat) (s0_0 : List Int) (s0_1 : Int) (a1 : Int) (r1 : Int) (r2 : Int) (w0 w : World) (hI : IsS94 w0 w g s0_0 s0_1) (hB : Below w0.heap.size w0 w) (h : spec_l6Rd_pick.f k s0_0 s0_1 a1 = some (r1, r2)) :
  Calls Tryz.prog 45 #[.pointer (some ⟨g, 0, none⟩), .int .i64 a1] w fun e w' => e = .returned (.int .i64 r1) ∧ IsS94 w0 w' g s0_0 r2 ∧ Below w0.heap.size w0 w' ∧ KeepBut w w' g none := by
 have HI0 := Aside0.mk hI
 have HK := Aside0.mk (KeepBut.refl w g none)
 have HL := Aside0.mk hB.size
 clear hI
 have HW0 := Aside0.mk hB.size
 have HB := Aside0.mk hB
 clear hB
 have H := h
 unfold spec_l6Rd_pick.f at H
 clear h
 have HC3 := Aside0.mk H
 clear H
 obtain ⟨ASz4_0, cSz4_0, HGz4, hgz4, HSz4_0⟩ := HI0.out
 have hcz4_0 := cellS94_0 HGz4
 have hcz4_1 := cellS94_1 HGz4
 have hfz4_1 := blk_frozen HGz4 1
 clear HGz4 hgz4
 go_enter Tryz.func45, Tryz.ntmps45
 go_upto_region 2 with (fail)
 repeat (go_quiet (fail); go_upto_region 2 with (fail))
 go_cut [24] (fun v24 wc => ∃ (kq : Nat) (x24_2 : Bool), v24 = .bool x24_2 ∧ Aside0 (spec_l6Rd_pick.j0 kq a1 x24_2 s0_0 (wrap64 (s0_1 + 1)) = some (r1, r2)) ∧ Aside0 (kq ≤ k) ∧ Aside0 (IsS94 w0 wc g s0_0 (wrap64 (s0_1 + 1))) ∧ Aside0 (KeepBut w wc g none) ∧ Aside0 (Below w0.heap.size w0 wc))
 case first =>
  have H := HC3.out
  clear HC3
  by_cases c5 : a1 < 1
  ·rw [if_pos c5] at H
   have c5b0 : decide (a1 < 1) = true := decide_eq_true c5
   clear c5
   (first | rw [c5b0] | (simp only [i64_w, i32_w]; rw [c5b0]) | skip)
   have H' := Aside0.mk H
   clear H
   go_wp2
   repeat (go_quiet (fail); try go_wp2)
   go_meet
   case rel => exact ⟨_, (true), rfl, H', ⟨by first | omega | exact Nat.le_refl _⟩, ⟨by repeat (with_reducible first | exact HI0.out | apply IsS94.alloc | apply IsS94.drewN | apply IsS94.drew | apply IsS94.set_1)⟩, ⟨by repeat (with_reducible first | exact HK.out | apply KeepBut.set_ | apply keep_drewN | apply keep_drew | apply keep_alloc)⟩, ⟨by repeat (with_reducible first | exact HB.out | apply below_alloc | apply pw_below_drewN | apply below_drew1 | refine below_set ?_ (IsS94.ge HI0.out))⟩⟩
  ·rw [if_neg c5] at H
   have c5b0 : decide (a1 < 1) = false := decide_eq_false c5
   clear c5
   (first | rw [c5b0] | (simp only [i64_w, i32_w]; rw [c5b0]) | skip)
   have H' := Aside0.mk H
   clear H
   obtain ⟨ASz6_0, cSz6_0, HGz6, hgz6, HSz6_0⟩ := HI0.out
   have hcz6_0 := cellS94_0 HGz6
   have hcz6_1 := cellS94_1 HGz6
   have hfz6_1 := blk_frozen HGz6 1
   clear HGz6 hgz6
   go_wp2
   repeat (go_quiet (fail); try go_wp2)
   go_meet
   case rel => exact ⟨_, (((s0_0.length : Int) == 0)), rfl, H', ⟨by first | omega | exact Nat.le_refl _⟩, ⟨by repeat (with_reducible first | exact HI0.out | apply IsS94.alloc | apply IsS94.drewN | apply IsS94.drew | apply IsS94.set_1)⟩, ⟨by repeat (with_reducible first | exact HK.out | apply KeepBut.set_ | apply keep_drewN | apply keep_drew | apply keep_alloc)⟩, ⟨by repeat (with_reducible first | exact HB.out | apply below_alloc | apply pw_below_drewN | apply below_drew1 | refine below_set ?_ (IsS94.ge HI0.out))⟩⟩
 case rest =>
  clear HC3
  try clear p2
  try clear c4
  try clear c5
  try clear c5b0
  try clear p6
  try clear hcz4_0
  try clear hcz4_1
  try clear hcz6_0
  try clear hcz6_1
  try clear hfz4_1
  try clear hfz6_1
  obtain ⟨kq, x24_2, rfl, HA, HJ2, HI0, HK, HB⟩ := hcut
  cases kq with
  | zero => exact absurd HA.out (by simp [spec_l6Rd_pick.j0])
  | succ kj2 =>
   have H := HA.out
   clear HA
   simp only [spec_l6Rd_pick.j0] at H
   by_cases c7 : x24_2 = true
   ·subst c7
    rw [if_pos rfl] at H
    simp only [Option.some.injEq, Prod.mk.injEq] at H
    obtain ⟨rfl, rfl⟩ := H
    go_wp2
    repeat (go_quiet (fail); try go_wp2)
    go_ret
    exact ⟨rfl, by repeat (with_reducible first | exact HI0.out | apply IsS94.alloc | apply IsS94.drewN | apply IsS94.drew | apply IsS94.set_1), by repeat (with_reducible first | exact HB.out | apply below_alloc | apply pw_below_drewN | apply below_drew1 | refine below_set ?_ (IsS94.ge HI0.out)), by repeat (with_reducible first | exact HK.out | apply KeepBut.set_ | apply keep_drewN | apply keep_drew | apply keep_alloc)⟩
   ·replace c7 := Bool.eq_false_iff.mpr c7
    subst c7
    rw [if_neg (show ¬ (false = true) by decide)] at H
    by_cases c8 : (wrap64 ((wrap64 (s0_1 + 1)) - 1)) < (s0_0.length : Int)
    ·rw [if_pos c8] at H
     have c8b0 : decide ((wrap64 ((wrap64 (s0_1 + 1)) - 1)) < (s0_0.length : Int)) = true := decide_eq_true c8
     clear c8
     obtain ⟨ji9, hji9⟩ : ∃ j_ : Int, (wrap64 ((wrap64 (s0_1 + 1)) - 1)) = j_ := ⟨_, rfl⟩
     replace H : (if 0 ≤ (ji9) then (if a1 = 0 then (none) else (some (Int.tmod (wrap64 (rd s0_0 (ji9))) a1, (wrap64 (s0_1 + 1))))) else (none)) = some (r1, r2) := by first | (rw [hji9] at H; exact H) | (simp only [hji9] at H ⊢; exact H)
     (try rw [hji9] at c8b0)
     have hji9w : (IntKind.i64.wrap ((wrap64 (s0_1 + 1)) - 1)) = ji9 := (i64_w _).trans hji9
     by_cases c10 : 0 ≤ (ji9)
     ·rw [if_pos c10] at H
      have c10b0 : decide (0 ≤ (ji9)) = true := decide_eq_true c10
      clear c10
      by_cases c11 : a1 = 0
      ·rw [if_pos c11] at H
       exact absurd H (by simp)
      ·rw [if_neg c11] at H
       have c11b0 : (a1 == 0) = false := beq_eq_false_iff_ne.mpr c11
       have c11b1 : (a1 != 0) = true := bne_iff_ne.mpr c11
       simp only [Option.some.injEq, Prod.mk.injEq] at H
       obtain ⟨rfl, rfl⟩ := H
       obtain ⟨ASz12_0, cSz12_0, HGz12, hgz12, HSz12_0⟩ := HI0.out
       have hcz12_0 := cellS94_0 HGz12
       have hcz12_1 := cellS94_1 HGz12
       have hfz12_1 := blk_frozen HGz12 1
       clear HGz12 hgz12
       have p199 : 0 ≤ ((ji9) : Int) := of_decide_eq_true ‹_›
       have q199 : (ji9) < (s0_0.length : Int) := of_decide_eq_true ‹_›
       obtain ⟨ad199, e199, hx199_0⟩ := Kd.at_int HSz12_0 (ji9) p199 q199
       cases e199
       replace hx199_0 := pw_cell_below HB.out hx199_0
       replace p199 := eq_true p199
       replace q199 := eq_true q199
       go_wp2
       repeat (go_quiet (fail); try go_wp2)
       go_ret
       exact ⟨by first | rfl | (simp [errW_none, errW_some] <;> rfl) | (simp only [← hji9]; first | rfl | (simp [errW_none, errW_some] <;> rfl)) | (simp [*, errW_none, errW_some] <;> rfl), by repeat (with_reducible first | exact HI0.out | apply IsS94.alloc | apply IsS94.drewN | apply IsS94.drew | apply IsS94.set_1), by repeat (with_reducible first | exact HB.out | apply below_alloc | apply pw_below_drewN | apply below_drew1 | refine below_set ?_ (IsS94.ge HI0.out)), by repeat (with_reducible first | exact HK.out | apply KeepBut.set_ | apply keep_drewN | apply keep_drew | apply keep_alloc)⟩
     ·rw [if_neg c10] at H
      exact absurd H (by simp)
    ·rw [if_neg c8] at H
     have c8b0 : decide ((wrap64 ((wrap64 (s0_1 + 1)) - 1)) < (s0_0.length : Int)) = false := decide_eq_false c8
     clear c8
     by_cases c13 : (s0_0.length : Int) = 0
     ·rw [if_pos c13] at H
      exact absurd H (by simp)
     ·rw [if_neg c13] at H
      have c13b0 : ((s0_0.length : Int) == 0) = false := beq_eq_false_iff_ne.mpr c13
      have c13b1 : ((s0_0.length : Int) != 0) = true := bne_iff_ne.mpr c13
      have c13b2 : ¬ (s0_0 = []) := fun h_ => c13 (by rw [h_]; rfl)
      obtain ⟨ji14, hji14⟩ : ∃ j_ : Int, (Int.tmod (wrap64 ((wrap64 (s0_1 + 1)) - 1)) (s0_0.length : Int)) = j_ := ⟨_, rfl⟩
      replace H : (if 0 ≤ (ji14) then (if (ji14) < (s0_0.length : Int) then (if 0 ≤ (Int.tmod (wrap64 ((wrap64 ((wrap64 ((wrap64 (s0_1 + 1)) - 1)) * 7)) + 3)) (s0_0.length : Int)) then (if (Int.tmod (wrap64 ((wrap64 ((wrap64 ((wrap64 (s0_1 + 1)) - 1)) * 7)) + 3)) (s0_0.length : Int)) < (s0_0.length : Int) then (if a1 = 0 then (none) else (some (Int.tmod (Go.bits .xor .i64 (wrap64 ((wrap64 ((wrap64 ((wrap64 ((wrap64 (rd s0_0 (ji14))) * 131)) + (wrap64 ((wrap64 (rd s0_0 (Int.tmod (wrap64 ((wrap64 ((wrap64 ((wrap64 (s0_1 + 1)) - 1)) * 7)) + 3)) (s0_0.length : Int)))) * 1117)))) + (wrap64 ((wrap64 ((wrap64 (s0_1 + 1)) - 1)) * 29)))) + (wrap64 ((wrap64 (Int.tdiv (wrap64 ((wrap64 (s0_1 + 1)) - 1)) (s0_0.length : Int))) * 53)))) (wrap64 (Int.tdiv (wrap64 ((wrap64 ((wrap64 ((wrap64 ((wrap64 (rd s0_0 (ji14))) * 131)) + (wrap64 ((wrap64 (rd s0_0 (Int.tmod (wrap64 ((wrap64 ((wrap64 ((wrap64 (s0_1 + 1)) - 1)) * 7)) + 3)) (s0_0.length : Int)))) * 1117)))) + (wrap64 ((wrap64 ((wrap64 (s0_1 + 1)) - 1)) * 29)))) + (wrap64 ((wrap64 (Int.tdiv (wrap64 ((wrap64 (s0_1 + 1)) - 1)) (s0_0.length : Int))) * 53)))) 64))) a1, (wrap64 (s0_1 + 1))))) else (none)) else (none)) else (none)) else (none)) = some (r1, r2) := by first | (rw [hji14] at H; exact H) | (simp only [hji14] at H ⊢; exact H)
      by_cases c15 : 0 ≤ (ji14)
      ·rw [if_pos c15] at H
       have c15b0 : decide (0 ≤ (ji14)) = true := decide_eq_true c15
       clear c15
       by_cases c16 : (ji14) < (s0_0.length : Int)
       ·rw [if_pos c16] at H
        have c16b0 : decide ((ji14) < (s0_0.length : Int)) = true := decide_eq_true c16
        clear c16
        obtain ⟨ji17, hji17⟩ : ∃ j_ : Int, (Int.tmod (wrap64 ((wrap64 ((wrap64 ((wrap64 (s0_1 + 1)) - 1)) * 7)) + 3)) (s0_0.length : Int)) = j_ := ⟨_, rfl⟩
        replace H : (if 0 ≤ (ji17) then (if (ji17) < (s0_0.length : Int) then (if a1 = 0 then (none) else (some (Int.tmod (Go.bits .xor .i64 (wrap64 ((wrap64 ((wrap64 ((wrap64 ((wrap64 (rd s0_0 (ji14))) * 131)) + (wrap64 ((wrap64 (rd s0_0 (ji17))) * 1117)))) + (wrap64 ((wrap64 ((wrap64 (s0_1 + 1)) - 1)) * 29)))) + (wrap64 ((wrap64 (Int.tdiv (wrap64 ((wrap64 (s0_1 + 1)) - 1)) (s0_0.length : Int))) * 53)))) (wrap64 (Int.tdiv (wrap64 ((wrap64 ((wrap64 ((wrap64 ((wrap64 (rd s0_0 (ji14))) * 131)) + (wrap64 ((wrap64 (rd s0_0 (ji17))) * 1117)))) + (wrap64 ((wrap64 ((wrap64 (s0_1 + 1)) - 1)) * 29)))) + (wrap64 ((wrap64 (Int.tdiv (wrap64 ((wrap64 (s0_1 + 1)) - 1)) (s0_0.length : Int))) * 53)))) 64))) a1, (wrap64 (s0_1 + 1))))) else (none)) else (none)) = some (r1, r2) := by first | (rw [hji17] at H; exact H) | (simp only [hji17] at H ⊢; exact H)
        by_cases c18 : 0 ≤ (ji17)
        ·rw [if_pos c18] at H
         have c18b0 : decide (0 ≤ (ji17)) = true := decide_eq_true c18
         clear c18
         by_cases c19 : (ji17) < (s0_0.length : Int)
         ·rw [if_pos c19] at H
          have c19b0 : decide ((ji17) < (s0_0.length : Int)) = true := decide_eq_true c19
          clear c19
          by_cases c20 : a1 = 0
          ·rw [if_pos c20] at H
           exact absurd H (by simp)
          ·rw [if_neg c20] at H
           have c20b0 : (a1 == 0) = false := beq_eq_false_iff_ne.mpr c20
           have c20b1 : (a1 != 0) = true := bne_iff_ne.mpr c20
           simp only [Option.some.injEq, Prod.mk.injEq] at H
           obtain ⟨rfl, rfl⟩ := H
           obtain ⟨ASz21_0, cSz21_0, HGz21, hgz21, HSz21_0⟩ := HI0.out
           have hcz21_0 := cellS94_0 HGz21
           have hcz21_1 := cellS94_1 HGz21
           have hfz21_1 := blk_frozen HGz21 1
           clear HGz21 hgz21
           have p200 : 0 ≤ ((ji14) : Int) := of_decide_eq_true ‹_›
           have q200 : (ji14) < (s0_0.length : Int) := of_decide_eq_true ‹_›
           obtain ⟨ad200, e200, hx200_0⟩ := Kd.at_int HSz21_0 (ji14) p200 q200
           cases e200
           replace hx200_0 := pw_cell_below HB.out hx200_0
           replace p200 := eq_true p200
           replace q200 := eq_true q200
           have p201 : 0 ≤ ((ji17) : Int) := of_decide_eq_true ‹_›
           have q201 : (ji17) < (s0_0.length : Int) := of_decide_eq_true ‹_›
           obtain ⟨ad201, e201, hx201_0⟩ := Kd.at_int HSz21_0 (ji17) p201 q201
           obtain rfl : ad200 = ad201 := (by injection e201)
           replace hx201_0 := pw_cell_below HB.out hx201_0
           replace p201 := eq_true p201
           replace q201 := eq_true q201
           go_wp2
           repeat (go_quiet (fail); try go_wp2)
           go_ret
           exact ⟨by first | rfl | (simp [errW_none, errW_some] <;> rfl) | (simp only [← hji14, ← hji17]; first | rfl | (simp [errW_none, errW_some] <;> rfl)) | (simp [*, errW_none, errW_some] <;> rfl), by repeat (with_reducible first | exact HI0.out | apply IsS94.alloc | apply IsS94.drewN | apply IsS94.drew | apply IsS94.set_1), by repeat (with_reducible first | exact HB.out | apply below_alloc | apply pw_below_drewN | apply below_drew1 | refine below_set ?_ (IsS94.ge HI0.out)), by repeat (with_reducible first | exact HK.out | apply KeepBut.set_ | apply keep_drewN | apply keep_drew | apply keep_alloc)⟩
         ·rw [if_neg c19] at H
          exact absurd H (by simp)
        ·rw [if_neg c18] at H
         exact absurd H (by simp)
       ·rw [if_neg c16] at H
        exact absurd H (by simp)
      ·rw [if_neg c15] at H
       exact absurd H (by simp)
end Go.Proofs.YtlgbblaidohljaaGreatDoor.Zk
