import Derived.Test.YtlgbblaidohljaaGreatDoorZ
import Derived.Test.YtlgbblaidohljaaGreatDoorZc0
import Derived.Test.YtlgbblaidohljaaGreatDoorZc4
import Derived.Test.YtlgbblaidohljaaGreatDoorZc6
import Derived.Test.YtlgbblaidohljaaGreatDoorZc24
import Derived.Test.YtlgbblaidohljaaGreatDoorZc25
import Derived.Test.YtlgbblaidohljaaGreatDoorZc26
import Derived.Test.YtlgbblaidohljaaGreatDoorZc33
import Derived.Test.YtlgbblaidohljaaGreatDoorZc35
namespace Go.Proofs.YtlgbblaidohljaaGreatDoor.Zc
open Go.RowKit Go.Proofs.YtlgbblaidohljaaGreatDoorU.PrintWords Go.Proofs.YtlgbblaidohljaaGreatDoorU.PrintLast Go.Proofs.YtlgbblaidohljaaGreatDoorU.PrintMore Go.Proofs.YtlgbblaidohljaaGreatDoor.Z
attribute [local go_sem] max2_int min2_int max_two min_two max_three min_three max_four min_four
set_option linter.unusedVariables false
set_option linter.unusedSimpArgs false
theorem c19x36 : Ent Tryz.prog 19 := ent Tryz.func19 (by kernel_rfl) rfl
theorem c20x36 : Ent Tryz.prog 20 := ent Tryz.func20 (by kernel_rfl) rfl
mutual
def laws_FnAskHide.j0 : Nat → List Int → List Int → Bool → Option (Bool)
 | 0, _, _, _ => none
 | k + 1, x0, x1, x41 => if x41 = true then (some true) else ((spec_DrawQueryAsk.f k x0).bind fun bt763 => ((spec_QueryAsk.f k bt763.1 bt763.2.1 bt763.2.2.1 bt763.2.2.2.1 bt763.2.2.2.2).bind fun bt770 => ((impl_QueryAsk.f k bt763.1 bt763.2.1 bt763.2.2.1 bt763.2.2.2.1 bt763.2.2.2.2).bind fun bt774 => (if (bt774.2 != bt770.2) = true then (laws_FnAskHide.j1 k x1 bt763.1 bt763.2.2.2.1 bt763.2.2.2.2 bt770.1 bt770.2 bt774.1 bt774.2 true) else ((laws_loInts.f k bt774.1 bt770.1).bind fun t778 => (if t778 = true then (laws_FnAskHide.j1 k x1 bt763.1 bt763.2.2.2.1 bt763.2.2.2.2 bt770.1 bt770.2 bt774.1 bt774.2 (!bt774.2)) else (laws_FnAskHide.j1 k x1 bt763.1 bt763.2.2.2.1 bt763.2.2.2.2 bt770.1 bt770.2 bt774.1 bt774.2 true)))))))
def laws_FnAskHide.j1 : Nat → List Int → Int → Int → Int → List Int → Bool → List Int → Bool → Bool → Option (Bool)
 | 0, _, _, _, _, _, _, _, _, _ => none
 | k + 1, x1, x5, x8, x9, x10, x11, x12, x13, x80 => if x80 = true then (if (x13 == x11) = true then ((laws_loInts.f k x12 x10).bind fun t779 => (some t779)) else (some false)) else ((impl_TypeMake.f x5 ((x1.length : Int) % 2)).bind fun bt780 => (if bt780.2 = true then ((laws_loNum.f (wrap64 ((x1.length : Int) * 5))).bind fun t784 => ((laws_loNum.f (wrap64 ((wrap64 ((x1.length : Int) * 3)) + 1))).bind fun t785 => (laws_FnAskHide.l0 k x5 x8 x9 x12 bt780.1 t784 t785 0 0))) else (some false)))
def laws_FnAskHide.l0 : Nat → Int → Int → Int → List Int → List Int → Int → Int → Int → Int → Option (Bool)
 | 0, _, _, _, _, _, _, _, _, _ => none
 | k + 1, x5, x8, x9, x12, x14, x16, x17, x18, x19 => if x19 < 31 then ((impl_ProofMake.f k x5 x14 x19 0).bind fun bt786 => ((impl_ProofAll.f x5 x14 bt786.1 bt786.2.1 bt786.2.2.1).bind fun bt793 => ((impl_QueryAsk.f k x5 bt793.1 true x8 x9).bind fun bt797 => (if 0 < (bt797.1.length : Int) then (if (rd bt797.1 0) = x16 then (laws_FnAskHide.l0 k x5 x8 x9 x12 x14 x16 x17 (wrap64 (x18 + 1)) (wrap64 (x19 + 1))) else (laws_FnAskHide.l0 k x5 x8 x9 x12 x14 x16 x17 x18 (wrap64 (x19 + 1)))) else (none))))) else (laws_FnAskHide.l1 k x5 x8 x9 x12 x14 x17 x18 0 0)
def laws_FnAskHide.l1 : Nat → Int → Int → Int → List Int → List Int → Int → Int → Int → Int → Option (Bool)
 | 0, _, _, _, _, _, _, _, _, _ => none
 | k + 1, x5, x8, x9, x12, x14, x17, x18, x26, x27 => if x27 < 31 then ((impl_ProofMake.f k x5 x14 0 x27).bind fun bt802 => ((impl_ProofAll.f x5 x14 bt802.1 bt802.2.1 bt802.2.2.1).bind fun bt809 => ((impl_QueryAsk.f k x5 bt809.1 true x8 x9).bind fun bt813 => (if 1 < (bt813.1.length : Int) then (if (rd bt813.1 1) = x17 then (laws_FnAskHide.l1 k x5 x8 x9 x12 x14 x17 x18 (wrap64 (x26 + 1)) (wrap64 (x27 + 1))) else (laws_FnAskHide.l1 k x5 x8 x9 x12 x14 x17 x18 x26 (wrap64 (x27 + 1)))) else (none))))) else (if x18 = 1 then (if x26 = 1 then (some ((x12.length : Int) == 4)) else (some false)) else (some false))
end
def laws_FnAskHide.f (k : Nat) (l0 : List Int) (l1 : List Int) : Option (Bool) := if (l0.length : Int) > 1048576 then (laws_FnAskHide.j0 k l0 l1 true) else (laws_FnAskHide.j0 k l0 l1 (decide ((l1.length : Int) > 1048576)))
set_option maxHeartbeats 8000000 in
set_option maxRecDepth 100000 in
theorem laws_FnAskHide.calls (k : Nat) (A0 : Option Addr) (c0 : Nat) (l0 : List Int) (A1 : Option Addr) (c1 : Nat) (l1 : List Int) (r : Bool) (w : World) (hr0 : Kd.C (Kd.int .u8) w A0 l0.length l0) (hc0 : l0.length ≤ c0) (hr1 : Kd.C (Kd.int .u8) w A1 l1.length l1) (hc1 : l1.length ≤ c1) (h : laws_FnAskHide.f k l0 l1 = some r) (hTr : r = true) {a : Addr} (hE : errAt a w) :
  Calls Tryz.prog 4 #[.slice A0 l0.length c0, .slice A1 l1.length c1] w fun e w' => e = .returned (.bool r) ∧ Below w.heap.size w w' := by
 have HT0_ := Aside0.mk hTr
 clear hTr
 have HE := Aside0.mk hE
 clear hE
 have hu40 := Tryz.underlying40
 have HR0 := Aside0.mk hr0
 have HC0 := Aside0.mk hc0
 clear hr0 hc0
 have HR1 := Aside0.mk hr1
 have HC1 := Aside0.mk hc1
 clear hr1 hc1
 have HB := Aside0.mk (Below.refl w.heap.size w)
 have H := h
 unfold laws_FnAskHide.f at H
 clear h
 have HC3 := Aside0.mk H
 clear H
 go_enter Tryz.func4, Tryz.ntmps4
 go_upto_region 1 with (fail)
 go_cut [41] (fun v41 wc => ∃ (kq : Nat) (x41_2 : Bool), v41 = .bool x41_2 ∧ Aside0 (laws_FnAskHide.j0 kq l0 l1 x41_2 = some r) ∧ Aside0 (kq ≤ k) ∧ Aside0 (Below w.heap.size w wc))
 case first =>
  have H := HC3.out
  clear HC3
  by_cases c4 : (l0.length : Int) > 1048576
  ·rw [if_pos c4] at H
   have c4b0 : decide (1048576 < (l0.length : Int)) = true := decide_eq_true c4
   have c4b1 : decide (1048576 < l0.length) = true := decide_eq_true (by omega)
   clear c4
   (first | rw [c4b0] | (simp only [i64_w, i32_w]; rw [c4b0]) | skip)
   have H' := Aside0.mk H
   clear H
   go_wp2
   go_meet
   case rel => exact ⟨_, (true), rfl, H', ⟨by first | omega | exact Nat.le_refl _⟩, ⟨by repeat (with_reducible first | exact HB.out | apply below_alloc | apply pw_below_drewN | apply below_drew1)⟩⟩
  ·rw [if_neg c4] at H
   have c4b0 : decide (1048576 < (l0.length : Int)) = false := decide_eq_false c4
   have c4b1 : decide (1048576 < l0.length) = false := decide_eq_false (by omega)
   clear c4
   (first | rw [c4b0] | (simp only [i64_w, i32_w]; rw [c4b0]) | skip)
   have H' := Aside0.mk H
   clear H
   go_wp2
   go_meet
   case rel => exact ⟨_, (decide ((l1.length : Int) > 1048576)), rfl, H', ⟨by first | omega | exact Nat.le_refl _⟩, ⟨by repeat (with_reducible first | exact HB.out | apply below_alloc | apply pw_below_drewN | apply below_drew1)⟩⟩
 case rest =>
  clear HC3
  try clear c1
  try clear p2
  try clear c4
  try clear c4b0
  try clear c4b1
  obtain ⟨kq, x41_2, rfl, HA, HJ2, HB⟩ := hcut
  cases kq with
  | zero => exact absurd HA.out (by simp [laws_FnAskHide.j0])
  | succ kj2 =>
   have H := HA.out
   clear HA
   simp only [laws_FnAskHide.j0] at H
   by_cases c5 : x41_2 = true
   ·subst c5
    rw [if_pos rfl] at H
    obtain rfl := Option.some.inj H
    go_wp2
    go_ret
    exact ⟨rfl, by repeat (with_reducible first | exact HB.out | apply below_alloc | apply pw_below_drewN | apply below_drew1)⟩
   ·replace c5 := Bool.eq_false_iff.mpr c5
    subst c5
    rw [if_neg (show ¬ (false = true) by decide)] at H
    replace H := bnd H
    obtain ⟨⟨t763, t764, t765, t766, t767⟩, A6, H⟩ := H
    dsimp only at H
    replace H := bnd H
    obtain ⟨⟨t770, t771⟩, A7, H⟩ := H
    dsimp only at H
    replace H := bnd H
    obtain ⟨⟨t774, t775⟩, A8, H⟩ := H
    dsimp only at H
    have HC9 := Aside0.mk H
    clear H
    go_upto_region 6 with (first | ((with_reducible refine gate_callee (f := 15) rfl ?_); refine goesL_ (some 44) rfl rfl Tryz.func15 (by kernel_rfl) rfl #[.slice A0 l0.length c0] rfl (by (try simp only [List.map_toArray, List.map_cons, List.map_nil]); first | done | rfl | (simp only [List.length_drop, List.length_take]; rfl)) ?_; (with_reducible refine (spec_DrawQueryAsk.calls kj2 _ _ l0 t763 t764 t765 t766 t767 _ ?side1 ?side2 A6.out).mono ?_); (case side1 => exact (Kd.C_below HR0.out HB.out)); (case side2 => exact HC0.out); rintro e w10 ⟨v768, rfl, ho0, hb⟩; refine ⟨_, rfl, ?_⟩; have n0_ := Aside0.mk (Kd.R_lower ho0 (below_size (by repeat (with_reducible first | exact HB.out | apply below_alloc | apply pw_below_drewN | apply below_drew1)))); have n1_ := Aside0.mk (below_step (by repeat (with_reducible first | exact HB.out | apply below_alloc | apply pw_below_drewN | apply below_drew1)) hb); clear HB; have HO769 := n0_; have HB := n1_; clear n0_ n1_; (try clear hb); (try clear hb2); (try clear hk); (try clear hi); (try clear ho0); obtain ⟨Ao11, co11, eo11⟩ := Kd.R_slice HO769.out; subst eo11) | ((with_reducible refine gate_callee (f := 16) rfl ?_); refine goesL_ (some 56) rfl rfl Tryz.func16 (by kernel_rfl) rfl #[.int .i64 t763, .slice Ao11 t764.length co11, .bool t765, .int .i64 t766, .int .i64 t767] rfl (by (try simp only [List.map_toArray, List.map_cons, List.map_nil]); first | done | rfl | (simp only [List.length_drop, List.length_take]; rfl)) ?_; (with_reducible refine (spec_QueryAsk.calls kj2 t763 _ _ t764 t765 t766 t767 t770 t771 _ ?side1 ?side2 A7.out).mono ?_); (case side1 => exact (Kd.R_reads' HO769.out).2.2); (case side2 => exact (Kd.R_reads' HO769.out).2.1); rintro e w12 ⟨v772, rfl, ho0, hb⟩; refine ⟨_, rfl, ?_⟩; have n0_ := Aside0.mk (Kd.R_elder' (HO769.out) (Kd.R_base ho0) hb); have n1_ := Aside0.mk (Kd.R_lower (Kd.R_new' ho0 (Kd.R_lt (HO769.out))) (below_size (by repeat (with_reducible first | exact HB.out | apply below_alloc | apply pw_below_drewN | apply below_drew1)))); have n2_ := Aside0.mk (below_step (by repeat (with_reducible first | exact HB.out | apply below_alloc | apply pw_below_drewN | apply below_drew1)) hb); clear HO769; clear HB; have HO769 := n0_; have HO773 := n1_; have HB := n2_; clear n0_ n1_ n2_; (try clear hb); (try clear hb2); (try clear hk); (try clear hi); (try clear ho0)) | ((with_reducible refine gate_callee (f := 17) rfl ?_); refine goesL_ (some 65) rfl rfl Tryz.func17 (by kernel_rfl) rfl #[.int .i64 t763, .slice Ao11 t764.length co11, .bool t765, .int .i64 t766, .int .i64 t767] rfl (by (try simp only [List.map_toArray, List.map_cons, List.map_nil]); first | done | rfl | (simp only [List.length_drop, List.length_take]; rfl)) ?_; (with_reducible refine (impl_QueryAsk.calls kj2 t763 _ _ t764 t765 t766 t767 t774 t775 _ ?side1 ?side2 A8.out).mono ?_); (case side1 => exact (Kd.R_reads' HO769.out).2.2); (case side2 => exact (Kd.R_reads' HO769.out).2.1); rintro e w13 ⟨v776, rfl, ho0, hb⟩; refine ⟨_, rfl, ?_⟩; have n0_ := Aside0.mk (Kd.R_elder' (HO769.out) (Kd.R_base ho0) hb); have n1_ := Aside0.mk (Kd.R_elder' (HO773.out) (Kd.R_base ho0) hb); have n2_ := Aside0.mk (Kd.R_lower (Kd.R_new' (Kd.R_new' ho0 (Kd.R_lt (HO769.out))) (Kd.R_lt (HO773.out))) (below_size (by repeat (with_reducible first | exact HB.out | apply below_alloc | apply pw_below_drewN | apply below_drew1)))); have n3_ := Aside0.mk (below_step (by repeat (with_reducible first | exact HB.out | apply below_alloc | apply pw_below_drewN | apply below_drew1)) hb); clear HO769; clear HO773; clear HB; have HO769 := n0_; have HO773 := n1_; have HO777 := n2_; have HB := n3_; clear n0_ n1_ n2_ n3_; (try clear hb); (try clear hb2); (try clear hk); (try clear hi); (try clear ho0)))
    (try simp only [Act.put, List.setIfInBounds_toArray, List.set_cons_zero, List.set_cons_succ])
    go_cut [80] (fun v80 wc => ∃ (kq : Nat) (x80_8 : Bool), v80 = .bool x80_8 ∧ Aside0 (laws_FnAskHide.j1 kq l1 t763 t766 t767 t770 t771 t774 t775 x80_8 = some r) ∧ Aside0 (kq ≤ kj2) ∧ Aside0 (Kd.R (Kd.int .i64) 3 wc w.heap.size (fun k_ => some k_ ≠ (v776 : Value).ownBlock) v772 t770) ∧ Aside0 (Kd.R (Kd.int .i64) 3 wc w.heap.size (fun k_ => some k_ ≠ (v772 : Value).ownBlock) v776 t774) ∧ Aside0 (Below w.heap.size w wc))
    case first =>
     have H := HC9.out
     clear HC9
     by_cases c14 : (t775 != t771) = true
     ·rw [if_pos c14] at H
      have c14b0 : (t775 != t771) = true := c14
      (try (have c14b1 : decide (t775 = t771) = false := by simpa using c14))
      (try (have c14b2 : (t775 == t771) = false := by simpa using c14))
      (try (have c14b3 : ¬ (t775 = t771) := by simpa using c14))
      clear c14
      (first | rw [c14b0] | (simp only [i64_w, i32_w]; rw [c14b0]) | skip)
      have H' := Aside0.mk H
      clear H
      go_wp2
      go_meet
      case rel => exact ⟨_, (true), rfl, H', ⟨by have := HJ2.out; first | omega | exact Nat.le_refl _⟩, ⟨Kd.R_mono HO773.out (fun _ hk => hk.2)⟩, ⟨Kd.R_mono HO777.out (fun _ hk => hk.2)⟩, ⟨by repeat (with_reducible first | exact HB.out | apply below_alloc | apply pw_below_drewN | apply below_drew1)⟩⟩
     ·rw [if_neg c14] at H
      have c14b0 : (t775 != t771) = false := by simpa using c14
      (try (have c14b1 : decide (t775 = t771) = true := by simpa using c14))
      (try (have c14b2 : (t775 == t771) = true := by simpa using c14))
      clear c14
      (first | rw [c14b0] | (simp only [i64_w, i32_w]; rw [c14b0]) | skip)
      replace H := bnd H
      obtain ⟨t778, A15, H⟩ := H
      by_cases c16 : t778 = true
      ·subst c16
       rw [if_pos rfl] at H
       have H' := Aside0.mk H
       clear H
       obtain ⟨Ao17, co17, eo17⟩ := Kd.R_slice HO777.out
       subst eo17
       obtain ⟨Ao18, co18, eo18⟩ := Kd.R_slice HO773.out
       subst eo18
       go_wp2_with (first | (go_at_call 18; (with_reducible refine (laws_loInts.calls kj2 _ _ t774 _ _ t770 true _ ?side1 ?side2 ?side3 ?side4 A15.out).mono ?_); (case side1 => exact (Kd.R_reads' HO777.out).2.2); (case side2 => exact (Kd.R_reads' HO777.out).2.1); (case side3 => exact (Kd.R_reads' HO773.out).2.2); (case side4 => exact (Kd.R_reads' HO773.out).2.1); rintro e w' ⟨rfl, ⟨nd, rfl⟩⟩))
       go_meet
       case rel => exact ⟨_, (!t775), rfl, H', ⟨by have := HJ2.out; first | omega | exact Nat.le_refl _⟩, ⟨Kd.R_mono HO773.out (fun _ hk => hk.2)⟩, ⟨Kd.R_mono HO777.out (fun _ hk => hk.2)⟩, ⟨by repeat (with_reducible first | exact HB.out | apply below_alloc | apply pw_below_drewN | apply below_drew1)⟩⟩
      ·replace c16 := Bool.eq_false_iff.mpr c16
       subst c16
       rw [if_neg (show ¬ (false = true) by decide)] at H
       have H' := Aside0.mk H
       clear H
       obtain ⟨Ao19, co19, eo19⟩ := Kd.R_slice HO777.out
       subst eo19
       obtain ⟨Ao20, co20, eo20⟩ := Kd.R_slice HO773.out
       subst eo20
       go_wp2_with (first | (go_at_call 18; (with_reducible refine (laws_loInts.calls kj2 _ _ t774 _ _ t770 false _ ?side1 ?side2 ?side3 ?side4 A15.out).mono ?_); (case side1 => exact (Kd.R_reads' HO777.out).2.2); (case side2 => exact (Kd.R_reads' HO777.out).2.1); (case side3 => exact (Kd.R_reads' HO773.out).2.2); (case side4 => exact (Kd.R_reads' HO773.out).2.1); rintro e w' ⟨rfl, ⟨nd, rfl⟩⟩))
       go_meet
       case rel => exact ⟨_, (true), rfl, H', ⟨by have := HJ2.out; first | omega | exact Nat.le_refl _⟩, ⟨Kd.R_mono HO773.out (fun _ hk => hk.2)⟩, ⟨Kd.R_mono HO777.out (fun _ hk => hk.2)⟩, ⟨by repeat (with_reducible first | exact HB.out | apply below_alloc | apply pw_below_drewN | apply below_drew1)⟩⟩
    case rest =>
     clear HC9
     try clear c1
     try clear p2
     try clear c4
     try clear c4b0
     try clear c4b1
     try clear c5
     try clear c14
     try clear c14b0
     try clear c14b1
     try clear c14b2
     try clear c15
     try clear c16
     try clear c17
     try clear p2
     obtain ⟨kq, x80_8, rfl, HA, HJ8, HO_10, HO_12, HB⟩ := hcut
     cases kq with
     | zero => exact absurd HA.out (by simp [laws_FnAskHide.j1])
     | succ kj8 =>
      have H := HA.out
      clear HA
      simp only [laws_FnAskHide.j1] at H
      by_cases c21 : x80_8 = true
      ·subst c21
       rw [if_pos rfl] at H
       by_cases c22 : (t775 == t771) = true
       ·rw [if_pos c22] at H
        have c22b0 : (t775 == t771) = true := c22
        (try (have c22b1 : decide (t775 = t771) = true := by simpa using c22))
        (try (have c22b2 : (t775 == t771) = true := by simpa using c22))
        clear c22
        replace H := bnd H
        obtain ⟨t779, A23, H⟩ := H
        obtain rfl := Option.some.inj H
        obtain ⟨Ao24, co24, eo24⟩ := Kd.R_slice HO_12.out
        subst eo24
        obtain ⟨Ao25, co25, eo25⟩ := Kd.R_slice HO_10.out
        subst eo25
        go_wp2_with (first | (go_at_call 18; (with_reducible refine (laws_loInts.calls kj8 _ _ t774 _ _ t770 t779 _ ?side1 ?side2 ?side3 ?side4 A23.out).mono ?_); (case side1 => exact (Kd.R_reads' HO_12.out).2.2); (case side2 => exact (Kd.R_reads' HO_12.out).2.1); (case side3 => exact (Kd.R_reads' HO_10.out).2.2); (case side4 => exact (Kd.R_reads' HO_10.out).2.1); rintro e w' ⟨rfl, ⟨nd, rfl⟩⟩))
        go_ret
        exact ⟨rfl, by repeat (with_reducible first | exact HB.out | apply below_alloc | apply pw_below_drewN | apply below_drew1)⟩
       ·rw [if_neg c22] at H
        have c22b0 : (t775 == t771) = false := by simpa using c22
        (try (have c22b1 : decide (t775 = t771) = false := by simpa using c22))
        (try (have c22b2 : (t775 == t771) = false := by simpa using c22))
        (try (have c22b3 : ¬ (t775 = t771) := by simpa using c22))
        clear c22
        exact absurd (Option.some.inj (H.trans (congrArg some HT0_.out))) (by decide)
      ·replace c21 := Bool.eq_false_iff.mpr c21
       subst c21
       rw [if_neg (show ¬ (false = true) by decide)] at H
       replace H := bnd H
       obtain ⟨⟨t780, t781⟩, A26, H⟩ := H
       dsimp only at H
       by_cases c27 : t781 = true
       ·subst c27
        rw [if_pos rfl] at H
        replace H := bnd H
        obtain ⟨t784, A28, H⟩ := H
        replace H := bnd H
        obtain ⟨t785, A29, H⟩ := H
        have H' := Aside0.mk H
        clear H
        go_wp2_with (first | (refine gsC c19x36 (impl_TypeMake.calls t763 ((l1.length : Int) % 2) t780 true _ A26.out) ?_; rintro e w30 ⟨v782, rfl, ho0, hb⟩; refine ⟨_, rfl, ?_⟩; replace HO783 := Aside0.mk (Kd.R_lower (Kd.R_new' (Kd.R_new' ho0 (Kd.R_lt (HO_10.out))) (Kd.R_lt (HO_12.out))) (below_size (by repeat (with_reducible first | exact HB.out | apply below_alloc | apply pw_below_drewN | apply below_drew1)))); replace HO_10 := Aside0.mk (Kd.R_elder' (HO_10.out) (Kd.R_base ho0) hb); replace HO_12 := Aside0.mk (Kd.R_elder' (HO_12.out) (Kd.R_base ho0) hb); replace HB := Aside0.mk (below_step (by repeat (with_reducible first | exact HB.out | apply below_alloc | apply pw_below_drewN | apply below_drew1)) hb); clear hb ho0) | (refine gsD c20x36 (laws_loNum.calls (wrap64 ((l1.length : Int) * 5)) t784 _ A28.out) ?_; intro nd) | (refine gsD c20x36 (laws_loNum.calls (wrap64 ((wrap64 ((l1.length : Int) * 3)) + 1)) t785 _ A29.out) ?_; intro nd))
        go_loopg [18, 19] kj8 (fun kq v18 v19 w' => ∃ (x18_3 : Int) (x19_3 : Int), v18 = .int .i64 x18_3 ∧ v19 = .int .i64 x19_3 ∧ Aside0 (laws_FnAskHide.l0 kq t763 t766 t767 t774 t780 t784 t785 x18_3 x19_3 = some r) ∧ Aside0 (kq ≤ kj8) ∧ Aside0 (Kd.R (Kd.int .i64) 3 w' w.heap.size (fun k_ => some k_ ≠ (v782 : Value).ownBlock) v776 t774) ∧ Aside0 (Kd.R (Kd.int .i64) 3 w' w.heap.size (fun k_ => some k_ ≠ (v776 : Value).ownBlock) v782 t780) ∧ Aside0 (Below w.heap.size w w'))
        case atStart => exact ⟨(0), (0), rfl, rfl, H', ⟨Nat.le_refl _⟩, ⟨Kd.R_mono HO_12.out (fun _ hk => hk.2)⟩, ⟨Kd.R_mono HO783.out (fun _ hk => hk.2)⟩, ⟨by repeat (with_reducible first | exact HB.out | apply below_alloc | apply pw_below_drewN | apply below_drew1)⟩⟩
        case round =>
         clear H'
         try clear c1
         try clear c2
         try clear p2
         try clear c4
         try clear c4b0
         try clear c4b1
         try clear c5
         try clear p6
         try clear c14
         try clear c14b0
         try clear c14b1
         try clear c14b2
         try clear c15
         try clear c16
         try clear c17
         try clear c19
         try clear c20
         try clear c21
         try clear c22
         try clear c22b0
         try clear c22b1
         try clear c22b2
         try clear c27
         try clear p2
         obtain ⟨x18_3, x19_3, rfl, rfl, HA, HK3, HO_12, HO_14, HB⟩ := hrel
         cases gk with
         | zero => exact absurd HA.out (by simp [laws_FnAskHide.l0])
         | succ k3 =>
          have H := HA.out
          clear HA
          simp only [laws_FnAskHide.l0] at H
          by_cases c31 : x19_3 < 31
          ·rw [if_pos c31] at H
           have c31b0 : decide (x19_3 < 31) = true := decide_eq_true c31
           clear c31
           replace H := bnd H
           obtain ⟨⟨t786, t787, t788, t791⟩, A32, H⟩ := H
           dsimp only at H
           replace H := bnd H
           obtain ⟨⟨t793, t796⟩, A33, H⟩ := H
           dsimp only at H
           replace H := bnd H
           obtain ⟨⟨t797, t798⟩, A34, H⟩ := H
           dsimp only at H
           by_cases c35 : 0 < (t797.length : Int)
           ·rw [if_pos c35] at H
            have c35b0 : decide (0 < (t797.length : Int)) = true := decide_eq_true c35
            have c35b1 : decide (0 < t797.length) = true := decide_eq_true (by omega)
            clear c35
            by_cases c36 : (rd t797 0) = t784
            ·rw [if_pos c36] at H
             have c36b0 : ((rd t797 0) == t784) = true := beq_iff_eq.mpr c36
             have c36b1 : ((rd t797 0) != t784) = false := bne_eq_false_iff_eq.mpr c36
             clear c36
             have H' := Aside0.mk H
             clear H
             obtain ⟨Ao37, co37, eo37⟩ := Kd.R_slice HO_14.out
             subst eo37
             go_wp2_with (first | ((with_reducible refine gate_callee (f := 21) rfl ?_); refine goesL_ (some 116) rfl rfl Tryz.func21 (by kernel_rfl) rfl #[.int .i64 t763, .slice Ao37 t780.length co37, .int .i64 x19_3, .int .i64 0] rfl (by (try simp only [List.map_toArray, List.map_cons, List.map_nil]); first | done | rfl | (simp only [List.length_drop, List.length_take]; rfl)) ?_; (with_reducible refine (impl_ProofMake.calls k3 t763 _ _ t780 x19_3 0 t786 t787 t788 t791 _ ?side1 ?side2 A32.out).mono ?_); (case side1 => exact (Kd.R_reads' HO_14.out).2.2); (case side2 => exact (Kd.R_reads' HO_14.out).2.1); rintro e w38 ⟨v789, rfl, ho0, hb⟩; refine ⟨_, rfl, ?_⟩; replace HO790 := Aside0.mk (Kd.R_lower (Kd.R_new' (Kd.R_new' ho0 (Kd.R_lt (HO_12.out))) (Kd.R_lt (HO_14.out))) (below_size (by repeat (with_reducible first | exact HB.out | apply below_alloc | apply pw_below_drewN | apply below_drew1)))); replace HO_12 := Aside0.mk (Kd.R_elder' (HO_12.out) (Kd.R_base ho0) hb); replace HO_14 := Aside0.mk (Kd.R_elder' (HO_14.out) (Kd.R_base ho0) hb); replace HB := Aside0.mk (below_step (by repeat (with_reducible first | exact HB.out | apply below_alloc | apply pw_below_drewN | apply below_drew1)) hb); clear hb ho0) | ((with_reducible refine gate_dst (N := 20) rfl ?_); refine box_event ?hg (N := 20) ?hd (cs := #[.int .i64 0, .int .i64 0, .slice none 0 0]) (t := 40) ?hr ?_; (case hd => rfl); (case hg => rfl); (case hr => first | (go_simp; done) | (go_simp; rfl)); intro gb792 hg w39 hbox hb; replace HO_12 := Aside0.mk (Kd.R_below (HO_12.out) hb); replace HO_14 := Aside0.mk (Kd.R_below (HO_14.out) hb); replace HO790 := Aside0.mk (Kd.R_below (HO790.out) hb); replace BK792 := Aside0.mk (hbox); replace GW792 := Aside0.mk ((by rw [hg]; exact (below_size (by repeat (with_reducible first | exact HB.out | apply below_alloc | apply pw_below_drewN | apply below_drew1))) : w.heap.size ≤ gb792)); replace GE792 := Aside0.mk ((by rw [hg]; exact (below_size (by repeat (with_reducible first | exact HB.out | apply below_alloc | apply pw_below_drewN | apply below_drew1))) : w.heap.size ≤ gb792)); replace HB := Aside0.mk (below_step (by repeat (with_reducible first | exact HB.out | apply below_alloc | apply pw_below_drewN | apply below_drew1)) hb); clear hb hbox hg; have hcz40_0 : w39.cell? ⟨gb792, 0, none⟩ = some (.int .i64 0) := (blk_cell BK792.out 0).trans rfl; have hcz40_1 : w39.cell? ⟨gb792, 1, none⟩ = some (.int .i64 0) := (blk_cell BK792.out 1).trans rfl; have hcz40_2 : w39.cell? ⟨gb792, 2, none⟩ = some (.slice none 0 0) := (blk_cell BK792.out 2).trans rfl; have hfz40_0 := blk_frozen BK792.out 0; have hfz40_1 := blk_frozen BK792.out 1; have hfz40_2 := blk_frozen BK792.out 2; obtain ⟨Ao41, co41, eo41⟩ := Kd.R_slice HO790.out; subst eo41) | ((with_reducible refine gate_callee (f := 22) rfl ?_); refine goesL_ (some 123) rfl rfl Tryz.func22 (by kernel_rfl) rfl #[.int .i64 t763, .slice Ao37 t780.length co37, .agg #[.int .i64 t786, .int .i64 t787, .slice Ao41 t788.length co41]] rfl (by (try simp only [List.map_toArray, List.map_cons, List.map_nil]); first | done | rfl | (simp only [List.length_drop, List.length_take]; rfl)) ?_; (with_reducible refine (impl_ProofAll.calls t763 _ _ t780 t786 t787 _ _ t788 t793 t796 _ ?side1 ?side2 ?side3 ?side4 A33.out HE.out ?sideB).mono ?_); (case side1 => refine (Kd.R_reads' (e := 3) (base := w.heap.size) (ok := fun k_ => (some k_ ≠ (v776 : Value).ownBlock ∧ some k_ ≠ (.slice Ao41 t788.length co41 : Value).ownBlock)) (n := t780.length) (c := co37) ?_).2.2; exact ((Kd.R_mono (Kd.R_far (p := ⟨gb792, 2, none⟩) (Kd.R_far (p := ⟨gb792, 1, none⟩) (Kd.R_far (p := ⟨gb792, 0, none⟩) (Kd.R_types HO_14.out BK792.out (by decide)) (fun _ hk => hk.2) (.int .i64 t786)) (fun _ hk => hk.2) (.int .i64 t787)) (fun _ hk => hk.2) (.slice Ao41 t788.length co41)) (fun _ h_ => h_.1)))); (case side2 => exact (Kd.R_reads' HO_14.out).2.1); (case side3 => refine (Kd.R_reads' (e := 3) (base := w.heap.size) (ok := fun k_ => ((True ∧ some k_ ≠ (v776 : Value).ownBlock) ∧ some k_ ≠ (.slice Ao37 t780.length co37 : Value).ownBlock)) (n := t788.length) (c := co41) ?_).2.2; exact ((Kd.R_mono (Kd.R_far (p := ⟨gb792, 2, none⟩) (Kd.R_far (p := ⟨gb792, 1, none⟩) (Kd.R_far (p := ⟨gb792, 0, none⟩) (Kd.R_types HO790.out BK792.out (by decide)) (fun _ hk => hk.2) (.int .i64 t786)) (fun _ hk => hk.2) (.int .i64 t787)) (fun _ hk => hk.2) (.slice Ao41 t788.length co41)) (fun _ h_ => h_.1)))); (case side4 => exact (Kd.R_reads' HO790.out).2.1); (case sideB => exact (by repeat (with_reducible first | exact HB.out | apply below_alloc | apply pw_below_drewN | apply below_drew1 | refine below_set ?_ GE792.out))); rintro e w42 ⟨v794, rfl, ho0, hb⟩; refine ⟨_, rfl, ?_⟩; replace HO795 := Aside0.mk (Kd.V_lower (Kd.V_mono (ok' := fun k_ => some k_ ≠ (v776 : Value).ownBlock ∧ some k_ ≠ (.slice Ao37 t780.length co37 : Value).ownBlock ∧ some k_ ≠ (.slice Ao41 t788.length co41 : Value).ownBlock ∧ k_ ≠ gb792) ho0 (fun k_ hk_ => ⟨(Kd.fresh' (Kd.R_lt ((Kd.R_mono (Kd.R_far (p := ⟨gb792, 2, none⟩) (Kd.R_far (p := ⟨gb792, 1, none⟩) (Kd.R_far (p := ⟨gb792, 0, none⟩) (Kd.R_types HO_12.out BK792.out (by decide)) (fun _ hk => hk.2) (.int .i64 t786)) (fun _ hk => hk.2) (.int .i64 t787)) (fun _ hk => hk.2) (.slice Ao41 t788.length co41)) (fun _ h_ => h_.1)))) k_ hk_), (Kd.fresh' (Kd.R_lt ((Kd.R_mono (Kd.R_far (p := ⟨gb792, 2, none⟩) (Kd.R_far (p := ⟨gb792, 1, none⟩) (Kd.R_far (p := ⟨gb792, 0, none⟩) (Kd.R_types HO_14.out BK792.out (by decide)) (fun _ hk => hk.2) (.int .i64 t786)) (fun _ hk => hk.2) (.int .i64 t787)) (fun _ hk => hk.2) (.slice Ao41 t788.length co41)) (fun _ h_ => h_.1)))) k_ hk_), (Kd.fresh' (Kd.R_lt ((Kd.R_mono (Kd.R_far (p := ⟨gb792, 2, none⟩) (Kd.R_far (p := ⟨gb792, 1, none⟩) (Kd.R_far (p := ⟨gb792, 0, none⟩) (Kd.R_types HO790.out BK792.out (by decide)) (fun _ hk => hk.2) (.int .i64 t786)) (fun _ hk => hk.2) (.int .i64 t787)) (fun _ hk => hk.2) (.slice Ao41 t788.length co41)) (fun _ h_ => h_.1)))) k_ hk_), (Kd.freshB (g := gb792) (o := .cells #[.int .i64 t786, .int .i64 t787, .slice Ao41 t788.length co41] 40 (0, 0)) (by refine blk_put (cs := #[.int .i64 t786, .int .i64 t787, .slice none 0 0]) ?_ 2 _ rfl; refine blk_put (cs := #[.int .i64 t786, .int .i64 0, .slice none 0 0]) ?_ 1 _ rfl; refine blk_put (cs := #[.int .i64 0, .int .i64 0, .slice none 0 0]) ?_ 0 _ rfl; exact BK792.out) k_ hk_)⟩)) (below_size (by repeat (with_reducible first | exact HB.out | apply below_alloc | apply pw_below_drewN | apply below_drew1 | refine below_set ?_ GE792.out)))); replace HO_12 := Aside0.mk (Kd.R_below ((Kd.R_mono (Kd.R_far (p := ⟨gb792, 2, none⟩) (Kd.R_far (p := ⟨gb792, 1, none⟩) (Kd.R_far (p := ⟨gb792, 0, none⟩) (Kd.R_types HO_12.out BK792.out (by decide)) (fun _ hk => hk.2) (.int .i64 t786)) (fun _ hk => hk.2) (.int .i64 t787)) (fun _ hk => hk.2) (.slice Ao41 t788.length co41)) (fun _ h_ => h_.1))) hb); replace HO_14 := Aside0.mk (Kd.R_below ((Kd.R_mono (Kd.R_far (p := ⟨gb792, 2, none⟩) (Kd.R_far (p := ⟨gb792, 1, none⟩) (Kd.R_far (p := ⟨gb792, 0, none⟩) (Kd.R_types HO_14.out BK792.out (by decide)) (fun _ hk => hk.2) (.int .i64 t786)) (fun _ hk => hk.2) (.int .i64 t787)) (fun _ hk => hk.2) (.slice Ao41 t788.length co41)) (fun _ h_ => h_.1))) hb); replace HO790 := Aside0.mk (Kd.R_below ((Kd.R_mono (Kd.R_far (p := ⟨gb792, 2, none⟩) (Kd.R_far (p := ⟨gb792, 1, none⟩) (Kd.R_far (p := ⟨gb792, 0, none⟩) (Kd.R_types HO790.out BK792.out (by decide)) (fun _ hk => hk.2) (.int .i64 t786)) (fun _ hk => hk.2) (.int .i64 t787)) (fun _ hk => hk.2) (.slice Ao41 t788.length co41)) (fun _ h_ => h_.1))) hb); replace BK792 := Aside0.mk (blk_below (g := gb792) (o := .cells #[.int .i64 t786, .int .i64 t787, .slice Ao41 t788.length co41] 40 (0, 0)) (by refine blk_put (cs := #[.int .i64 t786, .int .i64 t787, .slice none 0 0]) ?_ 2 _ rfl; refine blk_put (cs := #[.int .i64 t786, .int .i64 0, .slice none 0 0]) ?_ 1 _ rfl; refine blk_put (cs := #[.int .i64 0, .int .i64 0, .slice none 0 0]) ?_ 0 _ rfl; exact BK792.out) hb); replace HB := Aside0.mk (below_step (by repeat (with_reducible first | exact HB.out | apply below_alloc | apply pw_below_drewN | apply below_drew1 | refine below_set ?_ GE792.out)) hb); (try clear hb); (try clear hb2); (try clear hk); (try clear hi); (try clear ho0); obtain ⟨Ao43, co43, eo43⟩ := Kd.V_slice HO795.out; subst eo43) | ((with_reducible refine gate_callee (f := 17) rfl ?_); refine goesL_ (some 131) rfl rfl Tryz.func17 (by kernel_rfl) rfl #[.int .i64 t763, .slice Ao43 t793.length co43, .bool true, .int .i64 t766, .int .i64 t767] rfl (by (try simp only [List.map_toArray, List.map_cons, List.map_nil]); first | done | rfl | (simp only [List.length_drop, List.length_take]; rfl)) ?_; (with_reducible refine (impl_QueryAsk.calls k3 t763 _ _ t793 true t766 t767 t797 t798 _ ?side1 ?side2 A34.out).mono ?_); (case side1 => exact (Kd.V_reads' HO795.out).2.2); (case side2 => exact (Kd.V_reads' HO795.out).2.1); rintro e w44 ⟨v799, rfl, ho0, hb⟩; refine ⟨_, rfl, ?_⟩; replace HO795 := Aside0.mk (Kd.V_elder' (by (with_reducible repeat (first | apply Kd.V_alloc | apply Kd.V_drewN | apply Kd.V_drew)); exact HO795.out) (Kd.R_base ho0) hb); replace HO800 := Aside0.mk (Kd.R_lower (Kd.R_new' (Kd.R_new' (Kd.R_new' ho0 (Kd.R_lt (HO_12.out))) (Kd.R_lt (HO_14.out))) (Kd.R_lt (HO790.out))) (below_size (by repeat (with_reducible first | exact HB.out | apply below_alloc | apply pw_below_drewN | apply below_drew1 | refine below_set ?_ GE792.out)))); replace HO_12 := Aside0.mk (Kd.R_elder' (HO_12.out) (Kd.R_base ho0) hb); replace HO_14 := Aside0.mk (Kd.R_elder' (HO_14.out) (Kd.R_base ho0) hb); replace HO790 := Aside0.mk (Kd.R_elder' (HO790.out) (Kd.R_base ho0) hb); replace BK792 := Aside0.mk (blk_below (g := gb792) (o := .cells #[.int .i64 t786, .int .i64 t787, .slice Ao41 t788.length co41] 40 (0, 0)) (by exact BK792.out) hb); replace HB := Aside0.mk (below_step (by repeat (with_reducible first | exact HB.out | apply below_alloc | apply pw_below_drewN | apply below_drew1 | refine below_set ?_ GE792.out)) hb); (try clear hb); (try clear hb2); (try clear hk); (try clear hi); (try clear ho0); obtain ⟨Ao45, co45, eo45⟩ := Kd.R_slice HO800.out; subst eo45; have p801 : 0 ≤ (0 : Int) := (by omega); have q801 : 0 < (t797.length : Int) := of_decide_eq_true ‹_›; obtain ⟨ad801, e801, hx801_0⟩ := Kd.at_int (Kd.R_reads' HO800.out).2.2 0 p801 q801; cases e801; have qi801 : (0 < t797.length) = True := eq_true (by omega); (try rw [show ((0 : Int)).toNat = 0 from rfl] at hx801_0); (try rw [Addr.add_zero'] at hx801_0); replace p801 := eq_true p801; replace q801 := eq_true q801))
             go_roundg k3
             case measure => have := HJ2.out; have := HJ8.out; have := HK3.out; omega
             case rel => exact ⟨(wrap64 (x18_3 + 1)), (wrap64 (x19_3 + 1)), rfl, rfl, H', ⟨by have := HJ2.out; have := HJ8.out; have := HK3.out; omega⟩, ⟨Kd.R_mono HO_12.out (fun _ hk => hk.1.1)⟩, ⟨Kd.R_mono HO_14.out (fun _ hk => hk.1.1)⟩, ⟨by repeat (with_reducible first | exact HB.out | apply below_alloc | apply pw_below_drewN | apply below_drew1 | refine below_set ?_ GE792.out)⟩⟩
            ·rw [if_neg c36] at H
             have c36b0 : ((rd t797 0) == t784) = false := beq_eq_false_iff_ne.mpr c36
             have c36b1 : ((rd t797 0) != t784) = true := bne_iff_ne.mpr c36
             have H' := Aside0.mk H
             clear H
             obtain ⟨Ao46, co46, eo46⟩ := Kd.R_slice HO_14.out
             subst eo46
             go_wp2_with (first | ((with_reducible refine gate_callee (f := 21) rfl ?_); refine goesL_ (some 116) rfl rfl Tryz.func21 (by kernel_rfl) rfl #[.int .i64 t763, .slice Ao46 t780.length co46, .int .i64 x19_3, .int .i64 0] rfl (by (try simp only [List.map_toArray, List.map_cons, List.map_nil]); first | done | rfl | (simp only [List.length_drop, List.length_take]; rfl)) ?_; (with_reducible refine (impl_ProofMake.calls k3 t763 _ _ t780 x19_3 0 t786 t787 t788 t791 _ ?side1 ?side2 A32.out).mono ?_); (case side1 => exact (Kd.R_reads' HO_14.out).2.2); (case side2 => exact (Kd.R_reads' HO_14.out).2.1); rintro e w47 ⟨v789, rfl, ho0, hb⟩; refine ⟨_, rfl, ?_⟩; replace HO790 := Aside0.mk (Kd.R_lower (Kd.R_new' (Kd.R_new' ho0 (Kd.R_lt (HO_12.out))) (Kd.R_lt (HO_14.out))) (below_size (by repeat (with_reducible first | exact HB.out | apply below_alloc | apply pw_below_drewN | apply below_drew1)))); replace HO_12 := Aside0.mk (Kd.R_elder' (HO_12.out) (Kd.R_base ho0) hb); replace HO_14 := Aside0.mk (Kd.R_elder' (HO_14.out) (Kd.R_base ho0) hb); replace HB := Aside0.mk (below_step (by repeat (with_reducible first | exact HB.out | apply below_alloc | apply pw_below_drewN | apply below_drew1)) hb); clear hb ho0) | ((with_reducible refine gate_dst (N := 20) rfl ?_); refine box_event ?hg (N := 20) ?hd (cs := #[.int .i64 0, .int .i64 0, .slice none 0 0]) (t := 40) ?hr ?_; (case hd => rfl); (case hg => rfl); (case hr => first | (go_simp; done) | (go_simp; rfl)); intro gb792 hg w48 hbox hb; replace HO_12 := Aside0.mk (Kd.R_below (HO_12.out) hb); replace HO_14 := Aside0.mk (Kd.R_below (HO_14.out) hb); replace HO790 := Aside0.mk (Kd.R_below (HO790.out) hb); replace BK792 := Aside0.mk (hbox); replace GW792 := Aside0.mk ((by rw [hg]; exact (below_size (by repeat (with_reducible first | exact HB.out | apply below_alloc | apply pw_below_drewN | apply below_drew1))) : w.heap.size ≤ gb792)); replace GE792 := Aside0.mk ((by rw [hg]; exact (below_size (by repeat (with_reducible first | exact HB.out | apply below_alloc | apply pw_below_drewN | apply below_drew1))) : w.heap.size ≤ gb792)); replace HB := Aside0.mk (below_step (by repeat (with_reducible first | exact HB.out | apply below_alloc | apply pw_below_drewN | apply below_drew1)) hb); clear hb hbox hg; have hcz49_0 : w48.cell? ⟨gb792, 0, none⟩ = some (.int .i64 0) := (blk_cell BK792.out 0).trans rfl; have hcz49_1 : w48.cell? ⟨gb792, 1, none⟩ = some (.int .i64 0) := (blk_cell BK792.out 1).trans rfl; have hcz49_2 : w48.cell? ⟨gb792, 2, none⟩ = some (.slice none 0 0) := (blk_cell BK792.out 2).trans rfl; have hfz49_0 := blk_frozen BK792.out 0; have hfz49_1 := blk_frozen BK792.out 1; have hfz49_2 := blk_frozen BK792.out 2; obtain ⟨Ao50, co50, eo50⟩ := Kd.R_slice HO790.out; subst eo50) | ((with_reducible refine gate_callee (f := 22) rfl ?_); refine goesL_ (some 123) rfl rfl Tryz.func22 (by kernel_rfl) rfl #[.int .i64 t763, .slice Ao46 t780.length co46, .agg #[.int .i64 t786, .int .i64 t787, .slice Ao50 t788.length co50]] rfl (by (try simp only [List.map_toArray, List.map_cons, List.map_nil]); first | done | rfl | (simp only [List.length_drop, List.length_take]; rfl)) ?_; (with_reducible refine (impl_ProofAll.calls t763 _ _ t780 t786 t787 _ _ t788 t793 t796 _ ?side1 ?side2 ?side3 ?side4 A33.out HE.out ?sideB).mono ?_); (case side1 => refine (Kd.R_reads' (e := 3) (base := w.heap.size) (ok := fun k_ => (some k_ ≠ (v776 : Value).ownBlock ∧ some k_ ≠ (.slice Ao50 t788.length co50 : Value).ownBlock)) (n := t780.length) (c := co46) ?_).2.2; exact ((Kd.R_mono (Kd.R_far (p := ⟨gb792, 2, none⟩) (Kd.R_far (p := ⟨gb792, 1, none⟩) (Kd.R_far (p := ⟨gb792, 0, none⟩) (Kd.R_types HO_14.out BK792.out (by decide)) (fun _ hk => hk.2) (.int .i64 t786)) (fun _ hk => hk.2) (.int .i64 t787)) (fun _ hk => hk.2) (.slice Ao50 t788.length co50)) (fun _ h_ => h_.1)))); (case side2 => exact (Kd.R_reads' HO_14.out).2.1); (case side3 => refine (Kd.R_reads' (e := 3) (base := w.heap.size) (ok := fun k_ => ((True ∧ some k_ ≠ (v776 : Value).ownBlock) ∧ some k_ ≠ (.slice Ao46 t780.length co46 : Value).ownBlock)) (n := t788.length) (c := co50) ?_).2.2; exact ((Kd.R_mono (Kd.R_far (p := ⟨gb792, 2, none⟩) (Kd.R_far (p := ⟨gb792, 1, none⟩) (Kd.R_far (p := ⟨gb792, 0, none⟩) (Kd.R_types HO790.out BK792.out (by decide)) (fun _ hk => hk.2) (.int .i64 t786)) (fun _ hk => hk.2) (.int .i64 t787)) (fun _ hk => hk.2) (.slice Ao50 t788.length co50)) (fun _ h_ => h_.1)))); (case side4 => exact (Kd.R_reads' HO790.out).2.1); (case sideB => exact (by repeat (with_reducible first | exact HB.out | apply below_alloc | apply pw_below_drewN | apply below_drew1 | refine below_set ?_ GE792.out))); rintro e w51 ⟨v794, rfl, ho0, hb⟩; refine ⟨_, rfl, ?_⟩; replace HO795 := Aside0.mk (Kd.V_lower (Kd.V_mono (ok' := fun k_ => some k_ ≠ (v776 : Value).ownBlock ∧ some k_ ≠ (.slice Ao46 t780.length co46 : Value).ownBlock ∧ some k_ ≠ (.slice Ao50 t788.length co50 : Value).ownBlock ∧ k_ ≠ gb792) ho0 (fun k_ hk_ => ⟨(Kd.fresh' (Kd.R_lt ((Kd.R_mono (Kd.R_far (p := ⟨gb792, 2, none⟩) (Kd.R_far (p := ⟨gb792, 1, none⟩) (Kd.R_far (p := ⟨gb792, 0, none⟩) (Kd.R_types HO_12.out BK792.out (by decide)) (fun _ hk => hk.2) (.int .i64 t786)) (fun _ hk => hk.2) (.int .i64 t787)) (fun _ hk => hk.2) (.slice Ao50 t788.length co50)) (fun _ h_ => h_.1)))) k_ hk_), (Kd.fresh' (Kd.R_lt ((Kd.R_mono (Kd.R_far (p := ⟨gb792, 2, none⟩) (Kd.R_far (p := ⟨gb792, 1, none⟩) (Kd.R_far (p := ⟨gb792, 0, none⟩) (Kd.R_types HO_14.out BK792.out (by decide)) (fun _ hk => hk.2) (.int .i64 t786)) (fun _ hk => hk.2) (.int .i64 t787)) (fun _ hk => hk.2) (.slice Ao50 t788.length co50)) (fun _ h_ => h_.1)))) k_ hk_), (Kd.fresh' (Kd.R_lt ((Kd.R_mono (Kd.R_far (p := ⟨gb792, 2, none⟩) (Kd.R_far (p := ⟨gb792, 1, none⟩) (Kd.R_far (p := ⟨gb792, 0, none⟩) (Kd.R_types HO790.out BK792.out (by decide)) (fun _ hk => hk.2) (.int .i64 t786)) (fun _ hk => hk.2) (.int .i64 t787)) (fun _ hk => hk.2) (.slice Ao50 t788.length co50)) (fun _ h_ => h_.1)))) k_ hk_), (Kd.freshB (g := gb792) (o := .cells #[.int .i64 t786, .int .i64 t787, .slice Ao50 t788.length co50] 40 (0, 0)) (by refine blk_put (cs := #[.int .i64 t786, .int .i64 t787, .slice none 0 0]) ?_ 2 _ rfl; refine blk_put (cs := #[.int .i64 t786, .int .i64 0, .slice none 0 0]) ?_ 1 _ rfl; refine blk_put (cs := #[.int .i64 0, .int .i64 0, .slice none 0 0]) ?_ 0 _ rfl; exact BK792.out) k_ hk_)⟩)) (below_size (by repeat (with_reducible first | exact HB.out | apply below_alloc | apply pw_below_drewN | apply below_drew1 | refine below_set ?_ GE792.out)))); replace HO_12 := Aside0.mk (Kd.R_below ((Kd.R_mono (Kd.R_far (p := ⟨gb792, 2, none⟩) (Kd.R_far (p := ⟨gb792, 1, none⟩) (Kd.R_far (p := ⟨gb792, 0, none⟩) (Kd.R_types HO_12.out BK792.out (by decide)) (fun _ hk => hk.2) (.int .i64 t786)) (fun _ hk => hk.2) (.int .i64 t787)) (fun _ hk => hk.2) (.slice Ao50 t788.length co50)) (fun _ h_ => h_.1))) hb); replace HO_14 := Aside0.mk (Kd.R_below ((Kd.R_mono (Kd.R_far (p := ⟨gb792, 2, none⟩) (Kd.R_far (p := ⟨gb792, 1, none⟩) (Kd.R_far (p := ⟨gb792, 0, none⟩) (Kd.R_types HO_14.out BK792.out (by decide)) (fun _ hk => hk.2) (.int .i64 t786)) (fun _ hk => hk.2) (.int .i64 t787)) (fun _ hk => hk.2) (.slice Ao50 t788.length co50)) (fun _ h_ => h_.1))) hb); replace HO790 := Aside0.mk (Kd.R_below ((Kd.R_mono (Kd.R_far (p := ⟨gb792, 2, none⟩) (Kd.R_far (p := ⟨gb792, 1, none⟩) (Kd.R_far (p := ⟨gb792, 0, none⟩) (Kd.R_types HO790.out BK792.out (by decide)) (fun _ hk => hk.2) (.int .i64 t786)) (fun _ hk => hk.2) (.int .i64 t787)) (fun _ hk => hk.2) (.slice Ao50 t788.length co50)) (fun _ h_ => h_.1))) hb); replace BK792 := Aside0.mk (blk_below (g := gb792) (o := .cells #[.int .i64 t786, .int .i64 t787, .slice Ao50 t788.length co50] 40 (0, 0)) (by refine blk_put (cs := #[.int .i64 t786, .int .i64 t787, .slice none 0 0]) ?_ 2 _ rfl; refine blk_put (cs := #[.int .i64 t786, .int .i64 0, .slice none 0 0]) ?_ 1 _ rfl; refine blk_put (cs := #[.int .i64 0, .int .i64 0, .slice none 0 0]) ?_ 0 _ rfl; exact BK792.out) hb); replace HB := Aside0.mk (below_step (by repeat (with_reducible first | exact HB.out | apply below_alloc | apply pw_below_drewN | apply below_drew1 | refine below_set ?_ GE792.out)) hb); (try clear hb); (try clear hb2); (try clear hk); (try clear hi); (try clear ho0); obtain ⟨Ao52, co52, eo52⟩ := Kd.V_slice HO795.out; subst eo52) | ((with_reducible refine gate_callee (f := 17) rfl ?_); refine goesL_ (some 131) rfl rfl Tryz.func17 (by kernel_rfl) rfl #[.int .i64 t763, .slice Ao52 t793.length co52, .bool true, .int .i64 t766, .int .i64 t767] rfl (by (try simp only [List.map_toArray, List.map_cons, List.map_nil]); first | done | rfl | (simp only [List.length_drop, List.length_take]; rfl)) ?_; (with_reducible refine (impl_QueryAsk.calls k3 t763 _ _ t793 true t766 t767 t797 t798 _ ?side1 ?side2 A34.out).mono ?_); (case side1 => exact (Kd.V_reads' HO795.out).2.2); (case side2 => exact (Kd.V_reads' HO795.out).2.1); rintro e w53 ⟨v799, rfl, ho0, hb⟩; refine ⟨_, rfl, ?_⟩; replace HO795 := Aside0.mk (Kd.V_elder' (by (with_reducible repeat (first | apply Kd.V_alloc | apply Kd.V_drewN | apply Kd.V_drew)); exact HO795.out) (Kd.R_base ho0) hb); replace HO800 := Aside0.mk (Kd.R_lower (Kd.R_new' (Kd.R_new' (Kd.R_new' ho0 (Kd.R_lt (HO_12.out))) (Kd.R_lt (HO_14.out))) (Kd.R_lt (HO790.out))) (below_size (by repeat (with_reducible first | exact HB.out | apply below_alloc | apply pw_below_drewN | apply below_drew1 | refine below_set ?_ GE792.out)))); replace HO_12 := Aside0.mk (Kd.R_elder' (HO_12.out) (Kd.R_base ho0) hb); replace HO_14 := Aside0.mk (Kd.R_elder' (HO_14.out) (Kd.R_base ho0) hb); replace HO790 := Aside0.mk (Kd.R_elder' (HO790.out) (Kd.R_base ho0) hb); replace BK792 := Aside0.mk (blk_below (g := gb792) (o := .cells #[.int .i64 t786, .int .i64 t787, .slice Ao50 t788.length co50] 40 (0, 0)) (by exact BK792.out) hb); replace HB := Aside0.mk (below_step (by repeat (with_reducible first | exact HB.out | apply below_alloc | apply pw_below_drewN | apply below_drew1 | refine below_set ?_ GE792.out)) hb); (try clear hb); (try clear hb2); (try clear hk); (try clear hi); (try clear ho0); obtain ⟨Ao54, co54, eo54⟩ := Kd.R_slice HO800.out; subst eo54; have p801 : 0 ≤ (0 : Int) := (by omega); have q801 : 0 < (t797.length : Int) := of_decide_eq_true ‹_›; obtain ⟨ad801, e801, hx801_0⟩ := Kd.at_int (Kd.R_reads' HO800.out).2.2 0 p801 q801; cases e801; have qi801 : (0 < t797.length) = True := eq_true (by omega); (try rw [show ((0 : Int)).toNat = 0 from rfl] at hx801_0); (try rw [Addr.add_zero'] at hx801_0); replace p801 := eq_true p801; replace q801 := eq_true q801))
             go_roundg k3
             case measure => have := HJ2.out; have := HJ8.out; have := HK3.out; omega
             case rel => exact ⟨(x18_3), (wrap64 (x19_3 + 1)), rfl, rfl, H', ⟨by have := HJ2.out; have := HJ8.out; have := HK3.out; omega⟩, ⟨Kd.R_mono HO_12.out (fun _ hk => hk.1.1)⟩, ⟨Kd.R_mono HO_14.out (fun _ hk => hk.1.1)⟩, ⟨by repeat (with_reducible first | exact HB.out | apply below_alloc | apply pw_below_drewN | apply below_drew1 | refine below_set ?_ GE792.out)⟩⟩
           ·rw [if_neg c35] at H
            exact absurd H (by simp)
          ·rw [if_neg c31] at H
           have c31b0 : decide (x19_3 < 31) = false := decide_eq_false c31
           clear c31
           have H' := Aside0.mk H
           clear H
           go_wp2
           go_loopg [26, 27] k3 (fun kq v26 v27 w' => ∃ (x26_4 : Int) (x27_4 : Int), v26 = .int .i64 x26_4 ∧ v27 = .int .i64 x27_4 ∧ Aside0 (laws_FnAskHide.l1 kq t763 t766 t767 t774 t780 t785 x18_3 x26_4 x27_4 = some r) ∧ Aside0 (kq ≤ k3) ∧ Aside0 (Kd.R (Kd.int .i64) 3 w' w.heap.size (fun k_ => some k_ ≠ (v782 : Value).ownBlock) v776 t774) ∧ Aside0 (Kd.R (Kd.int .i64) 3 w' w.heap.size (fun k_ => some k_ ≠ (v776 : Value).ownBlock) v782 t780) ∧ Aside0 (Below w.heap.size w w'))
           case atStart => exact ⟨(0), (0), rfl, rfl, H', ⟨Nat.le_refl _⟩, ⟨HO_12.out⟩, ⟨HO_14.out⟩, ⟨by repeat (with_reducible first | exact HB.out | apply below_alloc | apply pw_below_drewN | apply below_drew1)⟩⟩
           case round =>
            clear H'
            try clear c1
            try clear c2
            try clear p2
            try clear c3
            try clear c4
            try clear c4b0
            try clear c4b1
            try clear c5
            try clear p6
            try clear p8
            try clear q8
            try clear hx8
            try clear qi8
            try clear c14
            try clear c14b0
            try clear c14b1
            try clear c14b2
            try clear c15
            try clear c16
            try clear c17
            try clear c19
            try clear c20
            try clear c21
            try clear c22
            try clear c22b0
            try clear c22b1
            try clear c22b2
            try clear c27
            try clear c31
            try clear c31b0
            try clear c35
            try clear c35b0
            try clear c35b1
            try clear c36
            try clear c36b0
            try clear c36b1
            try clear hcz40_0
            try clear hcz40_1
            try clear hcz40_2
            try clear hcz49_0
            try clear hcz49_1
            try clear hcz49_2
            try clear hfz40_0
            try clear hfz40_1
            try clear hfz40_2
            try clear hfz49_0
            try clear hfz49_1
            try clear hfz49_2
            try clear hx801_0
            try clear p2
            try clear p6
            try clear p801
            try clear q801
            obtain ⟨x26_4, x27_4, rfl, rfl, HA, HK4, HO_12, HO_14, HB⟩ := hrel
            cases gk with
            | zero => exact absurd HA.out (by simp [laws_FnAskHide.l1])
            | succ k4 =>
             have H := HA.out
             clear HA
             simp only [laws_FnAskHide.l1] at H
             by_cases c55 : x27_4 < 31
             ·rw [if_pos c55] at H
              have c55b0 : decide (x27_4 < 31) = true := decide_eq_true c55
              clear c55
              replace H := bnd H
              obtain ⟨⟨t802, t803, t804, t807⟩, A56, H⟩ := H
              dsimp only at H
              replace H := bnd H
              obtain ⟨⟨t809, t812⟩, A57, H⟩ := H
              dsimp only at H
              replace H := bnd H
              obtain ⟨⟨t813, t814⟩, A58, H⟩ := H
              dsimp only at H
              by_cases c59 : 1 < (t813.length : Int)
              ·rw [if_pos c59] at H
               have c59b0 : decide (1 < (t813.length : Int)) = true := decide_eq_true c59
               have c59b1 : decide (1 < t813.length) = true := decide_eq_true (by omega)
               clear c59
               by_cases c60 : (rd t813 1) = t785
               ·rw [if_pos c60] at H
                have c60b0 : ((rd t813 1) == t785) = true := beq_iff_eq.mpr c60
                have c60b1 : ((rd t813 1) != t785) = false := bne_eq_false_iff_eq.mpr c60
                clear c60
                have H' := Aside0.mk H
                clear H
                obtain ⟨Ao61, co61, eo61⟩ := Kd.R_slice HO_14.out
                subst eo61
                go_wp2_with (first | ((with_reducible refine gate_callee (f := 21) rfl ?_); refine goesL_ (some 149) rfl rfl Tryz.func21 (by kernel_rfl) rfl #[.int .i64 t763, .slice Ao61 t780.length co61, .int .i64 0, .int .i64 x27_4] rfl (by (try simp only [List.map_toArray, List.map_cons, List.map_nil]); first | done | rfl | (simp only [List.length_drop, List.length_take]; rfl)) ?_; (with_reducible refine (impl_ProofMake.calls k4 t763 _ _ t780 0 x27_4 t802 t803 t804 t807 _ ?side1 ?side2 A56.out).mono ?_); (case side1 => exact (Kd.R_reads' HO_14.out).2.2); (case side2 => exact (Kd.R_reads' HO_14.out).2.1); rintro e w62 ⟨v805, rfl, ho0, hb⟩; refine ⟨_, rfl, ?_⟩; replace HO806 := Aside0.mk (Kd.R_lower (Kd.R_new' (Kd.R_new' ho0 (Kd.R_lt (HO_12.out))) (Kd.R_lt (HO_14.out))) (below_size (by repeat (with_reducible first | exact HB.out | apply below_alloc | apply pw_below_drewN | apply below_drew1)))); replace HO_12 := Aside0.mk (Kd.R_elder' (HO_12.out) (Kd.R_base ho0) hb); replace HO_14 := Aside0.mk (Kd.R_elder' (HO_14.out) (Kd.R_base ho0) hb); replace HB := Aside0.mk (below_step (by repeat (with_reducible first | exact HB.out | apply below_alloc | apply pw_below_drewN | apply below_drew1)) hb); clear hb ho0) | ((with_reducible refine gate_dst (N := 28) rfl ?_); refine box_event ?hg (N := 28) ?hd (cs := #[.int .i64 0, .int .i64 0, .slice none 0 0]) (t := 40) ?hr ?_; (case hd => rfl); (case hg => rfl); (case hr => first | (go_simp; done) | (go_simp; rfl)); intro gb808 hg w63 hbox hb; replace HO_12 := Aside0.mk (Kd.R_below (HO_12.out) hb); replace HO_14 := Aside0.mk (Kd.R_below (HO_14.out) hb); replace HO806 := Aside0.mk (Kd.R_below (HO806.out) hb); replace BK808 := Aside0.mk (hbox); replace GW808 := Aside0.mk ((by rw [hg]; exact (below_size (by repeat (with_reducible first | exact HB.out | apply below_alloc | apply pw_below_drewN | apply below_drew1))) : w.heap.size ≤ gb808)); replace GE808 := Aside0.mk ((by rw [hg]; exact (below_size (by repeat (with_reducible first | exact HB.out | apply below_alloc | apply pw_below_drewN | apply below_drew1))) : w.heap.size ≤ gb808)); replace HB := Aside0.mk (below_step (by repeat (with_reducible first | exact HB.out | apply below_alloc | apply pw_below_drewN | apply below_drew1)) hb); clear hb hbox hg; have hcz64_0 : w63.cell? ⟨gb808, 0, none⟩ = some (.int .i64 0) := (blk_cell BK808.out 0).trans rfl; have hcz64_1 : w63.cell? ⟨gb808, 1, none⟩ = some (.int .i64 0) := (blk_cell BK808.out 1).trans rfl; have hcz64_2 : w63.cell? ⟨gb808, 2, none⟩ = some (.slice none 0 0) := (blk_cell BK808.out 2).trans rfl; have hfz64_0 := blk_frozen BK808.out 0; have hfz64_1 := blk_frozen BK808.out 1; have hfz64_2 := blk_frozen BK808.out 2; obtain ⟨Ao65, co65, eo65⟩ := Kd.R_slice HO806.out; subst eo65) | ((with_reducible refine gate_callee (f := 22) rfl ?_); refine goesL_ (some 156) rfl rfl Tryz.func22 (by kernel_rfl) rfl #[.int .i64 t763, .slice Ao61 t780.length co61, .agg #[.int .i64 t802, .int .i64 t803, .slice Ao65 t804.length co65]] rfl (by (try simp only [List.map_toArray, List.map_cons, List.map_nil]); first | done | rfl | (simp only [List.length_drop, List.length_take]; rfl)) ?_; (with_reducible refine (impl_ProofAll.calls t763 _ _ t780 t802 t803 _ _ t804 t809 t812 _ ?side1 ?side2 ?side3 ?side4 A57.out HE.out ?sideB).mono ?_); (case side1 => refine (Kd.R_reads' (e := 3) (base := w.heap.size) (ok := fun k_ => (some k_ ≠ (v776 : Value).ownBlock ∧ some k_ ≠ (.slice Ao65 t804.length co65 : Value).ownBlock)) (n := t780.length) (c := co61) ?_).2.2; exact ((Kd.R_mono (Kd.R_far (p := ⟨gb808, 2, none⟩) (Kd.R_far (p := ⟨gb808, 1, none⟩) (Kd.R_far (p := ⟨gb808, 0, none⟩) (Kd.R_types HO_14.out BK808.out (by decide)) (fun _ hk => hk.2) (.int .i64 t802)) (fun _ hk => hk.2) (.int .i64 t803)) (fun _ hk => hk.2) (.slice Ao65 t804.length co65)) (fun _ h_ => h_.1)))); (case side2 => exact (Kd.R_reads' HO_14.out).2.1); (case side3 => refine (Kd.R_reads' (e := 3) (base := w.heap.size) (ok := fun k_ => ((True ∧ some k_ ≠ (v776 : Value).ownBlock) ∧ some k_ ≠ (.slice Ao61 t780.length co61 : Value).ownBlock)) (n := t804.length) (c := co65) ?_).2.2; exact ((Kd.R_mono (Kd.R_far (p := ⟨gb808, 2, none⟩) (Kd.R_far (p := ⟨gb808, 1, none⟩) (Kd.R_far (p := ⟨gb808, 0, none⟩) (Kd.R_types HO806.out BK808.out (by decide)) (fun _ hk => hk.2) (.int .i64 t802)) (fun _ hk => hk.2) (.int .i64 t803)) (fun _ hk => hk.2) (.slice Ao65 t804.length co65)) (fun _ h_ => h_.1)))); (case side4 => exact (Kd.R_reads' HO806.out).2.1); (case sideB => exact (by repeat (with_reducible first | exact HB.out | apply below_alloc | apply pw_below_drewN | apply below_drew1 | refine below_set ?_ GE808.out))); rintro e w66 ⟨v810, rfl, ho0, hb⟩; refine ⟨_, rfl, ?_⟩; replace HO811 := Aside0.mk (Kd.V_lower (Kd.V_mono (ok' := fun k_ => some k_ ≠ (v776 : Value).ownBlock ∧ some k_ ≠ (.slice Ao61 t780.length co61 : Value).ownBlock ∧ some k_ ≠ (.slice Ao65 t804.length co65 : Value).ownBlock ∧ k_ ≠ gb808) ho0 (fun k_ hk_ => ⟨(Kd.fresh' (Kd.R_lt ((Kd.R_mono (Kd.R_far (p := ⟨gb808, 2, none⟩) (Kd.R_far (p := ⟨gb808, 1, none⟩) (Kd.R_far (p := ⟨gb808, 0, none⟩) (Kd.R_types HO_12.out BK808.out (by decide)) (fun _ hk => hk.2) (.int .i64 t802)) (fun _ hk => hk.2) (.int .i64 t803)) (fun _ hk => hk.2) (.slice Ao65 t804.length co65)) (fun _ h_ => h_.1)))) k_ hk_), (Kd.fresh' (Kd.R_lt ((Kd.R_mono (Kd.R_far (p := ⟨gb808, 2, none⟩) (Kd.R_far (p := ⟨gb808, 1, none⟩) (Kd.R_far (p := ⟨gb808, 0, none⟩) (Kd.R_types HO_14.out BK808.out (by decide)) (fun _ hk => hk.2) (.int .i64 t802)) (fun _ hk => hk.2) (.int .i64 t803)) (fun _ hk => hk.2) (.slice Ao65 t804.length co65)) (fun _ h_ => h_.1)))) k_ hk_), (Kd.fresh' (Kd.R_lt ((Kd.R_mono (Kd.R_far (p := ⟨gb808, 2, none⟩) (Kd.R_far (p := ⟨gb808, 1, none⟩) (Kd.R_far (p := ⟨gb808, 0, none⟩) (Kd.R_types HO806.out BK808.out (by decide)) (fun _ hk => hk.2) (.int .i64 t802)) (fun _ hk => hk.2) (.int .i64 t803)) (fun _ hk => hk.2) (.slice Ao65 t804.length co65)) (fun _ h_ => h_.1)))) k_ hk_), (Kd.freshB (g := gb808) (o := .cells #[.int .i64 t802, .int .i64 t803, .slice Ao65 t804.length co65] 40 (0, 0)) (by refine blk_put (cs := #[.int .i64 t802, .int .i64 t803, .slice none 0 0]) ?_ 2 _ rfl; refine blk_put (cs := #[.int .i64 t802, .int .i64 0, .slice none 0 0]) ?_ 1 _ rfl; refine blk_put (cs := #[.int .i64 0, .int .i64 0, .slice none 0 0]) ?_ 0 _ rfl; exact BK808.out) k_ hk_)⟩)) (below_size (by repeat (with_reducible first | exact HB.out | apply below_alloc | apply pw_below_drewN | apply below_drew1 | refine below_set ?_ GE808.out)))); replace HO_12 := Aside0.mk (Kd.R_below ((Kd.R_mono (Kd.R_far (p := ⟨gb808, 2, none⟩) (Kd.R_far (p := ⟨gb808, 1, none⟩) (Kd.R_far (p := ⟨gb808, 0, none⟩) (Kd.R_types HO_12.out BK808.out (by decide)) (fun _ hk => hk.2) (.int .i64 t802)) (fun _ hk => hk.2) (.int .i64 t803)) (fun _ hk => hk.2) (.slice Ao65 t804.length co65)) (fun _ h_ => h_.1))) hb); replace HO_14 := Aside0.mk (Kd.R_below ((Kd.R_mono (Kd.R_far (p := ⟨gb808, 2, none⟩) (Kd.R_far (p := ⟨gb808, 1, none⟩) (Kd.R_far (p := ⟨gb808, 0, none⟩) (Kd.R_types HO_14.out BK808.out (by decide)) (fun _ hk => hk.2) (.int .i64 t802)) (fun _ hk => hk.2) (.int .i64 t803)) (fun _ hk => hk.2) (.slice Ao65 t804.length co65)) (fun _ h_ => h_.1))) hb); replace HO806 := Aside0.mk (Kd.R_below ((Kd.R_mono (Kd.R_far (p := ⟨gb808, 2, none⟩) (Kd.R_far (p := ⟨gb808, 1, none⟩) (Kd.R_far (p := ⟨gb808, 0, none⟩) (Kd.R_types HO806.out BK808.out (by decide)) (fun _ hk => hk.2) (.int .i64 t802)) (fun _ hk => hk.2) (.int .i64 t803)) (fun _ hk => hk.2) (.slice Ao65 t804.length co65)) (fun _ h_ => h_.1))) hb); replace BK808 := Aside0.mk (blk_below (g := gb808) (o := .cells #[.int .i64 t802, .int .i64 t803, .slice Ao65 t804.length co65] 40 (0, 0)) (by refine blk_put (cs := #[.int .i64 t802, .int .i64 t803, .slice none 0 0]) ?_ 2 _ rfl; refine blk_put (cs := #[.int .i64 t802, .int .i64 0, .slice none 0 0]) ?_ 1 _ rfl; refine blk_put (cs := #[.int .i64 0, .int .i64 0, .slice none 0 0]) ?_ 0 _ rfl; exact BK808.out) hb); replace HB := Aside0.mk (below_step (by repeat (with_reducible first | exact HB.out | apply below_alloc | apply pw_below_drewN | apply below_drew1 | refine below_set ?_ GE808.out)) hb); (try clear hb); (try clear hb2); (try clear hk); (try clear hi); (try clear ho0); obtain ⟨Ao67, co67, eo67⟩ := Kd.V_slice HO811.out; subst eo67) | ((with_reducible refine gate_callee (f := 17) rfl ?_); refine goesL_ (some 164) rfl rfl Tryz.func17 (by kernel_rfl) rfl #[.int .i64 t763, .slice Ao67 t809.length co67, .bool true, .int .i64 t766, .int .i64 t767] rfl (by (try simp only [List.map_toArray, List.map_cons, List.map_nil]); first | done | rfl | (simp only [List.length_drop, List.length_take]; rfl)) ?_; (with_reducible refine (impl_QueryAsk.calls k4 t763 _ _ t809 true t766 t767 t813 t814 _ ?side1 ?side2 A58.out).mono ?_); (case side1 => exact (Kd.V_reads' HO811.out).2.2); (case side2 => exact (Kd.V_reads' HO811.out).2.1); rintro e w68 ⟨v815, rfl, ho0, hb⟩; refine ⟨_, rfl, ?_⟩; replace HO811 := Aside0.mk (Kd.V_elder' (by (with_reducible repeat (first | apply Kd.V_alloc | apply Kd.V_drewN | apply Kd.V_drew)); exact HO811.out) (Kd.R_base ho0) hb); replace HO816 := Aside0.mk (Kd.R_lower (Kd.R_new' (Kd.R_new' (Kd.R_new' ho0 (Kd.R_lt (HO_12.out))) (Kd.R_lt (HO_14.out))) (Kd.R_lt (HO806.out))) (below_size (by repeat (with_reducible first | exact HB.out | apply below_alloc | apply pw_below_drewN | apply below_drew1 | refine below_set ?_ GE808.out)))); replace HO_12 := Aside0.mk (Kd.R_elder' (HO_12.out) (Kd.R_base ho0) hb); replace HO_14 := Aside0.mk (Kd.R_elder' (HO_14.out) (Kd.R_base ho0) hb); replace HO806 := Aside0.mk (Kd.R_elder' (HO806.out) (Kd.R_base ho0) hb); replace BK808 := Aside0.mk (blk_below (g := gb808) (o := .cells #[.int .i64 t802, .int .i64 t803, .slice Ao65 t804.length co65] 40 (0, 0)) (by exact BK808.out) hb); replace HB := Aside0.mk (below_step (by repeat (with_reducible first | exact HB.out | apply below_alloc | apply pw_below_drewN | apply below_drew1 | refine below_set ?_ GE808.out)) hb); (try clear hb); (try clear hb2); (try clear hk); (try clear hi); (try clear ho0); obtain ⟨Ao69, co69, eo69⟩ := Kd.R_slice HO816.out; subst eo69; have p817 : 0 ≤ (1 : Int) := (by omega); have q817 : 1 < (t813.length : Int) := of_decide_eq_true ‹_›; obtain ⟨ad817, e817, hx817_0⟩ := Kd.at_int (Kd.R_reads' HO816.out).2.2 1 p817 q817; cases e817; (try simp only [show (1 : Int).toNat = 1 from rfl, Nat.reduceMul, Nat.reduceEqDiff, Go.Addr.add, ↓reduceIte] at hx817_0); have qi817 : (1 < t813.length) = True := eq_true (by omega); (try rw [show ((1 : Int)).toNat = 1 from rfl] at hx817_0); replace p817 := eq_true p817; replace q817 := eq_true q817))
                go_roundg k4
                case measure => have := HJ2.out; have := HJ8.out; have := HK3.out; have := HK4.out; omega
                case rel => exact ⟨(wrap64 (x26_4 + 1)), (wrap64 (x27_4 + 1)), rfl, rfl, H', ⟨by have := HJ2.out; have := HJ8.out; have := HK3.out; have := HK4.out; omega⟩, ⟨Kd.R_mono HO_12.out (fun _ hk => hk.1.1)⟩, ⟨Kd.R_mono HO_14.out (fun _ hk => hk.1.1)⟩, ⟨by repeat (with_reducible first | exact HB.out | apply below_alloc | apply pw_below_drewN | apply below_drew1 | refine below_set ?_ GE808.out)⟩⟩
               ·rw [if_neg c60] at H
                have c60b0 : ((rd t813 1) == t785) = false := beq_eq_false_iff_ne.mpr c60
                have c60b1 : ((rd t813 1) != t785) = true := bne_iff_ne.mpr c60
                have H' := Aside0.mk H
                clear H
                obtain ⟨Ao70, co70, eo70⟩ := Kd.R_slice HO_14.out
                subst eo70
                go_wp2_with (first | ((with_reducible refine gate_callee (f := 21) rfl ?_); refine goesL_ (some 149) rfl rfl Tryz.func21 (by kernel_rfl) rfl #[.int .i64 t763, .slice Ao70 t780.length co70, .int .i64 0, .int .i64 x27_4] rfl (by (try simp only [List.map_toArray, List.map_cons, List.map_nil]); first | done | rfl | (simp only [List.length_drop, List.length_take]; rfl)) ?_; (with_reducible refine (impl_ProofMake.calls k4 t763 _ _ t780 0 x27_4 t802 t803 t804 t807 _ ?side1 ?side2 A56.out).mono ?_); (case side1 => exact (Kd.R_reads' HO_14.out).2.2); (case side2 => exact (Kd.R_reads' HO_14.out).2.1); rintro e w71 ⟨v805, rfl, ho0, hb⟩; refine ⟨_, rfl, ?_⟩; replace HO806 := Aside0.mk (Kd.R_lower (Kd.R_new' (Kd.R_new' ho0 (Kd.R_lt (HO_12.out))) (Kd.R_lt (HO_14.out))) (below_size (by repeat (with_reducible first | exact HB.out | apply below_alloc | apply pw_below_drewN | apply below_drew1)))); replace HO_12 := Aside0.mk (Kd.R_elder' (HO_12.out) (Kd.R_base ho0) hb); replace HO_14 := Aside0.mk (Kd.R_elder' (HO_14.out) (Kd.R_base ho0) hb); replace HB := Aside0.mk (below_step (by repeat (with_reducible first | exact HB.out | apply below_alloc | apply pw_below_drewN | apply below_drew1)) hb); clear hb ho0) | ((with_reducible refine gate_dst (N := 28) rfl ?_); refine box_event ?hg (N := 28) ?hd (cs := #[.int .i64 0, .int .i64 0, .slice none 0 0]) (t := 40) ?hr ?_; (case hd => rfl); (case hg => rfl); (case hr => first | (go_simp; done) | (go_simp; rfl)); intro gb808 hg w72 hbox hb; replace HO_12 := Aside0.mk (Kd.R_below (HO_12.out) hb); replace HO_14 := Aside0.mk (Kd.R_below (HO_14.out) hb); replace HO806 := Aside0.mk (Kd.R_below (HO806.out) hb); replace BK808 := Aside0.mk (hbox); replace GW808 := Aside0.mk ((by rw [hg]; exact (below_size (by repeat (with_reducible first | exact HB.out | apply below_alloc | apply pw_below_drewN | apply below_drew1))) : w.heap.size ≤ gb808)); replace GE808 := Aside0.mk ((by rw [hg]; exact (below_size (by repeat (with_reducible first | exact HB.out | apply below_alloc | apply pw_below_drewN | apply below_drew1))) : w.heap.size ≤ gb808)); replace HB := Aside0.mk (below_step (by repeat (with_reducible first | exact HB.out | apply below_alloc | apply pw_below_drewN | apply below_drew1)) hb); clear hb hbox hg; have hcz73_0 : w72.cell? ⟨gb808, 0, none⟩ = some (.int .i64 0) := (blk_cell BK808.out 0).trans rfl; have hcz73_1 : w72.cell? ⟨gb808, 1, none⟩ = some (.int .i64 0) := (blk_cell BK808.out 1).trans rfl; have hcz73_2 : w72.cell? ⟨gb808, 2, none⟩ = some (.slice none 0 0) := (blk_cell BK808.out 2).trans rfl; have hfz73_0 := blk_frozen BK808.out 0; have hfz73_1 := blk_frozen BK808.out 1; have hfz73_2 := blk_frozen BK808.out 2; obtain ⟨Ao74, co74, eo74⟩ := Kd.R_slice HO806.out; subst eo74) | ((with_reducible refine gate_callee (f := 22) rfl ?_); refine goesL_ (some 156) rfl rfl Tryz.func22 (by kernel_rfl) rfl #[.int .i64 t763, .slice Ao70 t780.length co70, .agg #[.int .i64 t802, .int .i64 t803, .slice Ao74 t804.length co74]] rfl (by (try simp only [List.map_toArray, List.map_cons, List.map_nil]); first | done | rfl | (simp only [List.length_drop, List.length_take]; rfl)) ?_; (with_reducible refine (impl_ProofAll.calls t763 _ _ t780 t802 t803 _ _ t804 t809 t812 _ ?side1 ?side2 ?side3 ?side4 A57.out HE.out ?sideB).mono ?_); (case side1 => refine (Kd.R_reads' (e := 3) (base := w.heap.size) (ok := fun k_ => (some k_ ≠ (v776 : Value).ownBlock ∧ some k_ ≠ (.slice Ao74 t804.length co74 : Value).ownBlock)) (n := t780.length) (c := co70) ?_).2.2; exact ((Kd.R_mono (Kd.R_far (p := ⟨gb808, 2, none⟩) (Kd.R_far (p := ⟨gb808, 1, none⟩) (Kd.R_far (p := ⟨gb808, 0, none⟩) (Kd.R_types HO_14.out BK808.out (by decide)) (fun _ hk => hk.2) (.int .i64 t802)) (fun _ hk => hk.2) (.int .i64 t803)) (fun _ hk => hk.2) (.slice Ao74 t804.length co74)) (fun _ h_ => h_.1)))); (case side2 => exact (Kd.R_reads' HO_14.out).2.1); (case side3 => refine (Kd.R_reads' (e := 3) (base := w.heap.size) (ok := fun k_ => ((True ∧ some k_ ≠ (v776 : Value).ownBlock) ∧ some k_ ≠ (.slice Ao70 t780.length co70 : Value).ownBlock)) (n := t804.length) (c := co74) ?_).2.2; exact ((Kd.R_mono (Kd.R_far (p := ⟨gb808, 2, none⟩) (Kd.R_far (p := ⟨gb808, 1, none⟩) (Kd.R_far (p := ⟨gb808, 0, none⟩) (Kd.R_types HO806.out BK808.out (by decide)) (fun _ hk => hk.2) (.int .i64 t802)) (fun _ hk => hk.2) (.int .i64 t803)) (fun _ hk => hk.2) (.slice Ao74 t804.length co74)) (fun _ h_ => h_.1)))); (case side4 => exact (Kd.R_reads' HO806.out).2.1); (case sideB => exact (by repeat (with_reducible first | exact HB.out | apply below_alloc | apply pw_below_drewN | apply below_drew1 | refine below_set ?_ GE808.out))); rintro e w75 ⟨v810, rfl, ho0, hb⟩; refine ⟨_, rfl, ?_⟩; replace HO811 := Aside0.mk (Kd.V_lower (Kd.V_mono (ok' := fun k_ => some k_ ≠ (v776 : Value).ownBlock ∧ some k_ ≠ (.slice Ao70 t780.length co70 : Value).ownBlock ∧ some k_ ≠ (.slice Ao74 t804.length co74 : Value).ownBlock ∧ k_ ≠ gb808) ho0 (fun k_ hk_ => ⟨(Kd.fresh' (Kd.R_lt ((Kd.R_mono (Kd.R_far (p := ⟨gb808, 2, none⟩) (Kd.R_far (p := ⟨gb808, 1, none⟩) (Kd.R_far (p := ⟨gb808, 0, none⟩) (Kd.R_types HO_12.out BK808.out (by decide)) (fun _ hk => hk.2) (.int .i64 t802)) (fun _ hk => hk.2) (.int .i64 t803)) (fun _ hk => hk.2) (.slice Ao74 t804.length co74)) (fun _ h_ => h_.1)))) k_ hk_), (Kd.fresh' (Kd.R_lt ((Kd.R_mono (Kd.R_far (p := ⟨gb808, 2, none⟩) (Kd.R_far (p := ⟨gb808, 1, none⟩) (Kd.R_far (p := ⟨gb808, 0, none⟩) (Kd.R_types HO_14.out BK808.out (by decide)) (fun _ hk => hk.2) (.int .i64 t802)) (fun _ hk => hk.2) (.int .i64 t803)) (fun _ hk => hk.2) (.slice Ao74 t804.length co74)) (fun _ h_ => h_.1)))) k_ hk_), (Kd.fresh' (Kd.R_lt ((Kd.R_mono (Kd.R_far (p := ⟨gb808, 2, none⟩) (Kd.R_far (p := ⟨gb808, 1, none⟩) (Kd.R_far (p := ⟨gb808, 0, none⟩) (Kd.R_types HO806.out BK808.out (by decide)) (fun _ hk => hk.2) (.int .i64 t802)) (fun _ hk => hk.2) (.int .i64 t803)) (fun _ hk => hk.2) (.slice Ao74 t804.length co74)) (fun _ h_ => h_.1)))) k_ hk_), (Kd.freshB (g := gb808) (o := .cells #[.int .i64 t802, .int .i64 t803, .slice Ao74 t804.length co74] 40 (0, 0)) (by refine blk_put (cs := #[.int .i64 t802, .int .i64 t803, .slice none 0 0]) ?_ 2 _ rfl; refine blk_put (cs := #[.int .i64 t802, .int .i64 0, .slice none 0 0]) ?_ 1 _ rfl; refine blk_put (cs := #[.int .i64 0, .int .i64 0, .slice none 0 0]) ?_ 0 _ rfl; exact BK808.out) k_ hk_)⟩)) (below_size (by repeat (with_reducible first | exact HB.out | apply below_alloc | apply pw_below_drewN | apply below_drew1 | refine below_set ?_ GE808.out)))); replace HO_12 := Aside0.mk (Kd.R_below ((Kd.R_mono (Kd.R_far (p := ⟨gb808, 2, none⟩) (Kd.R_far (p := ⟨gb808, 1, none⟩) (Kd.R_far (p := ⟨gb808, 0, none⟩) (Kd.R_types HO_12.out BK808.out (by decide)) (fun _ hk => hk.2) (.int .i64 t802)) (fun _ hk => hk.2) (.int .i64 t803)) (fun _ hk => hk.2) (.slice Ao74 t804.length co74)) (fun _ h_ => h_.1))) hb); replace HO_14 := Aside0.mk (Kd.R_below ((Kd.R_mono (Kd.R_far (p := ⟨gb808, 2, none⟩) (Kd.R_far (p := ⟨gb808, 1, none⟩) (Kd.R_far (p := ⟨gb808, 0, none⟩) (Kd.R_types HO_14.out BK808.out (by decide)) (fun _ hk => hk.2) (.int .i64 t802)) (fun _ hk => hk.2) (.int .i64 t803)) (fun _ hk => hk.2) (.slice Ao74 t804.length co74)) (fun _ h_ => h_.1))) hb); replace HO806 := Aside0.mk (Kd.R_below ((Kd.R_mono (Kd.R_far (p := ⟨gb808, 2, none⟩) (Kd.R_far (p := ⟨gb808, 1, none⟩) (Kd.R_far (p := ⟨gb808, 0, none⟩) (Kd.R_types HO806.out BK808.out (by decide)) (fun _ hk => hk.2) (.int .i64 t802)) (fun _ hk => hk.2) (.int .i64 t803)) (fun _ hk => hk.2) (.slice Ao74 t804.length co74)) (fun _ h_ => h_.1))) hb); replace BK808 := Aside0.mk (blk_below (g := gb808) (o := .cells #[.int .i64 t802, .int .i64 t803, .slice Ao74 t804.length co74] 40 (0, 0)) (by refine blk_put (cs := #[.int .i64 t802, .int .i64 t803, .slice none 0 0]) ?_ 2 _ rfl; refine blk_put (cs := #[.int .i64 t802, .int .i64 0, .slice none 0 0]) ?_ 1 _ rfl; refine blk_put (cs := #[.int .i64 0, .int .i64 0, .slice none 0 0]) ?_ 0 _ rfl; exact BK808.out) hb); replace HB := Aside0.mk (below_step (by repeat (with_reducible first | exact HB.out | apply below_alloc | apply pw_below_drewN | apply below_drew1 | refine below_set ?_ GE808.out)) hb); (try clear hb); (try clear hb2); (try clear hk); (try clear hi); (try clear ho0); obtain ⟨Ao76, co76, eo76⟩ := Kd.V_slice HO811.out; subst eo76) | ((with_reducible refine gate_callee (f := 17) rfl ?_); refine goesL_ (some 164) rfl rfl Tryz.func17 (by kernel_rfl) rfl #[.int .i64 t763, .slice Ao76 t809.length co76, .bool true, .int .i64 t766, .int .i64 t767] rfl (by (try simp only [List.map_toArray, List.map_cons, List.map_nil]); first | done | rfl | (simp only [List.length_drop, List.length_take]; rfl)) ?_; (with_reducible refine (impl_QueryAsk.calls k4 t763 _ _ t809 true t766 t767 t813 t814 _ ?side1 ?side2 A58.out).mono ?_); (case side1 => exact (Kd.V_reads' HO811.out).2.2); (case side2 => exact (Kd.V_reads' HO811.out).2.1); rintro e w77 ⟨v815, rfl, ho0, hb⟩; refine ⟨_, rfl, ?_⟩; replace HO811 := Aside0.mk (Kd.V_elder' (by (with_reducible repeat (first | apply Kd.V_alloc | apply Kd.V_drewN | apply Kd.V_drew)); exact HO811.out) (Kd.R_base ho0) hb); replace HO816 := Aside0.mk (Kd.R_lower (Kd.R_new' (Kd.R_new' (Kd.R_new' ho0 (Kd.R_lt (HO_12.out))) (Kd.R_lt (HO_14.out))) (Kd.R_lt (HO806.out))) (below_size (by repeat (with_reducible first | exact HB.out | apply below_alloc | apply pw_below_drewN | apply below_drew1 | refine below_set ?_ GE808.out)))); replace HO_12 := Aside0.mk (Kd.R_elder' (HO_12.out) (Kd.R_base ho0) hb); replace HO_14 := Aside0.mk (Kd.R_elder' (HO_14.out) (Kd.R_base ho0) hb); replace HO806 := Aside0.mk (Kd.R_elder' (HO806.out) (Kd.R_base ho0) hb); replace BK808 := Aside0.mk (blk_below (g := gb808) (o := .cells #[.int .i64 t802, .int .i64 t803, .slice Ao74 t804.length co74] 40 (0, 0)) (by exact BK808.out) hb); replace HB := Aside0.mk (below_step (by repeat (with_reducible first | exact HB.out | apply below_alloc | apply pw_below_drewN | apply below_drew1 | refine below_set ?_ GE808.out)) hb); (try clear hb); (try clear hb2); (try clear hk); (try clear hi); (try clear ho0); obtain ⟨Ao78, co78, eo78⟩ := Kd.R_slice HO816.out; subst eo78; have p817 : 0 ≤ (1 : Int) := (by omega); have q817 : 1 < (t813.length : Int) := of_decide_eq_true ‹_›; obtain ⟨ad817, e817, hx817_0⟩ := Kd.at_int (Kd.R_reads' HO816.out).2.2 1 p817 q817; cases e817; (try simp only [show (1 : Int).toNat = 1 from rfl, Nat.reduceMul, Nat.reduceEqDiff, Go.Addr.add, ↓reduceIte] at hx817_0); have qi817 : (1 < t813.length) = True := eq_true (by omega); (try rw [show ((1 : Int)).toNat = 1 from rfl] at hx817_0); replace p817 := eq_true p817; replace q817 := eq_true q817))
                go_roundg k4
                case measure => have := HJ2.out; have := HJ8.out; have := HK3.out; have := HK4.out; omega
                case rel => exact ⟨(x26_4), (wrap64 (x27_4 + 1)), rfl, rfl, H', ⟨by have := HJ2.out; have := HJ8.out; have := HK3.out; have := HK4.out; omega⟩, ⟨Kd.R_mono HO_12.out (fun _ hk => hk.1.1)⟩, ⟨Kd.R_mono HO_14.out (fun _ hk => hk.1.1)⟩, ⟨by repeat (with_reducible first | exact HB.out | apply below_alloc | apply pw_below_drewN | apply below_drew1 | refine below_set ?_ GE808.out)⟩⟩
              ·rw [if_neg c59] at H
               exact absurd H (by simp)
             ·rw [if_neg c55] at H
              have c55b0 : decide (x27_4 < 31) = false := decide_eq_false c55
              clear c55
              by_cases c79 : x18_3 = 1
              ·rw [if_pos c79] at H
               have c79b0 : (x18_3 == 1) = true := beq_iff_eq.mpr c79
               have c79b1 : (x18_3 != 1) = false := bne_eq_false_iff_eq.mpr c79
               clear c79
               by_cases c80 : x26_4 = 1
               ·rw [if_pos c80] at H
                have c80b0 : (x26_4 == 1) = true := beq_iff_eq.mpr c80
                have c80b1 : (x26_4 != 1) = false := bne_eq_false_iff_eq.mpr c80
                clear c80
                obtain rfl := Option.some.inj H
                obtain ⟨Ao81, co81, eo81⟩ := Kd.R_slice HO_12.out
                subst eo81
                go_wp2
                go_ret
                exact ⟨rfl, by repeat (with_reducible first | exact HB.out | apply below_alloc | apply pw_below_drewN | apply below_drew1)⟩
               ·rw [if_neg c80] at H
                have c80b0 : (x26_4 == 1) = false := beq_eq_false_iff_ne.mpr c80
                have c80b1 : (x26_4 != 1) = true := bne_iff_ne.mpr c80
                obtain rfl := Option.some.inj H
                go_wp2
                go_ret
                exact ⟨rfl, by repeat (with_reducible first | exact HB.out | apply below_alloc | apply pw_below_drewN | apply below_drew1)⟩
              ·rw [if_neg c79] at H
               have c79b0 : (x18_3 == 1) = false := beq_eq_false_iff_ne.mpr c79
               have c79b1 : (x18_3 != 1) = true := bne_iff_ne.mpr c79
               obtain rfl := Option.some.inj H
               go_wp2
               go_ret
               exact ⟨rfl, by repeat (with_reducible first | exact HB.out | apply below_alloc | apply pw_below_drewN | apply below_drew1)⟩
       ·replace c27 := Bool.eq_false_iff.mpr c27
        subst c27
        rw [if_neg (show ¬ (false = true) by decide)] at H
        exact absurd (Option.some.inj (H.trans (congrArg some HT0_.out))) (by decide)
def laws_FnAskHide.Pure : Prop := ∀ (l0 : List Int) (l1 : List Int), l0.length ≤ maxLen → l0.length * 1 ≤ 140737488351232 → (∀ x ∈ l0, (Lit.int .u8 x).wf = true) → l1.length ≤ maxLen → l1.length * 1 ≤ 140737488351232 → (∀ x ∈ l1, (Lit.int .u8 x).wf = true) → ∃ k, laws_FnAskHide.f k l0 l1 = some true
end Go.Proofs.YtlgbblaidohljaaGreatDoor.Zc
