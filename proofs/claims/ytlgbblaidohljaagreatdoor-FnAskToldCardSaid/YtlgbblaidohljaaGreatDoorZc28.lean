import Derived.Test.YtlgbblaidohljaaGreatDoorZ
import Derived.Test.YtlgbblaidohljaaGreatDoorZc0
import Derived.Test.YtlgbblaidohljaaGreatDoorZc2
import Derived.Test.YtlgbblaidohljaaGreatDoorZc7
import Derived.Test.YtlgbblaidohljaaGreatDoorZc24
import Derived.Test.YtlgbblaidohljaaGreatDoorZc25
import Derived.Test.YtlgbblaidohljaaGreatDoorZc26
import Derived.Test.YtlgbblaidohljaaGreatDoorZc27
namespace Go.Proofs.YtlgbblaidohljaaGreatDoor.Zc
open Go.RowKit Go.Proofs.YtlgbblaidohljaaGreatDoorU.PrintWords Go.Proofs.YtlgbblaidohljaaGreatDoorU.PrintLast Go.Proofs.YtlgbblaidohljaaGreatDoorU.PrintMore Go.Proofs.YtlgbblaidohljaaGreatDoor.Z
attribute [local go_sem] max2_int min2_int max_two min_two max_three min_three max_four min_four
set_option linter.unusedVariables false
set_option linter.unusedSimpArgs false
def laws_FnAskTold.j0 : Nat → Int → List Int → Int → Int → List Int → Bool → List Int → Bool → Bool → Option (Bool)
 | 0, _, _, _, _, _, _, _, _, _ => none
 | k + 1, x3, x4, x6, x7, x8, x9, x10, x11, x56 => if x56 = true then (if (x11 == x9) = true then ((laws_loInts.f k x10 x8).bind fun t688 => (some t688)) else (some false)) else ((impl_ProofCut.f x3 x4).bind fun bt689 => ((impl_QueryAsk.f k x3 x4 true x6 x7).bind fun bt699 => ((impl_ProofOk.f k x3 bt689.1 bt689.2.1 bt689.2.2.1 bt689.2.2.2.1).bind fun t703 => (if t703 = true then (if 0 < (bt699.1.length : Int) then (if 1 < (bt699.1.length : Int) then ((impl_FieldMul.f (rd bt699.1 0) (rd bt699.1 1)).bind fun t706 => (if 2 < (bt699.1.length : Int) then (if t706 = (rd bt699.1 2) then (if 3 < (bt699.1.length : Int) then (some ((rd bt699.1 3) == 0)) else (none)) else (some false)) else (none))) else (none)) else (none)) else (some true)))))
def laws_FnAskTold.f (k : Nat) (l0 : List Int) : Option (Bool) := if (l0.length : Int) > 1048576 then (some true) else ((spec_DrawQueryAsk.f k l0).bind fun bt672 => ((spec_QueryAsk.f k bt672.1 bt672.2.1 bt672.2.2.1 bt672.2.2.2.1 bt672.2.2.2.2).bind fun bt679 => ((impl_QueryAsk.f k bt672.1 bt672.2.1 bt672.2.2.1 bt672.2.2.2.1 bt672.2.2.2.2).bind fun bt683 => (if (bt683.2 != bt679.2) = true then (laws_FnAskTold.j0 k bt672.1 bt672.2.1 bt672.2.2.2.1 bt672.2.2.2.2 bt679.1 bt679.2 bt683.1 bt683.2 true) else ((laws_loInts.f k bt683.1 bt679.1).bind fun t687 => (if t687 = true then (laws_FnAskTold.j0 k bt672.1 bt672.2.1 bt672.2.2.2.1 bt672.2.2.2.2 bt679.1 bt679.2 bt683.1 bt683.2 (!bt683.2)) else (laws_FnAskTold.j0 k bt672.1 bt672.2.1 bt672.2.2.2.1 bt672.2.2.2.2 bt679.1 bt679.2 bt683.1 bt683.2 true)))))))
def laws_FnAskTold.T10 : Bool × List (List Nat × List Nat) := (true, [([], []), ([], []), ([], []), ([0, 1, 2], [0, 1, 2]), ([3], [3]), ([4, 3], [4]), ([5], [5]), ([6, 5], [5, 6]), ([7, 5], [5, 7]), ([5], [5]), ([9, 5], [5, 9]), ([10, 5], [5, 10]), ([8, 11, 5, 5], [5, 8, 11]), ([5], [5]), ([13, 5], [5, 13]), ([14, 5], [5, 14]), ([12, 15, 5], [5, 12, 15]), ([16, 12, 5], [5, 16]), ([17], [17]), ([18, 17], [17, 18]), ([19, 17], [17, 19]), ([20, 17], [17, 20]), ([17, 21, 5], [5, 17, 21]), ([5, 22], [5, 22]), ([23, 17, 0, 1, 2, 3, 4, 5, 6, 7, 8, 9, 10, 11, 12, 13, 14, 15, 16, 17, 18, 19, 20, 21, 22, 23], [23])])
def laws_FnAskTold.B10 : List Nat := [0, 0, 0, 7, 15, 31, 63, 127, 255, 63, 575, 1599, 4095, 63, 8255, 24639, 65535, 131071, 262143, 524287, 1048575, 2097151, 4194303, 8388607, 16777215]
theorem laws_FnAskTold.tab10 : rtab .any (opsOf Tryz.f5 10) = laws_FnAskTold.T10 := by kernel_rfl
theorem laws_FnAskTold.bits10 : waitsOk laws_FnAskTold.T10.2 laws_FnAskTold.B10 = true := by kernel_rfl
set_option maxHeartbeats 8000000 in
set_option maxRecDepth 100000 in
theorem laws_FnAskTold.calls (k : Nat) (A0 : Option Addr) (c0 : Nat) (l0 : List Int) (r : Bool) (w : World) (hr0 : Kd.C (Kd.int .u8) w A0 l0.length l0) (hc0 : l0.length ≤ c0) (h : laws_FnAskTold.f k l0 = some r) (hTr : r = true) {a : Addr} (hE : errAt a w) :
  Calls Tryz.prog 5 #[.slice A0 l0.length c0] w fun e w' => e = .returned (.bool r) ∧ Below w.heap.size w w' := by
 have HT0_ := Aside0.mk hTr
 clear hTr
 have HE := Aside0.mk hE
 clear hE
 have hu40 := Tryz.underlying40
 have HR0 := Aside0.mk hr0
 have HC0 := Aside0.mk hc0
 clear hr0 hc0
 have HB := Aside0.mk (Below.refl w.heap.size w)
 have H := h
 unfold laws_FnAskTold.f at H
 clear h
 go_enter Tryz.func5, Tryz.ntmps5
 by_cases c2 : (l0.length : Int) > 1048576
 ·rw [if_pos c2] at H
  have c2b0 : decide (1048576 < (l0.length : Int)) = true := decide_eq_true c2
  have c2b1 : decide (1048576 < l0.length) = true := decide_eq_true (by omega)
  clear c2
  obtain rfl := Option.some.inj H
  go_wp2
  go_ret
  exact ⟨rfl, by repeat (with_reducible first | exact HB.out | apply below_alloc | apply pw_below_drewN | apply below_drew1)⟩
 ·rw [if_neg c2] at H
  have c2b0 : decide (1048576 < (l0.length : Int)) = false := decide_eq_false c2
  have c2b1 : decide (1048576 < l0.length) = false := decide_eq_false (by omega)
  clear c2
  replace H := bnd H
  obtain ⟨⟨t672, t673, t674, t675, t676⟩, A3, H⟩ := H
  dsimp only at H
  replace H := bnd H
  obtain ⟨⟨t679, t680⟩, A4, H⟩ := H
  dsimp only at H
  replace H := bnd H
  obtain ⟨⟨t683, t684⟩, A5, H⟩ := H
  dsimp only at H
  have HC6 := Aside0.mk H
  clear H
  go_upto_region 6 with (first | ((with_reducible refine gate_callee (f := 15) rfl ?_); refine goesL_ (some 20) rfl rfl Tryz.func15 (by kernel_rfl) rfl #[.slice A0 l0.length c0] rfl (by (try simp only [List.map_toArray, List.map_cons, List.map_nil]); first | done | rfl | (simp only [List.length_drop, List.length_take]; rfl)) ?_; (with_reducible refine (spec_DrawQueryAsk.calls k _ _ l0 t672 t673 t674 t675 t676 _ ?side1 ?side2 A3.out).mono ?_); (case side1 => exact HR0.out); (case side2 => exact HC0.out); rintro e w7 ⟨v677, rfl, ho0, hb⟩; refine ⟨_, rfl, ?_⟩; have n0_ := Aside0.mk (Kd.R_lower ho0 (below_size (by repeat (with_reducible first | exact HB.out | apply below_alloc | apply pw_below_drewN | apply below_drew1)))); have n1_ := Aside0.mk (below_step (by repeat (with_reducible first | exact HB.out | apply below_alloc | apply pw_below_drewN | apply below_drew1)) hb); clear HB; have HO678 := n0_; have HB := n1_; clear n0_ n1_; (try clear hb); (try clear hb2); (try clear hk); (try clear hi); (try clear ho0); obtain ⟨Ao8, co8, eo8⟩ := Kd.R_slice HO678.out; subst eo8) | ((with_reducible refine gate_callee (f := 16) rfl ?_); refine goesL_ (some 32) rfl rfl Tryz.func16 (by kernel_rfl) rfl #[.int .i64 t672, .slice Ao8 t673.length co8, .bool t674, .int .i64 t675, .int .i64 t676] rfl (by (try simp only [List.map_toArray, List.map_cons, List.map_nil]); first | done | rfl | (simp only [List.length_drop, List.length_take]; rfl)) ?_; (with_reducible refine (spec_QueryAsk.calls k t672 _ _ t673 t674 t675 t676 t679 t680 _ ?side1 ?side2 A4.out).mono ?_); (case side1 => exact (Kd.R_reads' HO678.out).2.2); (case side2 => exact (Kd.R_reads' HO678.out).2.1); rintro e w9 ⟨v681, rfl, ho0, hb⟩; refine ⟨_, rfl, ?_⟩; have n0_ := Aside0.mk (Kd.R_elder' (HO678.out) (Kd.R_base ho0) hb); have n1_ := Aside0.mk (Kd.R_lower (Kd.R_new' ho0 (Kd.R_lt (HO678.out))) (below_size (by repeat (with_reducible first | exact HB.out | apply below_alloc | apply pw_below_drewN | apply below_drew1)))); have n2_ := Aside0.mk (below_step (by repeat (with_reducible first | exact HB.out | apply below_alloc | apply pw_below_drewN | apply below_drew1)) hb); clear HO678; clear HB; have HO678 := n0_; have HO682 := n1_; have HB := n2_; clear n0_ n1_ n2_; (try clear hb); (try clear hb2); (try clear hk); (try clear hi); (try clear ho0)) | ((with_reducible refine gate_callee (f := 17) rfl ?_); refine goesL_ (some 41) rfl rfl Tryz.func17 (by kernel_rfl) rfl #[.int .i64 t672, .slice Ao8 t673.length co8, .bool t674, .int .i64 t675, .int .i64 t676] rfl (by (try simp only [List.map_toArray, List.map_cons, List.map_nil]); first | done | rfl | (simp only [List.length_drop, List.length_take]; rfl)) ?_; (with_reducible refine (impl_QueryAsk.calls k t672 _ _ t673 t674 t675 t676 t683 t684 _ ?side1 ?side2 A5.out).mono ?_); (case side1 => exact (Kd.R_reads' HO678.out).2.2); (case side2 => exact (Kd.R_reads' HO678.out).2.1); rintro e w10 ⟨v685, rfl, ho0, hb⟩; refine ⟨_, rfl, ?_⟩; have n0_ := Aside0.mk (Kd.R_elder' (HO678.out) (Kd.R_base ho0) hb); have n1_ := Aside0.mk (Kd.R_elder' (HO682.out) (Kd.R_base ho0) hb); have n2_ := Aside0.mk (Kd.R_lower (Kd.R_new' (Kd.R_new' ho0 (Kd.R_lt (HO678.out))) (Kd.R_lt (HO682.out))) (below_size (by repeat (with_reducible first | exact HB.out | apply below_alloc | apply pw_below_drewN | apply below_drew1)))); have n3_ := Aside0.mk (below_step (by repeat (with_reducible first | exact HB.out | apply below_alloc | apply pw_below_drewN | apply below_drew1)) hb); clear HO678; clear HO682; clear HB; have HO678 := n0_; have HO682 := n1_; have HO686 := n2_; have HB := n3_; clear n0_ n1_ n2_ n3_; (try clear hb); (try clear hb2); (try clear hk); (try clear hi); (try clear ho0)))
  (try simp only [Act.put, List.setIfInBounds_toArray, List.set_cons_zero, List.set_cons_succ])
  go_cut [56] (fun v56 wc => ∃ (kq : Nat) (x56_5 : Bool), v56 = .bool x56_5 ∧ Aside0 (laws_FnAskTold.j0 kq t672 t673 t675 t676 t679 t680 t683 t684 x56_5 = some r) ∧ Aside0 (kq ≤ k) ∧ Aside0 (Kd.R (Kd.int .i64) 3 wc w.heap.size (fun k_ => some k_ ≠ (v681 : Value).ownBlock ∧ some k_ ≠ (v685 : Value).ownBlock) (.slice Ao8 t673.length co8) t673) ∧ Aside0 (Kd.R (Kd.int .i64) 3 wc w.heap.size (fun k_ => some k_ ≠ ((.slice Ao8 t673.length co8) : Value).ownBlock ∧ some k_ ≠ (v685 : Value).ownBlock) v681 t679) ∧ Aside0 (Kd.R (Kd.int .i64) 3 wc w.heap.size (fun k_ => some k_ ≠ ((.slice Ao8 t673.length co8) : Value).ownBlock ∧ some k_ ≠ (v681 : Value).ownBlock) v685 t683) ∧ Aside0 (Below w.heap.size w wc))
  case first =>
   have H := HC6.out
   clear HC6
   by_cases c11 : (t684 != t680) = true
   ·rw [if_pos c11] at H
    have c11b0 : (t684 != t680) = true := c11
    (try (have c11b1 : decide (t684 = t680) = false := by simpa using c11))
    (try (have c11b2 : (t684 == t680) = false := by simpa using c11))
    (try (have c11b3 : ¬ (t684 = t680) := by simpa using c11))
    clear c11
    (first | rw [c11b0] | (simp only [i64_w, i32_w]; rw [c11b0]) | skip)
    have H' := Aside0.mk H
    clear H
    go_wp2
    go_meet
    case rel => exact ⟨_, (true), rfl, H', ⟨by first | omega | exact Nat.le_refl _⟩, ⟨Kd.R_mono HO678.out (fun _ hk => ⟨hk.1.2, hk.2⟩)⟩, ⟨Kd.R_mono HO682.out (fun _ hk => ⟨hk.1.2, hk.2⟩)⟩, ⟨Kd.R_mono HO686.out (fun _ hk => ⟨hk.1.2, hk.2⟩)⟩, ⟨by repeat (with_reducible first | exact HB.out | apply below_alloc | apply pw_below_drewN | apply below_drew1)⟩⟩
   ·rw [if_neg c11] at H
    have c11b0 : (t684 != t680) = false := by simpa using c11
    (try (have c11b1 : decide (t684 = t680) = true := by simpa using c11))
    (try (have c11b2 : (t684 == t680) = true := by simpa using c11))
    clear c11
    (first | rw [c11b0] | (simp only [i64_w, i32_w]; rw [c11b0]) | skip)
    replace H := bnd H
    obtain ⟨t687, A12, H⟩ := H
    by_cases c13 : t687 = true
    ·subst c13
     rw [if_pos rfl] at H
     have H' := Aside0.mk H
     clear H
     obtain ⟨Ao14, co14, eo14⟩ := Kd.R_slice HO686.out
     subst eo14
     obtain ⟨Ao15, co15, eo15⟩ := Kd.R_slice HO682.out
     subst eo15
     go_wp2_with (first | (go_at_call 18; (with_reducible refine (laws_loInts.calls k _ _ t683 _ _ t679 true _ ?side1 ?side2 ?side3 ?side4 A12.out).mono ?_); (case side1 => exact (Kd.R_reads' HO686.out).2.2); (case side2 => exact (Kd.R_reads' HO686.out).2.1); (case side3 => exact (Kd.R_reads' HO682.out).2.2); (case side4 => exact (Kd.R_reads' HO682.out).2.1); rintro e w' ⟨rfl, ⟨nd, rfl⟩⟩))
     go_meet
     case rel => exact ⟨_, (!t684), rfl, H', ⟨by first | omega | exact Nat.le_refl _⟩, ⟨Kd.R_mono HO678.out (fun _ hk => ⟨hk.1.2, hk.2⟩)⟩, ⟨Kd.R_mono HO682.out (fun _ hk => ⟨hk.1.2, hk.2⟩)⟩, ⟨Kd.R_mono HO686.out (fun _ hk => ⟨hk.1.2, hk.2⟩)⟩, ⟨by repeat (with_reducible first | exact HB.out | apply below_alloc | apply pw_below_drewN | apply below_drew1)⟩⟩
    ·replace c13 := Bool.eq_false_iff.mpr c13
     subst c13
     rw [if_neg (show ¬ (false = true) by decide)] at H
     have H' := Aside0.mk H
     clear H
     obtain ⟨Ao16, co16, eo16⟩ := Kd.R_slice HO686.out
     subst eo16
     obtain ⟨Ao17, co17, eo17⟩ := Kd.R_slice HO682.out
     subst eo17
     go_wp2_with (first | (go_at_call 18; (with_reducible refine (laws_loInts.calls k _ _ t683 _ _ t679 false _ ?side1 ?side2 ?side3 ?side4 A12.out).mono ?_); (case side1 => exact (Kd.R_reads' HO686.out).2.2); (case side2 => exact (Kd.R_reads' HO686.out).2.1); (case side3 => exact (Kd.R_reads' HO682.out).2.2); (case side4 => exact (Kd.R_reads' HO682.out).2.1); rintro e w' ⟨rfl, ⟨nd, rfl⟩⟩))
     go_meet
     case rel => exact ⟨_, (true), rfl, H', ⟨by first | omega | exact Nat.le_refl _⟩, ⟨Kd.R_mono HO678.out (fun _ hk => ⟨hk.1.2, hk.2⟩)⟩, ⟨Kd.R_mono HO682.out (fun _ hk => ⟨hk.1.2, hk.2⟩)⟩, ⟨Kd.R_mono HO686.out (fun _ hk => ⟨hk.1.2, hk.2⟩)⟩, ⟨by repeat (with_reducible first | exact HB.out | apply below_alloc | apply pw_below_drewN | apply below_drew1)⟩⟩
  case rest =>
   clear HC6
   try clear c1
   try clear c2
   try clear c2b0
   try clear c2b1
   try clear p2
   try clear c5
   try clear c11
   try clear c11b0
   try clear c11b1
   try clear c11b2
   try clear c13
   try clear c15
   try clear c16
   try clear c17
   obtain ⟨kq, x56_5, rfl, HA, HJ5, HO_4, HO_8, HO_10, HB⟩ := hcut
   cases kq with
   | zero => exact absurd HA.out (by simp [laws_FnAskTold.j0])
   | succ kj5 =>
    have H := HA.out
    clear HA
    simp only [laws_FnAskTold.j0] at H
    by_cases c18 : x56_5 = true
    ·subst c18
     rw [if_pos rfl] at H
     by_cases c19 : (t684 == t680) = true
     ·rw [if_pos c19] at H
      have c19b0 : (t684 == t680) = true := c19
      (try (have c19b1 : decide (t684 = t680) = true := by simpa using c19))
      (try (have c19b2 : (t684 == t680) = true := by simpa using c19))
      clear c19
      replace H := bnd H
      obtain ⟨t688, A20, H⟩ := H
      obtain rfl := Option.some.inj H
      obtain ⟨Ao21, co21, eo21⟩ := Kd.R_slice HO_10.out
      subst eo21
      obtain ⟨Ao22, co22, eo22⟩ := Kd.R_slice HO_8.out
      subst eo22
      go_wp2_with (first | (go_at_call 18; (with_reducible refine (laws_loInts.calls kj5 _ _ t683 _ _ t679 t688 _ ?side1 ?side2 ?side3 ?side4 A20.out).mono ?_); (case side1 => exact (Kd.R_reads' HO_10.out).2.2); (case side2 => exact (Kd.R_reads' HO_10.out).2.1); (case side3 => exact (Kd.R_reads' HO_8.out).2.2); (case side4 => exact (Kd.R_reads' HO_8.out).2.1); rintro e w' ⟨rfl, ⟨nd, rfl⟩⟩))
      go_ret
      exact ⟨rfl, by repeat (with_reducible first | exact HB.out | apply below_alloc | apply pw_below_drewN | apply below_drew1)⟩
     ·rw [if_neg c19] at H
      have c19b0 : (t684 == t680) = false := by simpa using c19
      (try (have c19b1 : decide (t684 = t680) = false := by simpa using c19))
      (try (have c19b2 : (t684 == t680) = false := by simpa using c19))
      (try (have c19b3 : ¬ (t684 = t680) := by simpa using c19))
      clear c19
      exact absurd (Option.some.inj (H.trans (congrArg some HT0_.out))) (by decide)
    ·replace c18 := Bool.eq_false_iff.mpr c18
     subst c18
     rw [if_neg (show ¬ (false = true) by decide)] at H
     replace H := bnd H
     obtain ⟨⟨t689, t692, t693, t694, t697⟩, A23, H⟩ := H
     dsimp only at H
     replace H := bnd H
     obtain ⟨⟨t699, t700⟩, A24, H⟩ := H
     dsimp only at H
     replace H := bnd H
     obtain ⟨t703, A25, H⟩ := H
     try go_wp2_with (first | ((with_reducible refine gate_callee (f := 23) rfl ?_); refine goesL_ (some 68) rfl rfl Tryz.func23 (by kernel_rfl) rfl #[.int .i64 t672, .slice Ao8 t673.length co8] rfl (by (try simp only [List.map_toArray, List.map_cons, List.map_nil]); first | done | rfl | (simp only [List.length_drop, List.length_take]; rfl)) ?_; (with_reducible refine (impl_ProofCut.calls t672 _ _ t673 t689 t692 t693 t694 t697 _ ?side1 ?side2 A23.out).mono ?_); (case side1 => exact (Kd.R_reads' HO_4.out).2.2); (case side2 => exact (Kd.R_reads' HO_4.out).2.1); rintro e w33 ⟨v690, v695, rfl, ho0, ho1, hb⟩; refine ⟨_, rfl, ?_⟩; replace HO691 := Aside0.mk (Kd.V_lower (Kd.V_mono (ok' := fun k_ => some k_ ≠ (.slice Ao8 t673.length co8 : Value).ownBlock ∧ some k_ ≠ (v681 : Value).ownBlock ∧ some k_ ≠ (v685 : Value).ownBlock) ho0 (fun k_ hk_ => ⟨(Kd.fresh' (Kd.R_lt (HO_4.out)) k_ hk_), (Kd.fresh' (Kd.R_lt (HO_8.out)) k_ hk_), (Kd.fresh' (Kd.R_lt (HO_10.out)) k_ hk_)⟩)) (below_size (by repeat (with_reducible first | exact HB.out | apply below_alloc | apply pw_below_drewN | apply below_drew1)))); replace HO696 := Aside0.mk (Kd.V_lower (Kd.V_mono (ok' := fun k_ => some k_ ≠ (.slice Ao8 t673.length co8 : Value).ownBlock ∧ some k_ ≠ (v681 : Value).ownBlock ∧ some k_ ≠ (v685 : Value).ownBlock) ho1 (fun k_ hk_ => ⟨(Kd.fresh' (Kd.R_lt (HO_4.out)) k_ hk_), (Kd.fresh' (Kd.R_lt (HO_8.out)) k_ hk_), (Kd.fresh' (Kd.R_lt (HO_10.out)) k_ hk_)⟩)) (below_size (by repeat (with_reducible first | exact HB.out | apply below_alloc | apply pw_below_drewN | apply below_drew1)))); replace HO_4 := Aside0.mk (Kd.R_below (HO_4.out) hb); replace HO_8 := Aside0.mk (Kd.R_below (HO_8.out) hb); replace HO_10 := Aside0.mk (Kd.R_below (HO_10.out) hb); replace HB := Aside0.mk (below_step (by repeat (with_reducible first | exact HB.out | apply below_alloc | apply pw_below_drewN | apply below_drew1)) hb); clear hb ho0 ho1) | ((with_reducible refine gate_dst (N := 13) rfl ?_); refine box_event ?hg (N := 13) ?hd (cs := #[.int .i64 0, .int .i64 0, .slice none 0 0]) (t := 40) ?hr ?_; (case hd => rfl); (case hg => rfl); (case hr => first | (go_simp; done) | (go_simp; rfl)); intro gb698 hg w34 hbox hb; replace HO_4 := Aside0.mk (Kd.R_below (HO_4.out) hb); replace HO_8 := Aside0.mk (Kd.R_below (HO_8.out) hb); replace HO_10 := Aside0.mk (Kd.R_below (HO_10.out) hb); replace HO691 := Aside0.mk (Kd.V_below (Kd.V_elderB (by (with_reducible repeat (first | apply Kd.V_alloc | apply Kd.V_drewN | apply Kd.V_drew)); exact HO691.out) gb698 (Nat.le_of_eq hg.symm)) hb); replace HO696 := Aside0.mk (Kd.V_below (Kd.V_elderB (by (with_reducible repeat (first | apply Kd.V_alloc | apply Kd.V_drewN | apply Kd.V_drew)); exact HO696.out) gb698 (Nat.le_of_eq hg.symm)) hb); replace BK698 := Aside0.mk (hbox); replace GW698 := Aside0.mk ((by rw [hg]; exact (below_size (by repeat (with_reducible first | exact HB.out | apply below_alloc | apply pw_below_drewN | apply below_drew1))) : w.heap.size ≤ gb698)); replace GE698 := Aside0.mk ((by rw [hg]; exact (below_size (by repeat (with_reducible first | exact HB.out | apply below_alloc | apply pw_below_drewN | apply below_drew1))) : w.heap.size ≤ gb698)); replace HB := Aside0.mk (below_step (by repeat (with_reducible first | exact HB.out | apply below_alloc | apply pw_below_drewN | apply below_drew1)) hb); clear hb hbox hg; have hcz35_0 : w34.cell? ⟨gb698, 0, none⟩ = some (.int .i64 0) := (blk_cell BK698.out 0).trans rfl; have hcz35_1 : w34.cell? ⟨gb698, 1, none⟩ = some (.int .i64 0) := (blk_cell BK698.out 1).trans rfl; have hcz35_2 : w34.cell? ⟨gb698, 2, none⟩ = some (.slice none 0 0) := (blk_cell BK698.out 2).trans rfl; have hfz35_0 := blk_frozen BK698.out 0; have hfz35_1 := blk_frozen BK698.out 1; have hfz35_2 := blk_frozen BK698.out 2; obtain ⟨Ao36, co36, eo36⟩ := Kd.V_slice HO696.out; subst eo36) | ((with_reducible refine gate_callee (f := 17) rfl ?_); refine goesL_ (some 77) rfl rfl Tryz.func17 (by kernel_rfl) rfl #[.int .i64 t672, .slice Ao8 t673.length co8, .bool true, .int .i64 t675, .int .i64 t676] rfl (by (try simp only [List.map_toArray, List.map_cons, List.map_nil]); first | done | rfl | (simp only [List.length_drop, List.length_take]; rfl)) ?_; (with_reducible refine (impl_QueryAsk.calls kj5 t672 _ _ t673 true t675 t676 t699 t700 _ ?side1 ?side2 A24.out).mono ?_); (case side1 => refine (Kd.R_reads' (e := 3) (base := w.heap.size) (ok := fun k_ => (some k_ ≠ (v681 : Value).ownBlock ∧ some k_ ≠ (v685 : Value).ownBlock)) (n := t673.length) (c := co8) ?_).2.2; exact ((Kd.R_mono (Kd.R_far (p := ⟨gb698, 2, none⟩) (Kd.R_far (p := ⟨gb698, 1, none⟩) (Kd.R_far (p := ⟨gb698, 0, none⟩) (Kd.R_types HO_4.out BK698.out (by decide)) (fun _ hk => hk.2) (.int .i64 t692)) (fun _ hk => hk.2) (.int .i64 t693)) (fun _ hk => hk.2) (.slice Ao36 t694.length co36)) (fun _ h_ => h_.1)))); (case side2 => exact (Kd.R_reads' HO_4.out).2.1); rintro e w37 ⟨v701, rfl, ho0, hb⟩; refine ⟨_, rfl, ?_⟩; replace HO691 := Aside0.mk (Kd.V_elder' (by (with_reducible repeat (first | apply Kd.V_alloc | apply Kd.V_drewN | apply Kd.V_drew)); exact (Kd.V_mono (Kd.V_far (p := ⟨gb698, 2, none⟩) (Kd.V_far (p := ⟨gb698, 1, none⟩) (Kd.V_far (p := ⟨gb698, 0, none⟩) (Kd.V_mono HO691.out (fun k_ hk => (⟨hk, hk.2⟩ : _ ∧ k_ ≠ gb698))) (fun _ hk => hk.2) (.int .i64 t692)) (fun _ hk => hk.2) (.int .i64 t693)) (fun _ hk => hk.2) (.slice Ao36 t694.length co36)) (fun _ h_ => h_.1))) (Kd.R_base ho0) hb); replace HO696 := Aside0.mk (Kd.V_elder' (by (with_reducible repeat (first | apply Kd.V_alloc | apply Kd.V_drewN | apply Kd.V_drew)); exact (Kd.V_mono (Kd.V_far (p := ⟨gb698, 2, none⟩) (Kd.V_far (p := ⟨gb698, 1, none⟩) (Kd.V_far (p := ⟨gb698, 0, none⟩) (Kd.V_mono HO696.out (fun k_ hk => (⟨hk, hk.2⟩ : _ ∧ k_ ≠ gb698))) (fun _ hk => hk.2) (.int .i64 t692)) (fun _ hk => hk.2) (.int .i64 t693)) (fun _ hk => hk.2) (.slice Ao36 t694.length co36)) (fun _ h_ => h_.1))) (Kd.R_base ho0) hb); replace HO702 := Aside0.mk (Kd.R_lower (Kd.R_new' (Kd.R_new' (Kd.R_new' ho0 (Kd.R_lt ((Kd.R_mono (Kd.R_far (p := ⟨gb698, 2, none⟩) (Kd.R_far (p := ⟨gb698, 1, none⟩) (Kd.R_far (p := ⟨gb698, 0, none⟩) (Kd.R_types HO_4.out BK698.out (by decide)) (fun _ hk => hk.2) (.int .i64 t692)) (fun _ hk => hk.2) (.int .i64 t693)) (fun _ hk => hk.2) (.slice Ao36 t694.length co36)) (fun _ h_ => h_.1))))) (Kd.R_lt ((Kd.R_mono (Kd.R_far (p := ⟨gb698, 2, none⟩) (Kd.R_far (p := ⟨gb698, 1, none⟩) (Kd.R_far (p := ⟨gb698, 0, none⟩) (Kd.R_types HO_8.out BK698.out (by decide)) (fun _ hk => hk.2) (.int .i64 t692)) (fun _ hk => hk.2) (.int .i64 t693)) (fun _ hk => hk.2) (.slice Ao36 t694.length co36)) (fun _ h_ => h_.1))))) (Kd.R_lt ((Kd.R_mono (Kd.R_far (p := ⟨gb698, 2, none⟩) (Kd.R_far (p := ⟨gb698, 1, none⟩) (Kd.R_far (p := ⟨gb698, 0, none⟩) (Kd.R_types HO_10.out BK698.out (by decide)) (fun _ hk => hk.2) (.int .i64 t692)) (fun _ hk => hk.2) (.int .i64 t693)) (fun _ hk => hk.2) (.slice Ao36 t694.length co36)) (fun _ h_ => h_.1))))) (below_size (by repeat (with_reducible first | exact HB.out | apply below_alloc | apply pw_below_drewN | apply below_drew1 | refine below_set ?_ GE698.out)))); replace HO_4 := Aside0.mk (Kd.R_elder' ((Kd.R_mono (Kd.R_far (p := ⟨gb698, 2, none⟩) (Kd.R_far (p := ⟨gb698, 1, none⟩) (Kd.R_far (p := ⟨gb698, 0, none⟩) (Kd.R_types HO_4.out BK698.out (by decide)) (fun _ hk => hk.2) (.int .i64 t692)) (fun _ hk => hk.2) (.int .i64 t693)) (fun _ hk => hk.2) (.slice Ao36 t694.length co36)) (fun _ h_ => h_.1))) (Kd.R_base ho0) hb); replace HO_8 := Aside0.mk (Kd.R_elder' ((Kd.R_mono (Kd.R_far (p := ⟨gb698, 2, none⟩) (Kd.R_far (p := ⟨gb698, 1, none⟩) (Kd.R_far (p := ⟨gb698, 0, none⟩) (Kd.R_types HO_8.out BK698.out (by decide)) (fun _ hk => hk.2) (.int .i64 t692)) (fun _ hk => hk.2) (.int .i64 t693)) (fun _ hk => hk.2) (.slice Ao36 t694.length co36)) (fun _ h_ => h_.1))) (Kd.R_base ho0) hb); replace HO_10 := Aside0.mk (Kd.R_elder' ((Kd.R_mono (Kd.R_far (p := ⟨gb698, 2, none⟩) (Kd.R_far (p := ⟨gb698, 1, none⟩) (Kd.R_far (p := ⟨gb698, 0, none⟩) (Kd.R_types HO_10.out BK698.out (by decide)) (fun _ hk => hk.2) (.int .i64 t692)) (fun _ hk => hk.2) (.int .i64 t693)) (fun _ hk => hk.2) (.slice Ao36 t694.length co36)) (fun _ h_ => h_.1))) (Kd.R_base ho0) hb); replace BK698 := Aside0.mk (blk_below (g := gb698) (o := .cells #[.int .i64 t692, .int .i64 t693, .slice Ao36 t694.length co36] 40 (0, 0)) (by refine blk_put (cs := #[.int .i64 t692, .int .i64 t693, .slice none 0 0]) ?_ 2 _ rfl; refine blk_put (cs := #[.int .i64 t692, .int .i64 0, .slice none 0 0]) ?_ 1 _ rfl; refine blk_put (cs := #[.int .i64 0, .int .i64 0, .slice none 0 0]) ?_ 0 _ rfl; exact BK698.out) hb); replace HB := Aside0.mk (below_step (by repeat (with_reducible first | exact HB.out | apply below_alloc | apply pw_below_drewN | apply below_drew1 | refine below_set ?_ GE698.out)) hb); (try clear hb); (try clear hb2); (try clear hk); (try clear hi); (try clear ho0); refine (show ∀ p_ : Prop, (∀ q_ : Prop, (p_ → Aside0 q_) → Aside0 q_) → p_ from fun p_ h_ => (h_ p_ Aside0.mk).out) _ (fun q_ hq_ => ?_)))
     by_cases c26 : t703 = true
     ·subst c26
      rw [if_pos rfl] at H
      by_cases c27 : 0 < (t699.length : Int)
      ·rw [if_pos c27] at H
       have c27b0 : decide (0 < (t699.length : Int)) = true := decide_eq_true c27
       have c27b1 : decide (0 < t699.length) = true := decide_eq_true (by omega)
       clear c27
       by_cases c28 : 1 < (t699.length : Int)
       ·rw [if_pos c28] at H
        have c28b0 : decide (1 < (t699.length : Int)) = true := decide_eq_true c28
        have c28b1 : decide (1 < t699.length) = true := decide_eq_true (by omega)
        clear c28
        replace H := bnd H
        obtain ⟨t706, A29, H⟩ := H
        by_cases c30 : 2 < (t699.length : Int)
        ·rw [if_pos c30] at H
         have c30b0 : decide (2 < (t699.length : Int)) = true := decide_eq_true c30
         have c30b1 : decide (2 < t699.length) = true := decide_eq_true (by omega)
         clear c30
         by_cases c31 : t706 = (rd t699 2)
         ·rw [if_pos c31] at H
          have c31b0 : (t706 == (rd t699 2)) = true := beq_iff_eq.mpr c31
          have c31b1 : (t706 != (rd t699 2)) = false := bne_eq_false_iff_eq.mpr c31
          clear c31
          by_cases c32 : 3 < (t699.length : Int)
          ·rw [if_pos c32] at H
           have c32b0 : decide (3 < (t699.length : Int)) = true := decide_eq_true c32
           have c32b1 : decide (3 < t699.length) = true := decide_eq_true (by omega)
           clear c32
           obtain rfl := Option.some.inj H
           refine hq_ ?_
           clear hq_ q_
           try go_wp2
           replace HO_4 := Aside0.mk (Kd.R_drew HO_4.out)
           replace HO_8 := Aside0.mk (Kd.R_drew HO_8.out)
           replace HO_10 := Aside0.mk (Kd.R_drew HO_10.out)
           replace HO691 := Aside0.mk (Kd.V_drew HO691.out)
           replace HO696 := Aside0.mk (Kd.V_drew HO696.out)
           replace HO702 := Aside0.mk (Kd.R_drew HO702.out)
           replace BK698 := Aside0.mk (blk_drew BK698.out)
           replace HB := Aside0.mk (below_drew1 HB.out)
           obtain ⟨Ao39, co39, eo39⟩ := Kd.V_slice HO691.out
           (first | subst eo39 | (injection eo39 with f1_ f2_ f3_; have f4_ := f1_.symm; have f5_ := f3_.symm; clear f1_ f2_ f3_; subst f4_; subst f5_))
           obtain ⟨Aq_, cq_, eq_⟩ := Kd.R_slice HO702.out
           subst eq_
           have p704 : 0 ≤ (0 : Int) := (by omega)
           have q704 : 0 < (t699.length : Int) := of_decide_eq_true ‹_›
           obtain ⟨ad704, e704, hx704_0⟩ := Kd.at_int (Kd.R_reads' HO702.out).2.2 0 p704 q704
           cases e704
           have qi704 : (0 < t699.length) = True := eq_true (by omega)
           (try rw [show ((0 : Int)).toNat = 0 from rfl] at hx704_0)
           (try rw [Addr.add_zero'] at hx704_0)
           replace p704 := eq_true p704
           replace q704 := eq_true q704
           have p705 : 0 ≤ (1 : Int) := (by omega)
           have q705 : 1 < (t699.length : Int) := of_decide_eq_true ‹_›
           obtain ⟨ad705, e705, hx705_0⟩ := Kd.at_int (Kd.R_reads' HO702.out).2.2 1 p705 q705
           obtain rfl : ad704 = ad705 := (by injection e705)
           (try simp only [show (1 : Int).toNat = 1 from rfl, Nat.reduceMul, Nat.reduceEqDiff, Go.Addr.add, ↓reduceIte] at hx705_0)
           have qi705 : (1 < t699.length) = True := eq_true (by omega)
           (try rw [show ((1 : Int)).toNat = 1 from rfl] at hx705_0)
           replace p705 := eq_true p705
           replace q705 := eq_true q705
           have p707 : 0 ≤ (2 : Int) := (by omega)
           have q707 : 2 < (t699.length : Int) := of_decide_eq_true ‹_›
           obtain ⟨ad707, e707, hx707_0⟩ := Kd.at_int (Kd.R_reads' HO702.out).2.2 2 p707 q707
           obtain rfl : ad704 = ad707 := (by injection e707)
           (try simp only [show (2 : Int).toNat = 2 from rfl, Nat.reduceMul, Nat.reduceEqDiff, Go.Addr.add, ↓reduceIte] at hx707_0)
           have qi707 : (2 < t699.length) = True := eq_true (by omega)
           (try rw [show ((2 : Int)).toNat = 2 from rfl] at hx707_0)
           replace p707 := eq_true p707
           replace q707 := eq_true q707
           have p708 : 0 ≤ (3 : Int) := (by omega)
           have q708 : 3 < (t699.length : Int) := of_decide_eq_true ‹_›
           obtain ⟨ad708, e708, hx708_0⟩ := Kd.at_int (Kd.R_reads' HO702.out).2.2 3 p708 q708
           obtain rfl : ad704 = ad708 := (by injection e708)
           (try simp only [show (3 : Int).toNat = 3 from rfl, Nat.reduceMul, Nat.reduceEqDiff, Go.Addr.add, ↓reduceIte] at hx708_0)
           have qi708 : (3 < t699.length) = True := eq_true (by omega)
           (try rw [show ((3 : Int)).toNat = 3 from rfl] at hx708_0)
           replace p708 := eq_true p708
           replace q708 := eq_true q708
           refine start_ (n := 25) (S := fun w' => w'.cell? ⟨gb698, 0, none⟩ = some (.int .i64 t692) ∧ w'.cell? ⟨gb698, 1, none⟩ = some (.int .i64 t693) ∧ w'.cell? ⟨gb698, 2, none⟩ = some (.slice Ao36 t694.length co36) ∧ w'.cell? ad704 = some (.int .i64 (rd t699 0)) ∧ w'.cell? ⟨ad704.block, ad704.off + 1, none⟩ = some (.int .i64 (rd t699 1)) ∧ w'.cell? ⟨ad704.block, ad704.off + 2, none⟩ = some (.int .i64 (rd t699 2)) ∧ w'.cell? ⟨ad704.block, ad704.off + 3, none⟩ = some (.int .i64 (rd t699 3))) (ds := []) (bs 25 0) (by kernel_rfl) rfl rfl ⟨(blk_cell BK698.out 0).trans rfl, (blk_cell BK698.out 1).trans rfl, (blk_cell BK698.out 2).trans rfl, hx704_0, hx705_0, hx707_0, hx708_0⟩ (fun hHeld => ?_); refine with_tabW laws_FnAskTold.tab10 laws_FnAskTold.bits10 (fun HT_ HW_ => ?_)
           generalize w37.drew = w38 at HO_4 HO_8 HO_10 HO691 HO696 HO702 BK698 HB hx704_0 hx705_0 hx707_0 hx708_0 hHeld ⊢
           refine pZ 0 (some 80) (bs 25 1) rfl rfl (any_of HT_.out (by kernel_rfl)) ?_
           refine pZ 1 (some 81) (bs 25 3) rfl rfl (any_of HT_.out (by kernel_rfl)) ?_
           refine tZ 2 (some 82) (bs 25 7) rfl rfl (take_ofW HT_.out HW_.out (by kernel_rfl)) hHeld (by rintro w' ⟨s0, s1, s2, s3, s4, s5, s6⟩; go_simp; with_reducible rfl) ?_
           refine one_ (i := 3) (N := some 83) (bs 25 15) rfl rfl (one_of HT_.out (by kernel_rfl)) (by decide) (fun K hK => ?_)
           refine goes_ Tryz.func24 (by kernel_rfl) rfl #[.int .i64 t672, .slice Ao39 t689.length co39, .agg #[.int .i64 t692, .int .i64 t693, .slice Ao36 t694.length co36]] (by rfl) rfl rfl (by (try simp only [List.map_toArray, List.map_cons, List.map_nil]); first | done | rfl | (simp only [List.length_drop, List.length_take]; rfl)) ?_
           with_reducible refine (impl_ProofOk.calls kj5 t672 _ _ t689 t692 t693 _ _ t694 true _ ?side1 ?side2 ?side3 ?side4 A25.out HE.out ?sideB).mono ?_
           (case side1 => exact (Kd.V_reads' HO691.out).2.2)
           (case side2 => exact (Kd.V_reads' HO691.out).2.1)
           (case side3 => exact (Kd.V_reads' HO696.out).2.2)
           (case side4 => exact (Kd.V_reads' HO696.out).2.1)
           (case sideB => exact (by repeat (with_reducible first | exact HB.out | apply below_alloc | apply pw_below_drewN | apply below_drew1 | refine below_set ?_ GE698.out)))
           rintro e w40 ⟨rfl, hb⟩
           have HS3_ := (hb.cell (World.block_lt_of_cell? _ _ (hHeld.2.2.2.1))).trans (hHeld.2.2.2.1)
           have HS4_ := (hb.cell (World.block_lt_of_cell? _ _ (hHeld.2.2.2.2.1))).trans (hHeld.2.2.2.2.1)
           have HS5_ := (hb.cell (World.block_lt_of_cell? _ _ (hHeld.2.2.2.2.2.1))).trans (hHeld.2.2.2.2.2.1)
           have HS6_ := (hb.cell (World.block_lt_of_cell? _ _ (hHeld.2.2.2.2.2.2))).trans (hHeld.2.2.2.2.2.2)
           refine ⟨_, rfl, ?_⟩
           replace HO_4 := Aside0.mk (Kd.R_below (HO_4.out) hb)
           replace HO_8 := Aside0.mk (Kd.R_below (HO_8.out) hb)
           replace HO_10 := Aside0.mk (Kd.R_below (HO_10.out) hb)
           replace HO691 := Aside0.mk (Kd.V_below (by (with_reducible repeat (first | apply Kd.V_alloc | apply Kd.V_drewN | apply Kd.V_drew)); exact HO691.out) hb)
           replace HO696 := Aside0.mk (Kd.V_below (by (with_reducible repeat (first | apply Kd.V_alloc | apply Kd.V_drewN | apply Kd.V_drew)); exact HO696.out) hb)
           replace HO702 := Aside0.mk (Kd.R_below (HO702.out) hb)
           replace BK698 := Aside0.mk (blk_below (g := gb698) (o := .cells #[.int .i64 t692, .int .i64 t693, .slice Ao36 t694.length co36] 40 (0, 0)) (by exact BK698.out) hb)
           replace HB := Aside0.mk (below_step (by repeat (with_reducible first | exact HB.out | apply below_alloc | apply pw_below_drewN | apply below_drew1 | refine below_set ?_ GE698.out)) hb)
           (try clear hb)
           (try clear hb2)
           (try clear hk)
           (try clear hi)
           obtain ⟨Ao41, co41, eo41⟩ := Kd.R_slice HO702.out
           (first | subst eo41 | (injection eo41 with f1_ f2_ f3_; have f4_ := f1_.symm; have f5_ := f3_.symm; clear f1_ f2_ f3_; subst f4_; subst f5_))
           refine hK.out _ _ ⟨(blk_cell BK698.out 0).trans rfl, (blk_cell BK698.out 1).trans rfl, (blk_cell BK698.out 2).trans rfl, HS3_, HS4_, HS5_, HS6_⟩ (fun hHeld => ?_)
           clear hK K
           refine norm_ (a' := ?_) ?_ ?_
           rotate_left
           ·show Act.put _ (some 83) _ = _
            simp only [Act.put, List.setIfInBounds_toArray, List.set_cons_zero, List.set_cons_succ, i64_w, i32_w]
            rfl
           refine pZ 4 (some 84) (bs 25 31) rfl rfl (any_of HT_.out (by kernel_rfl)) ?_
           refine pZ 5 (some 85) (bs 25 63) rfl rfl (any_of HT_.out (by kernel_rfl)) ?_
           refine pZ 6 (some 86) (bs 25 127) rfl rfl (any_of HT_.out (by kernel_rfl)) ?_
           refine pZ 7 (some 87) (bs 25 255) rfl rfl (any_of HT_.out (by kernel_rfl)) ?_
           refine pZ 9 (some 89) (bs 25 767) rfl rfl (any_of HT_.out (by kernel_rfl)) ?_
           refine pZ 10 (some 90) (bs 25 1791) rfl rfl (any_of HT_.out (by kernel_rfl)) ?_
           refine pZ 13 (some 93) (bs 25 9983) rfl rfl (any_of HT_.out (by kernel_rfl)) ?_
           refine pZ 14 (some 94) (bs 25 26367) rfl rfl (any_of HT_.out (by kernel_rfl)) ?_
           refine tZ 8 (some 88) (bs 25 26623) rfl rfl (take_ofW HT_.out HW_.out (by kernel_rfl)) hHeld (by rintro w' ⟨s0, s1, s2, s3, s4, s5, s6⟩; go_simp; with_reducible rfl) ?_
           refine tZ 11 (some 91) (bs 25 28671) rfl rfl (take_ofW HT_.out HW_.out (by kernel_rfl)) hHeld (by rintro w' ⟨s0, s1, s2, s3, s4, s5, s6⟩; go_simp; with_reducible rfl) ?_
           refine tZ 15 (some 95) (bs 25 61439) rfl rfl (take_ofW HT_.out HW_.out (by kernel_rfl)) hHeld (by rintro w' ⟨s0, s1, s2, s3, s4, s5, s6⟩; go_simp; with_reducible rfl) ?_
           refine one_ (i := 12) (N := some 92) (bs 25 65535) rfl rfl (one_of HT_.out (by kernel_rfl)) (by decide) (fun K hK => ?_)
           refine goes_ Tryz.func25 (by kernel_rfl) rfl #[.int .i64 (rd t699 0), .int .i64 (rd t699 1)] (by rfl) rfl rfl (by (try simp only [List.map_toArray, List.map_cons, List.map_nil]); first | done | rfl | (simp only [List.length_drop, List.length_take]; rfl)) ?_
           with_reducible refine (impl_FieldMul.calls (rd t699 0) (rd t699 1) t706 _ A29.out).mono ?_
           rintro e w' ⟨rfl, ⟨nd, rfl⟩⟩
           refine ⟨_, rfl, ?_⟩
           refine hK.out _ _ ⟨(blk_cell BK698.out 0).trans rfl, (blk_cell BK698.out 1).trans rfl, (blk_cell BK698.out 2).trans rfl, hHeld.2.2.2.1, hHeld.2.2.2.2.1, hHeld.2.2.2.2.2.1, hHeld.2.2.2.2.2.2⟩ (fun hHeld => ?_)
           clear hK K
           refine norm_ (a' := ?_) ?_ ?_
           rotate_left
           ·show Act.put _ (some 92) _ = _
            simp only [Act.put, List.setIfInBounds_toArray, List.set_cons_zero, List.set_cons_succ, i64_w, i32_w]
            rfl
           refine pZ 16 (some 96) (bs 25 131071) rfl rfl (any_of HT_.out (by kernel_rfl)) ?_
           refine pZ 17 (some 97) (bs 25 262143) rfl rfl (any_of HT_.out (by kernel_rfl)) ?_
           refine pZ 18 (some 98) (bs 25 524287) rfl rfl (any_of HT_.out (by kernel_rfl)) ?_
           refine pZ 19 (some 99) (bs 25 1048575) rfl rfl (any_of HT_.out (by kernel_rfl)) ?_
           refine tZ 20 (some 100) (bs 25 2097151) rfl rfl (take_ofW HT_.out HW_.out (by kernel_rfl)) hHeld (by rintro w' ⟨s0, s1, s2, s3, s4, s5, s6⟩; go_simp; with_reducible rfl) ?_
           refine pZ 21 (some 101) (bs 25 4194303) rfl rfl (any_of HT_.out (by kernel_rfl)) ?_
           refine pZ 22 (some 102) (bs 25 8388607) rfl rfl (any_of HT_.out (by kernel_rfl)) ?_
           refine pZ 23 (some 103) (bs 25 16777215) rfl rfl (any_of HT_.out (by kernel_rfl)) ?_
           refine pZ 24 (some 2) (bs 25 33554431) rfl rfl (any_of HT_.out (by kernel_rfl)) ?_
           refine done_ (done_of HT_.out (by kernel_rfl)) ?_
           try go_wp2
           go_ret
           exact ⟨rfl, by repeat (with_reducible first | exact HB.out | apply below_alloc | apply pw_below_drewN | apply below_drew1 | refine below_set ?_ GE698.out)⟩
          ·rw [if_neg c32] at H
           exact absurd H (by simp)
         ·rw [if_neg c31] at H
          have c31b0 : (t706 == (rd t699 2)) = false := beq_eq_false_iff_ne.mpr c31
          have c31b1 : (t706 != (rd t699 2)) = true := bne_iff_ne.mpr c31
          exact absurd (Option.some.inj (H.trans (congrArg some HT0_.out))) (by decide)
        ·rw [if_neg c30] at H
         exact absurd H (by simp)
       ·rw [if_neg c28] at H
        exact absurd H (by simp)
      ·rw [if_neg c27] at H
       exact absurd H (by simp)
     ·replace c26 := Bool.eq_false_iff.mpr c26
      subst c26
      rw [if_neg (show ¬ (false = true) by decide)] at H
      obtain rfl := Option.some.inj H
      refine hq_ ?_
      clear hq_ q_
      try go_wp2
      replace HO_4 := Aside0.mk (Kd.R_drew HO_4.out)
      replace HO_8 := Aside0.mk (Kd.R_drew HO_8.out)
      replace HO_10 := Aside0.mk (Kd.R_drew HO_10.out)
      replace HO691 := Aside0.mk (Kd.V_drew HO691.out)
      replace HO696 := Aside0.mk (Kd.V_drew HO696.out)
      replace HO702 := Aside0.mk (Kd.R_drew HO702.out)
      replace BK698 := Aside0.mk (blk_drew BK698.out)
      replace HB := Aside0.mk (below_drew1 HB.out)
      obtain ⟨Ao57, co57, eo57⟩ := Kd.V_slice HO691.out
      (first | subst eo57 | (injection eo57 with f1_ f2_ f3_; have f4_ := f1_.symm; have f5_ := f3_.symm; clear f1_ f2_ f3_; subst f4_; subst f5_))
      refine start_ (n := 25) (S := fun w' => w'.cell? ⟨gb698, 0, none⟩ = some (.int .i64 t692) ∧ w'.cell? ⟨gb698, 1, none⟩ = some (.int .i64 t693) ∧ w'.cell? ⟨gb698, 2, none⟩ = some (.slice Ao36 t694.length co36)) (ds := []) (bs 25 0) (by kernel_rfl) rfl rfl ⟨(blk_cell BK698.out 0).trans rfl, (blk_cell BK698.out 1).trans rfl, (blk_cell BK698.out 2).trans rfl⟩ (fun hHeld => ?_); refine with_tabW laws_FnAskTold.tab10 laws_FnAskTold.bits10 (fun HT_ HW_ => ?_)
      generalize w37.drew = w56 at HO_4 HO_8 HO_10 HO691 HO696 HO702 BK698 HB hHeld ⊢
      refine pZ 0 (some 80) (bs 25 1) rfl rfl (any_of HT_.out (by kernel_rfl)) ?_
      refine pZ 1 (some 81) (bs 25 3) rfl rfl (any_of HT_.out (by kernel_rfl)) ?_
      refine tZ 2 (some 82) (bs 25 7) rfl rfl (take_ofW HT_.out HW_.out (by kernel_rfl)) hHeld (by rintro w' ⟨s0, s1, s2⟩; go_simp; with_reducible rfl) ?_
      refine one_ (i := 3) (N := some 83) (bs 25 15) rfl rfl (one_of HT_.out (by kernel_rfl)) (by decide) (fun K hK => ?_)
      refine goes_ Tryz.func24 (by kernel_rfl) rfl #[.int .i64 t672, .slice Ao57 t689.length co57, .agg #[.int .i64 t692, .int .i64 t693, .slice Ao36 t694.length co36]] (by rfl) rfl rfl (by (try simp only [List.map_toArray, List.map_cons, List.map_nil]); first | done | rfl | (simp only [List.length_drop, List.length_take]; rfl)) ?_
      with_reducible refine (impl_ProofOk.calls kj5 t672 _ _ t689 t692 t693 _ _ t694 false _ ?side1 ?side2 ?side3 ?side4 A25.out HE.out ?sideB).mono ?_
      (case side1 => exact (Kd.V_reads' HO691.out).2.2)
      (case side2 => exact (Kd.V_reads' HO691.out).2.1)
      (case side3 => exact (Kd.V_reads' HO696.out).2.2)
      (case side4 => exact (Kd.V_reads' HO696.out).2.1)
      (case sideB => exact (by repeat (with_reducible first | exact HB.out | apply below_alloc | apply pw_below_drewN | apply below_drew1 | refine below_set ?_ GE698.out)))
      rintro e w58 ⟨rfl, hb⟩
      refine ⟨_, rfl, ?_⟩
      replace HO_4 := Aside0.mk (Kd.R_below (HO_4.out) hb)
      replace HO_8 := Aside0.mk (Kd.R_below (HO_8.out) hb)
      replace HO_10 := Aside0.mk (Kd.R_below (HO_10.out) hb)
      replace HO691 := Aside0.mk (Kd.V_below (by (with_reducible repeat (first | apply Kd.V_alloc | apply Kd.V_drewN | apply Kd.V_drew)); exact HO691.out) hb)
      replace HO696 := Aside0.mk (Kd.V_below (by (with_reducible repeat (first | apply Kd.V_alloc | apply Kd.V_drewN | apply Kd.V_drew)); exact HO696.out) hb)
      replace HO702 := Aside0.mk (Kd.R_below (HO702.out) hb)
      replace BK698 := Aside0.mk (blk_below (g := gb698) (o := .cells #[.int .i64 t692, .int .i64 t693, .slice Ao36 t694.length co36] 40 (0, 0)) (by exact BK698.out) hb)
      replace HB := Aside0.mk (below_step (by repeat (with_reducible first | exact HB.out | apply below_alloc | apply pw_below_drewN | apply below_drew1 | refine below_set ?_ GE698.out)) hb)
      (try clear hb)
      (try clear hb2)
      (try clear hk)
      (try clear hi)
      refine hK.out _ _ ⟨(blk_cell BK698.out 0).trans rfl, (blk_cell BK698.out 1).trans rfl, (blk_cell BK698.out 2).trans rfl⟩ (fun hHeld => ?_)
      clear hK K
      refine norm_ (a' := ?_) ?_ ?_
      rotate_left
      ·show Act.put _ (some 83) _ = _
       simp only [Act.put, List.setIfInBounds_toArray, List.set_cons_zero, List.set_cons_succ, i64_w, i32_w]
       rfl
      refine pZ 4 (some 84) (bs 25 31) rfl rfl (any_of HT_.out (by kernel_rfl)) ?_
      refine pZ 5 (some 85) (bs 25 63) rfl rfl (any_of HT_.out (by kernel_rfl)) ?_
      refine pure_ (i := 6) (N := some 86) (v := undef) (a' := ?_) (bs 25 127) rfl rfl (any_of HT_.out (by kernel_rfl)) (fun _ _ _ h => h) (Or.inr ⟨by rfl, rfl⟩) ?_ ?_
      rotate_left
      ·simp only [Act.put, List.setIfInBounds_toArray, List.set_cons_zero, List.set_cons_succ, i64_w, i32_w]
       rfl
      refine pure_ (i := 7) (N := some 87) (v := undef) (a' := ?_) (bs 25 255) rfl rfl (any_of HT_.out (by kernel_rfl)) (fun _ _ _ h => h) (Or.inr ⟨by rfl, rfl⟩) ?_ ?_
      rotate_left
      ·simp only [Act.put, List.setIfInBounds_toArray, List.set_cons_zero, List.set_cons_succ, i64_w, i32_w]
       rfl
      refine pure_ (i := 8) (N := some 88) (v := undef) (a' := ?_) (bs 25 511) rfl rfl (any_of HT_.out (by kernel_rfl)) (fun _ _ _ h => h) (Or.inr ⟨by rfl, rfl⟩) ?_ ?_
      rotate_left
      ·simp only [Act.put, List.setIfInBounds_toArray, List.set_cons_zero, List.set_cons_succ, i64_w, i32_w]
       rfl
      refine pure_ (i := 9) (N := some 89) (v := undef) (a' := ?_) (bs 25 1023) rfl rfl (any_of HT_.out (by kernel_rfl)) (fun _ _ _ h => h) (Or.inr ⟨by rfl, rfl⟩) ?_ ?_
      rotate_left
      ·simp only [Act.put, List.setIfInBounds_toArray, List.set_cons_zero, List.set_cons_succ, i64_w, i32_w]
       rfl
      refine pure_ (i := 10) (N := some 90) (v := undef) (a' := ?_) (bs 25 2047) rfl rfl (any_of HT_.out (by kernel_rfl)) (fun _ _ _ h => h) (Or.inr ⟨by rfl, rfl⟩) ?_ ?_
      rotate_left
      ·simp only [Act.put, List.setIfInBounds_toArray, List.set_cons_zero, List.set_cons_succ, i64_w, i32_w]
       rfl
      refine pure_ (i := 11) (N := some 91) (v := undef) (a' := ?_) (bs 25 4095) rfl rfl (any_of HT_.out (by kernel_rfl)) (fun _ _ _ h => h) (Or.inr ⟨by rfl, rfl⟩) ?_ ?_
      rotate_left
      ·simp only [Act.put, List.setIfInBounds_toArray, List.set_cons_zero, List.set_cons_succ, i64_w, i32_w]
       rfl
      refine pure_ (i := 12) (N := some 92) (v := undef) (a' := ?_) (bs 25 8191) rfl rfl (any_of HT_.out (by kernel_rfl)) (fun _ _ _ h => h) (Or.inr ⟨by rfl, rfl⟩) ?_ ?_
      rotate_left
      ·simp only [Act.put, List.setIfInBounds_toArray, List.set_cons_zero, List.set_cons_succ, i64_w, i32_w]
       rfl
      refine pure_ (i := 13) (N := some 93) (v := undef) (a' := ?_) (bs 25 16383) rfl rfl (any_of HT_.out (by kernel_rfl)) (fun _ _ _ h => h) (Or.inr ⟨by rfl, rfl⟩) ?_ ?_
      rotate_left
      ·simp only [Act.put, List.setIfInBounds_toArray, List.set_cons_zero, List.set_cons_succ, i64_w, i32_w]
       rfl
      refine pure_ (i := 14) (N := some 94) (v := undef) (a' := ?_) (bs 25 32767) rfl rfl (any_of HT_.out (by kernel_rfl)) (fun _ _ _ h => h) (Or.inr ⟨by rfl, rfl⟩) ?_ ?_
      rotate_left
      ·simp only [Act.put, List.setIfInBounds_toArray, List.set_cons_zero, List.set_cons_succ, i64_w, i32_w]
       rfl
      refine pure_ (i := 15) (N := some 95) (v := undef) (a' := ?_) (bs 25 65535) rfl rfl (any_of HT_.out (by kernel_rfl)) (fun _ _ _ h => h) (Or.inr ⟨by rfl, rfl⟩) ?_ ?_
      rotate_left
      ·simp only [Act.put, List.setIfInBounds_toArray, List.set_cons_zero, List.set_cons_succ, i64_w, i32_w]
       rfl
      refine pure_ (i := 16) (N := some 96) (v := undef) (a' := ?_) (bs 25 131071) rfl rfl (any_of HT_.out (by kernel_rfl)) (fun _ _ _ h => h) (Or.inr ⟨by rfl, rfl⟩) ?_ ?_
      rotate_left
      ·simp only [Act.put, List.setIfInBounds_toArray, List.set_cons_zero, List.set_cons_succ, i64_w, i32_w]
       rfl
      refine pure_ (i := 17) (N := some 97) (v := undef) (a' := ?_) (bs 25 262143) rfl rfl (any_of HT_.out (by kernel_rfl)) (fun _ _ _ h => h) (Or.inr ⟨by rfl, rfl⟩) ?_ ?_
      rotate_left
      ·simp only [Act.put, List.setIfInBounds_toArray, List.set_cons_zero, List.set_cons_succ, i64_w, i32_w]
       rfl
      refine pure_ (i := 18) (N := some 98) (v := undef) (a' := ?_) (bs 25 524287) rfl rfl (any_of HT_.out (by kernel_rfl)) (fun _ _ _ h => h) (Or.inr ⟨by rfl, rfl⟩) ?_ ?_
      rotate_left
      ·simp only [Act.put, List.setIfInBounds_toArray, List.set_cons_zero, List.set_cons_succ, i64_w, i32_w]
       rfl
      refine pure_ (i := 19) (N := some 99) (v := undef) (a' := ?_) (bs 25 1048575) rfl rfl (any_of HT_.out (by kernel_rfl)) (fun _ _ _ h => h) (Or.inr ⟨by rfl, rfl⟩) ?_ ?_
      rotate_left
      ·simp only [Act.put, List.setIfInBounds_toArray, List.set_cons_zero, List.set_cons_succ, i64_w, i32_w]
       rfl
      refine pure_ (i := 20) (N := some 100) (v := undef) (a' := ?_) (bs 25 2097151) rfl rfl (any_of HT_.out (by kernel_rfl)) (fun _ _ _ h => h) (Or.inr ⟨by rfl, rfl⟩) ?_ ?_
      rotate_left
      ·simp only [Act.put, List.setIfInBounds_toArray, List.set_cons_zero, List.set_cons_succ, i64_w, i32_w]
       rfl
      refine pure_ (i := 21) (N := some 101) (v := undef) (a' := ?_) (bs 25 4194303) rfl rfl (any_of HT_.out (by kernel_rfl)) (fun _ _ _ h => h) (Or.inr ⟨by rfl, rfl⟩) ?_ ?_
      rotate_left
      ·simp only [Act.put, List.setIfInBounds_toArray, List.set_cons_zero, List.set_cons_succ, i64_w, i32_w]
       rfl
      refine pure_ (i := 22) (N := some 102) (v := undef) (a' := ?_) (bs 25 8388607) rfl rfl (any_of HT_.out (by kernel_rfl)) (fun _ _ _ h => h) (Or.inr ⟨by rfl, rfl⟩) ?_ ?_
      rotate_left
      ·simp only [Act.put, List.setIfInBounds_toArray, List.set_cons_zero, List.set_cons_succ, i64_w, i32_w]
       rfl
      refine pZ 23 (some 103) (bs 25 16777215) rfl rfl (any_of HT_.out (by kernel_rfl)) ?_
      refine pZ 24 (some 2) (bs 25 33554431) rfl rfl (any_of HT_.out (by kernel_rfl)) ?_
      refine done_ (done_of HT_.out (by kernel_rfl)) ?_
      try go_wp2
      go_ret
      exact ⟨rfl, by repeat (with_reducible first | exact HB.out | apply below_alloc | apply pw_below_drewN | apply below_drew1 | refine below_set ?_ GE698.out)⟩
def laws_FnAskTold.Pure : Prop := ∀ (l0 : List Int), l0.length ≤ maxLen → l0.length * 1 ≤ 140737488351232 → (∀ x ∈ l0, (Lit.int .u8 x).wf = true) → ∃ k, laws_FnAskTold.f k l0 = some true
end Go.Proofs.YtlgbblaidohljaaGreatDoor.Zc
