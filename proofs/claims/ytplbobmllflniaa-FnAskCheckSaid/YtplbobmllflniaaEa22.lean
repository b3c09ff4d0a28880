import Derived.Test.YtplbobmllflniaaZ
import Derived.Test.YtplbobmllflniaaEa0
import Derived.Test.YtplbobmllflniaaEa1
import Derived.Test.YtplbobmllflniaaEa4
import Derived.Test.YtplbobmllflniaaEa17
import Derived.Test.YtplbobmllflniaaEa18
import Derived.Test.YtplbobmllflniaaEa20
import Derived.Test.YtplbobmllflniaaEa21
namespace Go.Proofs.Ytplbobmllflniaa.Ea
open Go.RowKit Go.Proofs.YtplbobmllflniaaW.PrintWords Go.Proofs.YtplbobmllflniaaW.PrintLast Go.Proofs.YtplbobmllflniaaW.PrintMore Go.Proofs.Ytplbobmllflniaa.Z
attribute [local go_sem] max2_int min2_int max_two min_two max_three min_three max_four min_four
set_option linter.unusedVariables false
set_option linter.unusedSimpArgs false
def laws_FnAskCheck.j0 : Nat → Int → List Int → Int → Int → List Int → Bool → List Int → Bool → Bool → Option (Bool)
 | 0, _, _, _, _, _, _, _, _, _ => none
 | k + 1, x3, x4, x6, x7, x8, x9, x10, x11, x58 => if x58 = true then (if (x11 == x9) = true then ((laws_loInts.f k x10 x8).bind fun t773 => (some t773)) else (some false)) else ((impl_ProofCut.f x3 x4).bind fun bt774 => ((impl_ProofMake.f k x3 bt774.1 bt774.2.1 bt774.2.2.1).bind fun bt784 => ((impl_QueryAsk.f k x3 x4 true x6 x7).bind fun bt791 => (if bt784.2.2.2 = true then ((laws_loProof.f k bt784.1 bt784.2.1 bt784.2.2.1 bt774.2.1 bt774.2.2.1 bt774.2.2.2.1).bind fun t795 => (if t795 = true then (if 3 < (bt791.1.length : Int) then ((impl_TypeCheck.f k x3 bt774.1 x7).bind fun t797 => (if (rd bt791.1 3) = t797 then (if 0 < (bt791.1.length : Int) then (if 1 < (bt791.1.length : Int) then ((impl_FieldMul.f (rd bt791.1 0) (rd bt791.1 1)).bind fun t800 => (if 2 < (bt791.1.length : Int) then (some (t800 == (rd bt791.1 2))) else (none))) else (none)) else (none)) else (some false))) else (none)) else (some true))) else (some true)))))
def laws_FnAskCheck.f (k : Nat) (l0 : List Int) : Option (Bool) := if (l0.length : Int) > 1048576 then (some true) else ((spec_DrawQueryAsk.f k l0).bind fun bt757 => ((spec_QueryAsk.f k bt757.1 bt757.2.1 bt757.2.2.1 bt757.2.2.2.1 bt757.2.2.2.2).bind fun bt764 => ((impl_QueryAsk.f k bt757.1 bt757.2.1 bt757.2.2.1 bt757.2.2.2.1 bt757.2.2.2.2).bind fun bt768 => (if (bt768.2 != bt764.2) = true then (laws_FnAskCheck.j0 k bt757.1 bt757.2.1 bt757.2.2.2.1 bt757.2.2.2.2 bt764.1 bt764.2 bt768.1 bt768.2 true) else ((laws_loInts.f k bt768.1 bt764.1).bind fun t772 => (if t772 = true then (laws_FnAskCheck.j0 k bt757.1 bt757.2.1 bt757.2.2.2.1 bt757.2.2.2.2 bt764.1 bt764.2 bt768.1 bt768.2 (!bt768.2)) else (laws_FnAskCheck.j0 k bt757.1 bt757.2.1 bt757.2.2.2.1 bt757.2.2.2.2 bt764.1 bt764.2 bt768.1 bt768.2 true)))))))
def laws_FnAskCheck.T11 : Bool × List (List Nat × List Nat) := (true, [([], []), ([0], [0]), ([1], [1]), ([2], [2]), ([2], [2]), ([3, 4, 2, 2], [2, 3, 4]), ([5, 2], [2, 5]), ([2, 6], [2, 6]), ([7, 5], [7]), ([8], [8]), ([9, 8], [8, 9]), ([10, 8], [8, 10]), ([8], [8]), ([8], [8]), ([8], [8]), ([12, 13, 14, 8, 8], [8, 12, 13, 14]), ([11, 15, 8], [8, 11, 15]), ([16, 15, 8], [8, 16]), ([17], [17]), ([18, 17], [17, 18]), ([19, 17], [17, 19]), ([17], [17]), ([21, 17], [17, 21]), ([22, 17], [17, 22]), ([20, 23, 17, 17], [17, 20, 23]), ([17], [17]), ([25, 17], [17, 25]), ([26, 17], [17, 26]), ([24, 27, 17], [17, 24, 27]), ([17, 28, 8], [8, 17, 28]), ([8, 29], [8, 29]), ([30, 24, 0, 1, 2, 3, 4, 5, 6, 7, 8, 9, 10, 11, 12, 13, 14, 15, 16, 17, 18, 19, 20, 21, 22, 23, 24, 25, 26, 27, 28, 29, 30], [30])])
def laws_FnAskCheck.B11 : List Nat := [0, 1, 3, 7, 7, 31, 63, 127, 255, 511, 1023, 2047, 511, 511, 511, 29183, 65535, 131071, 262143, 524287, 1048575, 262143, 2359295, 6553599, 16777215, 262143, 33816575, 100925439, 268435455, 536870911, 1073741823, 2147483647]
theorem laws_FnAskCheck.tab11 : rtab .any (opsOf Try.f24 11) = laws_FnAskCheck.T11 := by kernel_rfl
theorem laws_FnAskCheck.bits11 : waitsOk laws_FnAskCheck.T11.2 laws_FnAskCheck.B11 = true := by kernel_rfl
set_option maxHeartbeats 8000000 in
set_option maxRecDepth 100000 in
theorem laws_FnAskCheck.calls (k : Nat) (A0 : Option Addr) (c0 : Nat) (l0 : List Int) (r : Bool) (w : World) (hr0 : Kd.C (Kd.int .u8) w A0 l0.length l0) (hc0 : l0.length ≤ c0) (h : laws_FnAskCheck.f k l0 = some r) :
  Calls Try.prog 24 #[.slice A0 l0.length c0] w fun e w' => e = .returned (.bool r) ∧ Below w.heap.size w w' := by
 have hu59 := Try.underlying59
 have HR0 := Aside0.mk hr0
 have HC0 := Aside0.mk hc0
 clear hr0 hc0
 have HB := Aside0.mk (Below.refl w.heap.size w)
 have H := h
 unfold laws_FnAskCheck.f at H
 clear h
 go_enter Try.func24, Try.ntmps24
 by_cases c2 : (l0.length : Int) > 1048576
 ·rw [if_pos c2] at H
  have c2b0 : decide (1048576 < (l0.length : Int)) = true := decide_eq_true c2
  have c2b1 : decide (1048576 < l0.length) = true := decide_eq_true (by omega)
  clear c2
  obtain rfl := Option.some.inj H
  go_wp2
  go_ret
  exact ⟨by simp [*, errW_none, errW_some] <;> rfl, by repeat (with_reducible first | exact HB.out | apply below_alloc | apply pw_below_drewN | apply below_drew1)⟩
 ·rw [if_neg c2] at H
  have c2b0 : decide (1048576 < (l0.length : Int)) = false := decide_eq_false c2
  have c2b1 : decide (1048576 < l0.length) = false := decide_eq_false (by omega)
  clear c2
  replace H := bnd H
  obtain ⟨⟨t757, t758, t759, t760, t761⟩, A3, H⟩ := H
  dsimp only at H
  replace H := bnd H
  obtain ⟨⟨t764, t765⟩, A4, H⟩ := H
  dsimp only at H
  replace H := bnd H
  obtain ⟨⟨t768, t769⟩, A5, H⟩ := H
  dsimp only at H
  have HC6 := Aside0.mk H
  clear H
  go_upto_region 6 with (first | ((with_reducible refine gate_callee (f := 78) rfl ?_); refine goesL_ (some 22) rfl rfl Try.func78 (by kernel_rfl) rfl #[.slice A0 l0.length c0] rfl (by (try simp only [List.map_toArray, List.map_cons, List.map_nil]); first | done | rfl | (simp only [List.length_drop, List.length_take]; rfl)) ?_; (with_reducible refine (spec_DrawQueryAsk.calls k _ _ l0 t757 t758 t759 t760 t761 _ ?side1 ?side2 A3.out).mono ?_); (case side1 => repeat (first | exact HR0.out | (with_reducible refine Kd.C_alloc ?_ _) | (with_reducible refine Kd.C_drewN ?_ _) | (with_reducible refine Kd.C_drew ?_))); (case side2 => exact HC0.out); rintro e w7 ⟨v762, rfl, ho0, hb⟩; refine ⟨_, rfl, ?_⟩; have n0_ := Aside0.mk (Kd.R_lower ho0 (below_size (by repeat (with_reducible first | exact HB.out | apply below_alloc | apply pw_below_drewN | apply below_drew1)))); have n1_ := Aside0.mk (below_step (by repeat (with_reducible first | exact HB.out | apply below_alloc | apply pw_below_drewN | apply below_drew1)) hb); clear HB; have HO763 := n0_; have HB := n1_; clear n0_ n1_; (try clear hb); (try clear hb2); (try clear hk); (try clear hi); (try clear ho0); obtain ⟨Ao8, co8, eo8⟩ := Kd.R_slice HO763.out; subst eo8) | ((with_reducible refine gate_callee (f := 69) rfl ?_); refine goesL_ (some 34) rfl rfl Try.func69 (by kernel_rfl) rfl #[.int .i64 t757, .slice Ao8 t758.length co8, .bool t759, .int .i64 t760, .int .i64 t761] rfl (by (try simp only [List.map_toArray, List.map_cons, List.map_nil]); first | done | rfl | (simp only [List.length_drop, List.length_take]; rfl)) ?_; (with_reducible refine (spec_QueryAsk.calls k t757 _ _ t758 t759 t760 t761 t764 t765 _ ?side1 ?side2 A4.out).mono ?_); (case side1 => repeat (first | exact (Kd.R_reads' HO763.out).2.2 | (with_reducible refine Kd.C_alloc ?_ _) | (with_reducible refine Kd.C_drewN ?_ _) | (with_reducible refine Kd.C_drew ?_))); (case side2 => exact (Kd.R_reads' HO763.out).2.1); rintro e w9 ⟨v766, rfl, ho0, hb⟩; refine ⟨_, rfl, ?_⟩; have n0_ := Aside0.mk (Kd.R_elder' (HO763.out) (Kd.R_base ho0) hb); have n1_ := Aside0.mk (Kd.R_lower (Kd.R_new' ho0 (Kd.R_lt (HO763.out))) (below_size (by repeat (with_reducible first | exact HB.out | apply below_alloc | apply pw_below_drewN | apply below_drew1)))); have n2_ := Aside0.mk (below_step (by repeat (with_reducible first | exact HB.out | apply below_alloc | apply pw_below_drewN | apply below_drew1)) hb); clear HO763; clear HB; have HO763 := n0_; have HO767 := n1_; have HB := n2_; clear n0_ n1_ n2_; (try clear hb); (try clear hb2); (try clear hk); (try clear hi); (try clear ho0)) | ((with_reducible refine gate_callee (f := 70) rfl ?_); refine goesL_ (some 43) rfl rfl Try.func70 (by kernel_rfl) rfl #[.int .i64 t757, .slice Ao8 t758.length co8, .bool t759, .int .i64 t760, .int .i64 t761] rfl (by (try simp only [List.map_toArray, List.map_cons, List.map_nil]); first | done | rfl | (simp only [List.length_drop, List.length_take]; rfl)) ?_; (with_reducible refine (impl_QueryAsk.calls k t757 _ _ t758 t759 t760 t761 t768 t769 _ ?side1 ?side2 A5.out).mono ?_); (case side1 => repeat (first | exact (Kd.R_reads' HO763.out).2.2 | (with_reducible refine Kd.C_alloc ?_ _) | (with_reducible refine Kd.C_drewN ?_ _) | (with_reducible refine Kd.C_drew ?_))); (case side2 => exact (Kd.R_reads' HO763.out).2.1); rintro e w10 ⟨v770, rfl, ho0, hb⟩; refine ⟨_, rfl, ?_⟩; have n0_ := Aside0.mk (Kd.R_elder' (HO763.out) (Kd.R_base ho0) hb); have n1_ := Aside0.mk (Kd.R_elder' (HO767.out) (Kd.R_base ho0) hb); have n2_ := Aside0.mk (Kd.R_lower (Kd.R_new' (Kd.R_new' ho0 (Kd.R_lt (HO763.out))) (Kd.R_lt (HO767.out))) (below_size (by repeat (with_reducible first | exact HB.out | apply below_alloc | apply pw_below_drewN | apply below_drew1)))); have n3_ := Aside0.mk (below_step (by repeat (with_reducible first | exact HB.out | apply below_alloc | apply pw_below_drewN | apply below_drew1)) hb); clear HO763; clear HO767; clear HB; have HO763 := n0_; have HO767 := n1_; have HO771 := n2_; have HB := n3_; clear n0_ n1_ n2_ n3_; (try clear hb); (try clear hb2); (try clear hk); (try clear hi); (try clear ho0)))
  (try simp only [Act.put, List.setIfInBounds_toArray, List.set_cons_zero, List.set_cons_succ])
  go_cut [58] (fun v58 wc => ∃ (kq : Nat) (x58_5 : Bool), v58 = .bool x58_5 ∧ Aside0 (laws_FnAskCheck.j0 kq t757 t758 t760 t761 t764 t765 t768 t769 x58_5 = some r) ∧ Aside0 (kq ≤ k) ∧ Aside0 (Kd.R (Kd.int .i64) 3 wc w.heap.size (fun k_ => some k_ ≠ (v766 : Value).ownBlock ∧ some k_ ≠ (v770 : Value).ownBlock) (.slice Ao8 t758.length co8) t758) ∧ Aside0 (Kd.R (Kd.int .i64) 3 wc w.heap.size (fun k_ => some k_ ≠ ((.slice Ao8 t758.length co8) : Value).ownBlock ∧ some k_ ≠ (v770 : Value).ownBlock) v766 t764) ∧ Aside0 (Kd.R (Kd.int .i64) 3 wc w.heap.size (fun k_ => some k_ ≠ ((.slice Ao8 t758.length co8) : Value).ownBlock ∧ some k_ ≠ (v766 : Value).ownBlock) v770 t768) ∧ Aside0 (Below w.heap.size w wc))
  case first =>
   have H := HC6.out
   clear HC6
   by_cases c11 : (t769 != t765) = true
   ·rw [if_pos c11] at H
    have c11b0 : (t769 != t765) = true := c11
    (try (have c11b1 : decide (t769 = t765) = false := by simpa using c11))
    (try (have c11b2 : (t769 == t765) = false := by simpa using c11))
    (try (have c11b3 : ¬ (t769 = t765) := by simpa using c11))
    clear c11
    (first | rw [c11b0] | (simp only [i64_w, i32_w]; rw [c11b0]) | skip)
    have H' := Aside0.mk H
    clear H
    go_wp2
    go_meet
    case rel => exact ⟨_, (true), (by simp [*]), H', ⟨by first | omega | exact Nat.le_refl _⟩, ⟨Kd.R_mono HO763.out (fun _ hk => ⟨hk.1.2, hk.2⟩)⟩, ⟨Kd.R_mono HO767.out (fun _ hk => ⟨hk.1.2, hk.2⟩)⟩, ⟨Kd.R_mono HO771.out (fun _ hk => ⟨hk.1.2, hk.2⟩)⟩, ⟨by repeat (with_reducible first | exact HB.out | apply below_alloc | apply pw_below_drewN | apply below_drew1)⟩⟩
   ·rw [if_neg c11] at H
    have c11b0 : (t769 != t765) = false := by simpa using c11
    (try (have c11b1 : decide (t769 = t765) = true := by simpa using c11))
    (try (have c11b2 : (t769 == t765) = true := by simpa using c11))
    clear c11
    (first | rw [c11b0] | (simp only [i64_w, i32_w]; rw [c11b0]) | skip)
    replace H := bnd H
    obtain ⟨t772, A12, H⟩ := H
    by_cases c13 : t772 = true
    ·subst c13
     rw [if_pos rfl] at H
     have H' := Aside0.mk H
     clear H
     obtain ⟨Ao14, co14, eo14⟩ := Kd.R_slice HO771.out
     subst eo14
     obtain ⟨Ao15, co15, eo15⟩ := Kd.R_slice HO767.out
     subst eo15
     go_wp2_with (first | (go_at_call 77; (with_reducible refine (laws_loInts.calls k _ _ t768 _ _ t764 true _ ?side1 ?side2 ?side3 ?side4 A12.out).mono ?_); (case side1 => repeat (first | exact (Kd.R_reads' HO771.out).2.2 | (with_reducible refine Kd.C_alloc ?_ _) | (with_reducible refine Kd.C_drewN ?_ _) | (with_reducible refine Kd.C_drew ?_))); (case side2 => exact (Kd.R_reads' HO771.out).2.1); (case side3 => repeat (first | exact (Kd.R_reads' HO767.out).2.2 | (with_reducible refine Kd.C_alloc ?_ _) | (with_reducible refine Kd.C_drewN ?_ _) | (with_reducible refine Kd.C_drew ?_))); (case side4 => exact (Kd.R_reads' HO767.out).2.1); rintro e w' ⟨rfl, ⟨nd, rfl⟩⟩))
     go_meet
     case rel => exact ⟨_, (!t769), (by simp [*]), H', ⟨by first | omega | exact Nat.le_refl _⟩, ⟨Kd.R_mono HO763.out (fun _ hk => ⟨hk.1.2, hk.2⟩)⟩, ⟨Kd.R_mono HO767.out (fun _ hk => ⟨hk.1.2, hk.2⟩)⟩, ⟨Kd.R_mono HO771.out (fun _ hk => ⟨hk.1.2, hk.2⟩)⟩, ⟨by repeat (with_reducible first | exact HB.out | apply below_alloc | apply pw_below_drewN | apply below_drew1)⟩⟩
    ·replace c13 := Bool.eq_false_iff.mpr c13
     subst c13
     rw [if_neg (show ¬ (false = true) by decide)] at H
     have H' := Aside0.mk H
     clear H
     obtain ⟨Ao16, co16, eo16⟩ := Kd.R_slice HO771.out
     subst eo16
     obtain ⟨Ao17, co17, eo17⟩ := Kd.R_slice HO767.out
     subst eo17
     go_wp2_with (first | (go_at_call 77; (with_reducible refine (laws_loInts.calls k _ _ t768 _ _ t764 false _ ?side1 ?side2 ?side3 ?side4 A12.out).mono ?_); (case side1 => repeat (first | exact (Kd.R_reads' HO771.out).2.2 | (with_reducible refine Kd.C_alloc ?_ _) | (with_reducible refine Kd.C_drewN ?_ _) | (with_reducible refine Kd.C_drew ?_))); (case side2 => exact (Kd.R_reads' HO771.out).2.1); (case side3 => repeat (first | exact (Kd.R_reads' HO767.out).2.2 | (with_reducible refine Kd.C_alloc ?_ _) | (with_reducible refine Kd.C_drewN ?_ _) | (with_reducible refine Kd.C_drew ?_))); (case side4 => exact (Kd.R_reads' HO767.out).2.1); rintro e w' ⟨rfl, ⟨nd, rfl⟩⟩))
     go_meet
     case rel => exact ⟨_, (true), (by simp [*]), H', ⟨by first | omega | exact Nat.le_refl _⟩, ⟨Kd.R_mono HO763.out (fun _ hk => ⟨hk.1.2, hk.2⟩)⟩, ⟨Kd.R_mono HO767.out (fun _ hk => ⟨hk.1.2, hk.2⟩)⟩, ⟨Kd.R_mono HO771.out (fun _ hk => ⟨hk.1.2, hk.2⟩)⟩, ⟨by repeat (with_reducible first | exact HB.out | apply below_alloc | apply pw_below_drewN | apply below_drew1)⟩⟩
  case rest =>
   clear HC6
   try clear c1
   try clear c2
   try clear c2b0
   try clear c2b1
   try clear p2
   try clear c6
   try clear c7
   try clear c11
   try clear c11b0
   try clear c11b1
   try clear c11b2
   try clear c13
   obtain ⟨kq, x58_5, rfl, HA, HJ5, HO_4, HO_8, HO_10, HB⟩ := hcut
   cases kq with
   | zero => exact absurd HA.out (by simp [laws_FnAskCheck.j0])
   | succ kj5 =>
    have H := HA.out
    clear HA
    simp only [laws_FnAskCheck.j0] at H
    by_cases c18 : x58_5 = true
    ·subst c18
     rw [if_pos rfl] at H
     by_cases c19 : (t769 == t765) = true
     ·rw [if_pos c19] at H
      have c19b0 : (t769 == t765) = true := c19
      (try (have c19b1 : decide (t769 = t765) = true := by simpa using c19))
      (try (have c19b2 : (t769 == t765) = true := by simpa using c19))
      clear c19
      replace H := bnd H
      obtain ⟨t773, A20, H⟩ := H
      obtain rfl := Option.some.inj H
      obtain ⟨Ao21, co21, eo21⟩ := Kd.R_slice HO_10.out
      subst eo21
      obtain ⟨Ao22, co22, eo22⟩ := Kd.R_slice HO_8.out
      subst eo22
      go_wp2_with (first | (go_at_call 77; (with_reducible refine (laws_loInts.calls kj5 _ _ t768 _ _ t764 t773 _ ?side1 ?side2 ?side3 ?side4 A20.out).mono ?_); (case side1 => repeat (first | exact (Kd.R_reads' HO_10.out).2.2 | (with_reducible refine Kd.C_alloc ?_ _) | (with_reducible refine Kd.C_drewN ?_ _) | (with_reducible refine Kd.C_drew ?_))); (case side2 => exact (Kd.R_reads' HO_10.out).2.1); (case side3 => repeat (first | exact (Kd.R_reads' HO_8.out).2.2 | (with_reducible refine Kd.C_alloc ?_ _) | (with_reducible refine Kd.C_drewN ?_ _) | (with_reducible refine Kd.C_drew ?_))); (case side4 => exact (Kd.R_reads' HO_8.out).2.1); rintro e w' ⟨rfl, ⟨nd, rfl⟩⟩))
      go_ret
      exact ⟨by simp [*, errW_none, errW_some] <;> rfl, by repeat (with_reducible first | exact HB.out | apply below_alloc | apply pw_below_drewN | apply below_drew1)⟩
     ·rw [if_neg c19] at H
      have c19b0 : (t769 == t765) = false := by simpa using c19
      (try (have c19b1 : decide (t769 = t765) = false := by simpa using c19))
      (try (have c19b2 : (t769 == t765) = false := by simpa using c19))
      (try (have c19b3 : ¬ (t769 = t765) := by simpa using c19))
      clear c19
      obtain rfl := Option.some.inj H
      go_wp2
      go_ret
      exact ⟨by simp [*, errW_none, errW_some] <;> rfl, by repeat (with_reducible first | exact HB.out | apply below_alloc | apply pw_below_drewN | apply below_drew1)⟩
    ·replace c18 := Bool.eq_false_iff.mpr c18
     subst c18
     rw [if_neg (show ¬ (false = true) by decide)] at H
     replace H := bnd H
     obtain ⟨⟨t774, t777, t778, t779, t782⟩, A23, H⟩ := H
     dsimp only at H
     replace H := bnd H
     obtain ⟨⟨t784, t785, t786, t789⟩, A24, H⟩ := H
     dsimp only at H
     replace H := bnd H
     obtain ⟨⟨t791, t792⟩, A25, H⟩ := H
     dsimp only at H
     try go_wp2_with (first | ((with_reducible refine gate_callee (f := 80) rfl ?_); refine goesL_ (some 70) rfl rfl Try.func80 (by kernel_rfl) rfl #[.int .i64 t757, .slice Ao8 t758.length co8] rfl (by (try simp only [List.map_toArray, List.map_cons, List.map_nil]); first | done | rfl | (simp only [List.length_drop, List.length_take]; rfl)) ?_; (with_reducible refine (impl_ProofCut.calls t757 _ _ t758 t774 t777 t778 t779 t782 _ ?side1 ?side2 A23.out).mono ?_); (case side1 => repeat (first | exact (Kd.R_reads' HO_4.out).2.2 | (with_reducible refine Kd.C_alloc ?_ _) | (with_reducible refine Kd.C_drewN ?_ _) | (with_reducible refine Kd.C_drew ?_))); (case side2 => exact (Kd.R_reads' HO_4.out).2.1); rintro e w36 ⟨v775, v780, rfl, ho0, ho1, hb⟩; refine ⟨_, rfl, ?_⟩; replace HO776 := Aside0.mk (Kd.V_lower (Kd.V_mono (ok' := fun k_ => some k_ ≠ (.slice Ao8 t758.length co8 : Value).ownBlock ∧ some k_ ≠ (v766 : Value).ownBlock ∧ some k_ ≠ (v770 : Value).ownBlock) ho0 (fun k_ hk_ => ⟨(Kd.fresh' (Kd.R_lt (HO_4.out)) k_ hk_), (Kd.fresh' (Kd.R_lt (HO_8.out)) k_ hk_), (Kd.fresh' (Kd.R_lt (HO_10.out)) k_ hk_)⟩)) (below_size (by repeat (with_reducible first | exact HB.out | apply below_alloc | apply pw_below_drewN | apply below_drew1)))); replace HO781 := Aside0.mk (Kd.V_lower (Kd.V_mono (ok' := fun k_ => some k_ ≠ (.slice Ao8 t758.length co8 : Value).ownBlock ∧ some k_ ≠ (v766 : Value).ownBlock ∧ some k_ ≠ (v770 : Value).ownBlock) ho1 (fun k_ hk_ => ⟨(Kd.fresh' (Kd.R_lt (HO_4.out)) k_ hk_), (Kd.fresh' (Kd.R_lt (HO_8.out)) k_ hk_), (Kd.fresh' (Kd.R_lt (HO_10.out)) k_ hk_)⟩)) (below_size (HB.out))); replace HO_4 := Aside0.mk (Kd.R_below (HO_4.out) hb); replace HO_8 := Aside0.mk (Kd.R_below (HO_8.out) hb); replace HO_10 := Aside0.mk (Kd.R_below (HO_10.out) hb); replace HB := Aside0.mk (below_step (HB.out) hb); clear hb ho0 ho1) | ((with_reducible refine gate_dst (N := 13) rfl ?_); refine box_event ?hg (N := 13) ?hd (cs := #[.int .i64 0, .int .i64 0, .slice none 0 0]) (t := 59) ?hr ?_; (case hd => rfl); (case hg => rfl); (case hr => first | (go_simp; done) | (go_simp; rfl)); intro gb783 hg w37 hbox hb; replace HO_4 := Aside0.mk (Kd.R_below (HO_4.out) hb); replace HO_8 := Aside0.mk (Kd.R_below (HO_8.out) hb); replace HO_10 := Aside0.mk (Kd.R_below (HO_10.out) hb); replace HO776 := Aside0.mk (Kd.V_below (Kd.V_elderB (by (with_reducible repeat (first | apply Kd.V_alloc | apply Kd.V_drewN | apply Kd.V_drew)); exact HO776.out) gb783 (Nat.le_of_eq hg.symm)) hb); replace HO781 := Aside0.mk (Kd.V_below (Kd.V_elderB (by (with_reducible repeat (first | apply Kd.V_alloc | apply Kd.V_drewN | apply Kd.V_drew)); exact HO781.out) gb783 (Nat.le_of_eq hg.symm)) hb); replace BK783 := Aside0.mk (hbox); replace GW783 := Aside0.mk ((by rw [hg]; exact (below_size (by repeat (with_reducible first | exact HB.out | apply below_alloc | apply pw_below_drewN | apply below_drew1))) : w.heap.size ≤ gb783)); replace GE783 := Aside0.mk ((by rw [hg]; exact (below_size (by repeat (with_reducible first | exact HB.out | apply below_alloc | apply pw_below_drewN | apply below_drew1))) : w.heap.size ≤ gb783)); replace HB := Aside0.mk (below_step (by repeat (with_reducible first | exact HB.out | apply below_alloc | apply pw_below_drewN | apply below_drew1)) hb); clear hb hbox hg; have hcz38_0 : w37.cell? ⟨gb783, 0, none⟩ = some (.int .i64 0) := (blk_cell BK783.out 0).trans rfl; have hcz38_1 : w37.cell? ⟨gb783, 1, none⟩ = some (.int .i64 0) := (blk_cell BK783.out 1).trans rfl; have hcz38_2 : w37.cell? ⟨gb783, 2, none⟩ = some (.slice none 0 0) := (blk_cell BK783.out 2).trans rfl; have hfz38_0 := blk_frozen BK783.out 0; have hfz38_1 := blk_frozen BK783.out 1; have hfz38_2 := blk_frozen BK783.out 2; obtain ⟨Ao39, co39, eo39⟩ := Kd.V_slice HO781.out; subst eo39; obtain ⟨Ao40, co40, eo40⟩ := Kd.V_slice HO776.out; subst eo40) | ((with_reducible refine gate_callee (f := 59) rfl ?_); refine goesL_ (some 81) rfl rfl Try.func59 (by kernel_rfl) rfl #[.int .i64 t757, .slice Ao40 t774.length co40, .int .i64 t777, .int .i64 t778] rfl (by (try simp only [List.map_toArray, List.map_cons, List.map_nil]); first | done | rfl | (simp only [List.length_drop, List.length_take]; rfl)) ?_; (with_reducible refine (impl_ProofMake.calls kj5 t757 _ _ t774 t777 t778 t784 t785 t786 t789 _ ?side1 ?side2 A24.out).mono ?_); (case side1 => refine (Kd.V_reads' (e := 3) (base := w.heap.size) (ok := fun k_ => ((some k_ ≠ (.slice Ao8 t758.length co8 : Value).ownBlock ∧ (some k_ ≠ (v766 : Value).ownBlock ∧ some k_ ≠ (v770 : Value).ownBlock)) ∧ k_ ≠ gb783)) (n := t774.length) (c := co40) ?_).2.2; exact (by (with_reducible repeat (first | apply Kd.V_alloc | apply Kd.V_drewN | apply Kd.V_drew)); exact (Kd.V_mono (Kd.V_far (p := ⟨gb783, 2, none⟩) (Kd.V_far (p := ⟨gb783, 1, none⟩) (Kd.V_far (p := ⟨gb783, 0, none⟩) (Kd.V_mono HO776.out (fun k_ hk => (⟨hk, hk.2⟩ : _ ∧ k_ ≠ gb783))) (fun _ hk => hk.2) (.int .i64 t777)) (fun _ hk => hk.2) (.int .i64 t778)) (fun _ hk => hk.2) (.slice Ao39 t779.length co39)) (fun _ h_ => h_.1)))); (case side2 => exact (Kd.V_reads' HO776.out).2.1); rintro e w41 ⟨v787, rfl, ho0, hb⟩; refine ⟨_, rfl, ?_⟩; replace HO776 := Aside0.mk (Kd.V_elder' (by (with_reducible repeat (first | apply Kd.V_alloc | apply Kd.V_drewN | apply Kd.V_drew)); exact (Kd.V_mono (Kd.V_far (p := ⟨gb783, 2, none⟩) (Kd.V_far (p := ⟨gb783, 1, none⟩) (Kd.V_far (p := ⟨gb783, 0, none⟩) (Kd.V_mono HO776.out (fun k_ hk => (⟨hk, hk.2⟩ : _ ∧ k_ ≠ gb783))) (fun _ hk => hk.2) (.int .i64 t777)) (fun _ hk => hk.2) (.int .i64 t778)) (fun _ hk => hk.2) (.slice Ao39 t779.length co39)) (fun _ h_ => h_.1))) (Kd.R_base ho0) hb); replace HO781 := Aside0.mk (Kd.V_elder' (by (with_reducible repeat (first | apply Kd.V_alloc | apply Kd.V_drewN | apply Kd.V_drew)); exact (Kd.V_mono (Kd.V_far (p := ⟨gb783, 2, none⟩) (Kd.V_far (p := ⟨gb783, 1, none⟩) (Kd.V_far (p := ⟨gb783, 0, none⟩) (Kd.V_mono HO781.out (fun k_ hk => (⟨hk, hk.2⟩ : _ ∧ k_ ≠ gb783))) (fun _ hk => hk.2) (.int .i64 t777)) (fun _ hk => hk.2) (.int .i64 t778)) (fun _ hk => hk.2) (.slice Ao39 t779.length co39)) (fun _ h_ => h_.1))) (Kd.R_base ho0) hb); replace HO788 := Aside0.mk (Kd.R_lower (Kd.R_new' (Kd.R_new' (Kd.R_new' ho0 (Kd.R_lt ((Kd.R_mono (Kd.R_far (p := ⟨gb783, 2, none⟩) (Kd.R_far (p := ⟨gb783, 1, none⟩) (Kd.R_far (p := ⟨gb783, 0, none⟩) (Kd.R_types HO_4.out BK783.out (by decide)) (fun _ hk => hk.2) (.int .i64 t777)) (fun _ hk => hk.2) (.int .i64 t778)) (fun _ hk => hk.2) (.slice Ao39 t779.length co39)) (fun _ h_ => h_.1))))) (Kd.R_lt ((Kd.R_mono (Kd.R_far (p := ⟨gb783, 2, none⟩) (Kd.R_far (p := ⟨gb783, 1, none⟩) (Kd.R_far (p := ⟨gb783, 0, none⟩) (Kd.R_types HO_8.out BK783.out (by decide)) (fun _ hk => hk.2) (.int .i64 t777)) (fun _ hk => hk.2) (.int .i64 t778)) (fun _ hk => hk.2) (.slice Ao39 t779.length co39)) (fun _ h_ => h_.1))))) (Kd.R_lt ((Kd.R_mono (Kd.R_far (p := ⟨gb783, 2, none⟩) (Kd.R_far (p := ⟨gb783, 1, none⟩) (Kd.R_far (p := ⟨gb783, 0, none⟩) (Kd.R_types HO_10.out BK783.out (by decide)) (fun _ hk => hk.2) (.int .i64 t777)) (fun _ hk => hk.2) (.int .i64 t778)) (fun _ hk => hk.2) (.slice Ao39 t779.length co39)) (fun _ h_ => h_.1))))) (below_size (by repeat (with_reducible first | exact HB.out | apply below_alloc | apply pw_below_drewN | apply below_drew1 | refine below_set ?_ GE783.out)))); replace HO_4 := Aside0.mk (Kd.R_elder' ((Kd.R_mono (Kd.R_far (p := ⟨gb783, 2, none⟩) (Kd.R_far (p := ⟨gb783, 1, none⟩) (Kd.R_far (p := ⟨gb783, 0, none⟩) (Kd.R_types HO_4.out BK783.out (by decide)) (fun _ hk => hk.2) (.int .i64 t777)) (fun _ hk => hk.2) (.int .i64 t778)) (fun _ hk => hk.2) (.slice Ao39 t779.length co39)) (fun _ h_ => h_.1))) (Kd.R_base ho0) hb); replace HO_8 := Aside0.mk (Kd.R_elder' ((Kd.R_mono (Kd.R_far (p := ⟨gb783, 2, none⟩) (Kd.R_far (p := ⟨gb783, 1, none⟩) (Kd.R_far (p := ⟨gb783, 0, none⟩) (Kd.R_types HO_8.out BK783.out (by decide)) (fun _ hk => hk.2) (.int .i64 t777)) (fun _ hk => hk.2) (.int .i64 t778)) (fun _ hk => hk.2) (.slice Ao39 t779.length co39)) (fun _ h_ => h_.1))) (Kd.R_base ho0) hb); replace HO_10 := Aside0.mk (Kd.R_elder' ((Kd.R_mono (Kd.R_far (p := ⟨gb783, 2, none⟩) (Kd.R_far (p := ⟨gb783, 1, none⟩) (Kd.R_far (p := ⟨gb783, 0, none⟩) (Kd.R_types HO_10.out BK783.out (by decide)) (fun _ hk => hk.2) (.int .i64 t777)) (fun _ hk => hk.2) (.int .i64 t778)) (fun _ hk => hk.2) (.slice Ao39 t779.length co39)) (fun _ h_ => h_.1))) (Kd.R_base ho0) hb); replace BK783 := Aside0.mk (blk_below (g := gb783) (o := .cells #[.int .i64 t777, .int .i64 t778, .slice Ao39 t779.length co39] 59 (0, 0)) (by refine blk_put (cs := #[.int .i64 t777, .int .i64 t778, .slice none 0 0]) ?_ 2 _ rfl; refine blk_put (cs := #[.int .i64 t777, .int .i64 0, .slice none 0 0]) ?_ 1 _ rfl; refine blk_put (cs := #[.int .i64 0, .int .i64 0, .slice none 0 0]) ?_ 0 _ rfl; exact BK783.out) hb); replace HB := Aside0.mk (below_step (by repeat (with_reducible first | exact HB.out | apply below_alloc | apply pw_below_drewN | apply below_drew1 | refine below_set ?_ GE783.out)) hb); clear hb ho0) | ((with_reducible refine gate_dst (N := 15) rfl ?_); refine box_event ?hg (N := 15) ?hd (cs := #[.int .i64 0, .int .i64 0, .slice none 0 0]) (t := 59) ?hr ?_; (case hd => rfl); (case hg => rfl); (case hr => first | (go_simp; done) | (go_simp; rfl)); intro gb790 hg w42 hbox hb; replace HO_4 := Aside0.mk (Kd.R_below (HO_4.out) hb); replace HO_8 := Aside0.mk (Kd.R_below (HO_8.out) hb); replace HO_10 := Aside0.mk (Kd.R_below (HO_10.out) hb); replace HO776 := Aside0.mk (Kd.V_below (Kd.V_elderB (by (with_reducible repeat (first | apply Kd.V_alloc | apply Kd.V_drewN | apply Kd.V_drew)); exact HO776.out) gb790 (Nat.le_of_eq hg.symm)) hb); replace HO781 := Aside0.mk (Kd.V_below (Kd.V_elderB (by (with_reducible repeat (first | apply Kd.V_alloc | apply Kd.V_drewN | apply Kd.V_drew)); exact HO781.out) gb790 (Nat.le_of_eq hg.symm)) hb); replace HO788 := Aside0.mk (Kd.R_below (HO788.out) hb); replace BK790 := Aside0.mk (hbox); replace GW790 := Aside0.mk ((by rw [hg]; exact (below_size (by repeat (with_reducible first | exact HB.out | apply below_alloc | apply pw_below_drewN | apply below_drew1 | refine below_set ?_ GE783.out))) : w.heap.size ≤ gb790)); replace GE790 := Aside0.mk ((by rw [hg]; exact (below_size (by repeat (with_reducible first | exact HB.out | apply below_alloc | apply pw_below_drewN | apply below_drew1 | refine below_set ?_ GE783.out))) : w.heap.size ≤ gb790)); replace HB := Aside0.mk (below_step (by repeat (with_reducible first | exact HB.out | apply below_alloc | apply pw_below_drewN | apply below_drew1 | refine below_set ?_ GE783.out)) hb); replace NB783_790 := Aside0.mk ((by rw [hg]; exact Nat.ne_of_lt (blk_lt (g := gb783) (o := .cells #[.int .i64 t777, .int .i64 t778, .slice Ao39 t779.length co39] 59 (0, 0)) (by exact BK783.out)) : gb783 ≠ gb790)); replace NB790_783 := Aside0.mk ((by rw [hg]; exact Nat.ne_of_gt (blk_lt (g := gb783) (o := .cells #[.int .i64 t777, .int .i64 t778, .slice Ao39 t779.length co39] 59 (0, 0)) (by exact BK783.out)) : gb790 ≠ gb783)); replace BK783 := Aside0.mk (blk_below (g := gb783) (o := .cells #[.int .i64 t777, .int .i64 t778, .slice Ao39 t779.length co39] 59 (0, 0)) (by exact BK783.out) hb); clear hb hbox hg; have hnb43 := NB790_783.out; have hnc43 := NB783_790.out; have hcz44_0 : w42.cell? ⟨gb790, 0, none⟩ = some (.int .i64 0) := (blk_cell BK790.out 0).trans rfl; have hcz44_1 : w42.cell? ⟨gb790, 1, none⟩ = some (.int .i64 0) := (blk_cell BK790.out 1).trans rfl; have hcz44_2 : w42.cell? ⟨gb790, 2, none⟩ = some (.slice none 0 0) := (blk_cell BK790.out 2).trans rfl; have hfz44_0 := blk_frozen BK790.out 0; have hfz44_1 := blk_frozen BK790.out 1; have hfz44_2 := blk_frozen BK790.out 2; obtain ⟨Ao45, co45, eo45⟩ := Kd.R_slice HO788.out; subst eo45) | ((with_reducible refine gate_callee (f := 70) rfl ?_); refine goesL_ (some 89) rfl rfl Try.func70 (by kernel_rfl) rfl #[.int .i64 t757, .slice Ao8 t758.length co8, .bool true, .int .i64 t760, .int .i64 t761] rfl (by (try simp only [List.map_toArray, List.map_cons, List.map_nil]); first | done | rfl | (simp only [List.length_drop, List.length_take]; rfl)) ?_; (with_reducible refine (impl_QueryAsk.calls kj5 t757 _ _ t758 true t760 t761 t791 t792 _ ?side1 ?side2 A25.out).mono ?_); (case side1 => refine (Kd.R_reads' (e := 3) (base := w.heap.size) (ok := fun k_ => ((some k_ ≠ (v766 : Value).ownBlock ∧ some k_ ≠ (v770 : Value).ownBlock) ∧ some k_ ≠ (.slice Ao45 t786.length co45 : Value).ownBlock)) (n := t758.length) (c := co8) ?_).2.2; exact ((Kd.R_mono (Kd.R_far (p := ⟨gb790, 2, none⟩) (Kd.R_far (p := ⟨gb790, 1, none⟩) (Kd.R_far (p := ⟨gb790, 0, none⟩) (Kd.R_types HO_4.out BK790.out (by decide)) (fun _ hk => hk.2) (.int .i64 t784)) (fun _ hk => hk.2) (.int .i64 t785)) (fun _ hk => hk.2) (.slice Ao45 t786.length co45)) (fun _ h_ => h_.1)))); (case side2 => exact (Kd.R_reads' HO_4.out).2.1); rintro e w46 ⟨v793, rfl, ho0, hb⟩; refine ⟨_, rfl, ?_⟩; replace HO776 := Aside0.mk (Kd.V_elder' (by (with_reducible repeat (first | apply Kd.V_alloc | apply Kd.V_drewN | apply Kd.V_drew)); exact (Kd.V_mono (Kd.V_far (p := ⟨gb790, 2, none⟩) (Kd.V_far (p := ⟨gb790, 1, none⟩) (Kd.V_far (p := ⟨gb790, 0, none⟩) (Kd.V_mono HO776.out (fun k_ hk => (⟨hk, hk.2⟩ : _ ∧ k_ ≠ gb790))) (fun _ hk => hk.2) (.int .i64 t784)) (fun _ hk => hk.2) (.int .i64 t785)) (fun _ hk => hk.2) (.slice Ao45 t786.length co45)) (fun _ h_ => h_.1))) (Kd.R_base ho0) hb); replace HO781 := Aside0.mk (Kd.V_elder' (by (with_reducible repeat (first | apply Kd.V_alloc | apply Kd.V_drewN | apply Kd.V_drew)); exact (Kd.V_mono (Kd.V_far (p := ⟨gb790, 2, none⟩) (Kd.V_far (p := ⟨gb790, 1, none⟩) (Kd.V_far (p := ⟨gb790, 0, none⟩) (Kd.V_mono HO781.out (fun k_ hk => (⟨hk, hk.2⟩ : _ ∧ k_ ≠ gb790))) (fun _ hk => hk.2) (.int .i64 t784)) (fun _ hk => hk.2) (.int .i64 t785)) (fun _ hk => hk.2) (.slice Ao45 t786.length co45)) (fun _ h_ => h_.1))) (Kd.R_base ho0) hb); replace HO794 := Aside0.mk (Kd.R_lower (Kd.R_new' (Kd.R_new' (Kd.R_new' (Kd.R_new' ho0 (Kd.R_lt ((Kd.R_mono (Kd.R_far (p := ⟨gb790, 2, none⟩) (Kd.R_far (p := ⟨gb790, 1, none⟩) (Kd.R_far (p := ⟨gb790, 0, none⟩) (Kd.R_types HO_4.out BK790.out (by decide)) (fun _ hk => hk.2) (.int .i64 t784)) (fun _ hk => hk.2) (.int .i64 t785)) (fun _ hk => hk.2) (.slice Ao45 t786.length co45)) (fun _ h_ => h_.1))))) (Kd.R_lt ((Kd.R_mono (Kd.R_far (p := ⟨gb790, 2, none⟩) (Kd.R_far (p := ⟨gb790, 1, none⟩) (Kd.R_far (p := ⟨gb790, 0, none⟩) (Kd.R_types HO_8.out BK790.out (by decide)) (fun _ hk => hk.2) (.int .i64 t784)) (fun _ hk => hk.2) (.int .i64 t785)) (fun _ hk => hk.2) (.slice Ao45 t786.length co45)) (fun _ h_ => h_.1))))) (Kd.R_lt ((Kd.R_mono (Kd.R_far (p := ⟨gb790, 2, none⟩) (Kd.R_far (p := ⟨gb790, 1, none⟩) (Kd.R_far (p := ⟨gb790, 0, none⟩) (Kd.R_types HO_10.out BK790.out (by decide)) (fun _ hk => hk.2) (.int .i64 t784)) (fun _ hk => hk.2) (.int .i64 t785)) (fun _ hk => hk.2) (.slice Ao45 t786.length co45)) (fun _ h_ => h_.1))))) (Kd.R_lt ((Kd.R_mono (Kd.R_far (p := ⟨gb790, 2, none⟩) (Kd.R_far (p := ⟨gb790, 1, none⟩) (Kd.R_far (p := ⟨gb790, 0, none⟩) (Kd.R_types HO788.out BK790.out (by decide)) (fun _ hk => hk.2) (.int .i64 t784)) (fun _ hk => hk.2) (.int .i64 t785)) (fun _ hk => hk.2) (.slice Ao45 t786.length co45)) (fun _ h_ => h_.1))))) (below_size (by repeat (with_reducible first | exact HB.out | apply below_alloc | apply pw_below_drewN | apply below_drew1 | refine below_set ?_ GE783.out | refine below_set ?_ GE790.out)))); replace HO_4 := Aside0.mk (Kd.R_elder' ((Kd.R_mono (Kd.R_far (p := ⟨gb790, 2, none⟩) (Kd.R_far (p := ⟨gb790, 1, none⟩) (Kd.R_far (p := ⟨gb790, 0, none⟩) (Kd.R_types HO_4.out BK790.out (by decide)) (fun _ hk => hk.2) (.int .i64 t784)) (fun _ hk => hk.2) (.int .i64 t785)) (fun _ hk => hk.2) (.slice Ao45 t786.length co45)) (fun _ h_ => h_.1))) (Kd.R_base ho0) hb); replace HO_8 := Aside0.mk (Kd.R_elder' ((Kd.R_mono (Kd.R_far (p := ⟨gb790, 2, none⟩) (Kd.R_far (p := ⟨gb790, 1, none⟩) (Kd.R_far (p := ⟨gb790, 0, none⟩) (Kd.R_types HO_8.out BK790.out (by decide)) (fun _ hk => hk.2) (.int .i64 t784)) (fun _ hk => hk.2) (.int .i64 t785)) (fun _ hk => hk.2) (.slice Ao45 t786.length co45)) (fun _ h_ => h_.1))) (Kd.R_base ho0) hb); replace HO_10 := Aside0.mk (Kd.R_elder' ((Kd.R_mono (Kd.R_far (p := ⟨gb790, 2, none⟩) (Kd.R_far (p := ⟨gb790, 1, none⟩) (Kd.R_far (p := ⟨gb790, 0, none⟩) (Kd.R_types HO_10.out BK790.out (by decide)) (fun _ hk => hk.2) (.int .i64 t784)) (fun _ hk => hk.2) (.int .i64 t785)) (fun _ hk => hk.2) (.slice Ao45 t786.length co45)) (fun _ h_ => h_.1))) (Kd.R_base ho0) hb); replace HO788 := Aside0.mk (Kd.R_elder' ((Kd.R_mono (Kd.R_far (p := ⟨gb790, 2, none⟩) (Kd.R_far (p := ⟨gb790, 1, none⟩) (Kd.R_far (p := ⟨gb790, 0, none⟩) (Kd.R_types HO788.out BK790.out (by decide)) (fun _ hk => hk.2) (.int .i64 t784)) (fun _ hk => hk.2) (.int .i64 t785)) (fun _ hk => hk.2) (.slice Ao45 t786.length co45)) (fun _ h_ => h_.1))) (Kd.R_base ho0) hb); replace BK783 := Aside0.mk (blk_below (g := gb783) (o := .cells #[.int .i64 t777, .int .i64 t778, .slice Ao39 t779.length co39] 59 (0, 0)) (by refine blk_far ?_ NB783_790.out _; refine blk_far ?_ NB783_790.out _; refine blk_far ?_ NB783_790.out _; exact BK783.out) hb); replace BK790 := Aside0.mk (blk_below (g := gb790) (o := .cells #[.int .i64 t784, .int .i64 t785, .slice Ao45 t786.length co45] 59 (0, 0)) (by refine blk_put (cs := #[.int .i64 t784, .int .i64 t785, .slice none 0 0]) ?_ 2 _ rfl; refine blk_put (cs := #[.int .i64 t784, .int .i64 0, .slice none 0 0]) ?_ 1 _ rfl; refine blk_put (cs := #[.int .i64 0, .int .i64 0, .slice none 0 0]) ?_ 0 _ rfl; exact BK790.out) hb); replace HB := Aside0.mk (below_step (by repeat (with_reducible first | exact HB.out | apply below_alloc | apply pw_below_drewN | apply below_drew1 | refine below_set ?_ GE783.out | refine below_set ?_ GE790.out)) hb); (try clear hb); (try clear hb2); (try clear hk); (try clear hi); (try clear ho0); refine (show ∀ p_ : Prop, (∀ q_ : Prop, (p_ → Aside0 q_) → Aside0 q_) → p_ from fun p_ h_ => (h_ p_ Aside0.mk).out) _ (fun q_ hq_ => ?_)))
     by_cases c26 : t789 = true
     ·subst c26
      rw [if_pos rfl] at H
      replace H := bnd H
      obtain ⟨t795, A27, H⟩ := H
      refine hq_ ?_
      clear hq_ q_
      by_cases c28 : t795 = true
      ·subst c28
       rw [if_pos rfl] at H
       by_cases c29 : 3 < (t791.length : Int)
       ·rw [if_pos c29] at H
        have c29b0 : decide (3 < (t791.length : Int)) = true := decide_eq_true c29
        have c29b1 : decide (3 < t791.length) = true := decide_eq_true (by omega)
        clear c29
        replace H := bnd H
        obtain ⟨t797, A30, H⟩ := H
        by_cases c31 : (rd t791 3) = t797
        ·rw [if_pos c31] at H
         have c31b0 : ((rd t791 3) == t797) = true := beq_iff_eq.mpr c31
         have c31b1 : ((rd t791 3) != t797) = false := bne_eq_false_iff_eq.mpr c31
         clear c31
         by_cases c32 : 0 < (t791.length : Int)
         ·rw [if_pos c32] at H
          have c32b0 : decide (0 < (t791.length : Int)) = true := decide_eq_true c32
          have c32b1 : decide (0 < t791.length) = true := decide_eq_true (by omega)
          clear c32
          by_cases c33 : 1 < (t791.length : Int)
          ·rw [if_pos c33] at H
           have c33b0 : decide (1 < (t791.length : Int)) = true := decide_eq_true c33
           have c33b1 : decide (1 < t791.length) = true := decide_eq_true (by omega)
           clear c33
           replace H := bnd H
           obtain ⟨t800, A34, H⟩ := H
           by_cases c35 : 2 < (t791.length : Int)
           ·rw [if_pos c35] at H
            have c35b0 : decide (2 < (t791.length : Int)) = true := decide_eq_true c35
            have c35b1 : decide (2 < t791.length) = true := decide_eq_true (by omega)
            clear c35
            obtain rfl := Option.some.inj H
            try go_wp2
            replace HO_4 := Aside0.mk (Kd.R_drew HO_4.out)
            replace HO_8 := Aside0.mk (Kd.R_drew HO_8.out)
            replace HO_10 := Aside0.mk (Kd.R_drew HO_10.out)
            replace HO776 := Aside0.mk (Kd.V_drew HO776.out)
            replace HO781 := Aside0.mk (Kd.V_drew HO781.out)
            replace HO788 := Aside0.mk (Kd.R_drew HO788.out)
            replace HO794 := Aside0.mk (Kd.R_drew HO794.out)
            replace BK783 := Aside0.mk (blk_drew BK783.out)
            replace BK790 := Aside0.mk (blk_drew BK790.out)
            replace HB := Aside0.mk (below_drew1 HB.out)
            obtain ⟨Aq_, cq_, eq_⟩ := Kd.R_slice HO794.out
            subst eq_
            have p796 : 0 ≤ (3 : Int) := (by omega)
            have q796 : 3 < (t791.length : Int) := of_decide_eq_true ‹_›
            obtain ⟨ad796, e796, hx796_0⟩ := Kd.at_int (Kd.R_reads' HO794.out).2.2 3 p796 q796
            cases e796
            (try simp only [show (3 : Int).toNat = 3 from rfl, Nat.reduceMul, Nat.reduceEqDiff, Go.Addr.add, ↓reduceIte] at hx796_0)
            have qi796 : (3 < t791.length) = True := eq_true (by omega)
            (try rw [show ((3 : Int)).toNat = 3 from rfl] at hx796_0)
            replace p796 := eq_true p796
            replace q796 := eq_true q796
            have p798 : 0 ≤ (0 : Int) := (by omega)
            have q798 : 0 < (t791.length : Int) := of_decide_eq_true ‹_›
            obtain ⟨ad798, e798, hx798_0⟩ := Kd.at_int (Kd.R_reads' HO794.out).2.2 0 p798 q798
            obtain rfl : ad796 = ad798 := (by injection e798)
            have qi798 : (0 < t791.length) = True := eq_true (by omega)
            (try rw [show ((0 : Int)).toNat = 0 from rfl] at hx798_0)
            (try rw [Addr.add_zero'] at hx798_0)
            replace p798 := eq_true p798
            replace q798 := eq_true q798
            have p799 : 0 ≤ (1 : Int) := (by omega)
            have q799 : 1 < (t791.length : Int) := of_decide_eq_true ‹_›
            obtain ⟨ad799, e799, hx799_0⟩ := Kd.at_int (Kd.R_reads' HO794.out).2.2 1 p799 q799
            obtain rfl : ad796 = ad799 := (by injection e799)
            (try simp only [show (1 : Int).toNat = 1 from rfl, Nat.reduceMul, Nat.reduceEqDiff, Go.Addr.add, ↓reduceIte] at hx799_0)
            have qi799 : (1 < t791.length) = True := eq_true (by omega)
            (try rw [show ((1 : Int)).toNat = 1 from rfl] at hx799_0)
            replace p799 := eq_true p799
            replace q799 := eq_true q799
            have p801 : 0 ≤ (2 : Int) := (by omega)
            have q801 : 2 < (t791.length : Int) := of_decide_eq_true ‹_›
            obtain ⟨ad801, e801, hx801_0⟩ := Kd.at_int (Kd.R_reads' HO794.out).2.2 2 p801 q801
            obtain rfl : ad796 = ad801 := (by injection e801)
            (try simp only [show (2 : Int).toNat = 2 from rfl, Nat.reduceMul, Nat.reduceEqDiff, Go.Addr.add, ↓reduceIte] at hx801_0)
            have qi801 : (2 < t791.length) = True := eq_true (by omega)
            (try rw [show ((2 : Int)).toNat = 2 from rfl] at hx801_0)
            replace p801 := eq_true p801
            replace q801 := eq_true q801
            refine start_ (n := 32) (S := fun w' => w'.cell? ⟨gb790, 0, none⟩ = some (.int .i64 t784) ∧ w'.cell? ⟨gb790, 1, none⟩ = some (.int .i64 t785) ∧ w'.cell? ⟨gb790, 2, none⟩ = some (.slice Ao45 t786.length co45) ∧ w'.cell? ⟨gb783, 0, none⟩ = some (.int .i64 t777) ∧ w'.cell? ⟨gb783, 1, none⟩ = some (.int .i64 t778) ∧ w'.cell? ⟨gb783, 2, none⟩ = some (.slice Ao39 t779.length co39) ∧ w'.cell? ⟨ad796.block, ad796.off + 3, none⟩ = some (.int .i64 (rd t791 3)) ∧ w'.cell? ad796 = some (.int .i64 (rd t791 0)) ∧ w'.cell? ⟨ad796.block, ad796.off + 1, none⟩ = some (.int .i64 (rd t791 1)) ∧ w'.cell? ⟨ad796.block, ad796.off + 2, none⟩ = some (.int .i64 (rd t791 2))) (ds := []) (bs 32 0) (by kernel_rfl) rfl rfl ⟨(blk_cell BK790.out 0).trans rfl, (blk_cell BK790.out 1).trans rfl, (blk_cell BK790.out 2).trans rfl, (blk_cell BK783.out 0).trans rfl, (blk_cell BK783.out 1).trans rfl, (blk_cell BK783.out 2).trans rfl, hx796_0, hx798_0, hx799_0, hx801_0⟩ (fun hHeld => ?_); refine with_tabW laws_FnAskCheck.tab11 laws_FnAskCheck.bits11 (fun HT_ HW_ => ?_)
            generalize w46.drew = w47 at HO_4 HO_8 HO_10 HO776 HO781 HO788 HO794 BK783 BK790 HB hx796_0 hx798_0 hx799_0 hx801_0 hHeld ⊢
            refine pZ 0 (some 92) (bs 32 1) rfl rfl (any_of HT_.out (by kernel_rfl)) ?_
            refine pZ 1 (some 93) (bs 32 3) rfl rfl (any_of HT_.out (by kernel_rfl)) ?_
            refine pZ 2 (some 94) (bs 32 7) rfl rfl (any_of HT_.out (by kernel_rfl)) ?_
            refine tZ 3 (some 95) (bs 32 15) rfl rfl (take_ofW HT_.out HW_.out (by kernel_rfl)) hHeld (by rintro w' ⟨s0, s1, s2, s3, s4, s5, s6, s7, s8, s9⟩; go_simp; with_reducible rfl) ?_
            refine tZ 4 (some 96) (bs 32 31) rfl rfl (take_ofW HT_.out HW_.out (by kernel_rfl)) hHeld (by rintro w' ⟨s0, s1, s2, s3, s4, s5, s6, s7, s8, s9⟩; go_simp; with_reducible rfl) ?_
            refine one_ (i := 5) (N := some 97) (bs 32 63) rfl rfl (one_of HT_.out (by kernel_rfl)) (by decide) (fun K hK => ?_)
            refine goes_ Try.func65 (by kernel_rfl) rfl #[.agg #[.int .i64 t784, .int .i64 t785, .slice Ao45 t786.length co45], .agg #[.int .i64 t777, .int .i64 t778, .slice Ao39 t779.length co39]] (by rfl) rfl rfl (by (try simp only [List.map_toArray, List.map_cons, List.map_nil]); first | done | rfl | (simp only [List.length_drop, List.length_take]; rfl)) ?_
            with_reducible refine (laws_loProof.calls kj5 t784 t785 _ _ t786 t777 t778 _ _ t779 true _ ?side1 ?side2 ?side3 ?side4 A27.out).mono ?_
            (case side1 => repeat (first | exact (Kd.R_reads' HO788.out).2.2 | (with_reducible refine Kd.C_alloc ?_ _) | (with_reducible refine Kd.C_drewN ?_ _) | (with_reducible refine Kd.C_drew ?_)))
            (case side2 => exact (Kd.R_reads' HO788.out).2.1)
            (case side3 => repeat (first | exact (Kd.V_reads' HO781.out).2.2 | (with_reducible refine Kd.C_alloc ?_ _) | (with_reducible refine Kd.C_drewN ?_ _) | (with_reducible refine Kd.C_drew ?_)))
            (case side4 => exact (Kd.V_reads' HO781.out).2.1)
            rintro e w48 ⟨rfl, hb⟩
            have HS6_ := (hb.cell (World.block_lt_of_cell? _ _ (hHeld.2.2.2.2.2.2.1))).trans (hHeld.2.2.2.2.2.2.1)
            have HS7_ := (hb.cell (World.block_lt_of_cell? _ _ (hHeld.2.2.2.2.2.2.2.1))).trans (hHeld.2.2.2.2.2.2.2.1)
            have HS8_ := (hb.cell (World.block_lt_of_cell? _ _ (hHeld.2.2.2.2.2.2.2.2.1))).trans (hHeld.2.2.2.2.2.2.2.2.1)
            have HS9_ := (hb.cell (World.block_lt_of_cell? _ _ (hHeld.2.2.2.2.2.2.2.2.2))).trans (hHeld.2.2.2.2.2.2.2.2.2)
            refine ⟨_, rfl, ?_⟩
            replace HO_4 := Aside0.mk (Kd.R_below (HO_4.out) hb)
            replace HO_8 := Aside0.mk (Kd.R_below (HO_8.out) hb)
            replace HO_10 := Aside0.mk (Kd.R_below (HO_10.out) hb)
            replace HO776 := Aside0.mk (Kd.V_below (by (with_reducible repeat (first | apply Kd.V_alloc | apply Kd.V_drewN | apply Kd.V_drew)); exact HO776.out) hb)
            replace HO781 := Aside0.mk (Kd.V_below (by (with_reducible repeat (first | apply Kd.V_alloc | apply Kd.V_drewN | apply Kd.V_drew)); exact HO781.out) hb)
            replace HO788 := Aside0.mk (Kd.R_below (HO788.out) hb)
            replace HO794 := Aside0.mk (Kd.R_below (HO794.out) hb)
            replace BK783 := Aside0.mk (blk_below (g := gb783) (o := .cells #[.int .i64 t777, .int .i64 t778, .slice Ao39 t779.length co39] 59 (0, 0)) (by exact BK783.out) hb)
            replace BK790 := Aside0.mk (blk_below (g := gb790) (o := .cells #[.int .i64 t784, .int .i64 t785, .slice Ao45 t786.length co45] 59 (0, 0)) (by exact BK790.out) hb)
            replace HB := Aside0.mk (below_step (by repeat (with_reducible first | exact HB.out | apply below_alloc | apply pw_below_drewN | apply below_drew1 | refine below_set ?_ GE783.out | refine below_set ?_ GE790.out)) hb)
            (try clear hb)
            (try clear hb2)
            (try clear hk)
            (try clear hi)
            obtain ⟨Ao49, co49, eo49⟩ := Kd.R_slice HO794.out
            (first | subst eo49 | (injection eo49 with f1_ f2_ f3_; have f4_ := f1_.symm; have f5_ := f3_.symm; clear f1_ f2_ f3_; subst f4_; subst f5_))
            refine hK.out _ _ ⟨(blk_cell BK790.out 0).trans rfl, (blk_cell BK790.out 1).trans rfl, (blk_cell BK790.out 2).trans rfl, (blk_cell BK783.out 0).trans rfl, (blk_cell BK783.out 1).trans rfl, (blk_cell BK783.out 2).trans rfl, HS6_, HS7_, HS8_, HS9_⟩ (fun hHeld => ?_)
            clear hK K
            refine norm_ (a' := ?_) ?_ ?_
            rotate_left
            ·show Act.put _ (some 97) _ = _
             simp only [Act.put, List.setIfInBounds_toArray, List.set_cons_zero, List.set_cons_succ, i64_w, i32_w]
             rfl
            refine pZ 6 (some 98) (bs 32 127) rfl rfl (any_of HT_.out (by kernel_rfl)) ?_
            refine pZ 7 (some 99) (bs 32 255) rfl rfl (any_of HT_.out (by kernel_rfl)) ?_
            refine pZ 8 (some 100) (bs 32 511) rfl rfl (any_of HT_.out (by kernel_rfl)) ?_
            refine pZ 9 (some 101) (bs 32 1023) rfl rfl (any_of HT_.out (by kernel_rfl)) ?_
            refine pZ 10 (some 102) (bs 32 2047) rfl rfl (any_of HT_.out (by kernel_rfl)) ?_
            refine pZ 12 (some 104) (bs 32 6143) rfl rfl (any_of HT_.out (by kernel_rfl)) ?_
            refine pZ 13 (some 105) (bs 32 14335) rfl rfl (any_of HT_.out (by kernel_rfl)) ?_
            refine pZ 14 (some 106) (bs 32 30719) rfl rfl (any_of HT_.out (by kernel_rfl)) ?_
            refine tZ 11 (some 103) (bs 32 32767) rfl rfl (take_ofW HT_.out HW_.out (by kernel_rfl)) hHeld (by rintro w' ⟨s0, s1, s2, s3, s4, s5, s6, s7, s8, s9⟩; go_simp; with_reducible rfl) ?_
            refine one_ (i := 15) (N := some 107) (bs 32 65535) rfl rfl (one_of HT_.out (by kernel_rfl)) (by decide) (fun K hK => ?_)
            refine goes_ Try.func84 (by kernel_rfl) rfl #[.int .i64 t757, .slice Ao40 t774.length co40, .int .i64 t761] (by rfl) rfl rfl (by (try simp only [List.map_toArray, List.map_cons, List.map_nil]); first | done | rfl | (simp only [List.length_drop, List.length_take]; rfl)) ?_
            with_reducible refine (impl_TypeCheck.calls kj5 t757 _ _ t774 t761 t797 _ ?side1 ?side2 A30.out).mono ?_
            (case side1 => repeat (first | exact (Kd.V_reads' HO776.out).2.2 | (with_reducible refine Kd.C_alloc ?_ _) | (with_reducible refine Kd.C_drewN ?_ _) | (with_reducible refine Kd.C_drew ?_)))
            (case side2 => exact (Kd.V_reads' HO776.out).2.1)
            rintro e w50 ⟨rfl, hb⟩
            have HS6_ := (hb.cell (World.block_lt_of_cell? _ _ (hHeld.2.2.2.2.2.2.1))).trans (hHeld.2.2.2.2.2.2.1)
            have HS7_ := (hb.cell (World.block_lt_of_cell? _ _ (hHeld.2.2.2.2.2.2.2.1))).trans (hHeld.2.2.2.2.2.2.2.1)
            have HS8_ := (hb.cell (World.block_lt_of_cell? _ _ (hHeld.2.2.2.2.2.2.2.2.1))).trans (hHeld.2.2.2.2.2.2.2.2.1)
            have HS9_ := (hb.cell (World.block_lt_of_cell? _ _ (hHeld.2.2.2.2.2.2.2.2.2))).trans (hHeld.2.2.2.2.2.2.2.2.2)
            refine ⟨_, rfl, ?_⟩
            replace HO_4 := Aside0.mk (Kd.R_below (HO_4.out) hb)
            replace HO_8 := Aside0.mk (Kd.R_below (HO_8.out) hb)
            replace HO_10 := Aside0.mk (Kd.R_below (HO_10.out) hb)
            replace HO776 := Aside0.mk (Kd.V_below (by (with_reducible repeat (first | apply Kd.V_alloc | apply Kd.V_drewN | apply Kd.V_drew)); exact HO776.out) hb)
            replace HO781 := Aside0.mk (Kd.V_below (by (with_reducible repeat (first | apply Kd.V_alloc | apply Kd.V_drewN | apply Kd.V_drew)); exact HO781.out) hb)
            replace HO788 := Aside0.mk (Kd.R_below (HO788.out) hb)
            replace HO794 := Aside0.mk (Kd.R_below (HO794.out) hb)
            replace BK783 := Aside0.mk (blk_below (g := gb783) (o := .cells #[.int .i64 t777, .int .i64 t778, .slice Ao39 t779.length co39] 59 (0, 0)) (by exact BK783.out) hb)
            replace BK790 := Aside0.mk (blk_below (g := gb790) (o := .cells #[.int .i64 t784, .int .i64 t785, .slice Ao45 t786.length co45] 59 (0, 0)) (by exact BK790.out) hb)
            replace HB := Aside0.mk (below_step (by repeat (with_reducible first | exact HB.out | apply below_alloc | apply pw_below_drewN | apply below_drew1 | refine below_set ?_ GE783.out | refine below_set ?_ GE790.out)) hb)
            (try clear hb)
            (try clear hb2)
            (try clear hk)
            (try clear hi)
            refine hK.out _ _ ⟨(blk_cell BK790.out 0).trans rfl, (blk_cell BK790.out 1).trans rfl, (blk_cell BK790.out 2).trans rfl, (blk_cell BK783.out 0).trans rfl, (blk_cell BK783.out 1).trans rfl, (blk_cell BK783.out 2).trans rfl, HS6_, HS7_, HS8_, HS9_⟩ (fun hHeld => ?_)
            clear hK K
            refine norm_ (a' := ?_) ?_ ?_
            rotate_left
            ·show Act.put _ (some 107) _ = _
             simp only [Act.put, List.setIfInBounds_toArray, List.set_cons_zero, List.set_cons_succ, i64_w, i32_w]
             rfl
            refine pZ 16 (some 108) (bs 32 131071) rfl rfl (any_of HT_.out (by kernel_rfl)) ?_
            refine pZ 17 (some 109) (bs 32 262143) rfl rfl (any_of HT_.out (by kernel_rfl)) ?_
            refine pZ 18 (some 110) (bs 32 524287) rfl rfl (any_of HT_.out (by kernel_rfl)) ?_
            refine pZ 19 (some 111) (bs 32 1048575) rfl rfl (any_of HT_.out (by kernel_rfl)) ?_
            refine pZ 21 (some 113) (bs 32 3145727) rfl rfl (any_of HT_.out (by kernel_rfl)) ?_
            refine pZ 22 (some 114) (bs 32 7340031) rfl rfl (any_of HT_.out (by kernel_rfl)) ?_
            refine pZ 25 (some 117) (bs 32 40894463) rfl rfl (any_of HT_.out (by kernel_rfl)) ?_
            refine pZ 26 (some 118) (bs 32 108003327) rfl rfl (any_of HT_.out (by kernel_rfl)) ?_
            refine tZ 20 (some 112) (bs 32 109051903) rfl rfl (take_ofW HT_.out HW_.out (by kernel_rfl)) hHeld (by rintro w' ⟨s0, s1, s2, s3, s4, s5, s6, s7, s8, s9⟩; go_simp; with_reducible rfl) ?_
            refine tZ 23 (some 115) (bs 32 117440511) rfl rfl (take_ofW HT_.out HW_.out (by kernel_rfl)) hHeld (by rintro w' ⟨s0, s1, s2, s3, s4, s5, s6, s7, s8, s9⟩; go_simp; with_reducible rfl) ?_
            refine tZ 27 (some 119) (bs 32 251658239) rfl rfl (take_ofW HT_.out HW_.out (by kernel_rfl)) hHeld (by rintro w' ⟨s0, s1, s2, s3, s4, s5, s6, s7, s8, s9⟩; go_simp; with_reducible rfl) ?_
            refine one_ (i := 24) (N := some 116) (bs 32 268435455) rfl rfl (one_of HT_.out (by kernel_rfl)) (by decide) (fun K hK => ?_)
            refine goes_ Try.func68 (by kernel_rfl) rfl #[.int .i64 (rd t791 0), .int .i64 (rd t791 1)] (by rfl) rfl rfl (by (try simp only [List.map_toArray, List.map_cons, List.map_nil]); first | done | rfl | (simp only [List.length_drop, List.length_take]; rfl)) ?_
            with_reducible refine (impl_FieldMul.calls (rd t791 0) (rd t791 1) t800 _ A34.out).mono ?_
            rintro e w' ⟨rfl, ⟨nd, rfl⟩⟩
            refine ⟨_, rfl, ?_⟩
            refine hK.out _ _ ⟨(blk_cell BK790.out 0).trans rfl, (blk_cell BK790.out 1).trans rfl, (blk_cell BK790.out 2).trans rfl, (blk_cell BK783.out 0).trans rfl, (blk_cell BK783.out 1).trans rfl, (blk_cell BK783.out 2).trans rfl, hHeld.2.2.2.2.2.2.1, hHeld.2.2.2.2.2.2.2.1, hHeld.2.2.2.2.2.2.2.2.1, hHeld.2.2.2.2.2.2.2.2.2⟩ (fun hHeld => ?_)
            clear hK K
            refine norm_ (a' := ?_) ?_ ?_
            rotate_left
            ·show Act.put _ (some 116) _ = _
             simp only [Act.put, List.setIfInBounds_toArray, List.set_cons_zero, List.set_cons_succ, i64_w, i32_w]
             rfl
            refine pZ 28 (some 120) (bs 32 536870911) rfl rfl (any_of HT_.out (by kernel_rfl)) ?_
            refine pZ 29 (some 121) (bs 32 1073741823) rfl rfl (any_of HT_.out (by kernel_rfl)) ?_
            refine pZ 30 (some 122) (bs 32 2147483647) rfl rfl (any_of HT_.out (by kernel_rfl)) ?_
            refine pZ 31 (some 2) (bs 32 4294967295) rfl rfl (any_of HT_.out (by kernel_rfl)) ?_
            refine done_ (done_of HT_.out (by kernel_rfl)) ?_
            try go_wp2
            go_ret
            exact ⟨by simp [*, errW_none, errW_some] <;> rfl, by repeat (with_reducible first | exact HB.out | apply below_alloc | apply pw_below_drewN | apply below_drew1 | refine below_set ?_ GE783.out | refine below_set ?_ GE790.out)⟩
           ·rw [if_neg c35] at H
            exact absurd H (by simp)
          ·rw [if_neg c33] at H
           exact absurd H (by simp)
         ·rw [if_neg c32] at H
          exact absurd H (by simp)
        ·rw [if_neg c31] at H
         have c31b0 : ((rd t791 3) == t797) = false := beq_eq_false_iff_ne.mpr c31
         have c31b1 : ((rd t791 3) != t797) = true := bne_iff_ne.mpr c31
         obtain rfl := Option.some.inj H
         try go_wp2
         replace HO_4 := Aside0.mk (Kd.R_drew HO_4.out)
         replace HO_8 := Aside0.mk (Kd.R_drew HO_8.out)
         replace HO_10 := Aside0.mk (Kd.R_drew HO_10.out)
         replace HO776 := Aside0.mk (Kd.V_drew HO776.out)
         replace HO781 := Aside0.mk (Kd.V_drew HO781.out)
         replace HO788 := Aside0.mk (Kd.R_drew HO788.out)
         replace HO794 := Aside0.mk (Kd.R_drew HO794.out)
         replace BK783 := Aside0.mk (blk_drew BK783.out)
         replace BK790 := Aside0.mk (blk_drew BK790.out)
         replace HB := Aside0.mk (below_drew1 HB.out)
         obtain ⟨Aq_, cq_, eq_⟩ := Kd.R_slice HO794.out
         subst eq_
         have p796 : 0 ≤ (3 : Int) := (by omega)
         have q796 : 3 < (t791.length : Int) := of_decide_eq_true (by first | (with_reducible assumption) | assumption)
         obtain ⟨ad796, e796, hx796_0⟩ := Kd.at_int (Kd.R_reads' HO794.out).2.2 3 p796 q796
         cases e796
         (try simp only [show (3 : Int).toNat = 3 from rfl, Nat.reduceMul, Nat.reduceEqDiff, Go.Addr.add, ↓reduceIte] at hx796_0)
         have qi796 : (3 < t791.length) = True := eq_true (by omega)
         (try rw [show ((3 : Int)).toNat = 3 from rfl] at hx796_0)
         replace p796 := eq_true p796
         replace q796 := eq_true q796
         refine start_ (n := 32) (S := fun w' => w'.cell? ⟨gb790, 0, none⟩ = some (.int .i64 t784) ∧ w'.cell? ⟨gb790, 1, none⟩ = some (.int .i64 t785) ∧ w'.cell? ⟨gb790, 2, none⟩ = some (.slice Ao45 t786.length co45) ∧ w'.cell? ⟨gb783, 0, none⟩ = some (.int .i64 t777) ∧ w'.cell? ⟨gb783, 1, none⟩ = some (.int .i64 t778) ∧ w'.cell? ⟨gb783, 2, none⟩ = some (.slice Ao39 t779.length co39) ∧ w'.cell? ⟨ad796.block, ad796.off + 3, none⟩ = some (.int .i64 (rd t791 3))) (ds := []) (bs 32 0) (by kernel_rfl) rfl rfl ⟨(blk_cell BK790.out 0).trans rfl, (blk_cell BK790.out 1).trans rfl, (blk_cell BK790.out 2).trans rfl, (blk_cell BK783.out 0).trans rfl, (blk_cell BK783.out 1).trans rfl, (blk_cell BK783.out 2).trans rfl, hx796_0⟩ (fun hHeld => ?_); refine with_tabW laws_FnAskCheck.tab11 laws_FnAskCheck.bits11 (fun HT_ HW_ => ?_)
         generalize w46.drew = w62 at HO_4 HO_8 HO_10 HO776 HO781 HO788 HO794 BK783 BK790 HB hx796_0 hHeld ⊢
         refine pZ 0 (some 92) (bs 32 1) rfl rfl (any_of HT_.out (by kernel_rfl)) ?_
         refine pZ 1 (some 93) (bs 32 3) rfl rfl (any_of HT_.out (by kernel_rfl)) ?_
         refine pZ 2 (some 94) (bs 32 7) rfl rfl (any_of HT_.out (by kernel_rfl)) ?_
         refine tZ 3 (some 95) (bs 32 15) rfl rfl (take_ofW HT_.out HW_.out (by kernel_rfl)) hHeld (by rintro w' ⟨s0, s1, s2, s3, s4, s5, s6⟩; go_simp; with_reducible rfl) ?_
         refine tZ 4 (some 96) (bs 32 31) rfl rfl (take_ofW HT_.out HW_.out (by kernel_rfl)) hHeld (by rintro w' ⟨s0, s1, s2, s3, s4, s5, s6⟩; go_simp; with_reducible rfl) ?_
         refine one_ (i := 5) (N := some 97) (bs 32 63) rfl rfl (one_of HT_.out (by kernel_rfl)) (by decide) (fun K hK => ?_)
         refine goes_ Try.func65 (by kernel_rfl) rfl #[.agg #[.int .i64 t784, .int .i64 t785, .slice Ao45 t786.length co45], .agg #[.int .i64 t777, .int .i64 t778, .slice Ao39 t779.length co39]] (by rfl) rfl rfl (by (try simp only [List.map_toArray, List.map_cons, List.map_nil]); first | done | rfl | (simp only [List.length_drop, List.length_take]; rfl)) ?_
         with_reducible refine (laws_loProof.calls kj5 t784 t785 _ _ t786 t777 t778 _ _ t779 true _ ?side1 ?side2 ?side3 ?side4 A27.out).mono ?_
         (case side1 => repeat (first | exact (Kd.R_reads' HO788.out).2.2 | (with_reducible refine Kd.C_alloc ?_ _) | (with_reducible refine Kd.C_drewN ?_ _) | (with_reducible refine Kd.C_drew ?_)))
         (case side2 => exact (Kd.R_reads' HO788.out).2.1)
         (case side3 => repeat (first | exact (Kd.V_reads' HO781.out).2.2 | (with_reducible refine Kd.C_alloc ?_ _) | (with_reducible refine Kd.C_drewN ?_ _) | (with_reducible refine Kd.C_drew ?_)))
         (case side4 => exact (Kd.V_reads' HO781.out).2.1)
         rintro e w63 ⟨rfl, hb⟩
         have HS6_ := (hb.cell (World.block_lt_of_cell? _ _ (hHeld.2.2.2.2.2.2))).trans (hHeld.2.2.2.2.2.2)
         refine ⟨_, rfl, ?_⟩
         replace HO_4 := Aside0.mk (Kd.R_below (HO_4.out) hb)
         replace HO_8 := Aside0.mk (Kd.R_below (HO_8.out) hb)
         replace HO_10 := Aside0.mk (Kd.R_below (HO_10.out) hb)
         replace HO776 := Aside0.mk (Kd.V_below (by (with_reducible repeat (first | apply Kd.V_alloc | apply Kd.V_drewN | apply Kd.V_drew)); exact HO776.out) hb)
         replace HO781 := Aside0.mk (Kd.V_below (by (with_reducible repeat (first | apply Kd.V_alloc | apply Kd.V_drewN | apply Kd.V_drew)); exact HO781.out) hb)
         replace HO788 := Aside0.mk (Kd.R_below (HO788.out) hb)
         replace HO794 := Aside0.mk (Kd.R_below (HO794.out) hb)
         replace BK783 := Aside0.mk (blk_below (g := gb783) (o := .cells #[.int .i64 t777, .int .i64 t778, .slice Ao39 t779.length co39] 59 (0, 0)) (by exact BK783.out) hb)
         replace BK790 := Aside0.mk (blk_below (g := gb790) (o := .cells #[.int .i64 t784, .int .i64 t785, .slice Ao45 t786.length co45] 59 (0, 0)) (by exact BK790.out) hb)
         replace HB := Aside0.mk (below_step (by repeat (with_reducible first | exact HB.out | apply below_alloc | apply pw_below_drewN | apply below_drew1 | refine below_set ?_ GE783.out | refine below_set ?_ GE790.out)) hb)
         (try clear hb)
         (try clear hb2)
         (try clear hk)
         (try clear hi)
         obtain ⟨Ao64, co64, eo64⟩ := Kd.R_slice HO794.out
         (first | subst eo64 | (injection eo64 with f1_ f2_ f3_; have f4_ := f1_.symm; have f5_ := f3_.symm; clear f1_ f2_ f3_; subst f4_; subst f5_))
         refine hK.out _ _ ⟨(blk_cell BK790.out 0).trans rfl, (blk_cell BK790.out 1).trans rfl, (blk_cell BK790.out 2).trans rfl, (blk_cell BK783.out 0).trans rfl, (blk_cell BK783.out 1).trans rfl, (blk_cell BK783.out 2).trans rfl, HS6_⟩ (fun hHeld => ?_)
         clear hK K
         refine norm_ (a' := ?_) ?_ ?_
         rotate_left
         ·show Act.put _ (some 97) _ = _
          simp only [Act.put, List.setIfInBounds_toArray, List.set_cons_zero, List.set_cons_succ, i64_w, i32_w]
          rfl
         refine pZ 6 (some 98) (bs 32 127) rfl rfl (any_of HT_.out (by kernel_rfl)) ?_
         refine pZ 7 (some 99) (bs 32 255) rfl rfl (any_of HT_.out (by kernel_rfl)) ?_
         refine pZ 8 (some 100) (bs 32 511) rfl rfl (any_of HT_.out (by kernel_rfl)) ?_
         refine pZ 9 (some 101) (bs 32 1023) rfl rfl (any_of HT_.out (by kernel_rfl)) ?_
         refine pZ 10 (some 102) (bs 32 2047) rfl rfl (any_of HT_.out (by kernel_rfl)) ?_
         refine pZ 12 (some 104) (bs 32 6143) rfl rfl (any_of HT_.out (by kernel_rfl)) ?_
         refine pZ 13 (some 105) (bs 32 14335) rfl rfl (any_of HT_.out (by kernel_rfl)) ?_
         refine pZ 14 (some 106) (bs 32 30719) rfl rfl (any_of HT_.out (by kernel_rfl)) ?_
         refine tZ 11 (some 103) (bs 32 32767) rfl rfl (take_ofW HT_.out HW_.out (by kernel_rfl)) hHeld (by rintro w' ⟨s0, s1, s2, s3, s4, s5, s6⟩; go_simp; with_reducible rfl) ?_
         refine one_ (i := 15) (N := some 107) (bs 32 65535) rfl rfl (one_of HT_.out (by kernel_rfl)) (by decide) (fun K hK => ?_)
         refine goes_ Try.func84 (by kernel_rfl) rfl #[.int .i64 t757, .slice Ao40 t774.length co40, .int .i64 t761] (by rfl) rfl rfl (by (try simp only [List.map_toArray, List.map_cons, List.map_nil]); first | done | rfl | (simp only [List.length_drop, List.length_take]; rfl)) ?_
         with_reducible refine (impl_TypeCheck.calls kj5 t757 _ _ t774 t761 t797 _ ?side1 ?side2 A30.out).mono ?_
         (case side1 => repeat (first | exact (Kd.V_reads' HO776.out).2.2 | (with_reducible refine Kd.C_alloc ?_ _) | (with_reducible refine Kd.C_drewN ?_ _) | (with_reducible refine Kd.C_drew ?_)))
         (case side2 => exact (Kd.V_reads' HO776.out).2.1)
         rintro e w65 ⟨rfl, hb⟩
         have HS6_ := (hb.cell (World.block_lt_of_cell? _ _ (hHeld.2.2.2.2.2.2))).trans (hHeld.2.2.2.2.2.2)
         refine ⟨_, rfl, ?_⟩
         replace HO_4 := Aside0.mk (Kd.R_below (HO_4.out) hb)
         replace HO_8 := Aside0.mk (Kd.R_below (HO_8.out) hb)
         replace HO_10 := Aside0.mk (Kd.R_below (HO_10.out) hb)
         replace HO776 := Aside0.mk (Kd.V_below (by (with_reducible repeat (first | apply Kd.V_alloc | apply Kd.V_drewN | apply Kd.V_drew)); exact HO776.out) hb)
         replace HO781 := Aside0.mk (Kd.V_below (by (with_reducible repeat (first | apply Kd.V_alloc | apply Kd.V_drewN | apply Kd.V_drew)); exact HO781.out) hb)
         replace HO788 := Aside0.mk (Kd.R_below (HO788.out) hb)
         replace HO794 := Aside0.mk (Kd.R_below (HO794.out) hb)
         replace BK783 := Aside0.mk (blk_below (g := gb783) (o := .cells #[.int .i64 t777, .int .i64 t778, .slice Ao39 t779.length co39] 59 (0, 0)) (by exact BK783.out) hb)
         replace BK790 := Aside0.mk (blk_below (g := gb790) (o := .cells #[.int .i64 t784, .int .i64 t785, .slice Ao45 t786.length co45] 59 (0, 0)) (by exact BK790.out) hb)
         replace HB := Aside0.mk (below_step (by repeat (with_reducible first | exact HB.out | apply below_alloc | apply pw_below_drewN | apply below_drew1 | refine below_set ?_ GE783.out | refine below_set ?_ GE790.out)) hb)
         (try clear hb)
         (try clear hb2)
         (try clear hk)
         (try clear hi)
         refine hK.out _ _ ⟨(blk_cell BK790.out 0).trans rfl, (blk_cell BK790.out 1).trans rfl, (blk_cell BK790.out 2).trans rfl, (blk_cell BK783.out 0).trans rfl, (blk_cell BK783.out 1).trans rfl, (blk_cell BK783.out 2).trans rfl, HS6_⟩ (fun hHeld => ?_)
         clear hK K
         refine norm_ (a' := ?_) ?_ ?_
         rotate_left
         ·show Act.put _ (some 107) _ = _
          simp only [Act.put, List.setIfInBounds_toArray, List.set_cons_zero, List.set_cons_succ, i64_w, i32_w]
          rfl
         refine pZ 16 (some 108) (bs 32 131071) rfl rfl (any_of HT_.out (by kernel_rfl)) ?_
         refine pZ 17 (some 109) (bs 32 262143) rfl rfl (any_of HT_.out (by kernel_rfl)) ?_
         refine pure_ (i := 18) (N := some 110) (v := undef) (a' := ?_) (bs 32 524287) rfl rfl (any_of HT_.out (by kernel_rfl)) (fun _ _ _ h => h) (Or.inr ⟨by rfl, rfl⟩) ?_ ?_
         rotate_left
         ·simp only [Act.put, List.setIfInBounds_toArray, List.set_cons_zero, List.set_cons_succ, i64_w, i32_w]
          rfl
         refine pure_ (i := 19) (N := some 111) (v := undef) (a' := ?_) (bs 32 1048575) rfl rfl (any_of HT_.out (by kernel_rfl)) (fun _ _ _ h => h) (Or.inr ⟨by rfl, rfl⟩) ?_ ?_
         rotate_left
         ·simp only [Act.put, List.setIfInBounds_toArray, List.set_cons_zero, List.set_cons_succ, i64_w, i32_w]
          rfl
         refine pure_ (i := 20) (N := some 112) (v := undef) (a' := ?_) (bs 32 2097151) rfl rfl (any_of HT_.out (by kernel_rfl)) (fun _ _ _ h => h) (Or.inr ⟨by rfl, rfl⟩) ?_ ?_
         rotate_left
         ·simp only [Act.put, List.setIfInBounds_toArray, List.set_cons_zero, List.set_cons_succ, i64_w, i32_w]
          rfl
         refine pure_ (i := 21) (N := some 113) (v := undef) (a' := ?_) (bs 32 4194303) rfl rfl (any_of HT_.out (by kernel_rfl)) (fun _ _ _ h => h) (Or.inr ⟨by rfl, rfl⟩) ?_ ?_
         rotate_left
         ·simp only [Act.put, List.setIfInBounds_toArray, List.set_cons_zero, List.set_cons_succ, i64_w, i32_w]
          rfl
         refine pure_ (i := 22) (N := some 114) (v := undef) (a' := ?_) (bs 32 8388607) rfl rfl (any_of HT_.out (by kernel_rfl)) (fun _ _ _ h => h) (Or.inr ⟨by rfl, rfl⟩) ?_ ?_
         rotate_left
         ·simp only [Act.put, List.setIfInBounds_toArray, List.set_cons_zero, List.set_cons_succ, i64_w, i32_w]
          rfl
         refine pure_ (i := 23) (N := some 115) (v := undef) (a' := ?_) (bs 32 16777215) rfl rfl (any_of HT_.out (by kernel_rfl)) (fun _ _ _ h => h) (Or.inr ⟨by rfl, rfl⟩) ?_ ?_
         rotate_left
         ·simp only [Act.put, List.setIfInBounds_toArray, List.set_cons_zero, List.set_cons_succ, i64_w, i32_w]
          rfl
         refine pure_ (i := 24) (N := some 116) (v := undef) (a' := ?_) (bs 32 33554431) rfl rfl (any_of HT_.out (by kernel_rfl)) (fun _ _ _ h => h) (Or.inr ⟨by rfl, rfl⟩) ?_ ?_
         rotate_left
         ·simp only [Act.put, List.setIfInBounds_toArray, List.set_cons_zero, List.set_cons_succ, i64_w, i32_w]
          rfl
         refine pure_ (i := 25) (N := some 117) (v := undef) (a' := ?_) (bs 32 67108863) rfl rfl (any_of HT_.out (by kernel_rfl)) (fun _ _ _ h => h) (Or.inr ⟨by rfl, rfl⟩) ?_ ?_
         rotate_left
         ·simp only [Act.put, List.setIfInBounds_toArray, List.set_cons_zero, List.set_cons_succ, i64_w, i32_w]
          rfl
         refine pure_ (i := 26) (N := some 118) (v := undef) (a' := ?_) (bs 32 134217727) rfl rfl (any_of HT_.out (by kernel_rfl)) (fun _ _ _ h => h) (Or.inr ⟨by rfl, rfl⟩) ?_ ?_
         rotate_left
         ·simp only [Act.put, List.setIfInBounds_toArray, List.set_cons_zero, List.set_cons_succ, i64_w, i32_w]
          rfl
         refine pure_ (i := 27) (N := some 119) (v := undef) (a' := ?_) (bs 32 268435455) rfl rfl (any_of HT_.out (by kernel_rfl)) (fun _ _ _ h => h) (Or.inr ⟨by rfl, rfl⟩) ?_ ?_
         rotate_left
         ·simp only [Act.put, List.setIfInBounds_toArray, List.set_cons_zero, List.set_cons_succ, i64_w, i32_w]
          rfl
         refine pure_ (i := 28) (N := some 120) (v := undef) (a' := ?_) (bs 32 536870911) rfl rfl (any_of HT_.out (by kernel_rfl)) (fun _ _ _ h => h) (Or.inr ⟨by rfl, rfl⟩) ?_ ?_
         rotate_left
         ·simp only [Act.put, List.setIfInBounds_toArray, List.set_cons_zero, List.set_cons_succ, i64_w, i32_w]
          rfl
         refine pZ 29 (some 121) (bs 32 1073741823) rfl rfl (any_of HT_.out (by kernel_rfl)) ?_
         refine pZ 30 (some 122) (bs 32 2147483647) rfl rfl (any_of HT_.out (by kernel_rfl)) ?_
         refine pZ 31 (some 2) (bs 32 4294967295) rfl rfl (any_of HT_.out (by kernel_rfl)) ?_
         refine done_ (done_of HT_.out (by kernel_rfl)) ?_
         try go_wp2
         go_ret
         exact ⟨by simp [*, errW_none, errW_some] <;> rfl, by repeat (with_reducible first | exact HB.out | apply below_alloc | apply pw_below_drewN | apply below_drew1 | refine below_set ?_ GE783.out | refine below_set ?_ GE790.out)⟩
       ·rw [if_neg c29] at H
        exact absurd H (by simp)
      ·replace c28 := Bool.eq_false_iff.mpr c28
       subst c28
       rw [if_neg (show ¬ (false = true) by decide)] at H
       obtain rfl := Option.some.inj H
       try go_wp2
       replace HO_4 := Aside0.mk (Kd.R_drew HO_4.out)
       replace HO_8 := Aside0.mk (Kd.R_drew HO_8.out)
       replace HO_10 := Aside0.mk (Kd.R_drew HO_10.out)
       replace HO776 := Aside0.mk (Kd.V_drew HO776.out)
       replace HO781 := Aside0.mk (Kd.V_drew HO781.out)
       replace HO788 := Aside0.mk (Kd.R_drew HO788.out)
       replace HO794 := Aside0.mk (Kd.R_drew HO794.out)
       replace BK783 := Aside0.mk (blk_drew BK783.out)
       replace BK790 := Aside0.mk (blk_drew BK790.out)
       replace HB := Aside0.mk (below_drew1 HB.out)
       refine start_ (n := 32) (S := fun w' => w'.cell? ⟨gb790, 0, none⟩ = some (.int .i64 t784) ∧ w'.cell? ⟨gb790, 1, none⟩ = some (.int .i64 t785) ∧ w'.cell? ⟨gb790, 2, none⟩ = some (.slice Ao45 t786.length co45) ∧ w'.cell? ⟨gb783, 0, none⟩ = some (.int .i64 t777) ∧ w'.cell? ⟨gb783, 1, none⟩ = some (.int .i64 t778) ∧ w'.cell? ⟨gb783, 2, none⟩ = some (.slice Ao39 t779.length co39)) (ds := []) (bs 32 0) (by kernel_rfl) rfl rfl ⟨(blk_cell BK790.out 0).trans rfl, (blk_cell BK790.out 1).trans rfl, (blk_cell BK790.out 2).trans rfl, (blk_cell BK783.out 0).trans rfl, (blk_cell BK783.out 1).trans rfl, (blk_cell BK783.out 2).trans rfl⟩ (fun hHeld => ?_); refine with_tabW laws_FnAskCheck.tab11 laws_FnAskCheck.bits11 (fun HT_ HW_ => ?_)
       generalize w46.drew = w77 at HO_4 HO_8 HO_10 HO776 HO781 HO788 HO794 BK783 BK790 HB hHeld ⊢
       refine pZ 0 (some 92) (bs 32 1) rfl rfl (any_of HT_.out (by kernel_rfl)) ?_
       refine pZ 1 (some 93) (bs 32 3) rfl rfl (any_of HT_.out (by kernel_rfl)) ?_
       refine pZ 2 (some 94) (bs 32 7) rfl rfl (any_of HT_.out (by kernel_rfl)) ?_
       refine tZ 3 (some 95) (bs 32 15) rfl rfl (take_ofW HT_.out HW_.out (by kernel_rfl)) hHeld (by rintro w' ⟨s0, s1, s2, s3, s4, s5⟩; go_simp; with_reducible rfl) ?_
       refine tZ 4 (some 96) (bs 32 31) rfl rfl (take_ofW HT_.out HW_.out (by kernel_rfl)) hHeld (by rintro w' ⟨s0, s1, s2, s3, s4, s5⟩; go_simp; with_reducible rfl) ?_
       refine one_ (i := 5) (N := some 97) (bs 32 63) rfl rfl (one_of HT_.out (by kernel_rfl)) (by decide) (fun K hK => ?_)
       refine goes_ Try.func65 (by kernel_rfl) rfl #[.agg #[.int .i64 t784, .int .i64 t785, .slice Ao45 t786.length co45], .agg #[.int .i64 t777, .int .i64 t778, .slice Ao39 t779.length co39]] (by rfl) rfl rfl (by (try simp only [List.map_toArray, List.map_cons, List.map_nil]); first | done | rfl | (simp only [List.length_drop, List.length_take]; rfl)) ?_
       with_reducible refine (laws_loProof.calls kj5 t784 t785 _ _ t786 t777 t778 _ _ t779 false _ ?side1 ?side2 ?side3 ?side4 A27.out).mono ?_
       (case side1 => repeat (first | exact (Kd.R_reads' HO788.out).2.2 | (with_reducible refine Kd.C_alloc ?_ _) | (with_reducible refine Kd.C_drewN ?_ _) | (with_reducible refine Kd.C_drew ?_)))
       (case side2 => exact (Kd.R_reads' HO788.out).2.1)
       (case side3 => repeat (first | exact (Kd.V_reads' HO781.out).2.2 | (with_reducible refine Kd.C_alloc ?_ _) | (with_reducible refine Kd.C_drewN ?_ _) | (with_reducible refine Kd.C_drew ?_)))
       (case side4 => exact (Kd.V_reads' HO781.out).2.1)
       rintro e w78 ⟨rfl, hb⟩
       refine ⟨_, rfl, ?_⟩
       replace HO_4 := Aside0.mk (Kd.R_below (HO_4.out) hb)
       replace HO_8 := Aside0.mk (Kd.R_below (HO_8.out) hb)
       replace HO_10 := Aside0.mk (Kd.R_below (HO_10.out) hb)
       replace HO776 := Aside0.mk (Kd.V_below (by (with_reducible repeat (first | apply Kd.V_alloc | apply Kd.V_drewN | apply Kd.V_drew)); exact HO776.out) hb)
       replace HO781 := Aside0.mk (Kd.V_below (by (with_reducible repeat (first | apply Kd.V_alloc | apply Kd.V_drewN | apply Kd.V_drew)); exact HO781.out) hb)
       replace HO788 := Aside0.mk (Kd.R_below (HO788.out) hb)
       replace HO794 := Aside0.mk (Kd.R_below (HO794.out) hb)
       replace BK783 := Aside0.mk (blk_below (g := gb783) (o := .cells #[.int .i64 t777, .int .i64 t778, .slice Ao39 t779.length co39] 59 (0, 0)) (by exact BK783.out) hb)
       replace BK790 := Aside0.mk (blk_below (g := gb790) (o := .cells #[.int .i64 t784, .int .i64 t785, .slice Ao45 t786.length co45] 59 (0, 0)) (by exact BK790.out) hb)
       replace HB := Aside0.mk (below_step (by repeat (with_reducible first | exact HB.out | apply below_alloc | apply pw_below_drewN | apply below_drew1 | refine below_set ?_ GE783.out | refine below_set ?_ GE790.out)) hb)
       (try clear hb)
       (try clear hb2)
       (try clear hk)
       (try clear hi)
       refine hK.out _ _ ⟨(blk_cell BK790.out 0).trans rfl, (blk_cell BK790.out 1).trans rfl, (blk_cell BK790.out 2).trans rfl, (blk_cell BK783.out 0).trans rfl, (blk_cell BK783.out 1).trans rfl, (blk_cell BK783.out 2).trans rfl⟩ (fun hHeld => ?_)
       clear hK K
       refine norm_ (a' := ?_) ?_ ?_
       rotate_left
       ·show Act.put _ (some 97) _ = _
        simp only [Act.put, List.setIfInBounds_toArray, List.set_cons_zero, List.set_cons_succ, i64_w, i32_w]
        rfl
       refine pZ 6 (some 98) (bs 32 127) rfl rfl (any_of HT_.out (by kernel_rfl)) ?_
       refine pZ 7 (some 99) (bs 32 255) rfl rfl (any_of HT_.out (by kernel_rfl)) ?_
       refine pZ 8 (some 100) (bs 32 511) rfl rfl (any_of HT_.out (by kernel_rfl)) ?_
       refine pure_ (i := 9) (N := some 101) (v := undef) (a' := ?_) (bs 32 1023) rfl rfl (any_of HT_.out (by kernel_rfl)) (fun _ _ _ h => h) (Or.inr ⟨by rfl, rfl⟩) ?_ ?_
       rotate_left
       ·simp only [Act.put, List.setIfInBounds_toArray, List.set_cons_zero, List.set_cons_succ, i64_w, i32_w]
        rfl
       refine pure_ (i := 10) (N := some 102) (v := undef) (a' := ?_) (bs 32 2047) rfl rfl (any_of HT_.out (by kernel_rfl)) (fun _ _ _ h => h) (Or.inr ⟨by rfl, rfl⟩) ?_ ?_
       rotate_left
       ·simp only [Act.put, List.setIfInBounds_toArray, List.set_cons_zero, List.set_cons_succ, i64_w, i32_w]
        rfl
       refine pure_ (i := 11) (N := some 103) (v := undef) (a' := ?_) (bs 32 4095) rfl rfl (any_of HT_.out (by kernel_rfl)) (fun _ _ _ h => h) (Or.inr ⟨by rfl, rfl⟩) ?_ ?_
       rotate_left
       ·simp only [Act.put, List.setIfInBounds_toArray, List.set_cons_zero, List.set_cons_succ, i64_w, i32_w]
        rfl
       refine pure_ (i := 12) (N := some 104) (v := undef) (a' := ?_) (bs 32 8191) rfl rfl (any_of HT_.out (by kernel_rfl)) (fun _ _ _ h => h) (Or.inr ⟨by rfl, rfl⟩) ?_ ?_
       rotate_left
       ·simp only [Act.put, List.setIfInBounds_toArray, List.set_cons_zero, List.set_cons_succ, i64_w, i32_w]
        rfl
       refine pure_ (i := 13) (N := some 105) (v := undef) (a' := ?_) (bs 32 16383) rfl rfl (any_of HT_.out (by kernel_rfl)) (fun _ _ _ h => h) (Or.inr ⟨by rfl, rfl⟩) ?_ ?_
       rotate_left
       ·simp only [Act.put, List.setIfInBounds_toArray, List.set_cons_zero, List.set_cons_succ, i64_w, i32_w]
        rfl
       refine pure_ (i := 14) (N := some 106) (v := undef) (a' := ?_) (bs 32 32767) rfl rfl (any_of HT_.out (by kernel_rfl)) (fun _ _ _ h => h) (Or.inr ⟨by rfl, rfl⟩) ?_ ?_
       rotate_left
       ·simp only [Act.put, List.setIfInBounds_toArray, List.set_cons_zero, List.set_cons_succ, i64_w, i32_w]
        rfl
       refine pure_ (i := 15) (N := some 107) (v := undef) (a' := ?_) (bs 32 65535) rfl rfl (any_of HT_.out (by kernel_rfl)) (fun _ _ _ h => h) (Or.inr ⟨by rfl, rfl⟩) ?_ ?_
       rotate_left
       ·simp only [Act.put, List.setIfInBounds_toArray, List.set_cons_zero, List.set_cons_succ, i64_w, i32_w]
        rfl
       refine pure_ (i := 16) (N := some 108) (v := undef) (a' := ?_) (bs 32 131071) rfl rfl (any_of HT_.out (by kernel_rfl)) (fun _ _ _ h => h) (Or.inr ⟨by rfl, rfl⟩) ?_ ?_
       rotate_left
       ·simp only [Act.put, List.setIfInBounds_toArray, List.set_cons_zero, List.set_cons_succ, i64_w, i32_w]
        rfl
       refine pure_ (i := 17) (N := some 109) (v := undef) (a' := ?_) (bs 32 262143) rfl rfl (any_of HT_.out (by kernel_rfl)) (fun _ _ _ h => h) (Or.inr ⟨by rfl, rfl⟩) ?_ ?_
       rotate_left
       ·simp only [Act.put, List.setIfInBounds_toArray, List.set_cons_zero, List.set_cons_succ, i64_w, i32_w]
        rfl
       refine pure_ (i := 18) (N := some 110) (v := undef) (a' := ?_) (bs 32 524287) rfl rfl (any_of HT_.out (by kernel_rfl)) (fun _ _ _ h => h) (Or.inr ⟨by rfl, rfl⟩) ?_ ?_
       rotate_left
       ·simp only [Act.put, List.setIfInBounds_toArray, List.set_cons_zero, List.set_cons_succ, i64_w, i32_w]
        rfl
       refine pure_ (i := 19) (N := some 111) (v := undef) (a' := ?_) (bs 32 1048575) rfl rfl (any_of HT_.out (by kernel_rfl)) (fun _ _ _ h => h) (Or.inr ⟨by rfl, rfl⟩) ?_ ?_
       rotate_left
       ·simp only [Act.put, List.setIfInBounds_toArray, List.set_cons_zero, List.set_cons_succ, i64_w, i32_w]
        rfl
       refine pure_ (i := 20) (N := some 112) (v := undef) (a' := ?_) (bs 32 2097151) rfl rfl (any_of HT_.out (by kernel_rfl)) (fun _ _ _ h => h) (Or.inr ⟨by rfl, rfl⟩) ?_ ?_
       rotate_left
       ·simp only [Act.put, List.setIfInBounds_toArray, List.set_cons_zero, List.set_cons_succ, i64_w, i32_w]
        rfl
       refine pure_ (i := 21) (N := some 113) (v := undef) (a' := ?_) (bs 32 4194303) rfl rfl (any_of HT_.out (by kernel_rfl)) (fun _ _ _ h => h) (Or.inr ⟨by rfl, rfl⟩) ?_ ?_
       rotate_left
       ·simp only [Act.put, List.setIfInBounds_toArray, List.set_cons_zero, List.set_cons_succ, i64_w, i32_w]
        rfl
       refine pure_ (i := 22) (N := some 114) (v := undef) (a' := ?_) (bs 32 8388607) rfl rfl (any_of HT_.out (by kernel_rfl)) (fun _ _ _ h => h) (Or.inr ⟨by rfl, rfl⟩) ?_ ?_
       rotate_left
       ·simp only [Act.put, List.setIfInBounds_toArray, List.set_cons_zero, List.set_cons_succ, i64_w, i32_w]
        rfl
       refine pure_ (i := 23) (N := some 115) (v := undef) (a' := ?_) (bs 32 16777215) rfl rfl (any_of HT_.out (by kernel_rfl)) (fun _ _ _ h => h) (Or.inr ⟨by rfl, rfl⟩) ?_ ?_
       rotate_left
       ·simp only [Act.put, List.setIfInBounds_toArray, List.set_cons_zero, List.set_cons_succ, i64_w, i32_w]
        rfl
       refine pure_ (i := 24) (N := some 116) (v := undef) (a' := ?_) (bs 32 33554431) rfl rfl (any_of HT_.out (by kernel_rfl)) (fun _ _ _ h => h) (Or.inr ⟨by rfl, rfl⟩) ?_ ?_
       rotate_left
       ·simp only [Act.put, List.setIfInBounds_toArray, List.set_cons_zero, List.set_cons_succ, i64_w, i32_w]
        rfl
       refine pure_ (i := 25) (N := some 117) (v := undef) (a' := ?_) (bs 32 67108863) rfl rfl (any_of HT_.out (by kernel_rfl)) (fun _ _ _ h => h) (Or.inr ⟨by rfl, rfl⟩) ?_ ?_
       rotate_left
       ·simp only [Act.put, List.setIfInBounds_toArray, List.set_cons_zero, List.set_cons_succ, i64_w, i32_w]
        rfl
       refine pure_ (i := 26) (N := some 118) (v := undef) (a' := ?_) (bs 32 134217727) rfl rfl (any_of HT_.out (by kernel_rfl)) (fun _ _ _ h => h) (Or.inr ⟨by rfl, rfl⟩) ?_ ?_
       rotate_left
       ·simp only [Act.put, List.setIfInBounds_toArray, List.set_cons_zero, List.set_cons_succ, i64_w, i32_w]
        rfl
       refine pure_ (i := 27) (N := some 119) (v := undef) (a' := ?_) (bs 32 268435455) rfl rfl (any_of HT_.out (by kernel_rfl)) (fun _ _ _ h => h) (Or.inr ⟨by rfl, rfl⟩) ?_ ?_
       rotate_left
       ·simp only [Act.put, List.setIfInBounds_toArray, List.set_cons_zero, List.set_cons_succ, i64_w, i32_w]
        rfl
       refine pure_ (i := 28) (N := some 120) (v := undef) (a' := ?_) (bs 32 536870911) rfl rfl (any_of HT_.out (by kernel_rfl)) (fun _ _ _ h => h) (Or.inr ⟨by rfl, rfl⟩) ?_ ?_
       rotate_left
       ·simp only [Act.put, List.setIfInBounds_toArray, List.set_cons_zero, List.set_cons_succ, i64_w, i32_w]
        rfl
       refine pure_ (i := 29) (N := some 121) (v := undef) (a' := ?_) (bs 32 1073741823) rfl rfl (any_of HT_.out (by kernel_rfl)) (fun _ _ _ h => h) (Or.inr ⟨by rfl, rfl⟩) ?_ ?_
       rotate_left
       ·simp only [Act.put, List.setIfInBounds_toArray, List.set_cons_zero, List.set_cons_succ, i64_w, i32_w]
        rfl
       refine pZ 30 (some 122) (bs 32 2147483647) rfl rfl (any_of HT_.out (by kernel_rfl)) ?_
       refine pZ 31 (some 2) (bs 32 4294967295) rfl rfl (any_of HT_.out (by kernel_rfl)) ?_
       refine done_ (done_of HT_.out (by kernel_rfl)) ?_
       try go_wp2
       go_ret
       exact ⟨by simp [*, errW_none, errW_some] <;> rfl, by repeat (with_reducible first | exact HB.out | apply below_alloc | apply pw_below_drewN | apply below_drew1 | refine below_set ?_ GE783.out | refine below_set ?_ GE790.out)⟩
     ·replace c26 := Bool.eq_false_iff.mpr c26
      subst c26
      rw [if_neg (show ¬ (false = true) by decide)] at H
      obtain rfl := Option.some.inj H
      refine hq_ ?_
      clear hq_ q_
      try go_wp2
      replace HO_4 := Aside0.mk (Kd.R_drew HO_4.out)
      replace HO_8 := Aside0.mk (Kd.R_drew HO_8.out)
      replace HO_10 := Aside0.mk (Kd.R_drew HO_10.out)
      replace HO776 := Aside0.mk (Kd.V_drew HO776.out)
      replace HO781 := Aside0.mk (Kd.V_drew HO781.out)
      replace HO788 := Aside0.mk (Kd.R_drew HO788.out)
      replace HO794 := Aside0.mk (Kd.R_drew HO794.out)
      replace BK783 := Aside0.mk (blk_drew BK783.out)
      replace BK790 := Aside0.mk (blk_drew BK790.out)
      replace HB := Aside0.mk (below_drew1 HB.out)
      refine start_ (n := 32) (S := fun w' => True) (ds := []) (bs 32 0) (by kernel_rfl) rfl rfl trivial (fun hHeld => ?_); refine with_tabW laws_FnAskCheck.tab11 laws_FnAskCheck.bits11 (fun HT_ HW_ => ?_)
      generalize w46.drew = w90 at HO_4 HO_8 HO_10 HO776 HO781 HO788 HO794 BK783 BK790 HB hHeld ⊢
      refine pZ 0 (some 92) (bs 32 1) rfl rfl (any_of HT_.out (by kernel_rfl)) ?_
      refine pZ 1 (some 93) (bs 32 3) rfl rfl (any_of HT_.out (by kernel_rfl)) ?_
      refine pZ 2 (some 94) (bs 32 7) rfl rfl (any_of HT_.out (by kernel_rfl)) ?_
      refine pure_ (i := 3) (N := some 95) (v := undef) (a' := ?_) (bs 32 15) rfl rfl (any_of HT_.out (by kernel_rfl)) (fun _ _ _ h => h) (Or.inr ⟨by rfl, rfl⟩) ?_ ?_
      rotate_left
      ·simp only [Act.put, List.setIfInBounds_toArray, List.set_cons_zero, List.set_cons_succ, i64_w, i32_w]
       rfl
      refine pure_ (i := 4) (N := some 96) (v := undef) (a' := ?_) (bs 32 31) rfl rfl (any_of HT_.out (by kernel_rfl)) (fun _ _ _ h => h) (Or.inr ⟨by rfl, rfl⟩) ?_ ?_
      rotate_left
      ·simp only [Act.put, List.setIfInBounds_toArray, List.set_cons_zero, List.set_cons_succ, i64_w, i32_w]
       rfl
      refine pure_ (i := 5) (N := some 97) (v := undef) (a' := ?_) (bs 32 63) rfl rfl (any_of HT_.out (by kernel_rfl)) (fun _ _ _ h => h) (Or.inr ⟨by rfl, rfl⟩) ?_ ?_
      rotate_left
      ·simp only [Act.put, List.setIfInBounds_toArray, List.set_cons_zero, List.set_cons_succ, i64_w, i32_w]
       rfl
      refine pure_ (i := 6) (N := some 98) (v := undef) (a' := ?_) (bs 32 127) rfl rfl (any_of HT_.out (by kernel_rfl)) (fun _ _ _ h => h) (Or.inr ⟨by rfl, rfl⟩) ?_ ?_
      rotate_left
      ·simp only [Act.put, List.setIfInBounds_toArray, List.set_cons_zero, List.set_cons_succ, i64_w, i32_w]
       rfl
      refine pZ 7 (some 99) (bs 32 255) rfl rfl (any_of HT_.out (by kernel_rfl)) ?_
      refine pZ 8 (some 100) (bs 32 511) rfl rfl (any_of HT_.out (by kernel_rfl)) ?_
      refine pure_ (i := 9) (N := some 101) (v := undef) (a' := ?_) (bs 32 1023) rfl rfl (any_of HT_.out (by kernel_rfl)) (fun _ _ _ h => h) (Or.inr ⟨by rfl, rfl⟩) ?_ ?_
      rotate_left
      ·simp only [Act.put, List.setIfInBounds_toArray, List.set_cons_zero, List.set_cons_succ, i64_w, i32_w]
       rfl
      refine pure_ (i := 10) (N := some 102) (v := undef) (a' := ?_) (bs 32 2047) rfl rfl (any_of HT_.out (by kernel_rfl)) (fun _ _ _ h => h) (Or.inr ⟨by rfl, rfl⟩) ?_ ?_
      rotate_left
      ·simp only [Act.put, List.setIfInBounds_toArray, List.set_cons_zero, List.set_cons_succ, i64_w, i32_w]
       rfl
      refine pure_ (i := 11) (N := some 103) (v := undef) (a' := ?_) (bs 32 4095) rfl rfl (any_of HT_.out (by kernel_rfl)) (fun _ _ _ h => h) (Or.inr ⟨by rfl, rfl⟩) ?_ ?_
      rotate_left
      ·simp only [Act.put, List.setIfInBounds_toArray, List.set_cons_zero, List.set_cons_succ, i64_w, i32_w]
       rfl
      refine pure_ (i := 12) (N := some 104) (v := undef) (a' := ?_) (bs 32 8191) rfl rfl (any_of HT_.out (by kernel_rfl)) (fun _ _ _ h => h) (Or.inr ⟨by rfl, rfl⟩) ?_ ?_
      rotate_left
      ·simp only [Act.put, List.setIfInBounds_toArray, List.set_cons_zero, List.set_cons_succ, i64_w, i32_w]
       rfl
      refine pure_ (i := 13) (N := some 105) (v := undef) (a' := ?_) (bs 32 16383) rfl rfl (any_of HT_.out (by kernel_rfl)) (fun _ _ _ h => h) (Or.inr ⟨by rfl, rfl⟩) ?_ ?_
      rotate_left
      ·simp only [Act.put, List.setIfInBounds_toArray, List.set_cons_zero, List.set_cons_succ, i64_w, i32_w]
       rfl
      refine pure_ (i := 14) (N := some 106) (v := undef) (a' := ?_) (bs 32 32767) rfl rfl (any_of HT_.out (by kernel_rfl)) (fun _ _ _ h => h) (Or.inr ⟨by rfl, rfl⟩) ?_ ?_
      rotate_left
      ·simp only [Act.put, List.setIfInBounds_toArray, List.set_cons_zero, List.set_cons_succ, i64_w, i32_w]
       rfl
      refine pure_ (i := 15) (N := some 107) (v := undef) (a' := ?_) (bs 32 65535) rfl rfl (any_of HT_.out (by kernel_rfl)) (fun _ _ _ h => h) (Or.inr ⟨by rfl, rfl⟩) ?_ ?_
      rotate_left
      ·simp only [Act.put, List.setIfInBounds_toArray, List.set_cons_zero, List.set_cons_succ, i64_w, i32_w]
       rfl
      refine pure_ (i := 16) (N := some 108) (v := undef) (a' := ?_) (bs 32 131071) rfl rfl (any_of HT_.out (by kernel_rfl)) (fun _ _ _ h => h) (Or.inr ⟨by rfl, rfl⟩) ?_ ?_
      rotate_left
      ·simp only [Act.put, List.setIfInBounds_toArray, List.set_cons_zero, List.set_cons_succ, i64_w, i32_w]
       rfl
      refine pure_ (i := 17) (N := some 109) (v := undef) (a' := ?_) (bs 32 262143) rfl rfl (any_of HT_.out (by kernel_rfl)) (fun _ _ _ h => h) (Or.inr ⟨by rfl, rfl⟩) ?_ ?_
      rotate_left
      ·simp only [Act.put, List.setIfInBounds_toArray, List.set_cons_zero, List.set_cons_succ, i64_w, i32_w]
       rfl
      refine pure_ (i := 18) (N := some 110) (v := undef) (a' := ?_) (bs 32 524287) rfl rfl (any_of HT_.out (by kernel_rfl)) (fun _ _ _ h => h) (Or.inr ⟨by rfl, rfl⟩) ?_ ?_
      rotate_left
      ·simp only [Act.put, List.setIfInBounds_toArray, List.set_cons_zero, List.set_cons_succ, i64_w, i32_w]
       rfl
      refine pure_ (i := 19) (N := some 111) (v := undef) (a' := ?_) (bs 32 1048575) rfl rfl (any_of HT_.out (by kernel_rfl)) (fun _ _ _ h => h) (Or.inr ⟨by rfl, rfl⟩) ?_ ?_
      rotate_left
      ·simp only [Act.put, List.setIfInBounds_toArray, List.set_cons_zero, List.set_cons_succ, i64_w, i32_w]
       rfl
      refine pure_ (i := 20) (N := some 112) (v := undef) (a' := ?_) (bs 32 2097151) rfl rfl (any_of HT_.out (by kernel_rfl)) (fun _ _ _ h => h) (Or.inr ⟨by rfl, rfl⟩) ?_ ?_
      rotate_left
      ·simp only [Act.put, List.setIfInBounds_toArray, List.set_cons_zero, List.set_cons_succ, i64_w, i32_w]
       rfl
      refine pure_ (i := 21) (N := some 113) (v := undef) (a' := ?_) (bs 32 4194303) rfl rfl (any_of HT_.out (by kernel_rfl)) (fun _ _ _ h => h) (Or.inr ⟨by rfl, rfl⟩) ?_ ?_
      rotate_left
      ·simp only [Act.put, List.setIfInBounds_toArray, List.set_cons_zero, List.set_cons_succ, i64_w, i32_w]
       rfl
      refine pure_ (i := 22) (N := some 114) (v := undef) (a' := ?_) (bs 32 8388607) rfl rfl (any_of HT_.out (by kernel_rfl)) (fun _ _ _ h => h) (Or.inr ⟨by rfl, rfl⟩) ?_ ?_
      rotate_left
      ·simp only [Act.put, List.setIfInBounds_toArray, List.set_cons_zero, List.set_cons_succ, i64_w, i32_w]
       rfl
      refine pure_ (i := 23) (N := some 115) (v := undef) (a' := ?_) (bs 32 16777215) rfl rfl (any_of HT_.out (by kernel_rfl)) (fun _ _ _ h => h) (Or.inr ⟨by rfl, rfl⟩) ?_ ?_
      rotate_left
      ·simp only [Act.put, List.setIfInBounds_toArray, List.set_cons_zero, List.set_cons_succ, i64_w, i32_w]
       rfl
      refine pure_ (i := 24) (N := some 116) (v := undef) (a' := ?_) (bs 32 33554431) rfl rfl (any_of HT_.out (by kernel_rfl)) (fun _ _ _ h => h) (Or.inr ⟨by rfl, rfl⟩) ?_ ?_
      rotate_left
      ·simp only [Act.put, List.setIfInBounds_toArray, List.set_cons_zero, List.set_cons_succ, i64_w, i32_w]
       rfl
      refine pure_ (i := 25) (N := some 117) (v := undef) (a' := ?_) (bs 32 67108863) rfl rfl (any_of HT_.out (by kernel_rfl)) (fun _ _ _ h => h) (Or.inr ⟨by rfl, rfl⟩) ?_ ?_
      rotate_left
      ·simp only [Act.put, List.setIfInBounds_toArray, List.set_cons_zero, List.set_cons_succ, i64_w, i32_w]
       rfl
      refine pure_ (i := 26) (N := some 118) (v := undef) (a' := ?_) (bs 32 134217727) rfl rfl (any_of HT_.out (by kernel_rfl)) (fun _ _ _ h => h) (Or.inr ⟨by rfl, rfl⟩) ?_ ?_
      rotate_left
      ·simp only [Act.put, List.setIfInBounds_toArray, List.set_cons_zero, List.set_cons_succ, i64_w, i32_w]
       rfl
      refine pure_ (i := 27) (N := some 119) (v := undef) (a' := ?_) (bs 32 268435455) rfl rfl (any_of HT_.out (by kernel_rfl)) (fun _ _ _ h => h) (Or.inr ⟨by rfl, rfl⟩) ?_ ?_
      rotate_left
      ·simp only [Act.put, List.setIfInBounds_toArray, List.set_cons_zero, List.set_cons_succ, i64_w, i32_w]
       rfl
      refine pure_ (i := 28) (N := some 120) (v := undef) (a' := ?_) (bs 32 536870911) rfl rfl (any_of HT_.out (by kernel_rfl)) (fun _ _ _ h => h) (Or.inr ⟨by rfl, rfl⟩) ?_ ?_
      rotate_left
      ·simp only [Act.put, List.setIfInBounds_toArray, List.set_cons_zero, List.set_cons_succ, i64_w, i32_w]
       rfl
      refine pure_ (i := 29) (N := some 121) (v := undef) (a' := ?_) (bs 32 1073741823) rfl rfl (any_of HT_.out (by kernel_rfl)) (fun _ _ _ h => h) (Or.inr ⟨by rfl, rfl⟩) ?_ ?_
      rotate_left
      ·simp only [Act.put, List.setIfInBounds_toArray, List.set_cons_zero, List.set_cons_succ, i64_w, i32_w]
       rfl
      refine pZ 30 (some 122) (bs 32 2147483647) rfl rfl (any_of HT_.out (by kernel_rfl)) ?_
      refine pZ 31 (some 2) (bs 32 4294967295) rfl rfl (any_of HT_.out (by kernel_rfl)) ?_
      refine done_ (done_of HT_.out (by kernel_rfl)) ?_
      try go_wp2
      go_ret
      exact ⟨rfl, HB.out⟩
def laws_FnAskCheck.Pure : Prop := ∀ (l0 : List Int), l0.length ≤ maxLen → l0.length * 1 ≤ 140737488351232 → (∀ x ∈ l0, (Lit.int .u8 x).wf = true) → ∃ k, laws_FnAskCheck.f k l0 = some true
theorem laws_FnAskCheck.walk (P : laws_FnAskCheck.Pure) (a0 : Option Addr) (len0 cap0 : Nat) (z0 : List Int) (w : World) (w0 : (a0 = none ∧ len0 = 0 ∧ cap0 = 0 ∧ z0 = []) ∨ ∃ x, a0 = some x ∧ len0 ≤ cap0 ∧ cap0 ≤ maxLen ∧ z0.length = cap0 ∧ (∀ i, i < z0.length → w.cell? (x.add i) = some (.int .u8 (z0.getD i 0))) ∧ ∀ n ∈ z0, (Lit.int .u8 n).wf = true) (y0 : len0 * 1 ≤ 140737488351232) :
  Calls Try.prog 24 #[.slice a0 len0 cap0] w fun e w' => e = .returned (.bool true) ∧ Below w.heap.size w w' := by
 obtain ⟨l0, rfl, hr0, hm0, hw0, hc0⟩ := ReadsInt.ofRowC w0
 obtain ⟨k, h⟩ := P l0 hm0 y0 hw0
 refine (laws_FnAskCheck.calls k _ _ l0 true w (Kd.C_of_reads (d := (0 : Int)) (h1 := fun _ => rfl) hr0) hc0 h).mono ?_
 rintro e w' ⟨rfl, hd⟩
 exact ⟨rfl, hd⟩
end Go.Proofs.Ytplbobmllflniaa.Ea
