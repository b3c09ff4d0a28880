import Derived.Test.YtplbobmllflniaaZ
import Derived.Test.YtplbobmllflniaaEa0
import Derived.Test.YtplbobmllflniaaEa4
import Derived.Test.YtplbobmllflniaaEa17
import Derived.Test.YtplbobmllflniaaEa18
namespace Go.Proofs.Ytplbobmllflniaa.Ea
open Go.RowKit Go.Proofs.YtplbobmllflniaaW.PrintWords Go.Proofs.YtplbobmllflniaaW.PrintLast Go.Proofs.YtplbobmllflniaaW.PrintMore Go.Proofs.Ytplbobmllflniaa.Z
attribute [local go_sem] max2_int min2_int max_two min_two max_three min_three max_four min_four
set_option linter.unusedVariables false
set_option linter.unusedSimpArgs false
theorem c68x19 : Ent Try.prog 68 := ent Try.func68 (by kernel_rfl) rfl
theorem c81x19 : Ent Try.prog 81 := ent Try.func81 (by kernel_rfl) rfl
theorem c82x19 : Ent Try.prog 82 := ent Try.func82 (by kernel_rfl) rfl
mutual
def laws_FnAskWhole.j0 : Nat → Int → List Int → Int → Int → List Int → Bool → List Int → Bool → Bool → Option (Bool)
 | 0, _, _, _, _, _, _, _, _, _ => none
 | k + 1, x3, x4, x6, x7, x8, x9, x10, x11, x63 => if x63 = true then (if (x11 == x9) = true then ((laws_loInts.f k x10 x8).bind fun t656 => (some t656)) else (some false)) else ((impl_ProofCut.f x3 x4).bind fun bt657 => ((impl_QueryAsk.f k x3 x4 true x6 x7).bind fun bt667 => (laws_FnAskWhole.l0 k x3 x6 x7 bt667.1 bt657.1 (([bt657.2.2.1] : List Int)) 0 1 0 0 bt657.2.1 bt657.2.2.1 bt657.2.2.2.1)))
def laws_FnAskWhole.l0 : Nat → Int → Int → Int → List Int → List Int → List Int → Int → Int → Int → Int → Int → Int → List Int → Option (Bool)
 | 0, _, _, _, _, _, _, _, _, _, _, _, _, _ => none
 | k + 1, x3, x6, x7, x10, x12, x15, x16, x17, x18, x19, x667000, x667001, x667002 => if x19 < (x12.length : Int) then (if 0 ≤ x19 then ((impl_FieldDif.f (rd x12 x19) 1).bind fun t675 => (if x15.length < 17592186044416 then ((impl_PolyAt.f x667002 (wrap64 (x19 + 1))).bind fun t679 => ((impl_FieldMul.f x17 t679).bind fun t680 => ((impl_FieldSum.f x16 t680).bind fun t681 => ((impl_FieldMul.f x17 x7).bind fun t682 => ((impl_FieldSum.f x18 (rd x12 x19)).bind fun t684 => (laws_FnAskWhole.l0 k x3 x6 x7 x10 x12 (x15 ++ [t675]) t681 t682 t684 (wrap64 (x19 + 1)) x667000 x667001 x667002)))))) else (none))) else (none)) else (if x3 = 2 then ((impl_FieldDif.f x18 1).bind fun t685 => ((impl_FieldMul.f x17 t685).bind fun t686 => ((impl_FieldSum.f x16 t686).bind fun t687 => (laws_FnAskWhole.j2 k x6 x10 x12 x15 t687 x667000 x667001 x667002)))) else (laws_FnAskWhole.j2 k x6 x10 x12 x15 x16 x667000 x667001 x667002))
def laws_FnAskWhole.j2 : Nat → Int → List Int → List Int → List Int → Int → Int → Int → List Int → Option (Bool)
 | 0, _, _, _, _, _, _, _, _ => none
 | k + 1, x6, x10, x12, x15, x16, x667000, x667001, x667002 => (some (([x667000] : List Int) : List Int)).bind fun y688 => (if y688.length + x12.length < 17592186044416 then ((impl_PolyThrough.f (y688 ++ x12)).bind fun t694 => ((impl_PolyAt.f t694 x6).bind fun t697 => ((impl_PolyThrough.f x15).bind fun t698 => ((impl_PolyAt.f t698 x6).bind fun t701 => ((impl_PolyAt.f x667002 x6).bind fun t702 => ((laws_loInts.f k x10 (([t697, t701, t702, x16] : List Int))).bind fun t706 => (some t706))))))) else (none))
end
def laws_FnAskWhole.f (k : Nat) (l0 : List Int) : Option (Bool) := if (l0.length : Int) > 1048576 then (some true) else ((spec_DrawQueryAsk.f k l0).bind fun bt640 => ((spec_QueryAsk.f k bt640.1 bt640.2.1 bt640.2.2.1 bt640.2.2.2.1 bt640.2.2.2.2).bind fun bt647 => ((impl_QueryAsk.f k bt640.1 bt640.2.1 bt640.2.2.1 bt640.2.2.2.1 bt640.2.2.2.2).bind fun bt651 => (if (bt651.2 != bt647.2) = true then (laws_FnAskWhole.j0 k bt640.1 bt640.2.1 bt640.2.2.2.1 bt640.2.2.2.2 bt647.1 bt647.2 bt651.1 bt651.2 true) else ((laws_loInts.f k bt651.1 bt647.1).bind fun t655 => (if t655 = true then (laws_FnAskWhole.j0 k bt640.1 bt640.2.1 bt640.2.2.2.1 bt640.2.2.2.2 bt647.1 bt647.2 bt651.1 bt651.2 (!bt651.2)) else (laws_FnAskWhole.j0 k bt640.1 bt640.2.1 bt640.2.2.2.1 bt640.2.2.2.2 bt647.1 bt647.2 bt651.1 bt651.2 true)))))))
theorem laws_FnAskWhole.mono_l : ∀ k, (∀ y0 y1 y2 y3 y4 y5 y6 y7 y8, LeO (laws_FnAskWhole.j0 k y0 y1 y2 y3 y4 y5 y6 y7 y8) (laws_FnAskWhole.j0 (k + 1) y0 y1 y2 y3 y4 y5 y6 y7 y8)) ∧ (∀ y0 y1 y2 y3 y4 y5 y6 y7 y8 y9 y10 y11 y12, LeO (laws_FnAskWhole.l0 k y0 y1 y2 y3 y4 y5 y6 y7 y8 y9 y10 y11 y12) (laws_FnAskWhole.l0 (k + 1) y0 y1 y2 y3 y4 y5 y6 y7 y8 y9 y10 y11 y12)) ∧ (∀ y0 y1 y2 y3 y4 y5 y6 y7, LeO (laws_FnAskWhole.j2 k y0 y1 y2 y3 y4 y5 y6 y7) (laws_FnAskWhole.j2 (k + 1) y0 y1 y2 y3 y4 y5 y6 y7))
 | 0 => ⟨fun _ _ _ _ _ _ _ _ _ r h => by simp [laws_FnAskWhole.j0] at h, fun _ _ _ _ _ _ _ _ _ _ _ _ _ r h => by simp [laws_FnAskWhole.l0] at h, fun _ _ _ _ _ _ _ _ r h => by simp [laws_FnAskWhole.j2] at h⟩
 | k + 1 => by
  obtain ⟨ih0, ih1, ih2⟩ := laws_FnAskWhole.mono_l k
  refine ⟨?_, ?_, ?_⟩
  ·intro y0 y1 y2 y3 y4 y5 y6 y7 y8
   unfold laws_FnAskWhole.j0
   repeat' first
   | exact ih0 _ _ _ _ _ _ _ _ _
   | exact ih1 _ _ _ _ _ _ _ _ _ _ _ _ _
   | exact ih2 _ _ _ _ _ _ _ _
   | exact impl_QueryAsk.mono _ _ _ _ _ _
   | exact laws_loInts.mono _ _ _
   | exact spec_DrawQueryAsk.mono _ _
   | exact spec_QueryAsk.mono _ _ _ _ _ _
   | exact LeO.none _
   | refine LeO.ite ?_ ?_
   | refine LeO.bind ?_ (fun _ => ?_)
   | exact LeO.refl _
  ·intro y0 y1 y2 y3 y4 y5 y6 y7 y8 y9 y10 y11 y12
   unfold laws_FnAskWhole.l0
   repeat' first
   | exact ih0 _ _ _ _ _ _ _ _ _
   | exact ih1 _ _ _ _ _ _ _ _ _ _ _ _ _
   | exact ih2 _ _ _ _ _ _ _ _
   | exact impl_QueryAsk.mono _ _ _ _ _ _
   | exact laws_loInts.mono _ _ _
   | exact spec_DrawQueryAsk.mono _ _
   | exact spec_QueryAsk.mono _ _ _ _ _ _
   | exact LeO.none _
   | refine LeO.ite ?_ ?_
   | refine LeO.bind ?_ (fun _ => ?_)
   | exact LeO.refl _
  ·intro y0 y1 y2 y3 y4 y5 y6 y7
   unfold laws_FnAskWhole.j2
   repeat' first
   | exact ih0 _ _ _ _ _ _ _ _ _
   | exact ih1 _ _ _ _ _ _ _ _ _ _ _ _ _
   | exact ih2 _ _ _ _ _ _ _ _
   | exact impl_QueryAsk.mono _ _ _ _ _ _
   | exact laws_loInts.mono _ _ _
   | exact spec_DrawQueryAsk.mono _ _
   | exact spec_QueryAsk.mono _ _ _ _ _ _
   | exact LeO.none _
   | refine LeO.ite ?_ ?_
   | refine LeO.bind ?_ (fun _ => ?_)
   | exact LeO.refl _
theorem laws_FnAskWhole.mono : ∀ a0 k, LeO (laws_FnAskWhole.f k a0) (laws_FnAskWhole.f (k + 1) a0) := by
 intro a0 k
 obtain ⟨ih0, ih1, ih2⟩ := laws_FnAskWhole.mono_l k
 unfold laws_FnAskWhole.f
 repeat' first
   | exact ih0 _ _ _ _ _ _ _ _ _
   | exact ih1 _ _ _ _ _ _ _ _ _ _ _ _ _
   | exact ih2 _ _ _ _ _ _ _ _
   | exact impl_QueryAsk.mono _ _ _ _ _ _
   | exact laws_loInts.mono _ _ _
   | exact spec_DrawQueryAsk.mono _ _
   | exact spec_QueryAsk.mono _ _ _ _ _ _
   | exact LeO.none _
   | refine LeO.ite ?_ ?_
   | refine LeO.bind ?_ (fun _ => ?_)
   | exact LeO.refl _
set_option maxHeartbeats 8000000 in
set_option maxRecDepth 100000 in
theorem laws_FnAskWhole.calls (k : Nat) (A0 : Option Addr) (c0 : Nat) (l0 : List Int) (r : Bool) (w : World) (hr0 : Kd.C (Kd.int .u8) w A0 l0.length l0) (hc0 : l0.length ≤ c0) (h : laws_FnAskWhole.f k l0 = some r) :
  Calls Try.prog 23 #[.slice A0 l0.length c0] w fun e w' => e = .returned (.bool r) ∧ Below w.heap.size w w' := by
 have hu59 := Try.underlying59
 have HR0 := Aside0.mk hr0
 have HC0 := Aside0.mk hc0
 clear hr0 hc0
 have HB := Aside0.mk (Below.refl w.heap.size w)
 have H := h
 unfold laws_FnAskWhole.f at H
 clear h
 by_cases c2 : (l0.length : Int) > 1048576
 ·rw [if_pos c2] at H
  have c2b0 : decide (1048576 < (l0.length : Int)) = true := decide_eq_true c2
  have c2b1 : decide (1048576 < l0.length) = true := decide_eq_true (by omega)
  clear c2
  obtain rfl := Option.some.inj H
  go_enter Try.func23, Try.ntmps23
  go_wp2
  go_ret
  exact ⟨by simp [*, errW_none, errW_some] <;> rfl, by repeat (with_reducible first | exact HB.out | apply below_alloc | apply pw_below_drewN | apply below_drew1)⟩
 ·rw [if_neg c2] at H
  have c2b0 : decide (1048576 < (l0.length : Int)) = false := decide_eq_false c2
  have c2b1 : decide (1048576 < l0.length) = false := decide_eq_false (by omega)
  clear c2
  replace H := bnd H
  obtain ⟨⟨t640, t641, t642, t643, t644⟩, A3, H⟩ := H
  dsimp only at H
  replace H := bnd H
  obtain ⟨⟨t647, t648⟩, A4, H⟩ := H
  dsimp only at H
  replace H := bnd H
  obtain ⟨⟨t651, t652⟩, A5, H⟩ := H
  dsimp only at H
  have HC6 := Aside0.mk H
  clear H
  go_enter Try.func23, Try.ntmps23
  go_upto_region 6 with (first | ((with_reducible refine gate_callee (f := 78) rfl ?_); refine goesL_ (some 27) rfl rfl Try.func78 (by kernel_rfl) rfl #[.slice A0 l0.length c0] rfl (by (try simp only [List.map_toArray, List.map_cons, List.map_nil]); first | done | rfl | (simp only [List.length_drop, List.length_take]; rfl)) ?_; (with_reducible refine (spec_DrawQueryAsk.calls k _ _ l0 t640 t641 t642 t643 t644 _ ?side1 ?side2 A3.out).mono ?_); (case side1 => repeat (first | exact HR0.out | (with_reducible refine Kd.C_alloc ?_ _) | (with_reducible refine Kd.C_drewN ?_ _) | (with_reducible refine Kd.C_drew ?_))); (case side2 => exact HC0.out); rintro e w7 ⟨v645, rfl, ho0, hb⟩; refine ⟨_, rfl, ?_⟩; have n0_ := Aside0.mk (Kd.R_lower ho0 (below_size (by repeat (with_reducible first | exact HB.out | apply below_alloc | apply pw_below_drewN | apply below_drew1)))); have n1_ := Aside0.mk (below_step (by repeat (with_reducible first | exact HB.out | apply below_alloc | apply pw_below_drewN | apply below_drew1)) hb); clear HB; have HO646 := n0_; have HB := n1_; clear n0_ n1_; (try clear hb); (try clear hb2); (try clear hk); (try clear hi); (try clear ho0); obtain ⟨Ao8, co8, eo8⟩ := Kd.R_slice HO646.out; subst eo8) | ((with_reducible refine gate_callee (f := 69) rfl ?_); refine goesL_ (some 39) rfl rfl Try.func69 (by kernel_rfl) rfl #[.int .i64 t640, .slice Ao8 t641.length co8, .bool t642, .int .i64 t643, .int .i64 t644] rfl (by (try simp only [List.map_toArray, List.map_cons, List.map_nil]); first | done | rfl | (simp only [List.length_drop, List.length_take]; rfl)) ?_; (with_reducible refine (spec_QueryAsk.calls k t640 _ _ t641 t642 t643 t644 t647 t648 _ ?side1 ?side2 A4.out).mono ?_); (case side1 => repeat (first | exact (Kd.R_reads' HO646.out).2.2 | (with_reducible refine Kd.C_alloc ?_ _) | (with_reducible refine Kd.C_drewN ?_ _) | (with_reducible refine Kd.C_drew ?_))); (case side2 => exact (Kd.R_reads' HO646.out).2.1); rintro e w9 ⟨v649, rfl, ho0, hb⟩; refine ⟨_, rfl, ?_⟩; have n0_ := Aside0.mk (Kd.R_elder' (HO646.out) (Kd.R_base ho0) hb); have n1_ := Aside0.mk (Kd.R_lower (Kd.R_new' ho0 (Kd.R_lt (HO646.out))) (below_size (by repeat (with_reducible first | exact HB.out | apply below_alloc | apply pw_below_drewN | apply below_drew1)))); have n2_ := Aside0.mk (below_step (by repeat (with_reducible first | exact HB.out | apply below_alloc | apply pw_below_drewN | apply below_drew1)) hb); clear HO646; clear HB; have HO646 := n0_; have HO650 := n1_; have HB := n2_; clear n0_ n1_ n2_; (try clear hb); (try clear hb2); (try clear hk); (try clear hi); (try clear ho0)) | ((with_reducible refine gate_callee (f := 70) rfl ?_); refine goesL_ (some 48) rfl rfl Try.func70 (by kernel_rfl) rfl #[.int .i64 t640, .slice Ao8 t641.length co8, .bool t642, .int .i64 t643, .int .i64 t644] rfl (by (try simp only [List.map_toArray, List.map_cons, List.map_nil]); first | done | rfl | (simp only [List.length_drop, List.length_take]; rfl)) ?_; (with_reducible refine (impl_QueryAsk.calls k t640 _ _ t641 t642 t643 t644 t651 t652 _ ?side1 ?side2 A5.out).mono ?_); (case side1 => repeat (first | exact (Kd.R_reads' HO646.out).2.2 | (with_reducible refine Kd.C_alloc ?_ _) | (with_reducible refine Kd.C_drewN ?_ _) | (with_reducible refine Kd.C_drew ?_))); (case side2 => exact (Kd.R_reads' HO646.out).2.1); rintro e w10 ⟨v653, rfl, ho0, hb⟩; refine ⟨_, rfl, ?_⟩; have n0_ := Aside0.mk (Kd.R_elder' (HO646.out) (Kd.R_base ho0) hb); have n1_ := Aside0.mk (Kd.R_elder' (HO650.out) (Kd.R_base ho0) hb); have n2_ := Aside0.mk (Kd.R_lower (Kd.R_new' (Kd.R_new' ho0 (Kd.R_lt (HO646.out))) (Kd.R_lt (HO650.out))) (below_size (by repeat (with_reducible first | exact HB.out | apply below_alloc | apply pw_below_drewN | apply below_drew1)))); have n3_ := Aside0.mk (below_step (by repeat (with_reducible first | exact HB.out | apply below_alloc | apply pw_below_drewN | apply below_drew1)) hb); clear HO646; clear HO650; clear HB; have HO646 := n0_; have HO650 := n1_; have HO654 := n2_; have HB := n3_; clear n0_ n1_ n2_ n3_; (try clear hb); (try clear hb2); (try clear hk); (try clear hi); (try clear ho0)))
  (try simp only [Act.put, List.setIfInBounds_toArray, List.set_cons_zero, List.set_cons_succ])
  go_cut [63] (fun v63 wc => ∃ (kq : Nat) (x63_5 : Bool), v63 = .bool x63_5 ∧ Aside0 (laws_FnAskWhole.j0 kq t640 t641 t643 t644 t647 t648 t651 t652 x63_5 = some r) ∧ Aside0 (kq ≤ k) ∧ Aside0 (Kd.R (Kd.int .i64) 3 wc w.heap.size (fun k_ => some k_ ≠ (v649 : Value).ownBlock ∧ some k_ ≠ (v653 : Value).ownBlock) (.slice Ao8 t641.length co8) t641) ∧ Aside0 (Kd.R (Kd.int .i64) 3 wc w.heap.size (fun k_ => some k_ ≠ ((.slice Ao8 t641.length co8) : Value).ownBlock ∧ some k_ ≠ (v653 : Value).ownBlock) v649 t647) ∧ Aside0 (Kd.R (Kd.int .i64) 3 wc w.heap.size (fun k_ => some k_ ≠ ((.slice Ao8 t641.length co8) : Value).ownBlock ∧ some k_ ≠ (v649 : Value).ownBlock) v653 t651) ∧ Aside0 (Below w.heap.size w wc))
  case first =>
   have H := HC6.out
   clear HC6
   by_cases c11 : (t652 != t648) = true
   ·rw [if_pos c11] at H
    have c11b0 : (t652 != t648) = true := c11
    (try (have c11b1 : decide (t652 = t648) = false := by simpa using c11))
    (try (have c11b2 : (t652 == t648) = false := by simpa using c11))
    (try (have c11b3 : ¬ (t652 = t648) := by simpa using c11))
    clear c11
    (first | rw [c11b0] | (simp only [i64_w, i32_w]; rw [c11b0]) | skip)
    have H' := Aside0.mk H
    clear H
    go_wp2
    go_meet
    case rel => exact ⟨_, (true), (by simp [*]), H', ⟨by first | omega | exact Nat.le_refl _⟩, ⟨Kd.R_mono HO646.out (fun _ hk => ⟨hk.1.2, hk.2⟩)⟩, ⟨Kd.R_mono HO650.out (fun _ hk => ⟨hk.1.2, hk.2⟩)⟩, ⟨Kd.R_mono HO654.out (fun _ hk => ⟨hk.1.2, hk.2⟩)⟩, ⟨by repeat (with_reducible first | exact HB.out | apply below_alloc | apply pw_below_drewN | apply below_drew1)⟩⟩
   ·rw [if_neg c11] at H
    have c11b0 : (t652 != t648) = false := by simpa using c11
    (try (have c11b1 : decide (t652 = t648) = true := by simpa using c11))
    (try (have c11b2 : (t652 == t648) = true := by simpa using c11))
    clear c11
    (first | rw [c11b0] | (simp only [i64_w, i32_w]; rw [c11b0]) | skip)
    replace H := bnd H
    obtain ⟨t655, A12, H⟩ := H
    by_cases c13 : t655 = true
    ·subst c13
     rw [if_pos rfl] at H
     have H' := Aside0.mk H
     clear H
     obtain ⟨Ao14, co14, eo14⟩ := Kd.R_slice HO654.out
     subst eo14
     obtain ⟨Ao15, co15, eo15⟩ := Kd.R_slice HO650.out
     subst eo15
     go_wp2_with (first | (go_at_call 77; (with_reducible refine (laws_loInts.calls k _ _ t651 _ _ t647 true _ ?side1 ?side2 ?side3 ?side4 A12.out).mono ?_); (case side1 => repeat (first | exact (Kd.R_reads' HO654.out).2.2 | (with_reducible refine Kd.C_alloc ?_ _) | (with_reducible refine Kd.C_drewN ?_ _) | (with_reducible refine Kd.C_drew ?_))); (case side2 => exact (Kd.R_reads' HO654.out).2.1); (case side3 => repeat (first | exact (Kd.R_reads' HO650.out).2.2 | (with_reducible refine Kd.C_alloc ?_ _) | (with_reducible refine Kd.C_drewN ?_ _) | (with_reducible refine Kd.C_drew ?_))); (case side4 => exact (Kd.R_reads' HO650.out).2.1); rintro e w' ⟨rfl, ⟨nd, rfl⟩⟩))
     go_meet
     case rel => exact ⟨_, (!t652), (by simp [*]), H', ⟨by first | omega | exact Nat.le_refl _⟩, ⟨Kd.R_mono HO646.out (fun _ hk => ⟨hk.1.2, hk.2⟩)⟩, ⟨Kd.R_mono HO650.out (fun _ hk => ⟨hk.1.2, hk.2⟩)⟩, ⟨Kd.R_mono HO654.out (fun _ hk => ⟨hk.1.2, hk.2⟩)⟩, ⟨by repeat (with_reducible first | exact HB.out | apply below_alloc | apply pw_below_drewN | apply below_drew1)⟩⟩
    ·replace c13 := Bool.eq_false_iff.mpr c13
     subst c13
     rw [if_neg (show ¬ (false = true) by decide)] at H
     have H' := Aside0.mk H
     clear H
     obtain ⟨Ao16, co16, eo16⟩ := Kd.R_slice HO654.out
     subst eo16
     obtain ⟨Ao17, co17, eo17⟩ := Kd.R_slice HO650.out
     subst eo17
     go_wp2_with (first | (go_at_call 77; (with_reducible refine (laws_loInts.calls k _ _ t651 _ _ t647 false _ ?side1 ?side2 ?side3 ?side4 A12.out).mono ?_); (case side1 => repeat (first | exact (Kd.R_reads' HO654.out).2.2 | (with_reducible refine Kd.C_alloc ?_ _) | (with_reducible refine Kd.C_drewN ?_ _) | (with_reducible refine Kd.C_drew ?_))); (case side2 => exact (Kd.R_reads' HO654.out).2.1); (case side3 => repeat (first | exact (Kd.R_reads' HO650.out).2.2 | (with_reducible refine Kd.C_alloc ?_ _) | (with_reducible refine Kd.C_drewN ?_ _) | (with_reducible refine Kd.C_drew ?_))); (case side4 => exact (Kd.R_reads' HO650.out).2.1); rintro e w' ⟨rfl, ⟨nd, rfl⟩⟩))
     go_meet
     case rel => exact ⟨_, (true), (by simp [*]), H', ⟨by first | omega | exact Nat.le_refl _⟩, ⟨Kd.R_mono HO646.out (fun _ hk => ⟨hk.1.2, hk.2⟩)⟩, ⟨Kd.R_mono HO650.out (fun _ hk => ⟨hk.1.2, hk.2⟩)⟩, ⟨Kd.R_mono HO654.out (fun _ hk => ⟨hk.1.2, hk.2⟩)⟩, ⟨by repeat (with_reducible first | exact HB.out | apply below_alloc | apply pw_below_drewN | apply below_drew1)⟩⟩
  case rest =>
   clear HC6
   try clear c1
   try clear c2
   try clear c2b0
   try clear c2b1
   try clear p2
   try clear c6
   try clear c7
   try clear c11
   try clear c11b0
   try clear c11b1
   try clear c11b2
   try clear c13
   obtain ⟨kq, x63_5, rfl, HA, HJ5, HO_4, HO_8, HO_10, HB⟩ := hcut
   cases kq with
   | zero => exact absurd HA.out (by simp [laws_FnAskWhole.j0])
   | succ kj5 =>
    have H := HA.out
    clear HA
    simp only [laws_FnAskWhole.j0] at H
    by_cases c18 : x63_5 = true
    ·subst c18
     rw [if_pos rfl] at H
     by_cases c19 : (t652 == t648) = true
     ·rw [if_pos c19] at H
      have c19b0 : (t652 == t648) = true := c19
      (try (have c19b1 : decide (t652 = t648) = true := by simpa using c19))
      (try (have c19b2 : (t652 == t648) = true := by simpa using c19))
      clear c19
      replace H := bnd H
      obtain ⟨t656, A20, H⟩ := H
      obtain rfl := Option.some.inj H
      obtain ⟨Ao21, co21, eo21⟩ := Kd.R_slice HO_10.out
      subst eo21
      obtain ⟨Ao22, co22, eo22⟩ := Kd.R_slice HO_8.out
      subst eo22
      go_wp2_with (first | (go_at_call 77; (with_reducible refine (laws_loInts.calls kj5 _ _ t651 _ _ t647 t656 _ ?side1 ?side2 ?side3 ?side4 A20.out).mono ?_); (case side1 => repeat (first | exact (Kd.R_reads' HO_10.out).2.2 | (with_reducible refine Kd.C_alloc ?_ _) | (with_reducible refine Kd.C_drewN ?_ _) | (with_reducible refine Kd.C_drew ?_))); (case side2 => exact (Kd.R_reads' HO_10.out).2.1); (case side3 => repeat (first | exact (Kd.R_reads' HO_8.out).2.2 | (with_reducible refine Kd.C_alloc ?_ _) | (with_reducible refine Kd.C_drewN ?_ _) | (with_reducible refine Kd.C_drew ?_))); (case side4 => exact (Kd.R_reads' HO_8.out).2.1); rintro e w' ⟨rfl, ⟨nd, rfl⟩⟩))
      go_ret
      exact ⟨by simp [*, errW_none, errW_some] <;> rfl, by repeat (with_reducible first | exact HB.out | apply below_alloc | apply pw_below_drewN | apply below_drew1)⟩
     ·rw [if_neg c19] at H
      have c19b0 : (t652 == t648) = false := by simpa using c19
      (try (have c19b1 : decide (t652 = t648) = false := by simpa using c19))
      (try (have c19b2 : (t652 == t648) = false := by simpa using c19))
      (try (have c19b3 : ¬ (t652 = t648) := by simpa using c19))
      clear c19
      obtain rfl := Option.some.inj H
      go_wp2
      go_ret
      exact ⟨by simp [*, errW_none, errW_some] <;> rfl, by repeat (with_reducible first | exact HB.out | apply below_alloc | apply pw_below_drewN | apply below_drew1)⟩
    ·replace c18 := Bool.eq_false_iff.mpr c18
     subst c18
     rw [if_neg (show ¬ (false = true) by decide)] at H
     replace H := bnd H
     obtain ⟨⟨t657, t660, t661, t662, t665⟩, A23, H⟩ := H
     dsimp only at H
     replace H := bnd H
     obtain ⟨⟨t667, t668⟩, A24, H⟩ := H
     dsimp only at H
     obtain ⟨y671, hy671⟩ : ∃ y_ : List Int, y_ = (([t661] : List Int)) := ⟨_, rfl⟩
     replace H : (laws_FnAskWhole.l0 kj5 t640 t643 t644 t667 t657 y671 0 1 0 0 t660 t661 t662) = some r := by rw [hy671]; with_reducible exact H
     have Ny671 := Aside0.mk hy671
     clear hy671
     have H' := Aside0.mk H
     clear H
     go_wp2_with (first | ((with_reducible refine gate_callee (f := 80) rfl ?_); refine goesL_ (some 75) rfl rfl Try.func80 (by kernel_rfl) rfl #[.int .i64 t640, .slice Ao8 t641.length co8] rfl (by (try simp only [List.map_toArray, List.map_cons, List.map_nil]); first | done | rfl | (simp only [List.length_drop, List.length_take]; rfl)) ?_; (with_reducible refine (impl_ProofCut.calls t640 _ _ t641 t657 t660 t661 t662 t665 _ ?side1 ?side2 A23.out).mono ?_); (case side1 => repeat (first | exact (Kd.R_reads' HO_4.out).2.2 | (with_reducible refine Kd.C_alloc ?_ _) | (with_reducible refine Kd.C_drewN ?_ _) | (with_reducible refine Kd.C_drew ?_))); (case side2 => exact (Kd.R_reads' HO_4.out).2.1); rintro e w25 ⟨v658, v663, rfl, ho0, ho1, hb⟩; refine ⟨_, rfl, ?_⟩; replace HO659 := Aside0.mk (Kd.V_lower (Kd.V_mono (ok' := fun k_ => some k_ ≠ (.slice Ao8 t641.length co8 : Value).ownBlock ∧ some k_ ≠ (v649 : Value).ownBlock ∧ some k_ ≠ (v653 : Value).ownBlock) ho0 (fun k_ hk_ => ⟨(Kd.fresh' (Kd.R_lt (HO_4.out)) k_ hk_), (Kd.fresh' (Kd.R_lt (HO_8.out)) k_ hk_), (Kd.fresh' (Kd.R_lt (HO_10.out)) k_ hk_)⟩)) (below_size (by repeat (with_reducible first | exact HB.out | apply below_alloc | apply pw_below_drewN | apply below_drew1)))); replace HO664 := Aside0.mk (Kd.V_lower (Kd.V_mono (ok' := fun k_ => some k_ ≠ (.slice Ao8 t641.length co8 : Value).ownBlock ∧ some k_ ≠ (v649 : Value).ownBlock ∧ some k_ ≠ (v653 : Value).ownBlock) ho1 (fun k_ hk_ => ⟨(Kd.fresh' (Kd.R_lt (HO_4.out)) k_ hk_), (Kd.fresh' (Kd.R_lt (HO_8.out)) k_ hk_), (Kd.fresh' (Kd.R_lt (HO_10.out)) k_ hk_)⟩)) (below_size (HB.out))); replace HO_4 := Aside0.mk (Kd.R_below (HO_4.out) hb); replace HO_8 := Aside0.mk (Kd.R_below (HO_8.out) hb); replace HO_10 := Aside0.mk (Kd.R_below (HO_10.out) hb); replace HB := Aside0.mk (below_step (HB.out) hb); clear hb ho0 ho1) | ((with_reducible refine gate_dst (N := 13) rfl ?_); refine box_event ?hg (N := 13) ?hd (cs := #[.int .i64 0, .int .i64 0, .slice none 0 0]) (t := 59) ?hr ?_; (case hd => rfl); (case hg => rfl); (case hr => first | (go_simp; done) | (go_simp; rfl)); intro gb666 hg w26 hbox hb; replace HO_4 := Aside0.mk (Kd.R_below (HO_4.out) hb); replace HO_8 := Aside0.mk (Kd.R_below (HO_8.out) hb); replace HO_10 := Aside0.mk (Kd.R_below (HO_10.out) hb); replace HO659 := Aside0.mk (Kd.V_below (Kd.V_elderB (by (with_reducible repeat (first | apply Kd.V_alloc | apply Kd.V_drewN | apply Kd.V_drew)); exact HO659.out) gb666 (Nat.le_of_eq hg.symm)) hb); replace HO664 := Aside0.mk (Kd.V_below (Kd.V_elderB (by (with_reducible repeat (first | apply Kd.V_alloc | apply Kd.V_drewN | apply Kd.V_drew)); exact HO664.out) gb666 (Nat.le_of_eq hg.symm)) hb); replace BK666 := Aside0.mk (hbox); replace GW666 := Aside0.mk ((by rw [hg]; exact (below_size (by repeat (with_reducible first | exact HB.out | apply below_alloc | apply pw_below_drewN | apply below_drew1))) : w.heap.size ≤ gb666)); replace GE666 := Aside0.mk ((by rw [hg]; exact (below_size (by repeat (with_reducible first | exact HB.out | apply below_alloc | apply pw_below_drewN | apply below_drew1))) : w.heap.size ≤ gb666)); replace HB := Aside0.mk (below_step (by repeat (with_reducible first | exact HB.out | apply below_alloc | apply pw_below_drewN | apply below_drew1)) hb); clear hb hbox hg; have hcz27_0 : w26.cell? ⟨gb666, 0, none⟩ = some (.int .i64 0) := (blk_cell BK666.out 0).trans rfl; have hcz27_1 : w26.cell? ⟨gb666, 1, none⟩ = some (.int .i64 0) := (blk_cell BK666.out 1).trans rfl; have hcz27_2 : w26.cell? ⟨gb666, 2, none⟩ = some (.slice none 0 0) := (blk_cell BK666.out 2).trans rfl; have hfz27_0 := blk_frozen BK666.out 0; have hfz27_1 := blk_frozen BK666.out 1; have hfz27_2 := blk_frozen BK666.out 2; obtain ⟨Ao28, co28, eo28⟩ := Kd.V_slice HO664.out; subst eo28) | ((with_reducible refine gate_callee (f := 70) rfl ?_); refine goesL_ (some 84) rfl rfl Try.func70 (by kernel_rfl) rfl #[.int .i64 t640, .slice Ao8 t641.length co8, .bool true, .int .i64 t643, .int .i64 t644] rfl (by (try simp only [List.map_toArray, List.map_cons, List.map_nil]); first | done | rfl | (simp only [List.length_drop, List.length_take]; rfl)) ?_; (with_reducible refine (impl_QueryAsk.calls kj5 t640 _ _ t641 true t643 t644 t667 t668 _ ?side1 ?side2 A24.out).mono ?_); (case side1 => refine (Kd.R_reads' (e := 3) (base := w.heap.size) (ok := fun k_ => (some k_ ≠ (v649 : Value).ownBlock ∧ some k_ ≠ (v653 : Value).ownBlock)) (n := t641.length) (c := co8) ?_).2.2; exact ((Kd.R_mono (Kd.R_far (p := ⟨gb666, 2, none⟩) (Kd.R_far (p := ⟨gb666, 1, none⟩) (Kd.R_far (p := ⟨gb666, 0, none⟩) (Kd.R_types HO_4.out BK666.out (by decide)) (fun _ hk => hk.2) (.int .i64 t660)) (fun _ hk => hk.2) (.int .i64 t661)) (fun _ hk => hk.2) (.slice Ao28 t662.length co28)) (fun _ h_ => h_.1)))); (case side2 => exact (Kd.R_reads' HO_4.out).2.1); rintro e w29 ⟨v669, rfl, ho0, hb⟩; refine ⟨_, rfl, ?_⟩; replace HO659 := Aside0.mk (Kd.V_elder' (by (with_reducible repeat (first | apply Kd.V_alloc | apply Kd.V_drewN | apply Kd.V_drew)); exact (Kd.V_mono (Kd.V_far (p := ⟨gb666, 2, none⟩) (Kd.V_far (p := ⟨gb666, 1, none⟩) (Kd.V_far (p := ⟨gb666, 0, none⟩) (Kd.V_mono HO659.out (fun k_ hk => (⟨hk, hk.2⟩ : _ ∧ k_ ≠ gb666))) (fun _ hk => hk.2) (.int .i64 t660)) (fun _ hk => hk.2) (.int .i64 t661)) (fun _ hk => hk.2) (.slice Ao28 t662.length co28)) (fun _ h_ => h_.1))) (Kd.R_base ho0) hb); replace HO664 := Aside0.mk (Kd.V_elder' (by (with_reducible repeat (first | apply Kd.V_alloc | apply Kd.V_drewN | apply Kd.V_drew)); exact (Kd.V_mono (Kd.V_far (p := ⟨gb666, 2, none⟩) (Kd.V_far (p := ⟨gb666, 1, none⟩) (Kd.V_far (p := ⟨gb666, 0, none⟩) (Kd.V_mono HO664.out (fun k_ hk => (⟨hk, hk.2⟩ : _ ∧ k_ ≠ gb666))) (fun _ hk => hk.2) (.int .i64 t660)) (fun _ hk => hk.2) (.int .i64 t661)) (fun _ hk => hk.2) (.slice Ao28 t662.length co28)) (fun _ h_ => h_.1))) (Kd.R_base ho0) hb); replace HO670 := Aside0.mk (Kd.R_lower (Kd.R_new' (Kd.R_new' (Kd.R_new' ho0 (Kd.R_lt ((Kd.R_mono (Kd.R_far (p := ⟨gb666, 2, none⟩) (Kd.R_far (p := ⟨gb666, 1, none⟩) (Kd.R_far (p := ⟨gb666, 0, none⟩) (Kd.R_types HO_4.out BK666.out (by decide)) (fun _ hk => hk.2) (.int .i64 t660)) (fun _ hk => hk.2) (.int .i64 t661)) (fun _ hk => hk.2) (.slice Ao28 t662.length co28)) (fun _ h_ => h_.1))))) (Kd.R_lt ((Kd.R_mono (Kd.R_far (p := ⟨gb666, 2, none⟩) (Kd.R_far (p := ⟨gb666, 1, none⟩) (Kd.R_far (p := ⟨gb666, 0, none⟩) (Kd.R_types HO_8.out BK666.out (by decide)) (fun _ hk => hk.2) (.int .i64 t660)) (fun _ hk => hk.2) (.int .i64 t661)) (fun _ hk => hk.2) (.slice Ao28 t662.length co28)) (fun _ h_ => h_.1))))) (Kd.R_lt ((Kd.R_mono (Kd.R_far (p := ⟨gb666, 2, none⟩) (Kd.R_far (p := ⟨gb666, 1, none⟩) (Kd.R_far (p := ⟨gb666, 0, none⟩) (Kd.R_types HO_10.out BK666.out (by decide)) (fun _ hk => hk.2) (.int .i64 t660)) (fun _ hk => hk.2) (.int .i64 t661)) (fun _ hk => hk.2) (.slice Ao28 t662.length co28)) (fun _ h_ => h_.1))))) (below_size (by repeat (with_reducible first | exact HB.out | apply below_alloc | apply pw_below_drewN | apply below_drew1 | refine below_set ?_ GE666.out)))); replace HO_4 := Aside0.mk (Kd.R_elder' ((Kd.R_mono (Kd.R_far (p := ⟨gb666, 2, none⟩) (Kd.R_far (p := ⟨gb666, 1, none⟩) (Kd.R_far (p := ⟨gb666, 0, none⟩) (Kd.R_types HO_4.out BK666.out (by decide)) (fun _ hk => hk.2) (.int .i64 t660)) (fun _ hk => hk.2) (.int .i64 t661)) (fun _ hk => hk.2) (.slice Ao28 t662.length co28)) (fun _ h_ => h_.1))) (Kd.R_base ho0) hb); replace HO_8 := Aside0.mk (Kd.R_elder' ((Kd.R_mono (Kd.R_far (p := ⟨gb666, 2, none⟩) (Kd.R_far (p := ⟨gb666, 1, none⟩) (Kd.R_far (p := ⟨gb666, 0, none⟩) (Kd.R_types HO_8.out BK666.out (by decide)) (fun _ hk => hk.2) (.int .i64 t660)) (fun _ hk => hk.2) (.int .i64 t661)) (fun _ hk => hk.2) (.slice Ao28 t662.length co28)) (fun _ h_ => h_.1))) (Kd.R_base ho0) hb); replace HO_10 := Aside0.mk (Kd.R_elder' ((Kd.R_mono (Kd.R_far (p := ⟨gb666, 2, none⟩) (Kd.R_far (p := ⟨gb666, 1, none⟩) (Kd.R_far (p := ⟨gb666, 0, none⟩) (Kd.R_types HO_10.out BK666.out (by decide)) (fun _ hk => hk.2) (.int .i64 t660)) (fun _ hk => hk.2) (.int .i64 t661)) (fun _ hk => hk.2) (.slice Ao28 t662.length co28)) (fun _ h_ => h_.1))) (Kd.R_base ho0) hb); replace BK666 := Aside0.mk (blk_below (g := gb666) (o := .cells #[.int .i64 t660, .int .i64 t661, .slice Ao28 t662.length co28] 59 (0, 0)) (by refine blk_put (cs := #[.int .i64 t660, .int .i64 t661, .slice none 0 0]) ?_ 2 _ rfl; refine blk_put (cs := #[.int .i64 t660, .int .i64 0, .slice none 0 0]) ?_ 1 _ rfl; refine blk_put (cs := #[.int .i64 0, .int .i64 0, .slice none 0 0]) ?_ 0 _ rfl; exact BK666.out) hb); replace HB := Aside0.mk (below_step (by repeat (with_reducible first | exact HB.out | apply below_alloc | apply pw_below_drewN | apply below_drew1 | refine below_set ?_ GE666.out)) hb); (try clear hb); (try clear hb2); (try clear hk); (try clear hi); (try clear ho0); have hcz30_0 : w29.cell? ⟨gb666, 0, none⟩ = some (.int .i64 t660) := (blk_cell BK666.out 0).trans rfl; have hcz30_1 : w29.cell? ⟨gb666, 1, none⟩ = some (.int .i64 t661) := (blk_cell BK666.out 1).trans rfl; have hcz30_2 : w29.cell? ⟨gb666, 2, none⟩ = some (.slice Ao28 t662.length co28) := (blk_cell BK666.out 2).trans rfl; have hfz30_0 := blk_frozen BK666.out 0; have hfz30_1 := blk_frozen BK666.out 1; have hfz30_2 := blk_frozen BK666.out 2) | ((with_reducible refine gate_dst (N := 89) rfl ?_); refine Kd.R_lit (Kd.int .i64) _ 3 ?hg (N := 89) ?hd (xs := ([t661] : List Int)) (inner := [.int .i64 t661]) (ok := fun _ => True) (okp := fun _ => True) ?hr ?hp (fun _ hk => hk) trivial (Below.refl _ _) (Nat.le_refl _) (by simp) ?_; (case hd => rfl); (case hg => rfl); (case hr => first | (go_simp; done) | (go_simp; rfl)); (case hp => exact (Reps.one (show Kd.M (Kd.int .i64) _ _ _ t661 [.int .i64 t661] from rfl) (Reps.none _ _))); intro v672 w31 ho32 hb hg_ hnew_; clear hg_ hnew_; (first | rw [← Ny671.out] at ho32 | (simp only [Int.reduceToNat] at ho32; rw [← Ny671.out] at ho32)); replace HO659 := Aside0.mk (Kd.V_elder' (by (with_reducible repeat (first | apply Kd.V_alloc | apply Kd.V_drewN | apply Kd.V_drew)); exact HO659.out) (Kd.R_base ho32) hb); replace HO664 := Aside0.mk (Kd.V_elder' (by (with_reducible repeat (first | apply Kd.V_alloc | apply Kd.V_drewN | apply Kd.V_drew)); exact HO664.out) (Kd.R_base ho32) hb); replace HO673 := Aside0.mk (Kd.R_lower (Kd.R_new' (Kd.R_new' (Kd.R_new' (Kd.R_new' ho32 (Kd.R_lt (HO_4.out))) (Kd.R_lt (HO_8.out))) (Kd.R_lt (HO_10.out))) (Kd.R_lt (HO670.out))) (below_size (by repeat (with_reducible first | exact HB.out | apply below_alloc | apply pw_below_drewN | apply below_drew1 | refine below_set ?_ GE666.out)))); replace HO_4 := Aside0.mk (Kd.R_elder' (HO_4.out) (Kd.R_base ho32) hb); replace HO_8 := Aside0.mk (Kd.R_elder' (HO_8.out) (Kd.R_base ho32) hb); replace HO_10 := Aside0.mk (Kd.R_elder' (HO_10.out) (Kd.R_base ho32) hb); replace HO670 := Aside0.mk (Kd.R_elder' (HO670.out) (Kd.R_base ho32) hb); replace BK666 := Aside0.mk (blk_below (g := gb666) (o := .cells #[.int .i64 t660, .int .i64 t661, .slice Ao28 t662.length co28] 59 (0, 0)) (by exact BK666.out) hb); replace HB := Aside0.mk (below_step (by repeat (with_reducible first | exact HB.out | apply below_alloc | apply pw_below_drewN | apply below_drew1 | refine below_set ?_ GE666.out)) hb); clear hb ho32))
     go_loopg [15, 16, 17, 18, 19] kj5 (fun kq v15 v16 v17 v18 v19 w' => ∃ (x15_2 : List Int) (x16_2 : Int) (x17_2 : Int) (x18_2 : Int) (x19_2 : Int), v16 = .int .i64 x16_2 ∧ v17 = .int .i64 x17_2 ∧ v18 = .int .i64 x18_2 ∧ v19 = .int .i64 x19_2 ∧ Aside0 (laws_FnAskWhole.l0 kq t640 t643 t644 t667 t657 x15_2 x16_2 x17_2 x18_2 x19_2 t660 t661 t662 = some r) ∧ Aside0 (kq ≤ kj5) ∧ Aside0 (Kd.R (Kd.int .i64) 3 w' w.heap.size (fun k_ => some k_ ≠ (v15 : Value).ownBlock) v669 t667) ∧ Aside0 (Kd.V (Kd.int .i64) 3 w' w.heap.size (fun k_ => some k_ ≠ (v669 : Value).ownBlock ∧ some k_ ≠ (v15 : Value).ownBlock ∧ k_ ≠ gb666) v658 t657) ∧ Aside0 (Kd.R (Kd.int .i64) 3 w' w.heap.size (fun k_ => some k_ ≠ (v669 : Value).ownBlock) v15 x15_2) ∧ Aside0 (Kd.V (Kd.int .i64) 3 w' w.heap.size (fun k_ => some k_ ≠ (v669 : Value).ownBlock ∧ some k_ ≠ (v15 : Value).ownBlock ∧ k_ ≠ gb666) (.slice Ao28 t662.length co28) t662) ∧ Aside0 (w'.heap[gb666]? = some (.cells #[.int .i64 t660, .int .i64 t661, (.slice Ao28 t662.length co28)] 59 (0, 0))) ∧ Aside0 (Below w.heap.size w w'))
     case atStart => exact ⟨(y671), (0), (1), (0), (0), (by simp [*]), (by simp [*]), (by simp [*]), (by simp [*]), H', ⟨Nat.le_refl _⟩, ⟨Kd.R_mono HO670.out (fun _ hk => hk.2)⟩, ⟨by (with_reducible repeat (first | apply Kd.V_alloc | apply Kd.V_drewN | apply Kd.V_drew)); exact Kd.V_mono HO659.out (fun _ hk => ⟨hk.1.2, ⟨hk.2, hk.1.1.2⟩⟩)⟩, ⟨Kd.R_mono HO673.out (fun _ hk => hk.2)⟩, ⟨by (with_reducible repeat (first | apply Kd.V_alloc | apply Kd.V_drewN | apply Kd.V_drew)); exact Kd.V_mono HO664.out (fun _ hk => ⟨hk.1.2, ⟨hk.2, hk.1.1.2⟩⟩)⟩, ⟨by exact BK666.out⟩, ⟨by repeat (with_reducible first | exact HB.out | apply below_alloc | apply pw_below_drewN | apply below_drew1 | refine below_set ?_ GE666.out)⟩⟩
     case round =>
      clear H'
      try clear c1
      try clear c2
      try clear c2b0
      try clear c2b1
      try clear p2
      try clear c6
      try clear c7
      try clear c8
      try clear c11
      try clear c11b0
      try clear c11b1
      try clear c11b2
      try clear c13
      try clear c18
      try clear c19
      try clear c19b0
      try clear c19b1
      try clear c19b2
      try clear c23
      try clear hcz27_0
      try clear hcz27_1
      try clear hcz27_2
      try clear hcz30_0
      try clear hcz30_1
      try clear hcz30_2
      try clear hfz27_0
      try clear hfz27_1
      try clear hfz27_2
      try clear hfz30_0
      try clear hfz30_1
      try clear hfz30_2
      try clear p2
      obtain ⟨x15_2, x16_2, x17_2, x18_2, x19_2, rfl, rfl, rfl, rfl, HA, HK2, HO_10, HO_12, HO_15, HO_667002, BK666, HB⟩ := hrel
      cases gk with
      | zero => exact absurd HA.out (by simp [laws_FnAskWhole.l0])
      | succ k2 =>
       have H := HA.out
       clear HA
       simp only [laws_FnAskWhole.l0] at H
       by_cases c33 : x19_2 < (t657.length : Int)
       ·rw [if_pos c33] at H
        have c33b0 : decide (x19_2 < (t657.length : Int)) = true := decide_eq_true c33
        clear c33
        by_cases c34 : 0 ≤ x19_2
        ·rw [if_pos c34] at H
         have c34b0 : decide (0 ≤ x19_2) = true := decide_eq_true c34
         clear c34
         replace H := bnd H
         obtain ⟨t675, A35, H⟩ := H
         by_cases c36 : x15_2.length < 17592186044416
         ·rw [if_pos c36] at H
          have LMc36 := Aside0.mk c36
          clear c36
          obtain ⟨y676, hy676⟩ : ∃ y_ : List Int, y_ = (x15_2 ++ [t675]) := ⟨_, rfl⟩
          replace H : ((impl_PolyAt.f t662 (wrap64 (x19_2 + 1))).bind fun t679 => ((impl_FieldMul.f x17_2 t679).bind fun t680 => ((impl_FieldSum.f x16_2 t680).bind fun t681 => ((impl_FieldMul.f x17_2 t644).bind fun t682 => ((impl_FieldSum.f x18_2 (rd t657 x19_2)).bind fun t684 => (laws_FnAskWhole.l0 k2 t640 t643 t644 t667 t657 y676 t681 t682 t684 (wrap64 (x19_2 + 1)) t660 t661 t662)))))) = some r := by rw [hy676]; with_reducible exact H
          have Ny676 := Aside0.mk hy676
          clear hy676
          replace H := bnd H
          obtain ⟨t679, A37, H⟩ := H
          replace H := bnd H
          obtain ⟨t680, A38, H⟩ := H
          replace H := bnd H
          obtain ⟨t681, A39, H⟩ := H
          replace H := bnd H
          obtain ⟨t682, A40, H⟩ := H
          replace H := bnd H
          obtain ⟨t684, A41, H⟩ := H
          have H' := Aside0.mk H
          clear H
          obtain ⟨Ao42, co42, eo42⟩ := Kd.V_slice HO_12.out
          subst eo42
          have p674 : 0 ≤ (x19_2 : Int) := of_decide_eq_true ‹_›
          have q674 : x19_2 < (t657.length : Int) := of_decide_eq_true ‹_›
          obtain ⟨ad674, e674, hx674_0⟩ := Kd.at_int (Kd.V_reads' HO_12.out).2.2 x19_2 p674 q674
          cases e674
          replace p674 := eq_true p674
          replace q674 := eq_true q674
          go_wp2_with (first | (refine gsD c81x19 (impl_FieldDif.calls (rd t657 x19_2) 1 t675 _ A35.out) ?_; intro nd) | ((with_reducible refine gate_builtin (b := .append) (xs := #[.tmp 96, .tmp 102]) rfl ?_); at_builtin; refine Kd.R_append (Kd.int .i64) (w0 := w) w.heap.size rfl (.tmp 96) (.tmp 102) 30 3 (.int .i64 0) 8 rfl Try.underlying30 info3 rfl (by decide) (by omega) u15 x15_2 t675 [.int .i64 t675] (fun k_ => some k_ ≠ (v669 : Value).ownBlock) (fun _ => False) rfl rfl ?aP (fun _ hk => hk.elim) ?aF ?aO ?aB ?aS ?aL ?_; (case aP => exact rfl); (case aB => exact (by repeat (with_reducible first | exact HB.out | apply below_alloc | apply pw_below_drewN | apply below_drew1 | refine below_set ?_ GE666.out))); (case aF => exact (fun k_ hk => Kd.fresh' (Kd.R_lt (HO_10.out)) k_ hk)); (case aO => exact (by (with_reducible repeat (first | apply Kd.R_alloc | apply Kd.R_drewN | apply Kd.R_drew)); exact HO_15.out)); (case aS => exact (below_size (by repeat (first | (with_reducible first | exact HB.out | apply below_alloc | apply pw_below_drewN | apply below_drew1 | refine below_set ?_ GE666.out) | exact HB.out)))); (case aL => have := LMc36.out; omega); intro v677 w43 ho hb hg hat; rw [← Ny676.out] at ho; replace HO_10 := Aside0.mk (Kd.R_after (ok := (fun _ => True)) (by (with_reducible repeat (first | apply Kd.R_alloc | apply Kd.R_drewN | apply Kd.R_drew)); exact Kd.R_mono HO_10.out (fun _ hk => ⟨trivial, hk⟩)) hg hat); replace HO_12 := Aside0.mk (Kd.V_afterv (ok := (fun k_ => some k_ ≠ (v669 : Value).ownBlock ∧ k_ ≠ gb666)) (by (with_reducible repeat (first | apply Kd.V_alloc | apply Kd.V_drewN | apply Kd.V_drew)); exact Kd.V_mono HO_12.out (fun _ hk => ⟨⟨hk.1, hk.2.2⟩, hk.2.1⟩)) hg hat); replace HO_667002 := Aside0.mk (Kd.V_afterv (ok := (fun k_ => some k_ ≠ (v669 : Value).ownBlock ∧ k_ ≠ gb666)) (by (with_reducible repeat (first | apply Kd.V_alloc | apply Kd.V_drewN | apply Kd.V_drew)); exact Kd.V_mono HO_667002.out (fun _ hk => ⟨⟨hk.1, hk.2.2⟩, hk.2.1⟩)) hg hat); replace BK666 := Aside0.mk (blk_grown (g := gb666) (o := .cells #[.int .i64 t660, .int .i64 t661, .slice Ao28 t662.length co28] 59 (0, 0)) (by (with_reducible repeat (first | refine blk_drewN ?_ _ | refine blk_drew ?_ | refine blk_alloc ?_ _)); exact BK666.out) hg (Kd.R_ne HO_15.out BK666.out (by decide))); replace HB := Aside0.mk (hb); replace HO678 := Aside0.mk (ho); clear HO_15; clear ho hb hg hat; have hcz44_0 : w43.cell? ⟨gb666, 0, none⟩ = some (.int .i64 t660) := (blk_cell BK666.out 0).trans rfl; have hcz44_1 : w43.cell? ⟨gb666, 1, none⟩ = some (.int .i64 t661) := (blk_cell BK666.out 1).trans rfl; have hcz44_2 : w43.cell? ⟨gb666, 2, none⟩ = some (.slice Ao28 t662.length co28) := (blk_cell BK666.out 2).trans rfl; have hfz44_0 := blk_frozen BK666.out 0; have hfz44_1 := blk_frozen BK666.out 1; have hfz44_2 := blk_frozen BK666.out 2) | ((with_reducible refine gate_callee (f := 67) rfl ?_); refine goesL_ (some 110) rfl rfl Try.func67 (by kernel_rfl) rfl #[.slice Ao28 t662.length co28, .int .i64 (wrap64 (x19_2 + 1))] rfl (by (try simp only [List.map_toArray, List.map_cons, List.map_nil]); first | done | rfl | (simp only [List.length_drop, List.length_take]; rfl)) ?_; (with_reducible refine (impl_PolyAt.calls _ _ t662 (wrap64 (x19_2 + 1)) t679 _ ?side1 ?side2 A37.out).mono ?_); (case side1 => repeat (first | exact (Kd.V_reads' HO_667002.out).2.2 | (with_reducible refine Kd.C_alloc ?_ _) | (with_reducible refine Kd.C_drewN ?_ _) | (with_reducible refine Kd.C_drew ?_))); (case side2 => exact (Kd.V_reads' HO_667002.out).2.1); rintro e w45 ⟨rfl, hb⟩; refine ⟨_, rfl, ?_⟩; replace HO_10 := Aside0.mk (Kd.R_below (by (with_reducible repeat (first | apply Kd.R_alloc | apply Kd.R_drewN | apply Kd.R_drew)); exact HO_10.out) hb); replace HO_12 := Aside0.mk (Kd.V_below (by (with_reducible repeat (first | apply Kd.V_alloc | apply Kd.V_drewN | apply Kd.V_drew)); exact HO_12.out) hb); replace HO_667002 := Aside0.mk (Kd.V_below (by (with_reducible repeat (first | apply Kd.V_alloc | apply Kd.V_drewN | apply Kd.V_drew)); exact HO_667002.out) hb); replace HO678 := Aside0.mk (Kd.R_below (by (with_reducible repeat (first | apply Kd.R_alloc | apply Kd.R_drewN | apply Kd.R_drew)); exact HO678.out) hb); replace BK666 := Aside0.mk (blk_below (g := gb666) (o := .cells #[.int .i64 t660, .int .i64 t661, .slice Ao28 t662.length co28] 59 (0, 0)) (by (with_reducible repeat (first | refine blk_drewN ?_ _ | refine blk_drew ?_ | refine blk_alloc ?_ _)); exact BK666.out) hb); replace HB := Aside0.mk (below_step (by repeat (first | (with_reducible first | exact HB.out | apply below_alloc | apply pw_below_drewN | apply below_drew1 | refine below_set ?_ GE666.out) | exact HB.out)) hb); clear hb) | (refine gsD c68x19 (impl_FieldMul.calls x17_2 t679 t680 _ A38.out) ?_; intro nd) | (refine gsD c82x19 (impl_FieldSum.calls x16_2 t680 t681 _ A39.out) ?_; intro nd) | (refine gsD c68x19 (impl_FieldMul.calls x17_2 t644 t682 _ A40.out) ?_; intro nd; have p683 : 0 ≤ (x19_2 : Int) := of_decide_eq_true (by first | (with_reducible assumption) | assumption); have q683 : x19_2 < (t657.length : Int) := of_decide_eq_true (by first | (with_reducible assumption) | assumption); obtain ⟨ad683, e683, hx683_0⟩ := Kd.at_int (Kd.V_reads' HO_12.out).2.2 x19_2 p683 q683; obtain rfl : ad674 = ad683 := (by injection e683); replace p683 := eq_true p683; replace q683 := eq_true q683) | (refine gsD c82x19 (impl_FieldSum.calls x18_2 (rd t657 x19_2) t684 _ A41.out) ?_; intro nd))
          go_roundg k2
          case measure => have := HJ5.out; have := HK2.out; omega
          case rel => exact ⟨(y676), (t681), (t682), (t684), (wrap64 (x19_2 + 1)), (by first | rfl | (simp; done) | (simp [*]; done)), (by first | rfl | (simp; done) | (simp [*]; done)), (by first | rfl | (simp; done) | (simp [*]; done)), (by first | rfl | (simp; done) | (simp [*]; done)), H', ⟨by have := HJ5.out; have := HK2.out; omega⟩, ⟨by (with_reducible repeat (first | apply Kd.R_alloc | apply Kd.R_drewN | apply Kd.R_drew)); exact Kd.R_mono HO_10.out (fun _ hk => hk.2)⟩, ⟨by (with_reducible repeat (first | apply Kd.V_alloc | apply Kd.V_drewN | apply Kd.V_drew)); exact Kd.V_mono HO_12.out (fun _ hk => ⟨hk.1.1, ⟨hk.2, hk.1.2⟩⟩)⟩, ⟨HO678.out⟩, ⟨by (with_reducible repeat (first | apply Kd.V_alloc | apply Kd.V_drewN | apply Kd.V_drew)); exact Kd.V_mono HO_667002.out (fun _ hk => ⟨hk.1.1, ⟨hk.2, hk.1.2⟩⟩)⟩, ⟨by exact BK666.out⟩, ⟨by repeat (with_reducible first | exact HB.out | apply below_alloc | apply pw_below_drewN | apply below_drew1 | refine below_set ?_ GE666.out)⟩⟩
         ·rw [if_neg c36] at H
          exact absurd H (by simp)
        ·rw [if_neg c34] at H
         exact absurd H (by simp)
       ·rw [if_neg c33] at H
        have c33b0 : decide (x19_2 < (t657.length : Int)) = false := decide_eq_false c33
        clear c33
        have HC46 := Aside0.mk H
        clear H
        obtain ⟨Ao47, co47, eo47⟩ := Kd.V_slice HO_12.out
        subst eo47
        go_upto_if 123 with (fail)
        go_cut [16] (fun v16 wc => ∃ (kq : Nat) (x16_45 : Int), v16 = .int .i64 x16_45 ∧ Aside0 (laws_FnAskWhole.j2 kq t643 t667 t657 x15_2 x16_45 t660 t661 t662 = some r) ∧ Aside0 (kq ≤ k2) ∧ Aside0 (Kd.R (Kd.int .i64) 3 wc w.heap.size (fun k_ => some k_ ≠ (u15 : Value).ownBlock) v669 t667) ∧ Aside0 (Kd.V (Kd.int .i64) 3 wc w.heap.size (fun k_ => some k_ ≠ (v669 : Value).ownBlock ∧ some k_ ≠ (u15 : Value).ownBlock ∧ k_ ≠ gb666) (.slice Ao47 t657.length co47) t657) ∧ Aside0 (Kd.R (Kd.int .i64) 3 wc w.heap.size (fun k_ => some k_ ≠ (v669 : Value).ownBlock) u15 x15_2) ∧ Aside0 (Kd.V (Kd.int .i64) 3 wc w.heap.size (fun k_ => some k_ ≠ (v669 : Value).ownBlock ∧ some k_ ≠ (u15 : Value).ownBlock ∧ k_ ≠ gb666) (.slice Ao28 t662.length co28) t662) ∧ Aside0 (wc.heap[gb666]? = some (.cells #[.int .i64 t660, .int .i64 t661, (.slice Ao28 t662.length co28)] 59 (0, 0))) ∧ Aside0 (Below w.heap.size w wc))
        case first =>
         have H := HC46.out
         clear HC46
         by_cases c48 : t640 = 2
         ·rw [if_pos c48] at H
          have c48b0 : (t640 == 2) = true := beq_iff_eq.mpr c48
          have c48b1 : (t640 != 2) = false := bne_eq_false_iff_eq.mpr c48
          clear c48
          (first | rw [c48b0] | (simp only [i64_w, i32_w]; rw [c48b0]) | skip)
          replace H := bnd H
          obtain ⟨t685, A49, H⟩ := H
          replace H := bnd H
          obtain ⟨t686, A50, H⟩ := H
          replace H := bnd H
          obtain ⟨t687, A51, H⟩ := H
          have H' := Aside0.mk H
          clear H
          go_wp2_with (first | (refine gsD c81x19 (impl_FieldDif.calls x18_2 1 t685 _ A49.out) ?_; intro nd) | (refine gsD c68x19 (impl_FieldMul.calls x17_2 t685 t686 _ A50.out) ?_; intro nd) | (refine gsD c82x19 (impl_FieldSum.calls x16_2 t686 t687 _ A51.out) ?_; intro nd))
          go_meet
          case rel => exact ⟨_, (t687), (by simp [*]), H', ⟨by have := HJ5.out; have := HK2.out; first | omega | exact Nat.le_refl _⟩, ⟨HO_10.out⟩, ⟨by (with_reducible repeat (first | apply Kd.V_alloc | apply Kd.V_drewN | apply Kd.V_drew)); exact HO_12.out⟩, ⟨HO_15.out⟩, ⟨by (with_reducible repeat (first | apply Kd.V_alloc | apply Kd.V_drewN | apply Kd.V_drew)); exact HO_667002.out⟩, ⟨by exact BK666.out⟩, ⟨by repeat (with_reducible first | exact HB.out | apply below_alloc | apply pw_below_drewN | apply below_drew1 | refine below_set ?_ GE666.out)⟩⟩
         ·rw [if_neg c48] at H
          have c48b0 : (t640 == 2) = false := beq_eq_false_iff_ne.mpr c48
          have c48b1 : (t640 != 2) = true := bne_iff_ne.mpr c48
          (first | rw [c48b0] | (simp only [i64_w, i32_w]; rw [c48b0]) | skip)
          have H' := Aside0.mk H
          clear H
          go_wp2
          go_meet
          case rel => exact ⟨_, (x16_2), (by simp [*]), H', ⟨by have := HJ5.out; have := HK2.out; first | omega | exact Nat.le_refl _⟩, ⟨HO_10.out⟩, ⟨by (with_reducible repeat (first | apply Kd.V_alloc | apply Kd.V_drewN | apply Kd.V_drew)); exact HO_12.out⟩, ⟨HO_15.out⟩, ⟨by (with_reducible repeat (first | apply Kd.V_alloc | apply Kd.V_drewN | apply Kd.V_drew)); exact HO_667002.out⟩, ⟨by exact BK666.out⟩, ⟨by repeat (with_reducible first | exact HB.out | apply below_alloc | apply pw_below_drewN | apply below_drew1 | refine below_set ?_ GE666.out)⟩⟩
        case rest =>
         clear HC46
         try clear c1
         try clear c2
         try clear c2b0
         try clear c2b1
         try clear p2
         try clear c3
         try clear c4
         try clear c6
         try clear p6
         try clear q6
         try clear hx6
         try clear c7
         try clear c8
         try clear c11
         try clear c11b0
         try clear c11b1
         try clear c11b2
         try clear c13
         try clear c18
         try clear c19
         try clear c19b0
         try clear c19b1
         try clear c19b2
         try clear c23
         try clear c33
         try clear c33b0
         try clear c34
         try clear c34b0
         try clear c36
         try clear c48
         try clear c48b0
         try clear c48b1
         try clear hcz27_0
         try clear hcz27_1
         try clear hcz27_2
         try clear hcz30_0
         try clear hcz30_1
         try clear hcz30_2
         try clear hcz44_0
         try clear hcz44_1
         try clear hcz44_2
         try clear hfz27_0
         try clear hfz27_1
         try clear hfz27_2
         try clear hfz30_0
         try clear hfz30_1
         try clear hfz30_2
         try clear hfz44_0
         try clear hfz44_1
         try clear hfz44_2
         try clear hx674_0
         try clear hx683_0
         try clear p2
         try clear p674
         try clear p683
         try clear q674
         try clear q683
         obtain ⟨kq, x16_45, rfl, HA, HJ45, HO_10, HO_12, HO_15, HO_667002, BK666, HB⟩ := hcut
         cases kq with
         | zero => exact absurd HA.out (by simp [laws_FnAskWhole.j2])
         | succ kj45 =>
          have H := HA.out
          clear HA
          simp only [laws_FnAskWhole.j2] at H
          obtain ⟨y688, hy688⟩ : ∃ y_ : List Int, y_ = (([t660] : List Int)) := ⟨_, rfl⟩
          replace H : (if y688.length + t657.length < 17592186044416 then ((impl_PolyThrough.f (y688 ++ t657)).bind fun t694 => ((impl_PolyAt.f t694 t643).bind fun t697 => ((impl_PolyThrough.f x15_2).bind fun t698 => ((impl_PolyAt.f t698 t643).bind fun t701 => ((impl_PolyAt.f t662 t643).bind fun t702 => ((laws_loInts.f kj45 t667 (([t697, t701, t702, x16_45] : List Int))).bind fun t706 => (some t706))))))) else (none)) = some r := by first | (rw [hy688]; with_reducible exact H) | (have H2_ := (Option.bind_some _ _).symm.trans H; rw [hy688]; with_reducible exact H2_) | (have H2_ := (Option.bind_some _ _).symm.trans H; with_reducible exact H2_) | with_reducible exact H | (rw [hy688]; exact H) | exact H
          have Ny688 := Aside0.mk hy688
          clear hy688
          by_cases c52 : y688.length + t657.length < 17592186044416
          ·rw [if_pos c52] at H
           have LMc52 := Aside0.mk c52
           clear c52
           obtain ⟨y691, hy691⟩ : ∃ y_ : List Int, y_ = (y688 ++ t657) := ⟨_, rfl⟩
           replace H : ((impl_PolyThrough.f y691).bind fun t694 => ((impl_PolyAt.f t694 t643).bind fun t697 => ((impl_PolyThrough.f x15_2).bind fun t698 => ((impl_PolyAt.f t698 t643).bind fun t701 => ((impl_PolyAt.f t662 t643).bind fun t702 => ((laws_loInts.f kj45 t667 (([t697, t701, t702, x16_45] : List Int))).bind fun t706 => (some t706))))))) = some r := by rw [hy691]; with_reducible exact H
           have Ny691 := Aside0.mk hy691
           clear hy691
           replace H := bnd H
           obtain ⟨t694, A53, H⟩ := H
           replace H := bnd H
           obtain ⟨t697, A54, H⟩ := H
           replace H := bnd H
           obtain ⟨t698, A55, H⟩ := H
           replace H := bnd H
           obtain ⟨t701, A56, H⟩ := H
           replace H := bnd H
           obtain ⟨t702, A57, H⟩ := H
           obtain ⟨y703, hy703⟩ : ∃ y_ : List Int, y_ = (([t697, t701, t702, x16_45] : List Int)) := ⟨_, rfl⟩
           replace H : ((laws_loInts.f kj45 t667 y703).bind fun t706 => (some t706)) = some r := by rw [hy703]; with_reducible exact H
           have Ny703 := Aside0.mk hy703
           clear hy703
           replace H := bnd H
           obtain ⟨t706, A58, H⟩ := H
           obtain rfl := Option.some.inj H
           have hcz59_0 : wc.cell? ⟨gb666, 0, none⟩ = some (.int .i64 t660) := (blk_cell BK666.out 0).trans rfl
           have hcz59_1 : wc.cell? ⟨gb666, 1, none⟩ = some (.int .i64 t661) := (blk_cell BK666.out 1).trans rfl
           have hcz59_2 : wc.cell? ⟨gb666, 2, none⟩ = some (.slice Ao28 t662.length co28) := (blk_cell BK666.out 2).trans rfl
           have hfz59_0 := blk_frozen BK666.out 0
           have hfz59_1 := blk_frozen BK666.out 1
           have hfz59_2 := blk_frozen BK666.out 2
           go_wp2_with (first | ((with_reducible refine gate_dst (N := 132) rfl ?_); refine Kd.R_lit (Kd.int .i64) _ 3 ?hg (N := 132) ?hd (xs := ([t660] : List Int)) (inner := [.int .i64 t660]) (ok := fun _ => True) (okp := fun _ => True) ?hr ?hp (fun _ hk => hk) trivial (Below.refl _ _) (Nat.le_refl _) (by simp) ?_; (case hd => rfl); (case hg => rfl); (case hr => first | (go_simp; done) | (go_simp; rfl)); (case hp => exact (Reps.one (show Kd.M (Kd.int .i64) _ _ _ t660 [.int .i64 t660] from rfl) (Reps.none _ _))); intro v689 w60 ho61 hb hg_ hnew_; clear hg_ hnew_; (first | rw [← Ny688.out] at ho61 | (simp only [Int.reduceToNat] at ho61; rw [← Ny688.out] at ho61)); replace HO_12 := Aside0.mk (Kd.V_elder' (by (with_reducible repeat (first | apply Kd.V_alloc | apply Kd.V_drewN | apply Kd.V_drew)); exact HO_12.out) (Kd.R_base ho61) hb); replace HO_667002 := Aside0.mk (Kd.V_elder' (by (with_reducible repeat (first | apply Kd.V_alloc | apply Kd.V_drewN | apply Kd.V_drew)); exact HO_667002.out) (Kd.R_base ho61) hb); replace HO690 := Aside0.mk (Kd.R_lower (Kd.R_new' (Kd.R_new' ho61 (Kd.R_lt (HO_10.out))) (Kd.R_lt (HO_15.out))) (below_size (HB.out))); replace HO_10 := Aside0.mk (Kd.R_elder' (HO_10.out) (Kd.R_base ho61) hb); replace HO_15 := Aside0.mk (Kd.R_elder' (HO_15.out) (Kd.R_base ho61) hb); replace BK666 := Aside0.mk (blk_below (g := gb666) (o := .cells #[.int .i64 t660, .int .i64 t661, .slice Ao28 t662.length co28] 59 (0, 0)) (by exact BK666.out) hb); replace HB := Aside0.mk (below_step (HB.out) hb); clear hb ho61) | ((with_reducible refine gate_builtin (b := .append) (xs := #[.tmp 132, .tmp 133]) rfl ?_); at_builtin; refine Kd.R_append_rows (Kd.int .i64) (w0 := w) w.heap.size rfl (.tmp 132) (.tmp 133) 30 3 (.int .i64 0) 8 rfl Try.underlying30 info3 rfl (by decide) (by omega) v689 y688 t657 _ _ _ (fun k_ => some k_ ≠ (v669 : Value).ownBlock ∧ some k_ ≠ (u15 : Value).ownBlock) (fun _ => False) rfl rfl ?aO ?aR (fun _ _ h => h) (fun _ h => h.elim) ?aF ?aB ?aS ?aL ?_; (case aR => exact (Kd.V_reads' HO_12.out).2.2); (case aB => exact (HB.out)); (case aF => exact (fun k_ hk => ⟨Kd.fresh' (Kd.R_lt (HO_10.out)) k_ hk, Kd.fresh' (Kd.R_lt (HO_15.out)) k_ hk⟩)); (case aO => exact (Kd.R_mono HO690.out (fun _ hk => ⟨hk.1.2, hk.2⟩))); (case aS => exact (below_size (HB.out))); (case aL => have := LMc52.out; omega); intro v692 w62 ho hb hg hat; rw [← Ny691.out] at ho; replace HO_10 := Aside0.mk (Kd.R_after (ok := (fun k_ => some k_ ≠ (u15 : Value).ownBlock)) (HO_10.out) hg hat); replace HO_12 := Aside0.mk (Kd.V_afterv (ok := (fun k_ => some k_ ≠ (v669 : Value).ownBlock ∧ some k_ ≠ (u15 : Value).ownBlock ∧ k_ ≠ gb666)) (by (with_reducible repeat (first | apply Kd.V_alloc | apply Kd.V_drewN | apply Kd.V_drew)); exact HO_12.out) hg hat); replace HO_15 := Aside0.mk (Kd.R_after (ok := (fun k_ => some k_ ≠ (v669 : Value).ownBlock)) (HO_15.out) hg hat); replace HO_667002 := Aside0.mk (Kd.V_afterv (ok := (fun k_ => some k_ ≠ (v669 : Value).ownBlock ∧ some k_ ≠ (u15 : Value).ownBlock ∧ k_ ≠ gb666)) (by (with_reducible repeat (first | apply Kd.V_alloc | apply Kd.V_drewN | apply Kd.V_drew)); exact HO_667002.out) hg hat); replace BK666 := Aside0.mk (blk_grown (g := gb666) (o := .cells #[.int .i64 t660, .int .i64 t661, .slice Ao28 t662.length co28] 59 (0, 0)) (by exact BK666.out) hg (Kd.R_ne HO690.out BK666.out (by decide))); replace HB := Aside0.mk (hb); replace HO693 := Aside0.mk (ho); clear HO690; clear ho hb hg hat; obtain ⟨Ao63, co63, eo63⟩ := Kd.R_slice HO693.out; subst eo63) | ((with_reducible refine gate_callee (f := 83) rfl ?_); refine goesL_ (some 135) rfl rfl Try.func83 (by kernel_rfl) rfl #[.slice Ao63 y691.length co63] rfl (by (try simp only [List.map_toArray, List.map_cons, List.map_nil]); first | done | rfl | (simp only [List.length_drop, List.length_take]; rfl)) ?_; (with_reducible refine (impl_PolyThrough.calls _ _ y691 t694 _ ?side1 ?side2 A53.out).mono ?_); (case side1 => repeat (first | exact (Kd.R_reads' HO693.out).2.2 | (with_reducible refine Kd.C_alloc ?_ _) | (with_reducible refine Kd.C_drewN ?_ _) | (with_reducible refine Kd.C_drew ?_))); (case side2 => exact (Kd.R_reads' HO693.out).2.1); rintro e w64 ⟨v695, rfl, ho0, hb⟩; refine ⟨_, rfl, ?_⟩; replace HO_12 := Aside0.mk (Kd.V_elder' (by (with_reducible repeat (first | apply Kd.V_alloc | apply Kd.V_drewN | apply Kd.V_drew)); exact HO_12.out) (Kd.R_base ho0) hb); replace HO_667002 := Aside0.mk (Kd.V_elder' (by (with_reducible repeat (first | apply Kd.V_alloc | apply Kd.V_drewN | apply Kd.V_drew)); exact HO_667002.out) (Kd.R_base ho0) hb); replace HO696 := Aside0.mk (Kd.R_lower (Kd.R_new' (Kd.R_new' (Kd.R_new' ho0 (Kd.R_lt (HO_10.out))) (Kd.R_lt (HO_15.out))) (Kd.R_lt (HO693.out))) (below_size (by repeat (with_reducible first | exact HB.out | apply below_alloc | apply pw_below_drewN | apply below_drew1 | refine below_set ?_ GE666.out)))); replace HO_10 := Aside0.mk (Kd.R_elder' (HO_10.out) (Kd.R_base ho0) hb); replace HO_15 := Aside0.mk (Kd.R_elder' (HO_15.out) (Kd.R_base ho0) hb); replace HO693 := Aside0.mk (Kd.R_elder' (HO693.out) (Kd.R_base ho0) hb); replace BK666 := Aside0.mk (blk_below (g := gb666) (o := .cells #[.int .i64 t660, .int .i64 t661, .slice Ao28 t662.length co28] 59 (0, 0)) (by exact BK666.out) hb); replace HB := Aside0.mk (below_step (by repeat (with_reducible first | exact HB.out | apply below_alloc | apply pw_below_drewN | apply below_drew1 | refine below_set ?_ GE666.out)) hb); (try clear hb); (try clear hb2); (try clear hk); (try clear hi); (try clear ho0); obtain ⟨Ao65, co65, eo65⟩ := Kd.R_slice HO696.out; subst eo65) | ((with_reducible refine gate_callee (f := 67) rfl ?_); refine goesL_ (some 137) rfl rfl Try.func67 (by kernel_rfl) rfl #[.slice Ao65 t694.length co65, .int .i64 t643] rfl (by (try simp only [List.map_toArray, List.map_cons, List.map_nil]); first | done | rfl | (simp only [List.length_drop, List.length_take]; rfl)) ?_; (with_reducible refine (impl_PolyAt.calls _ _ t694 t643 t697 _ ?side1 ?side2 A54.out).mono ?_); (case side1 => repeat (first | exact (Kd.R_reads' HO696.out).2.2 | (with_reducible refine Kd.C_alloc ?_ _) | (with_reducible refine Kd.C_drewN ?_ _) | (with_reducible refine Kd.C_drew ?_))); (case side2 => exact (Kd.R_reads' HO696.out).2.1); rintro e w66 ⟨rfl, hb⟩; refine ⟨_, rfl, ?_⟩; replace HO_10 := Aside0.mk (Kd.R_below (HO_10.out) hb); replace HO_12 := Aside0.mk (Kd.V_below (by (with_reducible repeat (first | apply Kd.V_alloc | apply Kd.V_drewN | apply Kd.V_drew)); exact HO_12.out) hb); replace HO_15 := Aside0.mk (Kd.R_below (HO_15.out) hb); replace HO_667002 := Aside0.mk (Kd.V_below (by (with_reducible repeat (first | apply Kd.V_alloc | apply Kd.V_drewN | apply Kd.V_drew)); exact HO_667002.out) hb); replace HO693 := Aside0.mk (Kd.R_below (HO693.out) hb); replace HO696 := Aside0.mk (Kd.R_below (HO696.out) hb); replace BK666 := Aside0.mk (blk_below (g := gb666) (o := .cells #[.int .i64 t660, .int .i64 t661, .slice Ao28 t662.length co28] 59 (0, 0)) (by exact BK666.out) hb); replace HB := Aside0.mk (below_step (by repeat (with_reducible first | exact HB.out | apply below_alloc | apply pw_below_drewN | apply below_drew1 | refine below_set ?_ GE666.out)) hb); (try clear hb); (try clear hb2); (try clear hk); (try clear hi); obtain ⟨Ao67, co67, eo67⟩ := Kd.R_slice HO_15.out; subst eo67) | ((with_reducible refine gate_callee (f := 83) rfl ?_); refine goesL_ (some 139) rfl rfl Try.func83 (by kernel_rfl) rfl #[.slice Ao67 x15_2.length co67] rfl (by (try simp only [List.map_toArray, List.map_cons, List.map_nil]); first | done | rfl | (simp only [List.length_drop, List.length_take]; rfl)) ?_; (with_reducible refine (impl_PolyThrough.calls _ _ x15_2 t698 _ ?side1 ?side2 A55.out).mono ?_); (case side1 => repeat (first | exact (Kd.R_reads' HO_15.out).2.2 | (with_reducible refine Kd.C_alloc ?_ _) | (with_reducible refine Kd.C_drewN ?_ _) | (with_reducible refine Kd.C_drew ?_))); (case side2 => exact (Kd.R_reads' HO_15.out).2.1); rintro e w68 ⟨v699, rfl, ho0, hb⟩; refine ⟨_, rfl, ?_⟩; replace HO_12 := Aside0.mk (Kd.V_elder' (by (with_reducible repeat (first | apply Kd.V_alloc | apply Kd.V_drewN | apply Kd.V_drew)); exact HO_12.out) (Kd.R_base ho0) hb); replace HO_667002 := Aside0.mk (Kd.V_elder' (by (with_reducible repeat (first | apply Kd.V_alloc | apply Kd.V_drewN | apply Kd.V_drew)); exact HO_667002.out) (Kd.R_base ho0) hb); replace HO700 := Aside0.mk (Kd.R_lower (Kd.R_new' (Kd.R_new' (Kd.R_new' (Kd.R_new' ho0 (Kd.R_lt (HO_10.out))) (Kd.R_lt (HO_15.out))) (Kd.R_lt (HO693.out))) (Kd.R_lt (HO696.out))) (below_size (by repeat (with_reducible first | exact HB.out | apply below_alloc | apply pw_below_drewN | apply below_drew1 | refine below_set ?_ GE666.out)))); replace HO_10 := Aside0.mk (Kd.R_elder' (HO_10.out) (Kd.R_base ho0) hb); replace HO_15 := Aside0.mk (Kd.R_elder' (HO_15.out) (Kd.R_base ho0) hb); replace HO693 := Aside0.mk (Kd.R_elder' (HO693.out) (Kd.R_base ho0) hb); replace HO696 := Aside0.mk (Kd.R_elder' (HO696.out) (Kd.R_base ho0) hb); replace BK666 := Aside0.mk (blk_below (g := gb666) (o := .cells #[.int .i64 t660, .int .i64 t661, .slice Ao28 t662.length co28] 59 (0, 0)) (by exact BK666.out) hb); replace HB := Aside0.mk (below_step (by repeat (with_reducible first | exact HB.out | apply below_alloc | apply pw_below_drewN | apply below_drew1 | refine below_set ?_ GE666.out)) hb); (try clear hb); (try clear hb2); (try clear hk); (try clear hi); (try clear ho0); obtain ⟨Ao69, co69, eo69⟩ := Kd.R_slice HO700.out; subst eo69) | ((with_reducible refine gate_callee (f := 67) rfl ?_); refine goesL_ (some 141) rfl rfl Try.func67 (by kernel_rfl) rfl #[.slice Ao69 t698.length co69, .int .i64 t643] rfl (by (try simp only [List.map_toArray, List.map_cons, List.map_nil]); first | done | rfl | (simp only [List.length_drop, List.length_take]; rfl)) ?_; (with_reducible refine (impl_PolyAt.calls _ _ t698 t643 t701 _ ?side1 ?side2 A56.out).mono ?_); (case side1 => repeat (first | exact (Kd.R_reads' HO700.out).2.2 | (with_reducible refine Kd.C_alloc ?_ _) | (with_reducible refine Kd.C_drewN ?_ _) | (with_reducible refine Kd.C_drew ?_))); (case side2 => exact (Kd.R_reads' HO700.out).2.1); rintro e w70 ⟨rfl, hb⟩; refine ⟨_, rfl, ?_⟩; replace HO_10 := Aside0.mk (Kd.R_below (HO_10.out) hb); replace HO_12 := Aside0.mk (Kd.V_below (by (with_reducible repeat (first | apply Kd.V_alloc | apply Kd.V_drewN | apply Kd.V_drew)); exact HO_12.out) hb); replace HO_15 := Aside0.mk (Kd.R_below (HO_15.out) hb); replace HO_667002 := Aside0.mk (Kd.V_below (by (with_reducible repeat (first | apply Kd.V_alloc | apply Kd.V_drewN | apply Kd.V_drew)); exact HO_667002.out) hb); replace HO693 := Aside0.mk (Kd.R_below (HO693.out) hb); replace HO696 := Aside0.mk (Kd.R_below (HO696.out) hb); replace HO700 := Aside0.mk (Kd.R_below (HO700.out) hb); replace BK666 := Aside0.mk (blk_below (g := gb666) (o := .cells #[.int .i64 t660, .int .i64 t661, .slice Ao28 t662.length co28] 59 (0, 0)) (by exact BK666.out) hb); replace HB := Aside0.mk (below_step (by repeat (with_reducible first | exact HB.out | apply below_alloc | apply pw_below_drewN | apply below_drew1 | refine below_set ?_ GE666.out)) hb); (try clear hb); (try clear hb2); (try clear hk); (try clear hi); have hcz71_0 : w70.cell? ⟨gb666, 0, none⟩ = some (.int .i64 t660) := (blk_cell BK666.out 0).trans rfl; have hcz71_1 : w70.cell? ⟨gb666, 1, none⟩ = some (.int .i64 t661) := (blk_cell BK666.out 1).trans rfl; have hcz71_2 : w70.cell? ⟨gb666, 2, none⟩ = some (.slice Ao28 t662.length co28) := (blk_cell BK666.out 2).trans rfl; have hfz71_0 := blk_frozen BK666.out 0; have hfz71_1 := blk_frozen BK666.out 1; have hfz71_2 := blk_frozen BK666.out 2) | ((with_reducible refine gate_callee (f := 67) rfl ?_); refine goesL_ (some 148) rfl rfl Try.func67 (by kernel_rfl) rfl #[.slice Ao28 t662.length co28, .int .i64 t643] rfl (by (try simp only [List.map_toArray, List.map_cons, List.map_nil]); first | done | rfl | (simp only [List.length_drop, List.length_take]; rfl)) ?_; (with_reducible refine (impl_PolyAt.calls _ _ t662 t643 t702 _ ?side1 ?side2 A57.out).mono ?_); (case side1 => repeat (first | exact (Kd.V_reads' HO_667002.out).2.2 | (with_reducible refine Kd.C_alloc ?_ _) | (with_reducible refine Kd.C_drewN ?_ _) | (with_reducible refine Kd.C_drew ?_))); (case side2 => exact (Kd.V_reads' HO_667002.out).2.1); rintro e w72 ⟨rfl, hb⟩; refine ⟨_, rfl, ?_⟩; replace HO_10 := Aside0.mk (Kd.R_below (HO_10.out) hb); replace HO_12 := Aside0.mk (Kd.V_below (by (with_reducible repeat (first | apply Kd.V_alloc | apply Kd.V_drewN | apply Kd.V_drew)); exact HO_12.out) hb); replace HO_15 := Aside0.mk (Kd.R_below (HO_15.out) hb); replace HO_667002 := Aside0.mk (Kd.V_below (by (with_reducible repeat (first | apply Kd.V_alloc | apply Kd.V_drewN | apply Kd.V_drew)); exact HO_667002.out) hb); replace HO693 := Aside0.mk (Kd.R_below (HO693.out) hb); replace HO696 := Aside0.mk (Kd.R_below (HO696.out) hb); replace HO700 := Aside0.mk (Kd.R_below (HO700.out) hb); replace BK666 := Aside0.mk (blk_below (g := gb666) (o := .cells #[.int .i64 t660, .int .i64 t661, .slice Ao28 t662.length co28] 59 (0, 0)) (by exact BK666.out) hb); replace HB := Aside0.mk (below_step (by repeat (with_reducible first | exact HB.out | apply below_alloc | apply pw_below_drewN | apply below_drew1 | refine below_set ?_ GE666.out)) hb); clear hb) | ((with_reducible refine gate_dst (N := 150) rfl ?_); refine Kd.R_lit (Kd.int .i64) _ 3 ?hg (N := 150) ?hd (xs := ([t697, t701, t702, x16_45] : List Int)) (inner := [.int .i64 t697, .int .i64 t701, .int .i64 t702, .int .i64 x16_45]) (ok := fun _ => True) (okp := fun _ => True) ?hr ?hp (fun _ hk => hk) trivial (Below.refl _ _) (Nat.le_refl _) (by simp) ?_; (case hd => rfl); (case hg => rfl); (case hr => first | (go_simp; done) | (go_simp; rfl)); (case hp => exact (Reps.one (show Kd.M (Kd.int .i64) _ _ _ t697 [.int .i64 t697] from rfl) (Reps.one (show Kd.M (Kd.int .i64) _ _ _ t701 [.int .i64 t701] from rfl) (Reps.one (show Kd.M (Kd.int .i64) _ _ _ t702 [.int .i64 t702] from rfl) (Reps.one (show Kd.M (Kd.int .i64) _ _ _ x16_45 [.int .i64 x16_45] from rfl) (Reps.none _ _)))))); intro v704 w73 ho74 hb hg_ hnew_; clear hg_ hnew_; (first | rw [← Ny703.out] at ho74 | (simp only [Int.reduceToNat] at ho74; rw [← Ny703.out] at ho74)); replace HO_12 := Aside0.mk (Kd.V_elder' (by (with_reducible repeat (first | apply Kd.V_alloc | apply Kd.V_drewN | apply Kd.V_drew)); exact HO_12.out) (Kd.R_base ho74) hb); replace HO_667002 := Aside0.mk (Kd.V_elder' (by (with_reducible repeat (first | apply Kd.V_alloc | apply Kd.V_drewN | apply Kd.V_drew)); exact HO_667002.out) (Kd.R_base ho74) hb); replace HO705 := Aside0.mk (Kd.R_lower (Kd.R_new' (Kd.R_new' (Kd.R_new' (Kd.R_new' (Kd.R_new' ho74 (Kd.R_lt (HO_10.out))) (Kd.R_lt (HO_15.out))) (Kd.R_lt (HO693.out))) (Kd.R_lt (HO696.out))) (Kd.R_lt (HO700.out))) (below_size (by repeat (with_reducible first | exact HB.out | apply below_alloc | apply pw_below_drewN | apply below_drew1 | refine below_set ?_ GE666.out)))); replace HO_10 := Aside0.mk (Kd.R_elder' (HO_10.out) (Kd.R_base ho74) hb); replace HO_15 := Aside0.mk (Kd.R_elder' (HO_15.out) (Kd.R_base ho74) hb); replace HO693 := Aside0.mk (Kd.R_elder' (HO693.out) (Kd.R_base ho74) hb); replace HO696 := Aside0.mk (Kd.R_elder' (HO696.out) (Kd.R_base ho74) hb); replace HO700 := Aside0.mk (Kd.R_elder' (HO700.out) (Kd.R_base ho74) hb); replace BK666 := Aside0.mk (blk_below (g := gb666) (o := .cells #[.int .i64 t660, .int .i64 t661, .slice Ao28 t662.length co28] 59 (0, 0)) (by exact BK666.out) hb); replace HB := Aside0.mk (below_step (by repeat (with_reducible first | exact HB.out | apply below_alloc | apply pw_below_drewN | apply below_drew1 | refine below_set ?_ GE666.out)) hb); clear hb ho74; obtain ⟨Ao75, co75, eo75⟩ := Kd.R_slice HO_10.out; subst eo75; obtain ⟨Ao76, co76, eo76⟩ := Kd.R_slice HO705.out; subst eo76) | ((with_reducible refine gate_callee (f := 77) rfl ?_); refine goesL_ (some 151) rfl rfl Try.func77 (by kernel_rfl) rfl #[.slice Ao75 t667.length co75, .slice Ao76 y703.length co76] rfl (by (try simp only [List.map_toArray, List.map_cons, List.map_nil]); first | done | rfl | (simp only [List.length_drop, List.length_take]; rfl)) ?_; (with_reducible refine (laws_loInts.calls kj45 _ _ t667 _ _ y703 t706 _ ?side1 ?side2 ?side3 ?side4 A58.out).mono ?_); (case side1 => repeat (first | exact (Kd.R_reads' HO_10.out).2.2 | (with_reducible refine Kd.C_alloc ?_ _) | (with_reducible refine Kd.C_drewN ?_ _) | (with_reducible refine Kd.C_drew ?_))); (case side2 => exact (Kd.R_reads' HO_10.out).2.1); (case side3 => repeat (first | exact (Kd.R_reads' HO705.out).2.2 | (with_reducible refine Kd.C_alloc ?_ _) | (with_reducible refine Kd.C_drewN ?_ _) | (with_reducible refine Kd.C_drew ?_))); (case side4 => exact (Kd.R_reads' HO705.out).2.1); rintro e w' ⟨rfl, ⟨nd, rfl⟩⟩; refine ⟨_, rfl, ?_⟩))
           go_ret
           exact ⟨by simp [*, errW_none, errW_some] <;> rfl, by repeat (with_reducible first | exact HB.out | apply below_alloc | apply pw_below_drewN | apply below_drew1 | refine below_set ?_ GE666.out)⟩
          ·rw [if_neg c52] at H
           exact absurd H (by simp)
def laws_FnAskWhole.Pure : Prop := ∀ (l0 : List Int), l0.length ≤ maxLen → l0.length * 1 ≤ 140737488351232 → (∀ x ∈ l0, (Lit.int .u8 x).wf = true) → ∃ k, laws_FnAskWhole.f k l0 = some true
theorem laws_FnAskWhole.walk (P : laws_FnAskWhole.Pure) (a0 : Option Addr) (len0 cap0 : Nat) (z0 : List Int) (w : World) (w0 : (a0 = none ∧ len0 = 0 ∧ cap0 = 0 ∧ z0 = []) ∨ ∃ x, a0 = some x ∧ len0 ≤ cap0 ∧ cap0 ≤ maxLen ∧ z0.length = cap0 ∧ (∀ i, i < z0.length → w.cell? (x.add i) = some (.int .u8 (z0.getD i 0))) ∧ ∀ n ∈ z0, (Lit.int .u8 n).wf = true) (y0 : len0 * 1 ≤ 140737488351232) :
  Calls Try.prog 23 #[.slice a0 len0 cap0] w fun e w' => e = .returned (.bool true) ∧ Below w.heap.size w w' := by
 obtain ⟨l0, rfl, hr0, hm0, hw0, hc0⟩ := ReadsInt.ofRowC w0
 obtain ⟨k, h⟩ := P l0 hm0 y0 hw0
 refine (laws_FnAskWhole.calls k _ _ l0 true w (Kd.C_of_reads (d := (0 : Int)) (h1 := fun _ => rfl) hr0) hc0 h).mono ?_
 rintro e w' ⟨rfl, hd⟩
 exact ⟨rfl, hd⟩
end Go.Proofs.Ytplbobmllflniaa.Ea
