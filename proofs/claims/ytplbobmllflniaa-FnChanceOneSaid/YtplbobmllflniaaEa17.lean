import Derived.Test.YtplbobmllflniaaZ
import Derived.Test.YtplbobmllflniaaEa0
import Derived.Test.YtplbobmllflniaaEa1
import Derived.Test.YtplbobmllflniaaEa2
import Derived.Test.YtplbobmllflniaaEa4
import Derived.Test.YtplbobmllflniaaEa5
import Derived.Test.YtplbobmllflniaaEa8
import Derived.Test.YtplbobmllflniaaEa9
import Derived.Test.YtplbobmllflniaaEa10
import Derived.Test.YtplbobmllflniaaEa16
namespace Go.Proofs.Ytplbobmllflniaa.Ea
open Go.RowKit Go.Proofs.YtplbobmllflniaaW.PrintWords Go.Proofs.YtplbobmllflniaaW.PrintLast Go.Proofs.YtplbobmllflniaaW.PrintMore Go.Proofs.Ytplbobmllflniaa.Z
attribute [local go_sem] max2_int min2_int max_two min_two max_three min_three max_four min_four
set_option linter.unusedVariables false
set_option linter.unusedSimpArgs false
theorem c27x17 : Ent Try.prog 27 := ent Try.func27 (by kernel_rfl) rfl
theorem c85x17 : Ent Try.prog 85 := ent Try.func85 (by kernel_rfl) rfl
theorem c98x17 : Ent Try.prog 98 := ent Try.func98 (by kernel_rfl) rfl
theorem c110x17 : Ent Try.prog 110 := ent Try.func110 (by kernel_rfl) rfl
def spec_DrawQueryChance.f (k : Nat) (l0 : List Int) : Option (Int × List Int) := (spec_l6Open.f l0).bind fun bt528 => ((spec_l91All.f k bt528.1 bt528.2).bind fun bt531 => (some (bt531.1, bt531.2.1)))
theorem spec_DrawQueryChance.mono : ∀ a0 k, LeO (spec_DrawQueryChance.f k a0) (spec_DrawQueryChance.f (k + 1) a0) := by
 intro a0 k
 unfold spec_DrawQueryChance.f
 repeat' first
   | exact spec_l91All.mono _ _ _
   | exact LeO.none _
   | refine LeO.ite ?_ ?_
   | refine LeO.bind ?_ (fun _ => ?_)
   | exact LeO.refl _
set_option maxHeartbeats 8000000 in
set_option maxRecDepth 100000 in
theorem spec_DrawQueryChance.calls (k : Nat) (A0 : Option Addr) (c0 : Nat) (l0 : List Int) (r1 : Int) (r2 : List Int) (w : World) (hr0 : Kd.C (Kd.int .u8) w A0 l0.length l0) (hc0 : l0.length ≤ c0) (h : spec_DrawQueryChance.f k l0 = some (r1, r2)) :
  Calls Try.prog 79 #[.slice A0 l0.length c0] w fun e w' => ∃ v1_ : Value, e = .returned (.tuple #[.int .i64 r1, v1_]) ∧ Kd.R (Kd.int .i64) 3 w' w.heap.size (fun _ => True) v1_ r2 ∧ Below w.heap.size w w' := by
 have HR0 := Aside0.mk hr0
 have HC0 := Aside0.mk hc0
 clear hr0 hc0
 have HB := Aside0.mk (Below.refl w.heap.size w)
 have H := h
 unfold spec_DrawQueryChance.f at H
 clear h
 replace H := bnd H
 obtain ⟨⟨t528, t529⟩, A2, H⟩ := H
 dsimp only at H
 replace H := bnd H
 obtain ⟨⟨t531, t532, t535⟩, A3, H⟩ := H
 dsimp only at H
 simp only [Option.some.injEq, Prod.mk.injEq] at H
 obtain ⟨rfl, rfl⟩ := H
 go_enter Try.func79, Try.ntmps79
 go_wp2_with (first | ((with_reducible refine gate_callee (f := 90) rfl ?_); refine goesL_ (some 5) rfl rfl Try.func90 (by kernel_rfl) rfl #[.slice A0 l0.length c0] rfl (by (try simp only [List.map_toArray, List.map_cons, List.map_nil]); first | done | rfl | (simp only [List.length_drop, List.length_take]; rfl)) ?_; (with_reducible refine (spec_l6Open.calls _ _ l0 t528 t529 w _ ?side1 ?side2 ?side3 A2.out).mono ?_); (case side1 => exact HB.out); (case side2 => exact HR0.out); (case side3 => exact HC0.out); rintro e w4 ⟨g530, rfl, hi, hb, hb2⟩; refine ⟨_, rfl, ?_⟩; replace HB := Aside0.mk (hb); replace HI530 := Aside0.mk (hi); clear hb hb2 hi) | ((with_reducible refine gate_callee (f := 124) rfl ?_); refine goesL_ (some 6) rfl rfl Try.func124 (by kernel_rfl) rfl #[.pointer (some ⟨g530, 0, none⟩)] rfl (by (try simp only [List.map_toArray, List.map_cons, List.map_nil]); first | done | rfl | (simp only [List.length_drop, List.length_take]; rfl)) ?_; (with_reducible refine (spec_l91All.calls k g530 t528 t529 t531 t532 t535 w _ ?side1 ?side2 A3.out).mono ?_); (case side1 => exact HI530.out); (case side2 => exact HB.out); rintro e w5 ⟨v533, rfl, ho0, hi, hb, hk⟩; refine ⟨_, rfl, ?_⟩; replace HO534 := Aside0.mk (Kd.R_lower ho0 (below_size (HB.out))); replace HB := Aside0.mk (hb); replace HI530 := Aside0.mk (hi); clear hb hk hi ho0))
 go_ret2
 exact ⟨_, rfl, HO534.out, HB.out⟩
mutual
def laws_FnChanceOne.j0 : Nat → List Int → List Int → Bool → Option (Bool)
 | 0, _, _, _ => none
 | k + 1, x0, x1, x21 => if x21 = true then (some true) else ((spec_DrawQueryChance.f k x0).bind fun bt536 => ((impl_QueryChance.f k bt536.1 bt536.2).bind fun t540 => ((spec_QueryChance.f k bt536.1 bt536.2).bind fun t541 => (if t540 = t541 then (laws_FnChanceOne.j1 k x1 bt536.1 bt536.2 t540 (decide (t540 < 0))) else (laws_FnChanceOne.j1 k x1 bt536.1 bt536.2 t540 true)))))
def laws_FnChanceOne.j1 : Nat → List Int → Int → List Int → Int → Bool → Option (Bool)
 | 0, _, _, _, _, _ => none
 | k + 1, x1, x5, x6, x7, x38 => if x38 = true then ((spec_QueryChance.f k x5 x6).bind fun t542 => (some (x7 == t542))) else (laws_FnChanceOne.l0 k x1 x5 x6 x7 (([0, 0, 0, 0] : List Int)) 0 0)
def laws_FnChanceOne.l0 : Nat → List Int → Int → List Int → Int → List Int → Int → Int → Option (Bool)
 | 0, _, _, _, _, _, _, _ => none
 | k + 1, x1, x5, x6, x7, x8, x9, x10 => if x10 < 31 then (laws_FnChanceOne.l1 k x1 x5 x6 x7 x8 x9 x10 0) else (if x7 = x9 then (some (decide ((x1.length : Int) ≥ 0))) else (some false))
def laws_FnChanceOne.l1 : Nat → List Int → Int → List Int → Int → List Int → Int → Int → Int → Option (Bool)
 | 0, _, _, _, _, _, _, _, _ => none
 | k + 1, x1, x5, x6, x7, x8, x9, x10, x11 => if x11 < 31 then ((impl_QueryAsk.f k x5 x6 true x10 x11).bind fun bt546 => (if bt546.2 = true then ((impl_QueryDecide.f bt546.1 x8).bind fun t550 => (if t550 = true then (laws_FnChanceOne.l1 k x1 x5 x6 x7 x8 (wrap64 (x9 + 1)) x10 (wrap64 (x11 + 1))) else (laws_FnChanceOne.l1 k x1 x5 x6 x7 x8 x9 x10 (wrap64 (x11 + 1))))) else (laws_FnChanceOne.l1 k x1 x5 x6 x7 x8 x9 x10 (wrap64 (x11 + 1))))) else (laws_FnChanceOne.l0 k x1 x5 x6 x7 x8 x9 (wrap64 (x10 + 1)))
end
def laws_FnChanceOne.f (k : Nat) (l0 : List Int) (l1 : List Int) : Option (Bool) := if (l0.length : Int) > 1048576 then (laws_FnChanceOne.j0 k l0 l1 true) else (laws_FnChanceOne.j0 k l0 l1 (decide ((l1.length : Int) > 1048576)))
theorem laws_FnChanceOne.mono_l : ∀ k, (∀ y0 y1 y2, LeO (laws_FnChanceOne.j0 k y0 y1 y2) (laws_FnChanceOne.j0 (k + 1) y0 y1 y2)) ∧ (∀ y0 y1 y2 y3 y4, LeO (laws_FnChanceOne.j1 k y0 y1 y2 y3 y4) (laws_FnChanceOne.j1 (k + 1) y0 y1 y2 y3 y4)) ∧ (∀ y0 y1 y2 y3 y4 y5 y6, LeO (laws_FnChanceOne.l0 k y0 y1 y2 y3 y4 y5 y6) (laws_FnChanceOne.l0 (k + 1) y0 y1 y2 y3 y4 y5 y6)) ∧ (∀ y0 y1 y2 y3 y4 y5 y6 y7, LeO (laws_FnChanceOne.l1 k y0 y1 y2 y3 y4 y5 y6 y7) (laws_FnChanceOne.l1 (k + 1) y0 y1 y2 y3 y4 y5 y6 y7))
 | 0 => ⟨fun _ _ _ r h => by simp [laws_FnChanceOne.j0] at h, fun _ _ _ _ _ r h => by simp [laws_FnChanceOne.j1] at h, fun _ _ _ _ _ _ _ r h => by simp [laws_FnChanceOne.l0] at h, fun _ _ _ _ _ _ _ _ r h => by simp [laws_FnChanceOne.l1] at h⟩
 | k + 1 => by
  obtain ⟨ih0, ih1, ih2, ih3⟩ := laws_FnChanceOne.mono_l k
  refine ⟨?_, ?_, ?_, ?_⟩
  ·intro y0 y1 y2
   unfold laws_FnChanceOne.j0
   repeat' first
   | exact ih0 _ _ _
   | exact ih1 _ _ _ _ _
   | exact ih2 _ _ _ _ _ _ _
   | exact ih3 _ _ _ _ _ _ _ _
   | exact impl_QueryAsk.mono _ _ _ _ _ _
   | exact impl_QueryChance.mono _ _ _
   | exact spec_DrawQueryChance.mono _ _
   | exact spec_QueryChance.mono _ _ _
   | exact LeO.none _
   | refine LeO.ite ?_ ?_
   | refine LeO.bind ?_ (fun _ => ?_)
   | exact LeO.refl _
  ·intro y0 y1 y2 y3 y4
   unfold laws_FnChanceOne.j1
   repeat' first
   | exact ih0 _ _ _
   | exact ih1 _ _ _ _ _
   | exact ih2 _ _ _ _ _ _ _
   | exact ih3 _ _ _ _ _ _ _ _
   | exact impl_QueryAsk.mono _ _ _ _ _ _
   | exact impl_QueryChance.mono _ _ _
   | exact spec_DrawQueryChance.mono _ _
   | exact spec_QueryChance.mono _ _ _
   | exact LeO.none _
   | refine LeO.ite ?_ ?_
   | refine LeO.bind ?_ (fun _ => ?_)
   | exact LeO.refl _
  ·intro y0 y1 y2 y3 y4 y5 y6
   unfold laws_FnChanceOne.l0
   repeat' first
   | exact ih0 _ _ _
   | exact ih1 _ _ _ _ _
   | exact ih2 _ _ _ _ _ _ _
   | exact ih3 _ _ _ _ _ _ _ _
   | exact impl_QueryAsk.mono _ _ _ _ _ _
   | exact impl_QueryChance.mono _ _ _
   | exact spec_DrawQueryChance.mono _ _
   | exact spec_QueryChance.mono _ _ _
   | exact LeO.none _
   | refine LeO.ite ?_ ?_
   | refine LeO.bind ?_ (fun _ => ?_)
   | exact LeO.refl _
  ·intro y0 y1 y2 y3 y4 y5 y6 y7
   unfold laws_FnChanceOne.l1
   repeat' first
   | exact ih0 _ _ _
   | exact ih1 _ _ _ _ _
   | exact ih2 _ _ _ _ _ _ _
   | exact ih3 _ _ _ _ _ _ _ _
   | exact impl_QueryAsk.mono _ _ _ _ _ _
   | exact impl_QueryChance.mono _ _ _
   | exact spec_DrawQueryChance.mono _ _
   | exact spec_QueryChance.mono _ _ _
   | exact LeO.none _
   | refine LeO.ite ?_ ?_
   | refine LeO.bind ?_ (fun _ => ?_)
   | exact LeO.refl _
theorem laws_FnChanceOne.mono : ∀ a0 a1 k, LeO (laws_FnChanceOne.f k a0 a1) (laws_FnChanceOne.f (k + 1) a0 a1) := by
 intro a0 a1 k
 obtain ⟨ih0, ih1, ih2, ih3⟩ := laws_FnChanceOne.mono_l k
 unfold laws_FnChanceOne.f
 repeat' first
   | exact ih0 _ _ _
   | exact ih1 _ _ _ _ _
   | exact ih2 _ _ _ _ _ _ _
   | exact ih3 _ _ _ _ _ _ _ _
   | exact impl_QueryAsk.mono _ _ _ _ _ _
   | exact impl_QueryChance.mono _ _ _
   | exact spec_DrawQueryChance.mono _ _
   | exact spec_QueryChance.mono _ _ _
   | exact LeO.none _
   | refine LeO.ite ?_ ?_
   | refine LeO.bind ?_ (fun _ => ?_)
   | exact LeO.refl _
set_option maxHeartbeats 8000000 in
set_option maxRecDepth 100000 in
theorem laws_FnChanceOne.calls (k : Nat) (A0 : Option Addr) (c0 : Nat) (l0 : List Int) (A1 : Option Addr) (c1 : Nat) (l1 : List Int) (r : Bool) (w : World) (hr0 : Kd.C (Kd.int .u8) w A0 l0.length l0) (hc0 : l0.length ≤ c0) (hr1 : Kd.C (Kd.int .u8) w A1 l1.length l1) (hc1 : l1.length ≤ c1) (h : laws_FnChanceOne.f k l0 l1 = some r) :
  Calls Try.prog 22 #[.slice A0 l0.length c0, .slice A1 l1.length c1] w fun e w' => e = .returned (.bool r) ∧ Below w.heap.size w w' := by
 have HR0 := Aside0.mk hr0
 have HC0 := Aside0.mk hc0
 clear hr0 hc0
 have HR1 := Aside0.mk hr1
 have HC1 := Aside0.mk hc1
 clear hr1 hc1
 have HB := Aside0.mk (Below.refl w.heap.size w)
 have H := h
 unfold laws_FnChanceOne.f at H
 clear h
 have HC3 := Aside0.mk H
 clear H
 go_enter Try.func22, Try.ntmps22
 go_upto_region 1 with (fail)
 go_cut [21] (fun v21 wc => ∃ (kq : Nat) (x21_2 : Bool), v21 = .bool x21_2 ∧ Aside0 (laws_FnChanceOne.j0 kq l0 l1 x21_2 = some r) ∧ Aside0 (kq ≤ k) ∧ Aside0 (Below w.heap.size w wc))
 case first =>
  have H := HC3.out
  clear HC3
  by_cases c4 : (l0.length : Int) > 1048576
  ·rw [if_pos c4] at H
   have c4b0 : decide (1048576 < (l0.length : Int)) = true := decide_eq_true c4
   have c4b1 : decide (1048576 < l0.length) = true := decide_eq_true (by omega)
   clear c4
   (first | rw [c4b0] | (simp only [i64_w, i32_w]; rw [c4b0]) | skip)
   have H' := Aside0.mk H
   clear H
   go_wp2
   go_meet
   case rel => exact ⟨_, (true), rfl, H', ⟨by first | omega | exact Nat.le_refl _⟩, ⟨HB.out⟩⟩
  ·rw [if_neg c4] at H
   have c4b0 : decide (1048576 < (l0.length : Int)) = false := decide_eq_false c4
   have c4b1 : decide (1048576 < l0.length) = false := decide_eq_false (by omega)
   clear c4
   (first | rw [c4b0] | (simp only [i64_w, i32_w]; rw [c4b0]) | skip)
   have H' := Aside0.mk H
   clear H
   go_wp2
   go_meet
   case rel => exact ⟨_, (decide ((l1.length : Int) > 1048576)), rfl, H', ⟨by first | omega | exact Nat.le_refl _⟩, ⟨HB.out⟩⟩
 case rest =>
  clear HC3
  try clear c1
  try clear c2
  try clear p2
  try clear c4
  try clear c4b0
  try clear c4b1
  obtain ⟨kq, x21_2, rfl, HA, HJ2, HB⟩ := hcut
  cases kq with
  | zero => exact absurd HA.out (by simp [laws_FnChanceOne.j0])
  | succ kj2 =>
   have H := HA.out
   clear HA
   simp only [laws_FnChanceOne.j0] at H
   by_cases c5 : x21_2 = true
   ·subst c5
    rw [if_pos rfl] at H
    obtain rfl := Option.some.inj H
    go_wp2
    go_ret
    exact ⟨rfl, HB.out⟩
   ·replace c5 := Bool.eq_false_iff.mpr c5
    subst c5
    rw [if_neg (show ¬ (false = true) by decide)] at H
    replace H := bnd H
    obtain ⟨⟨t536, t537⟩, A6, H⟩ := H
    dsimp only at H
    replace H := bnd H
    obtain ⟨t540, A7, H⟩ := H
    have HC8 := Aside0.mk H
    clear H
    go_upto_region 5 with (first | ((with_reducible refine gate_callee (f := 79) rfl ?_); refine goesL_ (some 24) rfl rfl Try.func79 (by kernel_rfl) rfl #[.slice A0 l0.length c0] rfl (by (try simp only [List.map_toArray, List.map_cons, List.map_nil]); first | done | rfl | (simp only [List.length_drop, List.length_take]; rfl)) ?_; (with_reducible refine (spec_DrawQueryChance.calls kj2 _ _ l0 t536 t537 _ ?side1 ?side2 A6.out).mono ?_); (case side1 => exact (Kd.C_below HR0.out HB.out)); (case side2 => exact HC0.out); rintro e w9 ⟨v538, rfl, ho0, hb⟩; refine ⟨_, rfl, ?_⟩; have n0_ := Aside0.mk (Kd.R_lower ho0 (below_size (HB.out))); have n1_ := Aside0.mk (below_step (HB.out) hb); clear HB; have HO539 := n0_; have HB := n1_; clear n0_ n1_; (try clear hb); (try clear hb2); (try clear hk); (try clear hi); (try clear ho0); obtain ⟨Ao10, co10, eo10⟩ := Kd.R_slice HO539.out; subst eo10) | ((with_reducible refine gate_callee (f := 73) rfl ?_); refine goesL_ (some 29) rfl rfl Try.func73 (by kernel_rfl) rfl #[.int .i64 t536, .slice Ao10 t537.length co10] rfl (by (try simp only [List.map_toArray, List.map_cons, List.map_nil]); first | done | rfl | (simp only [List.length_drop, List.length_take]; rfl)) ?_; (with_reducible refine (impl_QueryChance.calls kj2 t536 _ _ t537 t540 _ ?side1 ?side2 A7.out).mono ?_); (case side1 => exact (Kd.R_reads' HO539.out).2.2); (case side2 => exact (Kd.R_reads' HO539.out).2.1); rintro e w11 ⟨rfl, hb⟩; refine ⟨_, rfl, ?_⟩; have n0_ := Aside0.mk (Kd.R_below (HO539.out) hb); have n1_ := Aside0.mk (below_step (HB.out) hb); clear HO539; clear HB; have HO539 := n0_; have HB := n1_; clear n0_ n1_; (try clear hb); (try clear hb2); (try clear hk); (try clear hi)))
    (try simp only [Act.put, List.setIfInBounds_toArray, List.set_cons_zero, List.set_cons_succ])
    go_cut [38] (fun v38 wc => ∃ (kq : Nat) (x38_7 : Bool), v38 = .bool x38_7 ∧ Aside0 (laws_FnChanceOne.j1 kq l1 t536 t537 t540 x38_7 = some r) ∧ Aside0 (kq ≤ kj2) ∧ Aside0 (Kd.R (Kd.int .i64) 3 wc w.heap.size (fun _ => True) (.slice Ao10 t537.length co10) t537) ∧ Aside0 (Below w.heap.size w wc))
    case first =>
     have H := HC8.out
     clear HC8
     replace H := bnd H
     obtain ⟨t541, A12, H⟩ := H
     by_cases c13 : t540 = t541
     ·rw [if_pos c13] at H
      have c13b0 : (t540 == t541) = true := beq_iff_eq.mpr c13
      have c13b1 : (t540 != t541) = false := bne_eq_false_iff_eq.mpr c13
      clear c13
      (first | rw [c13b0] | (simp only [i64_w, i32_w]; rw [c13b0]) | skip)
      have H' := Aside0.mk H
      clear H
      go_wp2_with (first | ((with_reducible refine gate_callee (f := 72) rfl ?_); refine goesL_ (some 33) rfl rfl Try.func72 (by kernel_rfl) rfl #[.int .i64 t536, .slice Ao10 t537.length co10] rfl (by (try simp only [List.map_toArray, List.map_cons, List.map_nil]); first | done | rfl | (simp only [List.length_drop, List.length_take]; rfl)) ?_; (with_reducible refine (spec_QueryChance.calls kj2 t536 _ _ t537 t541 _ ?side1 ?side2 A12.out).mono ?_); (case side1 => exact (Kd.R_reads' HO539.out).2.2); (case side2 => exact (Kd.R_reads' HO539.out).2.1); rintro e w14 ⟨rfl, hb⟩; refine ⟨_, rfl, ?_⟩; replace HO539 := Aside0.mk (Kd.R_below (HO539.out) hb); replace HB := Aside0.mk (below_step (HB.out) hb); clear hb))
      go_meet
      case rel => exact ⟨_, (decide (t540 < 0)), rfl, H', ⟨by have := HJ2.out; first | omega | exact Nat.le_refl _⟩, ⟨HO539.out⟩, ⟨HB.out⟩⟩
     ·rw [if_neg c13] at H
      have c13b0 : (t540 == t541) = false := beq_eq_false_iff_ne.mpr c13
      have c13b1 : (t540 != t541) = true := bne_iff_ne.mpr c13
      (first | rw [c13b0] | (simp only [i64_w, i32_w]; rw [c13b0]) | skip)
      have H' := Aside0.mk H
      clear H
      go_wp2_with (first | ((with_reducible refine gate_callee (f := 72) rfl ?_); refine goesL_ (some 33) rfl rfl Try.func72 (by kernel_rfl) rfl #[.int .i64 t536, .slice Ao10 t537.length co10] rfl (by (try simp only [List.map_toArray, List.map_cons, List.map_nil]); first | done | rfl | (simp only [List.length_drop, List.length_take]; rfl)) ?_; (with_reducible refine (spec_QueryChance.calls kj2 t536 _ _ t537 t541 _ ?side1 ?side2 A12.out).mono ?_); (case side1 => exact (Kd.R_reads' HO539.out).2.2); (case side2 => exact (Kd.R_reads' HO539.out).2.1); rintro e w15 ⟨rfl, hb⟩; refine ⟨_, rfl, ?_⟩; replace HO539 := Aside0.mk (Kd.R_below (HO539.out) hb); replace HB := Aside0.mk (below_step (HB.out) hb); clear hb))
      go_meet
      case rel => exact ⟨_, (true), rfl, H', ⟨by have := HJ2.out; first | omega | exact Nat.le_refl _⟩, ⟨HO539.out⟩, ⟨HB.out⟩⟩
    case rest =>
     clear HC8
     try clear c1
     try clear c2
     try clear p2
     try clear c4
     try clear c4b0
     try clear c4b1
     try clear c5
     try clear c7
     try clear c13
     try clear c13b0
     try clear c13b1
     try clear p2
     obtain ⟨kq, x38_7, rfl, HA, HJ7, HO_6, HB⟩ := hcut
     cases kq with
     | zero => exact absurd HA.out (by simp [laws_FnChanceOne.j1])
     | succ kj7 =>
      have H := HA.out
      clear HA
      simp only [laws_FnChanceOne.j1] at H
      by_cases c16 : x38_7 = true
      ·subst c16
       rw [if_pos rfl] at H
       replace H := bnd H
       obtain ⟨t542, A17, H⟩ := H
       obtain rfl := Option.some.inj H
       go_wp2_with (first | ((with_reducible refine gate_callee (f := 72) rfl ?_); refine goesL_ (some 42) rfl rfl Try.func72 (by kernel_rfl) rfl #[.int .i64 t536, .slice Ao10 t537.length co10] rfl (by (try simp only [List.map_toArray, List.map_cons, List.map_nil]); first | done | rfl | (simp only [List.length_drop, List.length_take]; rfl)) ?_; (with_reducible refine (spec_QueryChance.calls kj7 t536 _ _ t537 t542 _ ?side1 ?side2 A17.out).mono ?_); (case side1 => exact (Kd.R_reads' HO_6.out).2.2); (case side2 => exact (Kd.R_reads' HO_6.out).2.1); rintro e w18 ⟨rfl, hb⟩; refine ⟨_, rfl, ?_⟩; replace HO_6 := Aside0.mk (Kd.R_below (HO_6.out) hb); replace HB := Aside0.mk (below_step (HB.out) hb); clear hb))
       go_ret
       exact ⟨rfl, HB.out⟩
      ·replace c16 := Bool.eq_false_iff.mpr c16
       subst c16
       rw [if_neg (show ¬ (false = true) by decide)] at H
       obtain ⟨y543, hy543⟩ : ∃ y_ : List Int, y_ = (([0, 0, 0, 0] : List Int)) := ⟨_, rfl⟩
       rw [← hy543] at H
       have Ny543 := Aside0.mk hy543
       clear hy543
       have H' := Aside0.mk H
       clear H
       go_wp2_with (first | ((with_reducible refine gate_dst (N := 44) rfl ?_); (try (refine gate_guard (by rfl) ?_; dsimp only)); refine Kd.R_lit (Kd.int .i64) _ 3 ?hg (N := 44) ?hd (xs := ([0, 0, 0, 0] : List Int)) (inner := [.int .i64 0, .int .i64 0, .int .i64 0, .int .i64 0]) (ok := fun _ => True) (okp := fun _ => True) ?hr ?hp (fun _ hk => hk) trivial (Below.refl _ _) (Nat.le_refl _) (by simp) ?_; (case hd => rfl); (case hg => rfl); (case hr => first | (go_simp; done) | (go_simp; rfl)); (case hp => exact (Reps.one (show Kd.M (Kd.int .i64) _ _ _ 0 [.int .i64 0] from rfl) (Reps.one (show Kd.M (Kd.int .i64) _ _ _ 0 [.int .i64 0] from rfl) (Reps.one (show Kd.M (Kd.int .i64) _ _ _ 0 [.int .i64 0] from rfl) (Reps.one (show Kd.M (Kd.int .i64) _ _ _ 0 [.int .i64 0] from rfl) (Reps.none _ _)))))); intro v544 w19 ho20 hb hg_ hnew_; clear hg_ hnew_; (first | rw [← Ny543.out] at ho20 | (simp only [Int.reduceToNat] at ho20; rw [← Ny543.out] at ho20)); replace HO545 := Aside0.mk (Kd.R_lower (Kd.R_new' ho20 (Kd.R_lt (HO_6.out))) (below_size (HB.out))); replace HO_6 := Aside0.mk (Kd.R_elder' (HO_6.out) (Kd.R_base ho20) hb); replace HB := Aside0.mk (below_step (HB.out) hb); clear hb ho20))
       go_loopg [9, 10] kj7 (fun kq v9 v10 w' => ∃ (x9_3 : Int) (x10_3 : Int), v9 = .int .i64 x9_3 ∧ v10 = .int .i64 x10_3 ∧ Aside0 (laws_FnChanceOne.l0 kq l1 t536 t537 t540 y543 x9_3 x10_3 = some r) ∧ Aside0 (kq ≤ kj7) ∧ Aside0 (Kd.R (Kd.int .i64) 3 w' w.heap.size (fun k_ => some k_ ≠ (v544 : Value).ownBlock) (.slice Ao10 t537.length co10) t537) ∧ Aside0 (Kd.R (Kd.int .i64) 3 w' w.heap.size (fun k_ => some k_ ≠ ((.slice Ao10 t537.length co10) : Value).ownBlock) v544 y543) ∧ Aside0 (Below w.heap.size w w'))
       case atStart => exact ⟨(0), (0), rfl, rfl, H', ⟨Nat.le_refl _⟩, ⟨Kd.R_mono HO_6.out (fun _ hk => hk.2)⟩, ⟨Kd.R_mono HO545.out (fun _ hk => hk.2)⟩, ⟨HB.out⟩⟩
       case round =>
        clear H'
        try clear c1
        try clear c2
        try clear p2
        try clear c4
        try clear c4b0
        try clear c4b1
        try clear c5
        try clear c7
        try clear c13
        try clear c13b0
        try clear c13b1
        try clear c16
        try clear p2
        obtain ⟨x9_3, x10_3, rfl, rfl, HA, HK3, HO_6, HO_8, HB⟩ := hrel
        cases gk with
        | zero => exact absurd HA.out (by simp [laws_FnChanceOne.l0])
        | succ k3 =>
         have H := HA.out
         clear HA
         simp only [laws_FnChanceOne.l0] at H
         by_cases c21 : x10_3 < 31
         ·rw [if_pos c21] at H
          have c21b0 : decide (x10_3 < 31) = true := decide_eq_true c21
          clear c21
          have H' := Aside0.mk H
          clear H
          go_wp2
          go_loopg [9, 11] k3 (fun kq v9 v11 w' => ∃ (x9_4 : Int) (x11_4 : Int), v9 = .int .i64 x9_4 ∧ v11 = .int .i64 x11_4 ∧ Aside0 (laws_FnChanceOne.l1 kq l1 t536 t537 t540 y543 x9_4 x10_3 x11_4 = some r) ∧ Aside0 (kq ≤ k3) ∧ Aside0 (Kd.R (Kd.int .i64) 3 w' w.heap.size (fun k_ => some k_ ≠ (v544 : Value).ownBlock) (.slice Ao10 t537.length co10) t537) ∧ Aside0 (Kd.R (Kd.int .i64) 3 w' w.heap.size (fun k_ => some k_ ≠ ((.slice Ao10 t537.length co10) : Value).ownBlock) v544 y543) ∧ Aside0 (Below w.heap.size w w'))
          case atStart => exact ⟨(x9_3), (0), rfl, rfl, H', ⟨Nat.le_refl _⟩, ⟨HO_6.out⟩, ⟨HO_8.out⟩, ⟨HB.out⟩⟩
          case round =>
           clear H'
           try clear c1
           try clear c2
           try clear p2
           try clear c4
           try clear c4b0
           try clear c4b1
           try clear c5
           try clear c7
           try clear c13
           try clear c13b0
           try clear c13b1
           try clear c16
           try clear c21
           try clear c21b0
           try clear p2
           obtain ⟨x9_4, x11_4, rfl, rfl, HA, HK4, HO_6, HO_8, HB⟩ := hrel
           cases gk with
           | zero => exact absurd HA.out (by simp [laws_FnChanceOne.l1])
           | succ k4 =>
            have H := HA.out
            clear HA
            simp only [laws_FnChanceOne.l1] at H
            by_cases c22 : x11_4 < 31
            ·rw [if_pos c22] at H
             have c22b0 : decide (x11_4 < 31) = true := decide_eq_true c22
             clear c22
             replace H := bnd H
             obtain ⟨⟨t546, t547⟩, A23, H⟩ := H
             dsimp only at H
             by_cases c24 : t547 = true
             ·subst c24
              rw [if_pos rfl] at H
              replace H := bnd H
              obtain ⟨t550, A25, H⟩ := H
              by_cases c26 : t550 = true
              ·subst c26
               rw [if_pos rfl] at H
               have H' := Aside0.mk H
               clear H
               go_wp2_with (first | ((with_reducible refine gate_callee (f := 70) rfl ?_); refine goesL_ (some 58) rfl rfl Try.func70 (by kernel_rfl) rfl #[.int .i64 t536, .slice Ao10 t537.length co10, .bool true, .int .i64 x10_3, .int .i64 x11_4] rfl (by (try simp only [List.map_toArray, List.map_cons, List.map_nil]); first | done | rfl | (simp only [List.length_drop, List.length_take]; rfl)) ?_; (with_reducible refine (impl_QueryAsk.calls k4 t536 _ _ t537 true x10_3 x11_4 t546 true _ ?side1 ?side2 A23.out).mono ?_); (case side1 => exact (Kd.R_reads' HO_6.out).2.2); (case side2 => exact (Kd.R_reads' HO_6.out).2.1); rintro e w27 ⟨v548, rfl, ho0, hb⟩; refine ⟨_, rfl, ?_⟩; replace HO549 := Aside0.mk (Kd.R_lower (Kd.R_new' (Kd.R_new' ho0 (Kd.R_lt (HO_6.out))) (Kd.R_lt (HO_8.out))) (below_size (HB.out))); replace HO_6 := Aside0.mk (Kd.R_elder' (HO_6.out) (Kd.R_base ho0) hb); replace HO_8 := Aside0.mk (Kd.R_elder' (HO_8.out) (Kd.R_base ho0) hb); replace HB := Aside0.mk (below_step (HB.out) hb); (try clear hb); (try clear hb2); (try clear hk); (try clear hi); (try clear ho0); obtain ⟨Ao28, co28, eo28⟩ := Kd.R_slice HO549.out; subst eo28; obtain ⟨Ao29, co29, eo29⟩ := Kd.R_slice HO_8.out; subst eo29) | (go_at_call 34; (with_reducible refine (impl_QueryDecide.calls _ _ t546 _ _ y543 true _ ?side1 ?side2 ?side3 ?side4 A25.out).mono ?_); (case side1 => exact (Kd.R_reads' HO549.out).2.2); (case side2 => exact (Kd.R_reads' HO549.out).2.1); (case side3 => exact (Kd.R_reads' HO_8.out).2.2); (case side4 => exact (Kd.R_reads' HO_8.out).2.1); rintro e w30 ⟨rfl, hb⟩; replace HO_6 := Aside0.mk (Kd.R_below (HO_6.out) hb); replace HO_8 := Aside0.mk (Kd.R_below (HO_8.out) hb); replace HO549 := Aside0.mk (Kd.R_below (HO549.out) hb); replace HB := Aside0.mk (below_step (HB.out) hb); clear hb))
               go_roundg k4
               case measure => have := HJ2.out; have := HJ7.out; have := HK3.out; have := HK4.out; omega
               case rel => exact ⟨(wrap64 (x9_4 + 1)), (wrap64 (x11_4 + 1)), rfl, rfl, H', ⟨by have := HJ2.out; have := HJ7.out; have := HK3.out; have := HK4.out; omega⟩, ⟨Kd.R_mono HO_6.out (fun _ hk => hk.1)⟩, ⟨Kd.R_mono HO_8.out (fun _ hk => hk.1)⟩, ⟨HB.out⟩⟩
              ·replace c26 := Bool.eq_false_iff.mpr c26
               subst c26
               rw [if_neg (show ¬ (false = true) by decide)] at H
               have H' := Aside0.mk H
               clear H
               go_wp2_with (first | ((with_reducible refine gate_callee (f := 70) rfl ?_); refine goesL_ (some 58) rfl rfl Try.func70 (by kernel_rfl) rfl #[.int .i64 t536, .slice Ao10 t537.length co10, .bool true, .int .i64 x10_3, .int .i64 x11_4] rfl (by (try simp only [List.map_toArray, List.map_cons, List.map_nil]); first | done | rfl | (simp only [List.length_drop, List.length_take]; rfl)) ?_; (with_reducible refine (impl_QueryAsk.calls k4 t536 _ _ t537 true x10_3 x11_4 t546 true _ ?side1 ?side2 A23.out).mono ?_); (case side1 => exact (Kd.R_reads' HO_6.out).2.2); (case side2 => exact (Kd.R_reads' HO_6.out).2.1); rintro e w31 ⟨v548, rfl, ho0, hb⟩; refine ⟨_, rfl, ?_⟩; replace HO549 := Aside0.mk (Kd.R_lower (Kd.R_new' (Kd.R_new' ho0 (Kd.R_lt (HO_6.out))) (Kd.R_lt (HO_8.out))) (below_size (HB.out))); replace HO_6 := Aside0.mk (Kd.R_elder' (HO_6.out) (Kd.R_base ho0) hb); replace HO_8 := Aside0.mk (Kd.R_elder' (HO_8.out) (Kd.R_base ho0) hb); replace HB := Aside0.mk (below_step (HB.out) hb); (try clear hb); (try clear hb2); (try clear hk); (try clear hi); (try clear ho0); obtain ⟨Ao32, co32, eo32⟩ := Kd.R_slice HO549.out; subst eo32; obtain ⟨Ao33, co33, eo33⟩ := Kd.R_slice HO_8.out; subst eo33) | (go_at_call 34; (with_reducible refine (impl_QueryDecide.calls _ _ t546 _ _ y543 false _ ?side1 ?side2 ?side3 ?side4 A25.out).mono ?_); (case side1 => exact (Kd.R_reads' HO549.out).2.2); (case side2 => exact (Kd.R_reads' HO549.out).2.1); (case side3 => exact (Kd.R_reads' HO_8.out).2.2); (case side4 => exact (Kd.R_reads' HO_8.out).2.1); rintro e w34 ⟨rfl, hb⟩; replace HO_6 := Aside0.mk (Kd.R_below (HO_6.out) hb); replace HO_8 := Aside0.mk (Kd.R_below (HO_8.out) hb); replace HO549 := Aside0.mk (Kd.R_below (HO549.out) hb); replace HB := Aside0.mk (below_step (HB.out) hb); clear hb))
               go_roundg k4
               case measure => have := HJ2.out; have := HJ7.out; have := HK3.out; have := HK4.out; omega
               case rel => exact ⟨(x9_4), (wrap64 (x11_4 + 1)), rfl, rfl, H', ⟨by have := HJ2.out; have := HJ7.out; have := HK3.out; have := HK4.out; omega⟩, ⟨Kd.R_mono HO_6.out (fun _ hk => hk.1)⟩, ⟨Kd.R_mono HO_8.out (fun _ hk => hk.1)⟩, ⟨HB.out⟩⟩
             ·replace c24 := Bool.eq_false_iff.mpr c24
              subst c24
              rw [if_neg (show ¬ (false = true) by decide)] at H
              have H' := Aside0.mk H
              clear H
              go_wp2_with (first | ((with_reducible refine gate_callee (f := 70) rfl ?_); refine goesL_ (some 58) rfl rfl Try.func70 (by kernel_rfl) rfl #[.int .i64 t536, .slice Ao10 t537.length co10, .bool true, .int .i64 x10_3, .int .i64 x11_4] rfl (by (try simp only [List.map_toArray, List.map_cons, List.map_nil]); first | done | rfl | (simp only [List.length_drop, List.length_take]; rfl)) ?_; (with_reducible refine (impl_QueryAsk.calls k4 t536 _ _ t537 true x10_3 x11_4 t546 false _ ?side1 ?side2 A23.out).mono ?_); (case side1 => exact (Kd.R_reads' HO_6.out).2.2); (case side2 => exact (Kd.R_reads' HO_6.out).2.1); rintro e w35 ⟨v548, rfl, ho0, hb⟩; refine ⟨_, rfl, ?_⟩; replace HO549 := Aside0.mk (Kd.R_lower (Kd.R_new' (Kd.R_new' ho0 (Kd.R_lt (HO_6.out))) (Kd.R_lt (HO_8.out))) (below_size (HB.out))); replace HO_6 := Aside0.mk (Kd.R_elder' (HO_6.out) (Kd.R_base ho0) hb); replace HO_8 := Aside0.mk (Kd.R_elder' (HO_8.out) (Kd.R_base ho0) hb); replace HB := Aside0.mk (below_step (HB.out) hb); clear hb ho0))
              go_roundg k4
              case measure => have := HJ2.out; have := HJ7.out; have := HK3.out; have := HK4.out; omega
              case rel => exact ⟨(x9_4), (wrap64 (x11_4 + 1)), rfl, rfl, H', ⟨by have := HJ2.out; have := HJ7.out; have := HK3.out; have := HK4.out; omega⟩, ⟨Kd.R_mono HO_6.out (fun _ hk => hk.1)⟩, ⟨Kd.R_mono HO_8.out (fun _ hk => hk.1)⟩, ⟨HB.out⟩⟩
            ·rw [if_neg c22] at H
             have c22b0 : decide (x11_4 < 31) = false := decide_eq_false c22
             clear c22
             have H' := Aside0.mk H
             clear H
             go_wp2
             go_roundg k4
             case measure => have := HJ2.out; have := HJ7.out; have := HK3.out; have := HK4.out; omega
             case rel => exact ⟨(x9_4), (wrap64 (x10_3 + 1)), rfl, rfl, H', ⟨by have := HJ2.out; have := HJ7.out; have := HK3.out; have := HK4.out; omega⟩, ⟨HO_6.out⟩, ⟨HO_8.out⟩, ⟨HB.out⟩⟩
         ·rw [if_neg c21] at H
          have c21b0 : decide (x10_3 < 31) = false := decide_eq_false c21
          clear c21
          by_cases c36 : t540 = x9_3
          ·rw [if_pos c36] at H
           have c36b0 : (t540 == x9_3) = true := beq_iff_eq.mpr c36
           have c36b1 : (t540 != x9_3) = false := bne_eq_false_iff_eq.mpr c36
           clear c36
           obtain rfl := Option.some.inj H
           go_wp2
           go_ret
           exact ⟨rfl, HB.out⟩
          ·rw [if_neg c36] at H
           have c36b0 : (t540 == x9_3) = false := beq_eq_false_iff_ne.mpr c36
           have c36b1 : (t540 != x9_3) = true := bne_iff_ne.mpr c36
           obtain rfl := Option.some.inj H
           go_wp2
           go_ret
           exact ⟨rfl, HB.out⟩
def laws_FnChanceOne.Pure : Prop := ∀ (l0 : List Int) (l1 : List Int), l0.length ≤ maxLen → l0.length * 1 ≤ 140737488351232 → (∀ x ∈ l0, (Lit.int .u8 x).wf = true) → l1.length ≤ maxLen → l1.length * 1 ≤ 140737488351232 → (∀ x ∈ l1, (Lit.int .u8 x).wf = true) → ∃ k, laws_FnChanceOne.f k l0 l1 = some true
theorem laws_FnChanceOne.walk (P : laws_FnChanceOne.Pure) (a0 : Option Addr) (len0 cap0 : Nat) (z0 : List Int) (a1 : Option Addr) (len1 cap1 : Nat) (z1 : List Int) (w : World) (w0 : (a0 = none ∧ len0 = 0 ∧ cap0 = 0 ∧ z0 = []) ∨ ∃ x, a0 = some x ∧ len0 ≤ cap0 ∧ cap0 ≤ maxLen ∧ z0.length = cap0 ∧ (∀ i, i < z0.length → w.cell? (x.add i) = some (.int .u8 (z0.getD i 0))) ∧ ∀ n ∈ z0, (Lit.int .u8 n).wf = true) (y0 : len0 * 1 ≤ 140737488351232) (w1 : (a1 = none ∧ len1 = 0 ∧ cap1 = 0 ∧ z1 = []) ∨ ∃ x, a1 = some x ∧ len1 ≤ cap1 ∧ cap1 ≤ maxLen ∧ z1.length = cap1 ∧ (∀ i, i < z1.length → w.cell? (x.add i) = some (.int .u8 (z1.getD i 0))) ∧ ∀ n ∈ z1, (Lit.int .u8 n).wf = true) (y1 : len1 * 1 ≤ 140737488351232) :
  Calls Try.prog 22 #[.slice a0 len0 cap0, .slice a1 len1 cap1] w fun e w' => e = .returned (.bool true) ∧ Below w.heap.size w w' := by
 obtain ⟨l0, rfl, hr0, hm0, hw0, hc0⟩ := ReadsInt.ofRowC w0
 obtain ⟨l1, rfl, hr1, hm1, hw1, hc1⟩ := ReadsInt.ofRowC w1
 obtain ⟨k, h⟩ := P l0 l1 hm0 y0 hw0 hm1 y1 hw1
 refine (laws_FnChanceOne.calls k _ _ l0 _ _ l1 true w (Kd.C_of_reads (d := (0 : Int)) (h1 := fun _ => rfl) hr0) hc0 (Kd.C_of_reads (d := (0 : Int)) (h1 := fun _ => rfl) hr1) hc1 h).mono ?_
 rintro e w' ⟨rfl, hd⟩
 exact ⟨rfl, hd⟩
def impl_PolyOk.f (l0 : List Int) : Option (Bool) := (impl_elementsOk.f l0 9).bind fun t551 => (some t551)
set_option maxHeartbeats 8000000 in
set_option maxRecDepth 100000 in
theorem impl_PolyOk.calls (A0 : Option Addr) (c0 : Nat) (l0 : List Int) (r : Bool) (w : World) (hr0 : Kd.C (Kd.int .i64) w A0 l0.length l0) (hc0 : l0.length ≤ c0) (h : impl_PolyOk.f l0 = some r) :
  Calls Try.prog 117 #[.slice A0 l0.length c0] w fun e w' => e = .returned (.bool r) ∧ Drawn0 w w' := by
 have HR0 := Aside0.mk hr0
 have HC0 := Aside0.mk hc0
 clear hr0 hc0
 have H : ((impl_elementsOk.f l0 9).bind fun t551 => (some t551)) = some r := h
 clear h
 replace H := bnd H
 obtain ⟨t551, A2, H⟩ := H
 obtain rfl := Option.some.inj H
 go_enter Try.func117, Try.ntmps117
 go_wp2_with (first | ((with_reducible refine gate_callee (f := 96) rfl ?_); refine goesL_ (some 4) rfl rfl Try.func96 (by kernel_rfl) rfl #[.slice A0 l0.length c0, .int .i64 9] rfl (by (try simp only [List.map_toArray, List.map_cons, List.map_nil]); first | done | rfl | (simp only [List.length_drop, List.length_take]; rfl)) ?_; (with_reducible refine (impl_elementsOk.calls _ _ l0 9 t551 _ ?side1 ?side2 A2.out).mono ?_); (case side1 => exact HR0.out); (case side2 => exact HC0.out); rintro e w' ⟨rfl, ⟨nd, rfl⟩⟩; refine ⟨_, rfl, ?_⟩))
 go_ret
 exact ⟨rfl, ⟨_, rfl⟩⟩
def impl_PolyAt.f (l0 : List Int) (a1 : Int) : Option (Int) := (impl_PolyOk.f l0).bind fun t552 => (if t552 = true then ((impl_FieldOk.f a1).bind fun t553 => (if t553 = true then ((impl_value.f l0 a1).bind fun t554 => (some t554)) else (some 0))) else (some 0))
set_option maxHeartbeats 8000000 in
set_option maxRecDepth 100000 in
theorem impl_PolyAt.calls (A0 : Option Addr) (c0 : Nat) (l0 : List Int) (a1 : Int) (r : Int) (w : World) (hr0 : Kd.C (Kd.int .i64) w A0 l0.length l0) (hc0 : l0.length ≤ c0) (h : impl_PolyAt.f l0 a1 = some r) :
  Calls Try.prog 67 #[.slice A0 l0.length c0, .int .i64 a1] w fun e w' => e = .returned (.int .i64 r) ∧ Below w.heap.size w w' := by
 have HR0 := Aside0.mk hr0
 have HC0 := Aside0.mk hc0
 clear hr0 hc0
 have HB := Aside0.mk (Below.refl w.heap.size w)
 have H := h
 unfold impl_PolyAt.f at H
 clear h
 replace H := bnd H
 obtain ⟨t552, A3, H⟩ := H
 by_cases c4 : t552 = true
 ·subst c4
  rw [if_pos rfl] at H
  replace H := bnd H
  obtain ⟨t553, A5, H⟩ := H
  by_cases c6 : t553 = true
  ·subst c6
   rw [if_pos rfl] at H
   replace H := bnd H
   obtain ⟨t554, A7, H⟩ := H
   obtain rfl := Option.some.inj H
   go_enter Try.func67, Try.ntmps67
   go_wp2_with (first | ((with_reducible refine gate_callee (f := 117) rfl ?_); refine goesL_ (some 6) rfl rfl Try.func117 (by kernel_rfl) rfl #[.slice A0 l0.length c0] rfl (by (try simp only [List.map_toArray, List.map_cons, List.map_nil]); first | done | rfl | (simp only [List.length_drop, List.length_take]; rfl)) ?_; (with_reducible refine (impl_PolyOk.calls _ _ l0 true _ ?side1 ?side2 A3.out).mono ?_); (case side1 => exact HR0.out); (case side2 => exact HC0.out); rintro e w' ⟨rfl, ⟨nd, rfl⟩⟩; refine ⟨_, rfl, ?_⟩) | (go_at_call 110; (with_reducible refine (impl_FieldOk.calls a1 true _ A5.out).mono ?_); rintro e w' ⟨rfl, ⟨nd, rfl⟩⟩) | ((with_reducible refine gate_callee (f := 118) rfl ?_); refine goesL_ (some 15) rfl rfl Try.func118 (by kernel_rfl) rfl #[.slice A0 l0.length c0, .int .i64 a1] rfl (by (try simp only [List.map_toArray, List.map_cons, List.map_nil]); first | done | rfl | (simp only [List.length_drop, List.length_take]; rfl)) ?_; (with_reducible refine (impl_value.calls _ _ l0 a1 t554 _ ?side1 ?side2 A7.out).mono ?_); (case side1 => exact HR0.out); (case side2 => exact HC0.out); rintro e w8 ⟨rfl, hb⟩; refine ⟨_, rfl, ?_⟩; replace HB := Aside0.mk (below_step (by repeat (with_reducible first | exact HB.out | apply below_alloc | apply pw_below_drewN | apply below_drew1)) hb); clear hb))
   go_ret
   exact ⟨rfl, HB.out⟩
  ·replace c6 := Bool.eq_false_iff.mpr c6
   subst c6
   rw [if_neg (show ¬ (false = true) by decide)] at H
   obtain rfl := Option.some.inj H
   go_enter Try.func67, Try.ntmps67
   go_wp2_with (first | ((with_reducible refine gate_callee (f := 117) rfl ?_); refine goesL_ (some 6) rfl rfl Try.func117 (by kernel_rfl) rfl #[.slice A0 l0.length c0] rfl (by (try simp only [List.map_toArray, List.map_cons, List.map_nil]); first | done | rfl | (simp only [List.length_drop, List.length_take]; rfl)) ?_; (with_reducible refine (impl_PolyOk.calls _ _ l0 true _ ?side1 ?side2 A3.out).mono ?_); (case side1 => exact HR0.out); (case side2 => exact HC0.out); rintro e w' ⟨rfl, ⟨nd, rfl⟩⟩; refine ⟨_, rfl, ?_⟩) | (go_at_call 110; (with_reducible refine (impl_FieldOk.calls a1 false _ A5.out).mono ?_); rintro e w' ⟨rfl, ⟨nd, rfl⟩⟩))
   go_ret
   exact ⟨rfl, by repeat (with_reducible first | exact HB.out | apply below_alloc | apply pw_below_drewN | apply below_drew1)⟩
 ·replace c4 := Bool.eq_false_iff.mpr c4
  subst c4
  rw [if_neg (show ¬ (false = true) by decide)] at H
  obtain rfl := Option.some.inj H
  go_enter Try.func67, Try.ntmps67
  go_wp2_with (first | ((with_reducible refine gate_callee (f := 117) rfl ?_); refine goesL_ (some 6) rfl rfl Try.func117 (by kernel_rfl) rfl #[.slice A0 l0.length c0] rfl (by (try simp only [List.map_toArray, List.map_cons, List.map_nil]); first | done | rfl | (simp only [List.length_drop, List.length_take]; rfl)) ?_; (with_reducible refine (impl_PolyOk.calls _ _ l0 false _ ?side1 ?side2 A3.out).mono ?_); (case side1 => exact HR0.out); (case side2 => exact HC0.out); rintro e w' ⟨rfl, ⟨nd, rfl⟩⟩; refine ⟨_, rfl, ?_⟩))
  go_ret
  exact ⟨rfl, by repeat (with_reducible first | exact HB.out | apply below_alloc | apply pw_below_drewN | apply below_drew1)⟩
def impl_FieldMul.f (a0 : Int) (a1 : Int) : Option (Int) := (impl_FieldOk.f a0).bind fun t555 => (if t555 = true then ((impl_FieldOk.f a1).bind fun t556 => (if t556 = true then ((impl_element_times.f a0 a1).bind fun t557 => (some t557)) else (some 0))) else (some 0))
set_option maxHeartbeats 8000000 in
set_option maxRecDepth 100000 in
theorem impl_FieldMul.calls (a0 : Int) (a1 : Int) (r : Int) (w : World) (h : impl_FieldMul.f a0 a1 = some r) :
  Calls Try.prog 68 #[.int .i64 a0, .int .i64 a1] w fun e w' => e = .returned (.int .i64 r) ∧ Drawn0 w w' := by
 have H := h
 unfold impl_FieldMul.f at H
 clear h
 replace H := bnd H
 obtain ⟨t555, A3, H⟩ := H
 by_cases c4 : t555 = true
 ·subst c4
  rw [if_pos rfl] at H
  replace H := bnd H
  obtain ⟨t556, A5, H⟩ := H
  by_cases c6 : t556 = true
  ·subst c6
   rw [if_pos rfl] at H
   replace H := bnd H
   obtain ⟨t557, A7, H⟩ := H
   obtain rfl := Option.some.inj H
   go_enter Try.func68, Try.ntmps68
   go_wp2_with (first | (refine gsD c110x17 (impl_FieldOk.calls a0 true _ A3.out) ?_; intro nd) | (go_at_call 110; (with_reducible refine (impl_FieldOk.calls a1 true _ A5.out).mono ?_); rintro e w' ⟨rfl, ⟨nd, rfl⟩⟩) | (refine gsD c98x17 (impl_element_times.calls a0 a1 t557 _ A7.out) ?_; intro nd))
   go_ret
   exact ⟨rfl, ⟨_, rfl⟩⟩
  ·replace c6 := Bool.eq_false_iff.mpr c6
   subst c6
   rw [if_neg (show ¬ (false = true) by decide)] at H
   obtain rfl := Option.some.inj H
   go_enter Try.func68, Try.ntmps68
   go_wp2_with (first | (refine gsD c110x17 (impl_FieldOk.calls a0 true _ A3.out) ?_; intro nd) | (go_at_call 110; (with_reducible refine (impl_FieldOk.calls a1 false _ A5.out).mono ?_); rintro e w' ⟨rfl, ⟨nd, rfl⟩⟩))
   go_ret
   exact ⟨rfl, ⟨_, rfl⟩⟩
 ·replace c4 := Bool.eq_false_iff.mpr c4
  subst c4
  rw [if_neg (show ¬ (false = true) by decide)] at H
  obtain rfl := Option.some.inj H
  go_enter Try.func68, Try.ntmps68
  go_wp2_with (first | (refine gsD c110x17 (impl_FieldOk.calls a0 false _ A3.out) ?_; intro nd))
  go_ret
  exact ⟨rfl, ⟨_, rfl⟩⟩
def spec_QueryMay.f (a0 : Int) (a1 : Int) : Option (Bool) := (spec_l11Kind.f a0).bind fun t558 => (if t558 = true then ((spec_TypeLen.f a0).bind fun t559 => ((spec_l6In.f a1 (wrap64 (t559 + 1)) 30).bind fun t560 => (some t560))) else (some false))
set_option maxHeartbeats 8000000 in
set_option maxRecDepth 100000 in
theorem spec_QueryMay.calls (a0 : Int) (a1 : Int) (r : Bool) (w : World) (h : spec_QueryMay.f a0 a1 = some r) :
  Calls Try.prog 27 #[.int .i64 a0, .int .i64 a1] w fun e w' => e = .returned (.bool r) ∧ Drawn0 w w' := by
 have H := h
 unfold spec_QueryMay.f at H
 clear h
 replace H := bnd H
 obtain ⟨t558, A3, H⟩ := H
 by_cases c4 : t558 = true
 ·subst c4
  rw [if_pos rfl] at H
  replace H := bnd H
  obtain ⟨t559, A5, H⟩ := H
  replace H := bnd H
  obtain ⟨t560, A6, H⟩ := H
  obtain rfl := Option.some.inj H
  go_enter Try.func27, Try.ntmps27
  go_wp2_with (first | (refine gsD c85x17 (spec_l11Kind.calls a0 true _ A3.out) ?_; intro nd) | (go_at_call 86; (with_reducible refine (spec_TypeLen.calls a0 t559 _ A5.out).mono ?_); rintro e w' ⟨rfl, ⟨nd, rfl⟩⟩) | (go_at_call 87; (with_reducible refine (spec_l6In.calls a1 (wrap64 (t559 + 1)) 30 t560 _ A6.out).mono ?_); rintro e w' ⟨rfl, ⟨nd, rfl⟩⟩))
  go_ret
  exact ⟨rfl, ⟨_, rfl⟩⟩
 ·replace c4 := Bool.eq_false_iff.mpr c4
  subst c4
  rw [if_neg (show ¬ (false = true) by decide)] at H
  obtain rfl := Option.some.inj H
  go_enter Try.func27, Try.ntmps27
  go_wp2_with (first | (refine gsD c85x17 (spec_l11Kind.calls a0 false _ A3.out) ?_; intro nd))
  go_ret
  exact ⟨rfl, ⟨_, rfl⟩⟩
def spec_QueryAsk.f (k : Nat) (a0 : Int) (l1 : List Int) (a2 : Bool) (a3 : Int) (a4 : Int) : Option (List Int × Bool) := (spec_QueryMay.f a0 a3).bind fun t561 => (if t561 = true then ((spec_FieldOk.f a4).bind fun t562 => (if t562 = true then ((spec_ShareOk.f k l1).bind fun t563 => (if t563 = true then ((spec_ProofLen.f a0).bind fun t564 => (if (l1.length : Int) = t564 then ((spec_l13Ask.f k a0 l1 a2 a3 a4).bind fun t565 => (some (t565, true))) else (some ((([] : List Int)), false)))) else (some ((([] : List Int)), false)))) else (some ((([] : List Int)), false)))) else (some ((([] : List Int)), false)))
theorem spec_QueryAsk.mono : ∀ a0 a1 a2 a3 a4 k, LeO (spec_QueryAsk.f k a0 a1 a2 a3 a4) (spec_QueryAsk.f (k + 1) a0 a1 a2 a3 a4) := by
 intro a0 a1 a2 a3 a4 k
 unfold spec_QueryAsk.f
 repeat' first
   | exact spec_ShareOk.mono _ _
   | exact spec_l13Ask.mono _ _ _ _ _ _
   | exact LeO.none _
   | refine LeO.ite ?_ ?_
   | refine LeO.bind ?_ (fun _ => ?_)
   | exact LeO.refl _
set_option maxHeartbeats 8000000 in
set_option maxRecDepth 100000 in
theorem spec_QueryAsk.calls (k : Nat) (a0 : Int) (A1 : Option Addr) (c1 : Nat) (l1 : List Int) (a2 : Bool) (a3 : Int) (a4 : Int) (r1 : List Int) (r2 : Bool) (w : World) (hr1 : Kd.C (Kd.int .i64) w A1 l1.length l1) (hc1 : l1.length ≤ c1) (h : spec_QueryAsk.f k a0 l1 a2 a3 a4 = some (r1, r2)) :
  Calls Try.prog 69 #[.int .i64 a0, .slice A1 l1.length c1, .bool a2, .int .i64 a3, .int .i64 a4] w fun e w' => ∃ v0_ : Value, e = .returned (.tuple #[v0_, .bool r2]) ∧ Kd.R (Kd.int .i64) 3 w' w.heap.size (fun _ => True) v0_ r1 ∧ Below w.heap.size w w' := by
 have HR1 := Aside0.mk hr1
 have HC1 := Aside0.mk hc1
 clear hr1 hc1
 have HB := Aside0.mk (Below.refl w.heap.size w)
 have H := h
 unfold spec_QueryAsk.f at H
 clear h
 replace H := bnd H
 obtain ⟨t561, A6, H⟩ := H
 by_cases c7 : t561 = true
 ·subst c7
  rw [if_pos rfl] at H
  replace H := bnd H
  obtain ⟨t562, A8, H⟩ := H
  by_cases c9 : t562 = true
  ·subst c9
   rw [if_pos rfl] at H
   replace H := bnd H
   obtain ⟨t563, A10, H⟩ := H
   by_cases c11 : t563 = true
   ·subst c11
    rw [if_pos rfl] at H
    replace H := bnd H
    obtain ⟨t564, A12, H⟩ := H
    by_cases c13 : (l1.length : Int) = t564
    ·rw [if_pos c13] at H
     have c13b0 : ((l1.length : Int) == t564) = true := beq_iff_eq.mpr c13
     have c13b1 : ((l1.length : Int) != t564) = false := bne_eq_false_iff_eq.mpr c13
     clear c13
     replace H := bnd H
     obtain ⟨t565, A14, H⟩ := H
     simp only [Option.some.injEq, Prod.mk.injEq] at H
     obtain ⟨rfl, rfl⟩ := H
     go_enter Try.func69, Try.ntmps69
     go_wp2_with (first | (refine gsD c27x17 (spec_QueryMay.calls a0 a3 true _ A6.out) ?_; intro nd) | (go_at_call 108; (with_reducible refine (spec_FieldOk.calls a4 true _ A8.out).mono ?_); rintro e w' ⟨rfl, ⟨nd, rfl⟩⟩) | (go_at_call 94; (with_reducible refine (spec_ShareOk.calls k _ _ l1 true _ ?side1 ?side2 A10.out).mono ?_); (case side1 => exact HR1.out); (case side2 => exact HC1.out); rintro e w' ⟨rfl, ⟨nd, rfl⟩⟩) | (go_at_call 119; (with_reducible refine (spec_ProofLen.calls a0 t564 _ A12.out).mono ?_); rintro e w' ⟨rfl, ⟨nd, rfl⟩⟩) | ((with_reducible refine gate_callee (f := 120) rfl ?_); refine goesL_ (some 39) rfl rfl Try.func120 (by kernel_rfl) rfl #[.int .i64 a0, .slice A1 l1.length c1, .bool a2, .int .i64 a3, .int .i64 a4] rfl (by (try simp only [List.map_toArray, List.map_cons, List.map_nil]); first | done | rfl | (simp only [List.length_drop, List.length_take]; rfl)) ?_; (with_reducible refine (spec_l13Ask.calls k a0 _ _ l1 a2 a3 a4 t565 _ ?side1 ?side2 A14.out).mono ?_); (case side1 => exact HR1.out); (case side2 => exact HC1.out); rintro e w15 ⟨v566, rfl, ho0, hb⟩; refine ⟨_, rfl, ?_⟩; replace HO567 := Aside0.mk (Kd.R_lower ho0 (below_size (by repeat (with_reducible first | exact HB.out | apply below_alloc | apply pw_below_drewN | apply below_drew1)))); replace HB := Aside0.mk (below_step (by repeat (with_reducible first | exact HB.out | apply below_alloc | apply pw_below_drewN | apply below_drew1)) hb); clear hb ho0))
     go_ret2
     exact ⟨_, rfl, HO567.out, by repeat (with_reducible first | exact HB.out | apply below_alloc | apply pw_below_drewN | apply below_drew1)⟩
    ·rw [if_neg c13] at H
     have c13b0 : ((l1.length : Int) == t564) = false := beq_eq_false_iff_ne.mpr c13
     have c13b1 : ((l1.length : Int) != t564) = true := bne_iff_ne.mpr c13
     obtain ⟨y568, hy568⟩ : ∃ y_ : List Int, y_ = (([] : List Int)) := ⟨_, rfl⟩
     rw [← hy568] at H
     have Ny568 := Aside0.mk hy568
     clear hy568
     simp only [Option.some.injEq, Prod.mk.injEq] at H
     obtain ⟨rfl, rfl⟩ := H
     go_enter Try.func69, Try.ntmps69
     go_wp2_with (first | (refine gsD c27x17 (spec_QueryMay.calls a0 a3 true _ A6.out) ?_; intro nd) | (go_at_call 108; (with_reducible refine (spec_FieldOk.calls a4 true _ A8.out).mono ?_); rintro e w' ⟨rfl, ⟨nd, rfl⟩⟩) | (go_at_call 94; (with_reducible refine (spec_ShareOk.calls k _ _ l1 true _ ?side1 ?side2 A10.out).mono ?_); (case side1 => exact HR1.out); (case side2 => exact HC1.out); rintro e w' ⟨rfl, ⟨nd, rfl⟩⟩) | (go_at_call 119; (with_reducible refine (spec_ProofLen.calls a0 t564 _ A12.out).mono ?_); rintro e w' ⟨rfl, ⟨nd, rfl⟩⟩) | ((with_reducible refine gate_dst (N := 33) rfl ?_); (try (refine gate_guard (by rfl) ?_; dsimp only)); refine Kd.R_lit (Kd.int .i64) _ 3 ?hg (N := 33) ?hd (xs := ([] : List Int)) (inner := []) (ok := fun _ => True) (okp := fun _ => True) ?hr ?hp (fun _ hk => hk) trivial (Below.refl _ _) (Nat.le_refl _) (by simp) ?_; (case hd => rfl); (case hg => rfl); (case hr => first | (go_simp; done) | (go_simp; rfl)); (case hp => exact (Reps.none _ _)); intro v569 w16 ho17 hb hg_ hnew_; clear hg_ hnew_; (first | rw [← Ny568.out] at ho17 | (simp only [Int.reduceToNat] at ho17; rw [← Ny568.out] at ho17)); replace HO570 := Aside0.mk (Kd.R_lower ho17 (below_size (by repeat (with_reducible first | exact HB.out | apply below_alloc | apply pw_below_drewN | apply below_drew1)))); replace HB := Aside0.mk (below_step (by repeat (with_reducible first | exact HB.out | apply below_alloc | apply pw_below_drewN | apply below_drew1)) hb); clear hb ho17))
     go_ret2
     exact ⟨_, rfl, HO570.out, by repeat (with_reducible first | exact HB.out | apply below_alloc | apply pw_below_drewN | apply below_drew1)⟩
   ·replace c11 := Bool.eq_false_iff.mpr c11
    subst c11
    rw [if_neg (show ¬ (false = true) by decide)] at H
    obtain ⟨y571, hy571⟩ : ∃ y_ : List Int, y_ = (([] : List Int)) := ⟨_, rfl⟩
    rw [← hy571] at H
    have Ny571 := Aside0.mk hy571
    clear hy571
    simp only [Option.some.injEq, Prod.mk.injEq] at H
    obtain ⟨rfl, rfl⟩ := H
    go_enter Try.func69, Try.ntmps69
    go_wp2_with (first | (refine gsD c27x17 (spec_QueryMay.calls a0 a3 true _ A6.out) ?_; intro nd) | (go_at_call 108; (with_reducible refine (spec_FieldOk.calls a4 true _ A8.out).mono ?_); rintro e w' ⟨rfl, ⟨nd, rfl⟩⟩) | (go_at_call 94; (with_reducible refine (spec_ShareOk.calls k _ _ l1 false _ ?side1 ?side2 A10.out).mono ?_); (case side1 => exact HR1.out); (case side2 => exact HC1.out); rintro e w' ⟨rfl, ⟨nd, rfl⟩⟩) | ((with_reducible refine gate_dst (N := 33) rfl ?_); (try (refine gate_guard (by rfl) ?_; dsimp only)); refine Kd.R_lit (Kd.int .i64) _ 3 ?hg (N := 33) ?hd (xs := ([] : List Int)) (inner := []) (ok := fun _ => True) (okp := fun _ => True) ?hr ?hp (fun _ hk => hk) trivial (Below.refl _ _) (Nat.le_refl _) (by simp) ?_; (case hd => rfl); (case hg => rfl); (case hr => first | (go_simp; done) | (go_simp; rfl)); (case hp => exact (Reps.none _ _)); intro v572 w18 ho19 hb hg_ hnew_; clear hg_ hnew_; (first | rw [← Ny571.out] at ho19 | (simp only [Int.reduceToNat] at ho19; rw [← Ny571.out] at ho19)); replace HO573 := Aside0.mk (Kd.R_lower ho19 (below_size (by repeat (with_reducible first | exact HB.out | apply below_alloc | apply pw_below_drewN | apply below_drew1)))); replace HB := Aside0.mk (below_step (by repeat (with_reducible first | exact HB.out | apply below_alloc | apply pw_below_drewN | apply below_drew1)) hb); clear hb ho19))
    go_ret2
    exact ⟨_, rfl, HO573.out, by repeat (with_reducible first | exact HB.out | apply below_alloc | apply pw_below_drewN | apply below_drew1)⟩
  ·replace c9 := Bool.eq_false_iff.mpr c9
   subst c9
   rw [if_neg (show ¬ (false = true) by decide)] at H
   obtain ⟨y574, hy574⟩ : ∃ y_ : List Int, y_ = (([] : List Int)) := ⟨_, rfl⟩
   rw [← hy574] at H
   have Ny574 := Aside0.mk hy574
   clear hy574
   simp only [Option.some.injEq, Prod.mk.injEq] at H
   obtain ⟨rfl, rfl⟩ := H
   go_enter Try.func69, Try.ntmps69
   go_wp2_with (first | (refine gsD c27x17 (spec_QueryMay.calls a0 a3 true _ A6.out) ?_; intro nd) | (go_at_call 108; (with_reducible refine (spec_FieldOk.calls a4 false _ A8.out).mono ?_); rintro e w' ⟨rfl, ⟨nd, rfl⟩⟩) | ((with_reducible refine gate_dst (N := 33) rfl ?_); (try (refine gate_guard (by rfl) ?_; dsimp only)); refine Kd.R_lit (Kd.int .i64) _ 3 ?hg (N := 33) ?hd (xs := ([] : List Int)) (inner := []) (ok := fun _ => True) (okp := fun _ => True) ?hr ?hp (fun _ hk => hk) trivial (Below.refl _ _) (Nat.le_refl _) (by simp) ?_; (case hd => rfl); (case hg => rfl); (case hr => first | (go_simp; done) | (go_simp; rfl)); (case hp => exact (Reps.none _ _)); intro v575 w20 ho21 hb hg_ hnew_; clear hg_ hnew_; (first | rw [← Ny574.out] at ho21 | (simp only [Int.reduceToNat] at ho21; rw [← Ny574.out] at ho21)); replace HO576 := Aside0.mk (Kd.R_lower ho21 (below_size (by repeat (with_reducible first | exact HB.out | apply below_alloc | apply pw_below_drewN | apply below_drew1)))); replace HB := Aside0.mk (below_step (by repeat (with_reducible first | exact HB.out | apply below_alloc | apply pw_below_drewN | apply below_drew1)) hb); clear hb ho21))
   go_ret2
   exact ⟨_, rfl, HO576.out, by repeat (with_reducible first | exact HB.out | apply below_alloc | apply pw_below_drewN | apply below_drew1)⟩
 ·replace c7 := Bool.eq_false_iff.mpr c7
  subst c7
  rw [if_neg (show ¬ (false = true) by decide)] at H
  obtain ⟨y577, hy577⟩ : ∃ y_ : List Int, y_ = (([] : List Int)) := ⟨_, rfl⟩
  rw [← hy577] at H
  have Ny577 := Aside0.mk hy577
  clear hy577
  simp only [Option.some.injEq, Prod.mk.injEq] at H
  obtain ⟨rfl, rfl⟩ := H
  go_enter Try.func69, Try.ntmps69
  go_wp2_with (first | (refine gsD c27x17 (spec_QueryMay.calls a0 a3 false _ A6.out) ?_; intro nd) | ((with_reducible refine gate_dst (N := 33) rfl ?_); (try (refine gate_guard (by rfl) ?_; dsimp only)); refine Kd.R_lit (Kd.int .i64) _ 3 ?hg (N := 33) ?hd (xs := ([] : List Int)) (inner := []) (ok := fun _ => True) (okp := fun _ => True) ?hr ?hp (fun _ hk => hk) trivial (Below.refl _ _) (Nat.le_refl _) (by simp) ?_; (case hd => rfl); (case hg => rfl); (case hr => first | (go_simp; done) | (go_simp; rfl)); (case hp => exact (Reps.none _ _)); intro v578 w22 ho23 hb hg_ hnew_; clear hg_ hnew_; (first | rw [← Ny577.out] at ho23 | (simp only [Int.reduceToNat] at ho23; rw [← Ny577.out] at ho23)); replace HO579 := Aside0.mk (Kd.R_lower ho23 (below_size (by repeat (with_reducible first | exact HB.out | apply below_alloc | apply pw_below_drewN | apply below_drew1)))); replace HB := Aside0.mk (below_step (by repeat (with_reducible first | exact HB.out | apply below_alloc | apply pw_below_drewN | apply below_drew1)) hb); clear hb ho23))
  go_ret2
  exact ⟨_, rfl, HO579.out, by repeat (with_reducible first | exact HB.out | apply below_alloc | apply pw_below_drewN | apply below_drew1)⟩
end Go.Proofs.Ytplbobmllflniaa.Ea
