import Derived.Test.YtplbobmllflniaaEi0
import Derived.Test.YtplbobmllflniaaEi4
import Derived.Test.YtplbobmllflniaaEi7
import Derived.Test.YtplbobmllflniaaEi8
import Derived.Test.YtplbobmllflniaaEi13
namespace Go.Proofs.Ytplbobmllflniaa.Ei
open Go.RowKit Go.Proofs.YtplbobmllflniaaW.PrintWords Go.Proofs.YtplbobmllflniaaW.PrintLast Go.Proofs.YtplbobmllflniaaW.PrintMore
attribute [local go_sem] max2_int min2_int max_two min_two max_three min_three max_four min_four
set_option linter.unusedVariables false
set_option linter.unusedSimpArgs false
def spec_DrawQueryAsk.f (k : Nat) (l0 : List Int) : Option (Int × List Int × Bool × Int × Int) := (spec_l6Open.f l0).bind fun bt532 => ((spec_l91All.f k bt532.1 bt532.2).bind fun bt535 => ((spec_l6Rd_pick.f k bt532.1 bt535.2.2 2).bind fun bt540 => ((spec_l6Rd_pick.f k bt532.1 bt540.2 26).bind fun bt542 => ((spec_l6Rd_pick.f k bt532.1 bt542.2 16).bind fun bt544 => ((spec_l91Num.f k bt532.1 bt544.2).bind fun bt546 => (some (bt535.1, bt535.2.1, (bt540.1 == 0), wrap64 ((wrap64 (5 + bt542.1)) - (wrap64 ((wrap64 (Int.tdiv bt544.1 15)) * 4))), bt546.1)))))))
theorem spec_DrawQueryAsk.mono : ∀ a0 k, LeO (spec_DrawQueryAsk.f k a0) (spec_DrawQueryAsk.f (k + 1) a0) := by
 intro a0 k
 unfold spec_DrawQueryAsk.f
 repeat' first
   | (with_reducible exact spec_l6Rd_pick.mono _ _ _ _)
   | (with_reducible exact spec_l91All.mono _ _ _)
   | (with_reducible exact spec_l91Num.mono _ _ _)
   | (with_reducible exact LeO.refl _)
   | (with_reducible exact LeO.none _)
   | (with_reducible refine LeO.ite ?_ ?_)
   | (with_reducible refine LeO.bind ?_ (fun _ => ?_))
   | exact spec_l6Rd_pick.mono _ _ _ _
   | exact spec_l91All.mono _ _ _
   | exact spec_l91Num.mono _ _ _
   | exact LeO.none _
   | refine LeO.ite ?_ ?_
   | refine LeO.bind ?_ (fun _ => ?_)
set_option maxHeartbeats 8000000 in
set_option maxRecDepth 100000 in
theorem spec_DrawQueryAsk.calls (k : Nat) (A0 : Option Addr) (c0 : Nat) (l0 : List Int) (r1 : Int) (r2 : List Int) (r3 : Bool) (r4 : Int) (r5 : Int) (w : World) (hr0 : Kd.C (Kd.int .u8) w A0 l0.length l0) (hc0 : l0.length ≤ c0) (h : spec_DrawQueryAsk.f k l0 = some (r1, r2, r3, r4, r5)) :
  Calls Try.prog 78 #[.slice A0 l0.length c0] w fun e w' => ∃ v1_ : Value, e = .returned (.tuple #[.int .i64 r1, v1_, .bool r3, .int .i64 r4, .int .i64 r5]) ∧ Kd.R (Kd.int .i64) 3 w' w.heap.size (fun _ => True) v1_ r2 ∧ Below w.heap.size w w' := by
 have HR0 := Aside0.mk hr0
 have HC0 := Aside0.mk hc0
 clear hr0 hc0
 have HB := Aside0.mk (Below.refl w.heap.size w)
 have H : ((spec_l6Open.f l0).bind fun bt532 => ((spec_l91All.f k bt532.1 bt532.2).bind fun bt535 => ((spec_l6Rd_pick.f k bt532.1 bt535.2.2 2).bind fun bt540 => ((spec_l6Rd_pick.f k bt532.1 bt540.2 26).bind fun bt542 => ((spec_l6Rd_pick.f k bt532.1 bt542.2 16).bind fun bt544 => ((spec_l91Num.f k bt532.1 bt544.2).bind fun bt546 => (some (bt535.1, bt535.2.1, (bt540.1 == 0), wrap64 ((wrap64 (5 + bt542.1)) - (wrap64 ((wrap64 (Int.tdiv bt544.1 15)) * 4))), bt546.1)))))))) = some (r1, r2, r3, r4, r5) := h
 clear h
 replace H := Option.bind_eq_some_iff.mp H
 obtain ⟨⟨t532, t533⟩, A20, H⟩ := H
 replace H : ((spec_l91All.f k t532 t533).bind fun bt535 => ((spec_l6Rd_pick.f k t532 bt535.2.2 2).bind fun bt540 => ((spec_l6Rd_pick.f k t532 bt540.2 26).bind fun bt542 => ((spec_l6Rd_pick.f k t532 bt542.2 16).bind fun bt544 => ((spec_l91Num.f k t532 bt544.2).bind fun bt546 => (some (bt535.1, bt535.2.1, (bt540.1 == 0), wrap64 ((wrap64 (5 + bt542.1)) - (wrap64 ((wrap64 (Int.tdiv bt544.1 15)) * 4))), bt546.1))))))) = some (r1, r2, r3, r4, r5) := H
 have A2 := Aside0.mk A20
 clear A20
 replace H := Option.bind_eq_some_iff.mp H
 obtain ⟨⟨t535, t536, t539⟩, A30, H⟩ := H
 replace H : ((spec_l6Rd_pick.f k t532 t539 2).bind fun bt540 => ((spec_l6Rd_pick.f k t532 bt540.2 26).bind fun bt542 => ((spec_l6Rd_pick.f k t532 bt542.2 16).bind fun bt544 => ((spec_l91Num.f k t532 bt544.2).bind fun bt546 => (some (t535, t536, (bt540.1 == 0), wrap64 ((wrap64 (5 + bt542.1)) - (wrap64 ((wrap64 (Int.tdiv bt544.1 15)) * 4))), bt546.1)))))) = some (r1, r2, r3, r4, r5) := H
 have A3 := Aside0.mk A30
 clear A30
 replace H := Option.bind_eq_some_iff.mp H
 obtain ⟨⟨t540, t541⟩, A40, H⟩ := H
 replace H : ((spec_l6Rd_pick.f k t532 t541 26).bind fun bt542 => ((spec_l6Rd_pick.f k t532 bt542.2 16).bind fun bt544 => ((spec_l91Num.f k t532 bt544.2).bind fun bt546 => (some (t535, t536, (t540 == 0), wrap64 ((wrap64 (5 + bt542.1)) - (wrap64 ((wrap64 (Int.tdiv bt544.1 15)) * 4))), bt546.1))))) = some (r1, r2, r3, r4, r5) := H
 have A4 := Aside0.mk A40
 clear A40
 replace H := Option.bind_eq_some_iff.mp H
 obtain ⟨⟨t542, t543⟩, A50, H⟩ := H
 replace H : ((spec_l6Rd_pick.f k t532 t543 16).bind fun bt544 => ((spec_l91Num.f k t532 bt544.2).bind fun bt546 => (some (t535, t536, (t540 == 0), wrap64 ((wrap64 (5 + t542)) - (wrap64 ((wrap64 (Int.tdiv bt544.1 15)) * 4))), bt546.1)))) = some (r1, r2, r3, r4, r5) := H
 have A5 := Aside0.mk A50
 clear A50
 replace H := Option.bind_eq_some_iff.mp H
 obtain ⟨⟨t544, t545⟩, A60, H⟩ := H
 replace H : ((spec_l91Num.f k t532 t545).bind fun bt546 => (some (t535, t536, (t540 == 0), wrap64 ((wrap64 (5 + t542)) - (wrap64 ((wrap64 (Int.tdiv t544 15)) * 4))), bt546.1))) = some (r1, r2, r3, r4, r5) := H
 have A6 := Aside0.mk A60
 clear A60
 replace H := Option.bind_eq_some_iff.mp H
 obtain ⟨⟨t546, t547⟩, A70, H⟩ := H
 replace H : (some (t535, t536, (t540 == 0), wrap64 ((wrap64 (5 + t542)) - (wrap64 ((wrap64 (Int.tdiv t544 15)) * 4))), t546)) = some (r1, r2, r3, r4, r5) := H
 have A7 := Aside0.mk A70
 clear A70
 simp only [Option.some.injEq, Prod.mk.injEq] at H
 obtain ⟨rfl, rfl, rfl, rfl, rfl⟩ := H
 go_enter Try.func78, Try.ntmps78
 go_wp2_with (first | ((with_reducible refine gate_callee (f := 90) rfl ?_); refine goesL_ (some 11) rfl rfl Try.func90 (by kernel_rfl) rfl #[.slice A0 l0.length c0] rfl (by (try simp only [List.map_toArray, List.map_cons, List.map_nil]); first | done | rfl | (simp only [List.length_drop, List.length_take]; rfl)) ?_; (with_reducible refine (spec_l6Open.calls _ _ l0 t532 t533 w _ ?side1 ?side2 ?side3 A2.out).mono ?_); (case side1 => exact HB.out); (case side2 => exact HR0.out); (case side3 => exact HC0.out); rintro e w8 ⟨g534, rfl, hi, hb, hb2⟩; refine ⟨_, rfl, ?_⟩; have n0_ := Aside0.mk (hb); have n1_ := Aside0.mk (hi); clear HB; have HB := n0_; have HI534 := n1_; clear n0_ n1_; (try clear hb); (try clear hb2); (try clear hk); (try clear hi)) | ((with_reducible refine gate_callee (f := 124) rfl ?_); refine goesL_ (some 14) rfl rfl Try.func124 (by kernel_rfl) rfl #[.pointer (some ⟨g534, 0, none⟩)] rfl (by (try simp only [List.map_toArray, List.map_cons, List.map_nil]); first | done | rfl | (simp only [List.length_drop, List.length_take]; rfl)) ?_; (with_reducible refine (spec_l91All.calls k g534 t532 t533 t535 t536 t539 w _ ?side1 ?side2 A3.out).mono ?_); (case side1 => exact HI534.out); (case side2 => exact HB.out); rintro e w9 ⟨v537, rfl, ho0, hi, hb, hk⟩; refine ⟨_, rfl, ?_⟩; have n0_ := Aside0.mk (Kd.R_lower ho0 (below_size (HB.out))); have n1_ := Aside0.mk (hb); have n2_ := Aside0.mk (hi); clear HB; clear HI534; have HO538 := n0_; have HB := n1_; have HI534 := n2_; clear n0_ n1_ n2_; (try clear hb); (try clear hb2); (try clear hk); (try clear hi); (try clear ho0)) | ((with_reducible refine gate_callee (f := 91) rfl ?_); refine goesL_ (some 20) rfl rfl Try.func91 (by kernel_rfl) rfl #[.pointer (some ⟨g534, 0, none⟩), .int .i64 2] rfl (by (try simp only [List.map_toArray, List.map_cons, List.map_nil]); first | done | rfl | (simp only [List.length_drop, List.length_take]; rfl)) ?_; (with_reducible refine (spec_l6Rd_pick.calls k g534 t532 t539 2 t540 t541 w _ ?side1 ?side2 A4.out).mono ?_); (case side1 => exact HI534.out); (case side2 => exact HB.out); rintro e w10 ⟨rfl, hi, hb, hk⟩; refine ⟨_, rfl, ?_⟩; have n0_ := Aside0.mk (Kd.R_mono (Kd.R_keep (IsS118.apart (show IsS118 w _ g534 t532 t539 from HI534.out) (HO538.out) (by decide)) hk (fun _ h => h.2)) (fun _ h => h.1)); have n1_ := Aside0.mk (hb); have n2_ := Aside0.mk (hi); clear HO538; clear HB; clear HI534; have HO538 := n0_; have HB := n1_; have HI534 := n2_; clear n0_ n1_ n2_; (try clear hb); (try clear hb2); (try clear hk); (try clear hi)) | ((with_reducible refine gate_callee (f := 91) rfl ?_); refine goesL_ (some 23) rfl rfl Try.func91 (by kernel_rfl) rfl #[.pointer (some ⟨g534, 0, none⟩), .int .i64 26] rfl (by (try simp only [List.map_toArray, List.map_cons, List.map_nil]); first | done | rfl | (simp only [List.length_drop, List.length_take]; rfl)) ?_; (with_reducible refine (spec_l6Rd_pick.calls k g534 t532 t541 26 t542 t543 w _ ?side1 ?side2 A5.out).mono ?_); (case side1 => exact HI534.out); (case side2 => exact HB.out); rintro e w11 ⟨rfl, hi, hb, hk⟩; refine ⟨_, rfl, ?_⟩; have n0_ := Aside0.mk (Kd.R_mono (Kd.R_keep (IsS118.apart (show IsS118 w _ g534 t532 t541 from HI534.out) (HO538.out) (by decide)) hk (fun _ h => h.2)) (fun _ h => h.1)); have n1_ := Aside0.mk (hb); have n2_ := Aside0.mk (hi); clear HO538; clear HB; clear HI534; have HO538 := n0_; have HB := n1_; have HI534 := n2_; clear n0_ n1_ n2_; (try clear hb); (try clear hb2); (try clear hk); (try clear hi)) | ((with_reducible refine gate_callee (f := 91) rfl ?_); refine goesL_ (some 26) rfl rfl Try.func91 (by kernel_rfl) rfl #[.pointer (some ⟨g534, 0, none⟩), .int .i64 16] rfl (by (try simp only [List.map_toArray, List.map_cons, List.map_nil]); first | done | rfl | (simp only [List.length_drop, List.length_take]; rfl)) ?_; (with_reducible refine (spec_l6Rd_pick.calls k g534 t532 t543 16 t544 t545 w _ ?side1 ?side2 A6.out).mono ?_); (case side1 => exact HI534.out); (case side2 => exact HB.out); rintro e w12 ⟨rfl, hi, hb, hk⟩; refine ⟨_, rfl, ?_⟩; have n0_ := Aside0.mk (Kd.R_mono (Kd.R_keep (IsS118.apart (show IsS118 w _ g534 t532 t543 from HI534.out) (HO538.out) (by decide)) hk (fun _ h => h.2)) (fun _ h => h.1)); have n1_ := Aside0.mk (hb); have n2_ := Aside0.mk (hi); clear HO538; clear HB; clear HI534; have HO538 := n0_; have HB := n1_; have HI534 := n2_; clear n0_ n1_ n2_; (try clear hb); (try clear hb2); (try clear hk); (try clear hi)) | ((with_reducible refine gate_callee (f := 116) rfl ?_); refine goesL_ (some 31) rfl rfl Try.func116 (by kernel_rfl) rfl #[.pointer (some ⟨g534, 0, none⟩)] rfl (by (try simp only [List.map_toArray, List.map_cons, List.map_nil]); first | done | rfl | (simp only [List.length_drop, List.length_take]; rfl)) ?_; (with_reducible refine (spec_l91Num.calls k g534 t532 t545 t546 t547 w _ ?side1 ?side2 A7.out).mono ?_); (case side1 => exact HI534.out); (case side2 => exact HB.out); rintro e w13 ⟨rfl, hi, hb, hk⟩; refine ⟨_, rfl, ?_⟩; have n0_ := Aside0.mk (Kd.R_mono (Kd.R_keep (IsS118.apart (show IsS118 w _ g534 t532 t545 from HI534.out) (HO538.out) (by decide)) hk (fun _ h => h.2)) (fun _ h => h.1)); have n1_ := Aside0.mk (hb); have n2_ := Aside0.mk (hi); clear HO538; clear HB; clear HI534; have HO538 := n0_; have HB := n1_; have HI534 := n2_; clear n0_ n1_ n2_; (try clear hb); (try clear hb2); (try clear hk); (try clear hi)))
 refine bodyPost_ret (results_list (rs := [.tmp 2, .tmp 3, .tmp 4, .tmp 5, .tmp 6]) rfl (by simp) (.tmp (.tmp (.tmp (.tmp (.tmp .nil)))))) rfl ?_
 exact ⟨_, by first | rfl | (simp [errW_none, errW_some] <;> rfl) | (simp [*, errW_none, errW_some] <;> rfl), HO538.out, HB.out⟩
def laws_FnAskNone.j0 : Nat → Int → List Int → Int → Int → List Int → Bool → List Int → Bool → Bool → Option (Bool)
 | 0, _, _, _, _, _, _, _, _, _ => none
 | k + 1, x3, x4, x6, x7, x8, x9, x10, x11, x55 => if x55 = true then (if (x11 == x9) = true then ((laws_loInts.f k x10 x8).bind fun t564 => (some t564)) else (some false)) else (if 0 ≤ (x4.length : Int) then (if ((x4.length : Int) : Int).toNat ≤ 35184372088832 then ((impl_QueryAsk.f k x3 (List.replicate ((x4.length : Int) : Int).toNat 0) false x6 x7).bind fun bt568 => (if bt568.2 = true then ((laws_loInts.f k bt568.1 (([0, 0, 0, 0] : List Int))).bind fun t575 => (if t575 = true then (some ((x10.length : Int) == 4)) else (some false))) else (some false))) else (none)) else (none))
def laws_FnAskNone.f (k : Nat) (l0 : List Int) : Option (Bool) := if (l0.length : Int) > 1048576 then (some true) else ((spec_DrawQueryAsk.f k l0).bind fun bt548 => ((spec_QueryAsk.f k bt548.1 bt548.2.1 bt548.2.2.1 bt548.2.2.2.1 bt548.2.2.2.2).bind fun bt555 => ((impl_QueryAsk.f k bt548.1 bt548.2.1 bt548.2.2.1 bt548.2.2.2.1 bt548.2.2.2.2).bind fun bt559 => (if (bt559.2 != bt555.2) = true then (laws_FnAskNone.j0 k bt548.1 bt548.2.1 bt548.2.2.2.1 bt548.2.2.2.2 bt555.1 bt555.2 bt559.1 bt559.2 true) else ((laws_loInts.f k bt559.1 bt555.1).bind fun t563 => (if t563 = true then (laws_FnAskNone.j0 k bt548.1 bt548.2.1 bt548.2.2.2.1 bt548.2.2.2.2 bt555.1 bt555.2 bt559.1 bt559.2 (!bt559.2)) else (laws_FnAskNone.j0 k bt548.1 bt548.2.1 bt548.2.2.2.1 bt548.2.2.2.2 bt555.1 bt555.2 bt559.1 bt559.2 true)))))))
theorem laws_FnAskNone.mono_l : ∀ k, (∀ y0 y1 y2 y3 y4 y5 y6 y7 y8, LeO (laws_FnAskNone.j0 k y0 y1 y2 y3 y4 y5 y6 y7 y8) (laws_FnAskNone.j0 (k + 1) y0 y1 y2 y3 y4 y5 y6 y7 y8))
 | 0 => fun _ _ _ _ _ _ _ _ _ r h => by simp [laws_FnAskNone.j0] at h
 | k + 1 => by
  have ih0 := laws_FnAskNone.mono_l k
  ·intro y0 y1 y2 y3 y4 y5 y6 y7 y8
   unfold laws_FnAskNone.j0
   repeat' first
   | (with_reducible exact ih0 _ _ _ _ _ _ _ _ _)
   | (with_reducible exact impl_QueryAsk.mono _ _ _ _ _ _)
   | (with_reducible exact laws_loInts.mono _ _ _)
   | (with_reducible exact spec_DrawQueryAsk.mono _ _)
   | (with_reducible exact spec_QueryAsk.mono _ _ _ _ _ _)
   | (with_reducible exact LeO.refl _)
   | (with_reducible exact LeO.none _)
   | (with_reducible refine LeO.ite ?_ ?_)
   | (with_reducible refine LeO.bind ?_ (fun _ => ?_))
   | exact ih0 _ _ _ _ _ _ _ _ _
   | exact impl_QueryAsk.mono _ _ _ _ _ _
   | exact laws_loInts.mono _ _ _
   | exact spec_DrawQueryAsk.mono _ _
   | exact spec_QueryAsk.mono _ _ _ _ _ _
   | exact LeO.none _
   | refine LeO.ite ?_ ?_
   | refine LeO.bind ?_ (fun _ => ?_)
theorem laws_FnAskNone.mono : ∀ a0 k, LeO (laws_FnAskNone.f k a0) (laws_FnAskNone.f (k + 1) a0) := by
 intro a0 k
 have ih0 := laws_FnAskNone.mono_l k
 unfold laws_FnAskNone.f
 repeat' first
   | (with_reducible exact ih0 _ _ _ _ _ _ _ _ _)
   | (with_reducible exact impl_QueryAsk.mono _ _ _ _ _ _)
   | (with_reducible exact laws_loInts.mono _ _ _)
   | (with_reducible exact spec_DrawQueryAsk.mono _ _)
   | (with_reducible exact spec_QueryAsk.mono _ _ _ _ _ _)
   | (with_reducible exact LeO.refl _)
   | (with_reducible exact LeO.none _)
   | (with_reducible refine LeO.ite ?_ ?_)
   | (with_reducible refine LeO.bind ?_ (fun _ => ?_))
   | exact ih0 _ _ _ _ _ _ _ _ _
   | exact impl_QueryAsk.mono _ _ _ _ _ _
   | exact laws_loInts.mono _ _ _
   | exact spec_DrawQueryAsk.mono _ _
   | exact spec_QueryAsk.mono _ _ _ _ _ _
   | exact LeO.none _
   | refine LeO.ite ?_ ?_
   | refine LeO.bind ?_ (fun _ => ?_)
set_option maxHeartbeats 8000000 in
set_option maxRecDepth 100000 in
theorem laws_FnAskNone.calls (k : Nat) (A0 : Option Addr) (c0 : Nat) (l0 : List Int) (r : Bool) (w : World) (hr0 : Kd.C (Kd.int .u8) w A0 l0.length l0) (hc0 : l0.length ≤ c0) (h : laws_FnAskNone.f k l0 = some r) :
  Calls Try.prog 21 #[.slice A0 l0.length c0] w fun e w' => e = .returned (.bool r) ∧ Below w.heap.size w w' := by
 have HR0 := Aside0.mk hr0
 have HC0 := Aside0.mk hc0
 clear hr0 hc0
 have HB := Aside0.mk (Below.refl w.heap.size w)
 have H : (if (l0.length : Int) > 1048576 then (some true) else ((spec_DrawQueryAsk.f k l0).bind fun bt548 => ((spec_QueryAsk.f k bt548.1 bt548.2.1 bt548.2.2.1 bt548.2.2.2.1 bt548.2.2.2.2).bind fun bt555 => ((impl_QueryAsk.f k bt548.1 bt548.2.1 bt548.2.2.1 bt548.2.2.2.1 bt548.2.2.2.2).bind fun bt559 => (if (bt559.2 != bt555.2) = true then (laws_FnAskNone.j0 k bt548.1 bt548.2.1 bt548.2.2.2.1 bt548.2.2.2.2 bt555.1 bt555.2 bt559.1 bt559.2 true) else ((laws_loInts.f k bt559.1 bt555.1).bind fun t563 => (if t563 = true then (laws_FnAskNone.j0 k bt548.1 bt548.2.1 bt548.2.2.2.1 bt548.2.2.2.2 bt555.1 bt555.2 bt559.1 bt559.2 (!bt559.2)) else (laws_FnAskNone.j0 k bt548.1 bt548.2.1 bt548.2.2.2.1 bt548.2.2.2.2 bt555.1 bt555.2 bt559.1 bt559.2 true)))))))) = some r := h
 clear h
 by_cases c2 : (l0.length : Int) > 1048576
 ·rw [if_pos c2] at H
  have c2b0 : decide (1048576 < (l0.length : Int)) = true := decide_eq_true c2
  have c2b1 : decide (1048576 < l0.length) = true := decide_eq_true (by omega)
  clear c2
  obtain rfl := Option.some.inj H
  go_enter Try.func21, Try.ntmps21
  go_wp2
  go_ret
  exact ⟨by first | rfl | (simp [errW_none, errW_some] <;> rfl) | (simp [*, errW_none, errW_some] <;> rfl), HB.out⟩
 ·rw [if_neg c2] at H
  have c2b0 : decide (1048576 < (l0.length : Int)) = false := decide_eq_false c2
  have c2b1 : decide (1048576 < l0.length) = false := decide_eq_false (by omega)
  clear c2
  replace H := Option.bind_eq_some_iff.mp H
  obtain ⟨⟨t548, t549, t550, t551, t552⟩, A30, H⟩ := H
  replace H : ((spec_QueryAsk.f k t548 t549 t550 t551 t552).bind fun bt555 => ((impl_QueryAsk.f k t548 t549 t550 t551 t552).bind fun bt559 => (if (bt559.2 != bt555.2) = true then (laws_FnAskNone.j0 k t548 t549 t551 t552 bt555.1 bt555.2 bt559.1 bt559.2 true) else ((laws_loInts.f k bt559.1 bt555.1).bind fun t563 => (if t563 = true then (laws_FnAskNone.j0 k t548 t549 t551 t552 bt555.1 bt555.2 bt559.1 bt559.2 (!bt559.2)) else (laws_FnAskNone.j0 k t548 t549 t551 t552 bt555.1 bt555.2 bt559.1 bt559.2 true)))))) = some r := H
  have A3 := Aside0.mk A30
  clear A30
  replace H := Option.bind_eq_some_iff.mp H
  obtain ⟨⟨t555, t556⟩, A40, H⟩ := H
  replace H : ((impl_QueryAsk.f k t548 t549 t550 t551 t552).bind fun bt559 => (if (bt559.2 != t556) = true then (laws_FnAskNone.j0 k t548 t549 t551 t552 t555 t556 bt559.1 bt559.2 true) else ((laws_loInts.f k bt559.1 t555).bind fun t563 => (if t563 = true then (laws_FnAskNone.j0 k t548 t549 t551 t552 t555 t556 bt559.1 bt559.2 (!bt559.2)) else (laws_FnAskNone.j0 k t548 t549 t551 t552 t555 t556 bt559.1 bt559.2 true))))) = some r := H
  have A4 := Aside0.mk A40
  clear A40
  replace H := Option.bind_eq_some_iff.mp H
  obtain ⟨⟨t559, t560⟩, A50, H⟩ := H
  replace H : (if (t560 != t556) = true then (laws_FnAskNone.j0 k t548 t549 t551 t552 t555 t556 t559 t560 true) else ((laws_loInts.f k t559 t555).bind fun t563 => (if t563 = true then (laws_FnAskNone.j0 k t548 t549 t551 t552 t555 t556 t559 t560 (!t560)) else (laws_FnAskNone.j0 k t548 t549 t551 t552 t555 t556 t559 t560 true)))) = some r := H
  have A5 := Aside0.mk A50
  clear A50
  have HC6 := Aside0.mk H
  clear H
  go_enter Try.func21, Try.ntmps21
  go_upto_region 6 with (first | ((with_reducible refine gate_callee (f := 78) rfl ?_); refine goesL_ (some 19) rfl rfl Try.func78 (by kernel_rfl) rfl #[.slice A0 l0.length c0] rfl (by (try simp only [List.map_toArray, List.map_cons, List.map_nil]); first | done | rfl | (simp only [List.length_drop, List.length_take]; rfl)) ?_; (with_reducible refine (spec_DrawQueryAsk.calls k _ _ l0 t548 t549 t550 t551 t552 _ ?side1 ?side2 A3.out).mono ?_); (case side1 => repeat (first | exact HR0.out | (with_reducible refine Kd.C_alloc ?_ _) | (with_reducible refine Kd.C_drewN ?_ _) | (with_reducible refine Kd.C_drew ?_))); (case side2 => exact HC0.out); rintro e w7 ⟨v553, rfl, ho0, hb⟩; refine ⟨_, rfl, ?_⟩; have n0_ := Aside0.mk (Kd.R_lower ho0 (below_size (HB.out))); have n1_ := Aside0.mk (below_step (HB.out) hb); clear HB; have HO554 := n0_; have HB := n1_; clear n0_ n1_; (try clear hb); (try clear hb2); (try clear hk); (try clear hi); (try clear ho0); obtain ⟨Ao8, co8, eo8⟩ := Kd.R_slice HO554.out; subst eo8) | ((with_reducible refine gate_callee (f := 69) rfl ?_); refine goesL_ (some 31) rfl rfl Try.func69 (by kernel_rfl) rfl #[.int .i64 t548, .slice Ao8 t549.length co8, .bool t550, .int .i64 t551, .int .i64 t552] rfl (by (try simp only [List.map_toArray, List.map_cons, List.map_nil]); first | done | rfl | (simp only [List.length_drop, List.length_take]; rfl)) ?_; (with_reducible refine (spec_QueryAsk.calls k t548 _ _ t549 t550 t551 t552 t555 t556 _ ?side1 ?side2 A4.out).mono ?_); (case side1 => exact (Kd.R_reads' HO554.out).2.2); (case side2 => exact (Kd.R_reads' HO554.out).2.1); rintro e w9 ⟨v557, rfl, ho0, hb⟩; refine ⟨_, rfl, ?_⟩; have n0_ := Aside0.mk (Kd.R_elder' (HO554.out) (Kd.R_base ho0) hb); have n1_ := Aside0.mk (Kd.R_lower (Kd.R_new' ho0 (Kd.R_lt (HO554.out))) (below_size (HB.out))); have n2_ := Aside0.mk (below_step (HB.out) hb); clear HO554; clear HB; have HO554 := n0_; have HO558 := n1_; have HB := n2_; clear n0_ n1_ n2_; (try clear hb); (try clear hb2); (try clear hk); (try clear hi); (try clear ho0)) | ((with_reducible refine gate_callee (f := 70) rfl ?_); refine goesL_ (some 40) rfl rfl Try.func70 (by kernel_rfl) rfl #[.int .i64 t548, .slice Ao8 t549.length co8, .bool t550, .int .i64 t551, .int .i64 t552] rfl (by (try simp only [List.map_toArray, List.map_cons, List.map_nil]); first | done | rfl | (simp only [List.length_drop, List.length_take]; rfl)) ?_; (with_reducible refine (impl_QueryAsk.calls k t548 _ _ t549 t550 t551 t552 t559 t560 _ ?side1 ?side2 A5.out).mono ?_); (case side1 => exact (Kd.R_reads' HO554.out).2.2); (case side2 => exact (Kd.R_reads' HO554.out).2.1); rintro e w10 ⟨v561, rfl, ho0, hb⟩; refine ⟨_, rfl, ?_⟩; have n0_ := Aside0.mk (Kd.R_elder' (HO554.out) (Kd.R_base ho0) hb); have n1_ := Aside0.mk (Kd.R_elder' (HO558.out) (Kd.R_base ho0) hb); have n2_ := Aside0.mk (Kd.R_lower (Kd.R_new' (Kd.R_new' ho0 (Kd.R_lt (HO554.out))) (Kd.R_lt (HO558.out))) (below_size (HB.out))); have n3_ := Aside0.mk (below_step (HB.out) hb); clear HO554; clear HO558; clear HB; have HO554 := n0_; have HO558 := n1_; have HO562 := n2_; have HB := n3_; clear n0_ n1_ n2_ n3_; (try clear hb); (try clear hb2); (try clear hk); (try clear hi); (try clear ho0)))
  (try simp only [Act.put, List.setIfInBounds_toArray, List.set_cons_zero, List.set_cons_succ])
  go_cut [55] (fun v55 wc => ∃ (kq : Nat) (x55_5 : Bool), v55 = .bool x55_5 ∧ Aside0 (laws_FnAskNone.j0 kq t548 t549 t551 t552 t555 t556 t559 t560 x55_5 = some r) ∧ Aside0 (kq ≤ k) ∧ Aside0 (Kd.R (Kd.int .i64) 3 wc w.heap.size (fun k_ => some k_ ≠ (v557 : Value).ownBlock ∧ some k_ ≠ (v561 : Value).ownBlock) (.slice Ao8 t549.length co8) t549) ∧ Aside0 (Kd.R (Kd.int .i64) 3 wc w.heap.size (fun k_ => some k_ ≠ ((.slice Ao8 t549.length co8) : Value).ownBlock ∧ some k_ ≠ (v561 : Value).ownBlock) v557 t555) ∧ Aside0 (Kd.R (Kd.int .i64) 3 wc w.heap.size (fun k_ => some k_ ≠ ((.slice Ao8 t549.length co8) : Value).ownBlock ∧ some k_ ≠ (v557 : Value).ownBlock) v561 t559) ∧ Aside0 (Below w.heap.size w wc))
  case first =>
   have H := HC6.out
   clear HC6
   by_cases c11 : (t560 != t556) = true
   ·rw [if_pos c11] at H
    have c11b0 : (t560 != t556) = true := c11
    (try (have c11b1 : decide (t560 = t556) = false := by simpa using c11))
    (try (have c11b2 : (t560 == t556) = false := by simpa using c11))
    (try (have c11b3 : ¬ (t560 = t556) := by simpa using c11))
    clear c11
    (first | rw [c11b0] | (simp only [i64_w, i32_w]; rw [c11b0]) | skip)
    have H' := Aside0.mk H
    clear H
    go_wp2
    go_meet
    case rel => exact ⟨_, (true), (by first | rfl | (simp; done) | (simp [*]; done)), H', ⟨by first | omega | exact Nat.le_refl _⟩, ⟨by (with_reducible repeat (first | apply Kd.R_alloc | apply Kd.R_drewN | apply Kd.R_drew)); exact Kd.R_mono HO554.out (fun _ hk => ⟨hk.1.2, hk.2⟩)⟩, ⟨by (with_reducible repeat (first | apply Kd.R_alloc | apply Kd.R_drewN | apply Kd.R_drew)); exact Kd.R_mono HO558.out (fun _ hk => ⟨hk.1.2, hk.2⟩)⟩, ⟨by (with_reducible repeat (first | apply Kd.R_alloc | apply Kd.R_drewN | apply Kd.R_drew)); exact Kd.R_mono HO562.out (fun _ hk => ⟨hk.1.2, hk.2⟩)⟩, ⟨HB.out⟩⟩
   ·rw [if_neg c11] at H
    have c11b0 : (t560 != t556) = false := by simpa using c11
    (try (have c11b1 : decide (t560 = t556) = true := by simpa using c11))
    (try (have c11b2 : (t560 == t556) = true := by simpa using c11))
    clear c11
    (first | rw [c11b0] | (simp only [i64_w, i32_w]; rw [c11b0]) | skip)
    replace H := Option.bind_eq_some_iff.mp H
    obtain ⟨t563, A120, H⟩ := H
    replace H : (if t563 = true then (laws_FnAskNone.j0 k t548 t549 t551 t552 t555 t556 t559 t560 (!t560)) else (laws_FnAskNone.j0 k t548 t549 t551 t552 t555 t556 t559 t560 true)) = some r := H
    have A12 := Aside0.mk A120
    clear A120
    by_cases c13 : t563 = true
    ·subst c13
     have H1 : (laws_FnAskNone.j0 k t548 t549 t551 t552 t555 t556 t559 t560 (!t560)) = some r := by rw [if_pos rfl] at H; exact H
     clear H
     have H := H1
     clear H1
     have H' := Aside0.mk H
     clear H
     obtain ⟨Ao14, co14, eo14⟩ := Kd.R_slice HO562.out
     subst eo14
     obtain ⟨Ao15, co15, eo15⟩ := Kd.R_slice HO558.out
     subst eo15
     go_wp2_with (first | (go_at_call 77; (with_reducible refine (laws_loInts.calls k _ _ t559 _ _ t555 true _ ?side1 ?side2 ?side3 ?side4 A12.out).mono ?_); (case side1 => exact (Kd.R_reads' HO562.out).2.2); (case side2 => exact (Kd.R_reads' HO562.out).2.1); (case side3 => exact (Kd.R_reads' HO558.out).2.2); (case side4 => exact (Kd.R_reads' HO558.out).2.1); rintro e w' ⟨rfl, ⟨nd, rfl⟩⟩))
     go_meet
     case rel => exact ⟨_, (!t560), (by first | rfl | (simp; done) | (simp [*]; done)), H', ⟨by first | omega | exact Nat.le_refl _⟩, ⟨by (with_reducible repeat (first | apply Kd.R_alloc | apply Kd.R_drewN | apply Kd.R_drew)); exact Kd.R_mono HO554.out (fun _ hk => ⟨hk.1.2, hk.2⟩)⟩, ⟨by (with_reducible repeat (first | apply Kd.R_alloc | apply Kd.R_drewN | apply Kd.R_drew)); exact Kd.R_mono HO558.out (fun _ hk => ⟨hk.1.2, hk.2⟩)⟩, ⟨by (with_reducible repeat (first | apply Kd.R_alloc | apply Kd.R_drewN | apply Kd.R_drew)); exact Kd.R_mono HO562.out (fun _ hk => ⟨hk.1.2, hk.2⟩)⟩, ⟨by repeat (first | (with_reducible first | exact HB.out | apply below_alloc | apply pw_below_drewN | apply below_drew1) | exact HB.out)⟩⟩
    ·replace c13 := Bool.eq_false_iff.mpr c13
     subst c13
     have H1 : (laws_FnAskNone.j0 k t548 t549 t551 t552 t555 t556 t559 t560 true) = some r := by rw [if_neg (show ¬ (false = true) by decide)] at H; exact H
     clear H
     have H := H1
     clear H1
     have H' := Aside0.mk H
     clear H
     obtain ⟨Ao16, co16, eo16⟩ := Kd.R_slice HO562.out
     subst eo16
     obtain ⟨Ao17, co17, eo17⟩ := Kd.R_slice HO558.out
     subst eo17
     go_wp2_with (first | (go_at_call 77; (with_reducible refine (laws_loInts.calls k _ _ t559 _ _ t555 false _ ?side1 ?side2 ?side3 ?side4 A12.out).mono ?_); (case side1 => exact (Kd.R_reads' HO562.out).2.2); (case side2 => exact (Kd.R_reads' HO562.out).2.1); (case side3 => exact (Kd.R_reads' HO558.out).2.2); (case side4 => exact (Kd.R_reads' HO558.out).2.1); rintro e w' ⟨rfl, ⟨nd, rfl⟩⟩))
     go_meet
     case rel => exact ⟨_, (true), (by first | rfl | (simp; done) | (simp [*]; done)), H', ⟨by first | omega | exact Nat.le_refl _⟩, ⟨by (with_reducible repeat (first | apply Kd.R_alloc | apply Kd.R_drewN | apply Kd.R_drew)); exact Kd.R_mono HO554.out (fun _ hk => ⟨hk.1.2, hk.2⟩)⟩, ⟨by (with_reducible repeat (first | apply Kd.R_alloc | apply Kd.R_drewN | apply Kd.R_drew)); exact Kd.R_mono HO558.out (fun _ hk => ⟨hk.1.2, hk.2⟩)⟩, ⟨by (with_reducible repeat (first | apply Kd.R_alloc | apply Kd.R_drewN | apply Kd.R_drew)); exact Kd.R_mono HO562.out (fun _ hk => ⟨hk.1.2, hk.2⟩)⟩, ⟨by repeat (first | (with_reducible first | exact HB.out | apply below_alloc | apply pw_below_drewN | apply below_drew1) | exact HB.out)⟩⟩
  case rest =>
   clear HC6
   try clear c1
   try clear c2
   try clear c2b0
   try clear c2b1
   try clear p2
   try clear c6
   try clear c7
   try clear c11
   try clear c11b0
   try clear c11b1
   try clear c11b2
   try clear c13
   obtain ⟨kq, x55_5, rfl, HA, HJ5, HO_4, HO_8, HO_10, HB⟩ := hcut
   cases kq with
   | zero => exact absurd HA.out (by simp [laws_FnAskNone.j0])
   | succ kj5 =>
    have H := HA.out
    clear HA
    simp only [laws_FnAskNone.j0] at H
    by_cases c18 : x55_5 = true
    ·subst c18
     have H1 : (if (t560 == t556) = true then ((laws_loInts.f kj5 t559 t555).bind fun t564 => (some t564)) else (some false)) = some r := by rw [if_pos rfl] at H; exact H
     clear H
     have H := H1
     clear H1
     by_cases c19 : (t560 == t556) = true
     ·rw [if_pos c19] at H
      have c19b0 : (t560 == t556) = true := c19
      (try (have c19b1 : decide (t560 = t556) = true := by simpa using c19))
      (try (have c19b2 : (t560 == t556) = true := by simpa using c19))
      clear c19
      replace H := Option.bind_eq_some_iff.mp H
      obtain ⟨t564, A200, H⟩ := H
      replace H : (some t564) = some r := H
      have A20 := Aside0.mk A200
      clear A200
      obtain rfl := Option.some.inj H
      obtain ⟨Ao21, co21, eo21⟩ := Kd.R_slice HO_10.out
      subst eo21
      obtain ⟨Ao22, co22, eo22⟩ := Kd.R_slice HO_8.out
      subst eo22
      go_wp2_with (first | (go_at_call 77; (with_reducible refine (laws_loInts.calls kj5 _ _ t559 _ _ t555 t564 _ ?side1 ?side2 ?side3 ?side4 A20.out).mono ?_); (case side1 => exact (Kd.R_reads' HO_10.out).2.2); (case side2 => exact (Kd.R_reads' HO_10.out).2.1); (case side3 => exact (Kd.R_reads' HO_8.out).2.2); (case side4 => exact (Kd.R_reads' HO_8.out).2.1); rintro e w' ⟨rfl, ⟨nd, rfl⟩⟩))
      go_ret
      exact ⟨by first | rfl | (simp [errW_none, errW_some] <;> rfl) | (simp [*, errW_none, errW_some] <;> rfl), by repeat (first | (with_reducible first | exact HB.out | apply below_alloc | apply pw_below_drewN | apply below_drew1) | exact HB.out)⟩
     ·rw [if_neg c19] at H
      have c19b0 : (t560 == t556) = false := by simpa using c19
      (try (have c19b1 : decide (t560 = t556) = false := by simpa using c19))
      (try (have c19b2 : (t560 == t556) = false := by simpa using c19))
      (try (have c19b3 : ¬ (t560 = t556) := by simpa using c19))
      clear c19
      obtain rfl := Option.some.inj H
      go_wp2
      go_ret
      exact ⟨by first | rfl | (simp [errW_none, errW_some] <;> rfl) | (simp [*, errW_none, errW_some] <;> rfl), HB.out⟩
    ·replace c18 := Bool.eq_false_iff.mpr c18
     subst c18
     have H1 : (if 0 ≤ (t549.length : Int) then (if ((t549.length : Int) : Int).toNat ≤ 35184372088832 then ((impl_QueryAsk.f kj5 t548 (List.replicate ((t549.length : Int) : Int).toNat 0) false t551 t552).bind fun bt568 => (if bt568.2 = true then ((laws_loInts.f kj5 bt568.1 (([0, 0, 0, 0] : List Int))).bind fun t575 => (if t575 = true then (some ((t559.length : Int) == 4)) else (some false))) else (some false))) else (none)) else (none)) = some r := by rw [if_neg (show ¬ (false = true) by decide)] at H; exact H
     clear H
     have H := H1
     clear H1
     by_cases c23 : 0 ≤ (t549.length : Int)
     ·rw [if_pos c23] at H
      have c23b0 := eq_true c23
      have c23b1 : decide (0 ≤ (t549.length : Int)) = true := decide_eq_true c23
      clear c23
      by_cases c24 : ((t549.length : Int) : Int).toNat ≤ 35184372088832
      ·rw [if_pos c24] at H
       have c24b0 := eq_true c24
       have c24b1 : decide (((t549.length : Int) : Int).toNat ≤ 35184372088832) = true := decide_eq_true c24
       clear c24
       obtain ⟨y565, hy565⟩ : ∃ y_ : List Int, y_ = (List.replicate ((t549.length : Int) : Int).toNat 0) := ⟨_, rfl⟩
       replace H : ((impl_QueryAsk.f kj5 t548 y565 false t551 t552).bind fun bt568 => (if bt568.2 = true then ((laws_loInts.f kj5 bt568.1 (([0, 0, 0, 0] : List Int))).bind fun t575 => (if t575 = true then (some ((t559.length : Int) == 4)) else (some false))) else (some false))) = some r := by first | (rw [hy565]; with_reducible exact H) | (have H2_ := (Option.bind_some _ _).symm.trans H; rw [hy565]; with_reducible exact H2_) | (have H2_ := (Option.bind_some _ _).symm.trans H; with_reducible exact H2_) | with_reducible exact H | (rw [hy565]; exact H) | exact H
       have Ny565 := Aside0.mk hy565
       clear hy565
       replace H := Option.bind_eq_some_iff.mp H
       obtain ⟨⟨t568, t569⟩, A250, H⟩ := H
       replace H : (if t569 = true then ((laws_loInts.f kj5 t568 (([0, 0, 0, 0] : List Int))).bind fun t575 => (if t575 = true then (some ((t559.length : Int) == 4)) else (some false))) else (some false)) = some r := H
       have A25 := Aside0.mk A250
       clear A250
       by_cases c26 : t569 = true
       ·subst c26
        have H1 : ((laws_loInts.f kj5 t568 (([0, 0, 0, 0] : List Int))).bind fun t575 => (if t575 = true then (some ((t559.length : Int) == 4)) else (some false))) = some r := by rw [if_pos rfl] at H; exact H
        clear H
        have H := H1
        clear H1
        obtain ⟨y572, hy572⟩ : ∃ y_ : List Int, y_ = (([0, 0, 0, 0] : List Int)) := ⟨_, rfl⟩
        replace H : ((laws_loInts.f kj5 t568 y572).bind fun t575 => (if t575 = true then (some ((t559.length : Int) == 4)) else (some false))) = some r := by first | (rw [hy572]; with_reducible exact H) | (have H2_ := (Option.bind_some _ _).symm.trans H; rw [hy572]; with_reducible exact H2_) | (have H2_ := (Option.bind_some _ _).symm.trans H; with_reducible exact H2_) | with_reducible exact H | (rw [hy572]; exact H) | exact H
        have Ny572 := Aside0.mk hy572
        clear hy572
        replace H := Option.bind_eq_some_iff.mp H
        obtain ⟨t575, A270, H⟩ := H
        replace H : (if t575 = true then (some ((t559.length : Int) == 4)) else (some false)) = some r := H
        have A27 := Aside0.mk A270
        clear A270
        by_cases c28 : t575 = true
        ·subst c28
         have H1 : (some ((t559.length : Int) == 4)) = some r := by rw [if_pos rfl] at H; exact H
         clear H
         have H := H1
         clear H1
         obtain rfl := Option.some.inj H
         go_wp2_with (first | ((with_reducible refine gate_dst (N := 68) rfl ?_); (try (refine gate_guard (by rfl) ?_; dsimp only)); refine Kd.R_make (Kd.int .i64) _ 3 rfl (N := 68) rfl 30 _ _ rfl (t549.length : Int) rfl rfl Try.underlying30 (.int .i64 0) 8 info3 rfl (by decide) (by omega) 0 (ok := fun _ => True) (okp := fun _ => True) rfl (fun _ hk => hk) trivial (of_decide_eq_true (by first | (with_reducible assumption) | assumption)) (Nat.le_trans (Nat.mul_le_mul_right _ (of_decide_eq_true (by first | (with_reducible assumption) | assumption) : (t549.length : Int).toNat ≤ 35184372088832)) (by omega)) (Below.refl _ _) (Nat.le_refl _) ?_; intro v566 w29 ho30 hb hg_ hnew_; clear hg_ hnew_; (first | rw [← Ny565.out] at ho30 | (simp only [Int.reduceToNat] at ho30; rw [← Ny565.out] at ho30)); have n0_ := Aside0.mk (Kd.R_elder' (HO_4.out) (Kd.R_base ho30) hb); have n1_ := Aside0.mk (Kd.R_elder' (HO_8.out) (Kd.R_base ho30) hb); have n2_ := Aside0.mk (Kd.R_elder' (HO_10.out) (Kd.R_base ho30) hb); have n3_ := Aside0.mk (Kd.R_lower (Kd.R_new' (Kd.R_new' (Kd.R_new' ho30 (Kd.R_lt (HO_4.out))) (Kd.R_lt (HO_8.out))) (Kd.R_lt (HO_10.out))) (below_size (HB.out))); have n4_ := Aside0.mk (below_step (HB.out) hb); clear HO_4; clear HO_8; clear HO_10; clear HB; have HO_4 := n0_; have HO_8 := n1_; have HO_10 := n2_; have HO567 := n3_; have HB := n4_; clear n0_ n1_ n2_ n3_ n4_; clear hb ho30; obtain ⟨Ao31, co31, eo31⟩ := Kd.R_slice HO567.out; subst eo31) | ((with_reducible refine gate_callee (f := 70) rfl ?_); refine goesL_ (some 71) rfl rfl Try.func70 (by kernel_rfl) rfl #[.int .i64 t548, .slice Ao31 y565.length co31, .bool false, .int .i64 t551, .int .i64 t552] rfl (by (try simp only [List.map_toArray, List.map_cons, List.map_nil]); first | done | rfl | (simp only [List.length_drop, List.length_take]; rfl)) ?_; (with_reducible refine (impl_QueryAsk.calls kj5 t548 _ _ y565 false t551 t552 t568 true _ ?side1 ?side2 A25.out).mono ?_); (case side1 => exact (Kd.R_reads' HO567.out).2.2); (case side2 => exact (Kd.R_reads' HO567.out).2.1); rintro e w32 ⟨v570, rfl, ho0, hb⟩; refine ⟨_, rfl, ?_⟩; have n0_ := Aside0.mk (Kd.R_elder' (HO_4.out) (Kd.R_base ho0) hb); have n1_ := Aside0.mk (Kd.R_elder' (HO_8.out) (Kd.R_base ho0) hb); have n2_ := Aside0.mk (Kd.R_elder' (HO_10.out) (Kd.R_base ho0) hb); have n3_ := Aside0.mk (Kd.R_elder' (HO567.out) (Kd.R_base ho0) hb); have n4_ := Aside0.mk (Kd.R_lower (Kd.R_new' (Kd.R_new' (Kd.R_new' (Kd.R_new' ho0 (Kd.R_lt (HO_4.out))) (Kd.R_lt (HO_8.out))) (Kd.R_lt (HO_10.out))) (Kd.R_lt (HO567.out))) (below_size (HB.out))); have n5_ := Aside0.mk (below_step (HB.out) hb); clear HO_4; clear HO_8; clear HO_10; clear HO567; clear HB; have HO_4 := n0_; have HO_8 := n1_; have HO_10 := n2_; have HO567 := n3_; have HO571 := n4_; have HB := n5_; clear n0_ n1_ n2_ n3_ n4_ n5_; (try clear hb); (try clear hb2); (try clear hk); (try clear hi); (try clear ho0)) | ((with_reducible refine gate_dst (N := 77) rfl ?_); (try (refine gate_guard (by rfl) ?_; dsimp only)); refine Kd.R_lit (Kd.int .i64) _ 3 ?hg (N := 77) ?hd (xs := ([0, 0, 0, 0] : List Int)) (inner := [.int .i64 0, .int .i64 0, .int .i64 0, .int .i64 0]) (ok := fun _ => True) (okp := fun _ => True) ?hr ?hp (fun _ hk => hk) trivial (Below.refl _ _) (Nat.le_refl _) (by simp) ?_; (case hd => rfl); (case hg => rfl); (case hr => first | (go_simp; done) | (go_simp; rfl)); (case hp => exact (Reps.one (show Kd.M (Kd.int .i64) _ _ _ 0 [.int .i64 0] from rfl) (Reps.one (show Kd.M (Kd.int .i64) _ _ _ 0 [.int .i64 0] from rfl) (Reps.one (show Kd.M (Kd.int .i64) _ _ _ 0 [.int .i64 0] from rfl) (Reps.one (show Kd.M (Kd.int .i64) _ _ _ 0 [.int .i64 0] from rfl) (Reps.none _ _)))))); intro v573 w33 ho34 hb hg_ hnew_; clear hg_ hnew_; (first | rw [← Ny572.out] at ho34 | (simp only [Int.reduceToNat] at ho34; rw [← Ny572.out] at ho34)); have n0_ := Aside0.mk (Kd.R_elder' (HO_4.out) (Kd.R_base ho34) hb); have n1_ := Aside0.mk (Kd.R_elder' (HO_8.out) (Kd.R_base ho34) hb); have n2_ := Aside0.mk (Kd.R_elder' (HO_10.out) (Kd.R_base ho34) hb); have n3_ := Aside0.mk (Kd.R_elder' (HO567.out) (Kd.R_base ho34) hb); have n4_ := Aside0.mk (Kd.R_elder' (HO571.out) (Kd.R_base ho34) hb); have n5_ := Aside0.mk (Kd.R_lower (Kd.R_new' (Kd.R_new' (Kd.R_new' (Kd.R_new' (Kd.R_new' ho34 (Kd.R_lt (HO_4.out))) (Kd.R_lt (HO_8.out))) (Kd.R_lt (HO_10.out))) (Kd.R_lt (HO567.out))) (Kd.R_lt (HO571.out))) (below_size (HB.out))); have n6_ := Aside0.mk (below_step (HB.out) hb); clear HO_4; clear HO_8; clear HO_10; clear HO567; clear HO571; clear HB; have HO_4 := n0_; have HO_8 := n1_; have HO_10 := n2_; have HO567 := n3_; have HO571 := n4_; have HO574 := n5_; have HB := n6_; clear n0_ n1_ n2_ n3_ n4_ n5_ n6_; clear hb ho34; obtain ⟨Ao35, co35, eo35⟩ := Kd.R_slice HO571.out; subst eo35; obtain ⟨Ao36, co36, eo36⟩ := Kd.R_slice HO574.out; subst eo36) | (go_at_call 77; (with_reducible refine (laws_loInts.calls kj5 _ _ t568 _ _ y572 true _ ?side1 ?side2 ?side3 ?side4 A27.out).mono ?_); (case side1 => exact (Kd.R_reads' HO571.out).2.2); (case side2 => exact (Kd.R_reads' HO571.out).2.1); (case side3 => exact (Kd.R_reads' HO574.out).2.2); (case side4 => exact (Kd.R_reads' HO574.out).2.1); rintro e w' ⟨rfl, ⟨nd, rfl⟩⟩; obtain ⟨Ao37, co37, eo37⟩ := Kd.R_slice HO_10.out; subst eo37))
         go_ret
         exact ⟨by first | rfl | (simp [errW_none, errW_some] <;> rfl) | (simp [*, errW_none, errW_some] <;> rfl), by repeat (first | (with_reducible first | exact HB.out | apply below_alloc | apply pw_below_drewN | apply below_drew1) | exact HB.out)⟩
        ·replace c28 := Bool.eq_false_iff.mpr c28
         subst c28
         have H1 : (some false) = some r := by rw [if_neg (show ¬ (false = true) by decide)] at H; exact H
         clear H
         have H := H1
         clear H1
         obtain rfl := Option.some.inj H
         go_wp2_with (first | ((with_reducible refine gate_dst (N := 68) rfl ?_); (try (refine gate_guard (by rfl) ?_; dsimp only)); refine Kd.R_make (Kd.int .i64) _ 3 rfl (N := 68) rfl 30 _ _ rfl (t549.length : Int) rfl rfl Try.underlying30 (.int .i64 0) 8 info3 rfl (by decide) (by omega) 0 (ok := fun _ => True) (okp := fun _ => True) rfl (fun _ hk => hk) trivial (of_decide_eq_true (by first | (with_reducible assumption) | assumption)) (Nat.le_trans (Nat.mul_le_mul_right _ (of_decide_eq_true (by first | (with_reducible assumption) | assumption) : (t549.length : Int).toNat ≤ 35184372088832)) (by omega)) (Below.refl _ _) (Nat.le_refl _) ?_; intro v566 w38 ho39 hb hg_ hnew_; clear hg_ hnew_; (first | rw [← Ny565.out] at ho39 | (simp only [Int.reduceToNat] at ho39; rw [← Ny565.out] at ho39)); have n0_ := Aside0.mk (Kd.R_elder' (HO_4.out) (Kd.R_base ho39) hb); have n1_ := Aside0.mk (Kd.R_elder' (HO_8.out) (Kd.R_base ho39) hb); have n2_ := Aside0.mk (Kd.R_elder' (HO_10.out) (Kd.R_base ho39) hb); have n3_ := Aside0.mk (Kd.R_lower (Kd.R_new' (Kd.R_new' (Kd.R_new' ho39 (Kd.R_lt (HO_4.out))) (Kd.R_lt (HO_8.out))) (Kd.R_lt (HO_10.out))) (below_size (HB.out))); have n4_ := Aside0.mk (below_step (HB.out) hb); clear HO_4; clear HO_8; clear HO_10; clear HB; have HO_4 := n0_; have HO_8 := n1_; have HO_10 := n2_; have HO567 := n3_; have HB := n4_; clear n0_ n1_ n2_ n3_ n4_; clear hb ho39; obtain ⟨Ao40, co40, eo40⟩ := Kd.R_slice HO567.out; subst eo40) | ((with_reducible refine gate_callee (f := 70) rfl ?_); refine goesL_ (some 71) rfl rfl Try.func70 (by kernel_rfl) rfl #[.int .i64 t548, .slice Ao40 y565.length co40, .bool false, .int .i64 t551, .int .i64 t552] rfl (by (try simp only [List.map_toArray, List.map_cons, List.map_nil]); first | done | rfl | (simp only [List.length_drop, List.length_take]; rfl)) ?_; (with_reducible refine (impl_QueryAsk.calls kj5 t548 _ _ y565 false t551 t552 t568 true _ ?side1 ?side2 A25.out).mono ?_); (case side1 => exact (Kd.R_reads' HO567.out).2.2); (case side2 => exact (Kd.R_reads' HO567.out).2.1); rintro e w41 ⟨v570, rfl, ho0, hb⟩; refine ⟨_, rfl, ?_⟩; have n0_ := Aside0.mk (Kd.R_elder' (HO_4.out) (Kd.R_base ho0) hb); have n1_ := Aside0.mk (Kd.R_elder' (HO_8.out) (Kd.R_base ho0) hb); have n2_ := Aside0.mk (Kd.R_elder' (HO_10.out) (Kd.R_base ho0) hb); have n3_ := Aside0.mk (Kd.R_elder' (HO567.out) (Kd.R_base ho0) hb); have n4_ := Aside0.mk (Kd.R_lower (Kd.R_new' (Kd.R_new' (Kd.R_new' (Kd.R_new' ho0 (Kd.R_lt (HO_4.out))) (Kd.R_lt (HO_8.out))) (Kd.R_lt (HO_10.out))) (Kd.R_lt (HO567.out))) (below_size (HB.out))); have n5_ := Aside0.mk (below_step (HB.out) hb); clear HO_4; clear HO_8; clear HO_10; clear HO567; clear HB; have HO_4 := n0_; have HO_8 := n1_; have HO_10 := n2_; have HO567 := n3_; have HO571 := n4_; have HB := n5_; clear n0_ n1_ n2_ n3_ n4_ n5_; (try clear hb); (try clear hb2); (try clear hk); (try clear hi); (try clear ho0)) | ((with_reducible refine gate_dst (N := 77) rfl ?_); (try (refine gate_guard (by rfl) ?_; dsimp only)); refine Kd.R_lit (Kd.int .i64) _ 3 ?hg (N := 77) ?hd (xs := ([0, 0, 0, 0] : List Int)) (inner := [.int .i64 0, .int .i64 0, .int .i64 0, .int .i64 0]) (ok := fun _ => True) (okp := fun _ => True) ?hr ?hp (fun _ hk => hk) trivial (Below.refl _ _) (Nat.le_refl _) (by simp) ?_; (case hd => rfl); (case hg => rfl); (case hr => first | (go_simp; done) | (go_simp; rfl)); (case hp => exact (Reps.one (show Kd.M (Kd.int .i64) _ _ _ 0 [.int .i64 0] from rfl) (Reps.one (show Kd.M (Kd.int .i64) _ _ _ 0 [.int .i64 0] from rfl) (Reps.one (show Kd.M (Kd.int .i64) _ _ _ 0 [.int .i64 0] from rfl) (Reps.one (show Kd.M (Kd.int .i64) _ _ _ 0 [.int .i64 0] from rfl) (Reps.none _ _)))))); intro v573 w42 ho43 hb hg_ hnew_; clear hg_ hnew_; (first | rw [← Ny572.out] at ho43 | (simp only [Int.reduceToNat] at ho43; rw [← Ny572.out] at ho43)); have n0_ := Aside0.mk (Kd.R_elder' (HO_4.out) (Kd.R_base ho43) hb); have n1_ := Aside0.mk (Kd.R_elder' (HO_8.out) (Kd.R_base ho43) hb); have n2_ := Aside0.mk (Kd.R_elder' (HO_10.out) (Kd.R_base ho43) hb); have n3_ := Aside0.mk (Kd.R_elder' (HO567.out) (Kd.R_base ho43) hb); have n4_ := Aside0.mk (Kd.R_elder' (HO571.out) (Kd.R_base ho43) hb); have n5_ := Aside0.mk (Kd.R_lower (Kd.R_new' (Kd.R_new' (Kd.R_new' (Kd.R_new' (Kd.R_new' ho43 (Kd.R_lt (HO_4.out))) (Kd.R_lt (HO_8.out))) (Kd.R_lt (HO_10.out))) (Kd.R_lt (HO567.out))) (Kd.R_lt (HO571.out))) (below_size (HB.out))); have n6_ := Aside0.mk (below_step (HB.out) hb); clear HO_4; clear HO_8; clear HO_10; clear HO567; clear HO571; clear HB; have HO_4 := n0_; have HO_8 := n1_; have HO_10 := n2_; have HO567 := n3_; have HO571 := n4_; have HO574 := n5_; have HB := n6_; clear n0_ n1_ n2_ n3_ n4_ n5_ n6_; clear hb ho43; obtain ⟨Ao44, co44, eo44⟩ := Kd.R_slice HO571.out; subst eo44; obtain ⟨Ao45, co45, eo45⟩ := Kd.R_slice HO574.out; subst eo45) | (go_at_call 77; (with_reducible refine (laws_loInts.calls kj5 _ _ t568 _ _ y572 false _ ?side1 ?side2 ?side3 ?side4 A27.out).mono ?_); (case side1 => exact (Kd.R_reads' HO571.out).2.2); (case side2 => exact (Kd.R_reads' HO571.out).2.1); (case side3 => exact (Kd.R_reads' HO574.out).2.2); (case side4 => exact (Kd.R_reads' HO574.out).2.1); rintro e w' ⟨rfl, ⟨nd, rfl⟩⟩))
         go_ret
         exact ⟨by first | rfl | (simp [errW_none, errW_some] <;> rfl) | (simp [*, errW_none, errW_some] <;> rfl), by repeat (first | (with_reducible first | exact HB.out | apply below_alloc | apply pw_below_drewN | apply below_drew1) | exact HB.out)⟩
       ·replace c26 := Bool.eq_false_iff.mpr c26
        subst c26
        have H1 : (some false) = some r := by rw [if_neg (show ¬ (false = true) by decide)] at H; exact H
        clear H
        have H := H1
        clear H1
        obtain rfl := Option.some.inj H
        go_wp2_with (first | ((with_reducible refine gate_dst (N := 68) rfl ?_); (try (refine gate_guard (by rfl) ?_; dsimp only)); refine Kd.R_make (Kd.int .i64) _ 3 rfl (N := 68) rfl 30 _ _ rfl (t549.length : Int) rfl rfl Try.underlying30 (.int .i64 0) 8 info3 rfl (by decide) (by omega) 0 (ok := fun _ => True) (okp := fun _ => True) rfl (fun _ hk => hk) trivial (of_decide_eq_true (by first | (with_reducible assumption) | assumption)) (Nat.le_trans (Nat.mul_le_mul_right _ (of_decide_eq_true (by first | (with_reducible assumption) | assumption) : (t549.length : Int).toNat ≤ 35184372088832)) (by omega)) (Below.refl _ _) (Nat.le_refl _) ?_; intro v566 w46 ho47 hb hg_ hnew_; clear hg_ hnew_; (first | rw [← Ny565.out] at ho47 | (simp only [Int.reduceToNat] at ho47; rw [← Ny565.out] at ho47)); have n0_ := Aside0.mk (Kd.R_elder' (HO_4.out) (Kd.R_base ho47) hb); have n1_ := Aside0.mk (Kd.R_elder' (HO_8.out) (Kd.R_base ho47) hb); have n2_ := Aside0.mk (Kd.R_elder' (HO_10.out) (Kd.R_base ho47) hb); have n3_ := Aside0.mk (Kd.R_lower (Kd.R_new' (Kd.R_new' (Kd.R_new' ho47 (Kd.R_lt (HO_4.out))) (Kd.R_lt (HO_8.out))) (Kd.R_lt (HO_10.out))) (below_size (HB.out))); have n4_ := Aside0.mk (below_step (HB.out) hb); clear HO_4; clear HO_8; clear HO_10; clear HB; have HO_4 := n0_; have HO_8 := n1_; have HO_10 := n2_; have HO567 := n3_; have HB := n4_; clear n0_ n1_ n2_ n3_ n4_; clear hb ho47; obtain ⟨Ao48, co48, eo48⟩ := Kd.R_slice HO567.out; subst eo48) | ((with_reducible refine gate_callee (f := 70) rfl ?_); refine goesL_ (some 71) rfl rfl Try.func70 (by kernel_rfl) rfl #[.int .i64 t548, .slice Ao48 y565.length co48, .bool false, .int .i64 t551, .int .i64 t552] rfl (by (try simp only [List.map_toArray, List.map_cons, List.map_nil]); first | done | rfl | (simp only [List.length_drop, List.length_take]; rfl)) ?_; (with_reducible refine (impl_QueryAsk.calls kj5 t548 _ _ y565 false t551 t552 t568 false _ ?side1 ?side2 A25.out).mono ?_); (case side1 => exact (Kd.R_reads' HO567.out).2.2); (case side2 => exact (Kd.R_reads' HO567.out).2.1); rintro e w49 ⟨v570, rfl, ho0, hb⟩; refine ⟨_, rfl, ?_⟩; have n0_ := Aside0.mk (Kd.R_elder' (HO_4.out) (Kd.R_base ho0) hb); have n1_ := Aside0.mk (Kd.R_elder' (HO_8.out) (Kd.R_base ho0) hb); have n2_ := Aside0.mk (Kd.R_elder' (HO_10.out) (Kd.R_base ho0) hb); have n3_ := Aside0.mk (Kd.R_elder' (HO567.out) (Kd.R_base ho0) hb); have n4_ := Aside0.mk (Kd.R_lower (Kd.R_new' (Kd.R_new' (Kd.R_new' (Kd.R_new' ho0 (Kd.R_lt (HO_4.out))) (Kd.R_lt (HO_8.out))) (Kd.R_lt (HO_10.out))) (Kd.R_lt (HO567.out))) (below_size (HB.out))); have n5_ := Aside0.mk (below_step (HB.out) hb); clear HO_4; clear HO_8; clear HO_10; clear HO567; clear HB; have HO_4 := n0_; have HO_8 := n1_; have HO_10 := n2_; have HO567 := n3_; have HO571 := n4_; have HB := n5_; clear n0_ n1_ n2_ n3_ n4_ n5_; (try clear hb); (try clear hb2); (try clear hk); (try clear hi); (try clear ho0)))
        go_ret
        exact ⟨by first | rfl | (simp [errW_none, errW_some] <;> rfl) | (simp [*, errW_none, errW_some] <;> rfl), HB.out⟩
      ·rw [if_neg c24] at H
       exact absurd H (by simp)
     ·rw [if_neg c23] at H
      exact absurd H (by simp)
def laws_FnAskNone.Pure : Prop := ∀ (l0 : List Int), l0.length ≤ maxLen → l0.length * 1 ≤ 140737488351232 → (∀ x ∈ l0, (Lit.int .u8 x).wf = true) → ∃ k, laws_FnAskNone.f k l0 = some true
theorem laws_FnAskNone.walk (P : laws_FnAskNone.Pure) (a0 : Option Addr) (len0 cap0 : Nat) (z0 : List Int) (w : World) (w0 : (a0 = none ∧ len0 = 0 ∧ cap0 = 0 ∧ z0 = []) ∨ ∃ x, a0 = some x ∧ len0 ≤ cap0 ∧ cap0 ≤ maxLen ∧ z0.length = cap0 ∧ (∀ i, i < z0.length → w.cell? (x.add i) = some (.int .u8 (z0.getD i 0))) ∧ ∀ n ∈ z0, (Lit.int .u8 n).wf = true) (y0 : len0 * 1 ≤ 140737488351232) :
  Calls Try.prog 21 #[.slice a0 len0 cap0] w fun e w' => e = .returned (.bool true) ∧ Below w.heap.size w w' := by
 obtain ⟨l0, rfl, hr0, hm0, hw0, hc0⟩ := ReadsInt.ofRowC w0
 obtain ⟨k, h⟩ := P l0 hm0 y0 hw0
 refine (laws_FnAskNone.calls k _ _ l0 true w (Kd.C_of_reads (d := (0 : Int)) (h1 := fun _ => rfl) hr0) hc0 h).mono ?_
 rintro e w' ⟨rfl, hd⟩
 exact ⟨rfl, hd⟩
end Go.Proofs.Ytplbobmllflniaa.Ei
