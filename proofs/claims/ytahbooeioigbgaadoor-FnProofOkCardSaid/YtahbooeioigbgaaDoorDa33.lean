import Derived.Test.YtahbooeioigbgaaDoorZ
import Derived.Test.YtahbooeioigbgaaDoorDa0
import Derived.Test.YtahbooeioigbgaaDoorDa5
import Derived.Test.YtahbooeioigbgaaDoorDa7
import Derived.Test.YtahbooeioigbgaaDoorDa8
import Derived.Test.YtahbooeioigbgaaDoorDa10
import Derived.Test.YtahbooeioigbgaaDoorDa21
import Derived.Test.YtahbooeioigbgaaDoorDa31
import Derived.Test.YtahbooeioigbgaaDoorDa32
namespace Go.Proofs.YtahbooeioigbgaaDoor.Da
open Go.RowKit Go.Proofs.YtahbooeioigbgaaDoorW.PrintWords Go.Proofs.YtahbooeioigbgaaDoorW.PrintLast Go.Proofs.YtahbooeioigbgaaDoorW.PrintMore Go.Proofs.YtahbooeioigbgaaDoor.Z
attribute [local go_sem] max2_int min2_int max_two min_two max_three min_three max_four min_four
set_option linter.unusedVariables false
set_option linter.unusedSimpArgs false
mutual
def laws_FnProofOk.j0 : Nat → List Int → List Int → Bool → Option (Bool)
 | 0, _, _, _ => none
 | k + 1, x0, x1, x20 => if x20 = true then (some true) else ((spec_DrawProofOk.f k x0).bind fun bt755 => ((impl_ProofOk.f k bt755.1 bt755.2.1 bt755.2.2.1 bt755.2.2.2.1 bt755.2.2.2.2).bind fun t765 => ((spec_ProofOk.f k bt755.1 bt755.2.1 bt755.2.2.1 bt755.2.2.2.1 bt755.2.2.2.2).bind fun t766 => (if (t765 != t766) = true then (some false) else ((impl_ProofMake.f k bt755.1 bt755.2.1 bt755.2.2.1 bt755.2.2.2.1).bind fun bt767 => (if bt767.2.2.2 = true then ((impl_TypeOk.f k bt755.1 bt755.2.1).bind fun t774 => (if t774 = true then ((laws_loProof.f k bt755.2.2.1 bt755.2.2.2.1 bt755.2.2.2.2 bt767.1 bt767.2.1 bt767.2.2.1).bind fun t775 => (laws_FnProofOk.j1 k x1 bt755.1 bt755.2.1 t765 (t765 != t775) bt755.2.2.1 bt755.2.2.2.1 bt755.2.2.2.2)) else (laws_FnProofOk.j1 k x1 bt755.1 bt755.2.1 t765 (t765 != false) bt755.2.2.1 bt755.2.2.2.1 bt755.2.2.2.2))) else (laws_FnProofOk.j1 k x1 bt755.1 bt755.2.1 t765 (t765 != false) bt755.2.2.1 bt755.2.2.2.1 bt755.2.2.2.2)))))))
def laws_FnProofOk.j1 : Nat → List Int → Int → List Int → Bool → Bool → Int → Int → List Int → Option (Bool)
 | 0, _, _, _, _, _, _, _, _ => none
 | k + 1, x1, x5, x6, x8, x59, x765000, x765001, x765002 => if x59 = true then (some false) else (if x8 = true then ((some (([] : List Int) : List Int)).bind fun y776 => (if y776.length + x765002.length < 17592186044416 then ((some (y776 ++ x765002 : List Int)).bind fun y779 => (if (y779.length : Int) = 0 then (none) else (if 0 ≤ ((x1.length : Int) % (y779.length : Int)) then (if ((x1.length : Int) % (y779.length : Int)) < (y779.length : Int) then ((impl_FieldSum.f (rd y779 ((x1.length : Int) % (y779.length : Int))) (1 + ((x1.length : Int) % 30))).bind fun t784 => ((impl_ProofOk.f k x5 x6 x765000 x765001 (y779.set (((x1.length : Int) % (y779.length : Int)) : Int).toNat t784)).bind fun t786 => (some (!t786)))) else (none)) else (none)))) else (none))) else (some true))
end
def laws_FnProofOk.f (k : Nat) (l0 : List Int) (l1 : List Int) : Option (Bool) := if (l0.length : Int) > 1048576 then (laws_FnProofOk.j0 k l0 l1 true) else (laws_FnProofOk.j0 k l0 l1 (decide ((l1.length : Int) > 1048576)))
def laws_FnProofOk.T12 : Bool × List (List Nat × List Nat) := (true, [([], []), ([0], [0]), ([], []), ([2], [2]), ([], []), ([], []), ([5], [5]), ([4, 6], [4, 6]), ([1, 3, 7], [1, 3, 7]), ([], []), ([9, 8, 7, 0, 1, 2, 3, 4, 5, 6, 7, 8, 9], [8, 9])])
def laws_FnProofOk.B12 : List Nat := [0, 1, 0, 4, 0, 0, 32, 112, 255, 0, 1023]
theorem laws_FnProofOk.tab12 : rtab .any (opsOf Tryd.f12 12) = laws_FnProofOk.T12 := by kernel_rfl
theorem laws_FnProofOk.bits12 : waitsOk laws_FnProofOk.T12.2 laws_FnProofOk.B12 = true := by kernel_rfl
def laws_FnProofOk.T14 : Bool × List (List Nat × List Nat) := (true, [([], []), ([0], [0]), ([], []), ([], []), ([3], [3]), ([], []), ([4, 5], [4, 5]), ([6], [6]), ([], []), ([8], [8]), ([9], [9]), ([10], [10]), ([7, 11], [7, 11]), ([1, 2, 0, 1, 2, 3, 4, 5, 6, 7, 8, 9, 10, 11, 12], [1, 2]), ([13, 12, 12, 0, 1, 2, 3, 4, 5, 6, 7, 8, 9, 10, 11, 12], [12, 13])])
def laws_FnProofOk.B14 : List Nat := [0, 1, 0, 0, 8, 0, 56, 120, 0, 256, 768, 1792, 4088, 8191, 16383]
theorem laws_FnProofOk.tab14 : rtab .any (opsOf Tryd.f12 14) = laws_FnProofOk.T14 := by kernel_rfl
theorem laws_FnProofOk.bits14 : waitsOk laws_FnProofOk.T14.2 laws_FnProofOk.B14 = true := by kernel_rfl
set_option maxHeartbeats 8000000 in
set_option maxRecDepth 100000 in
theorem laws_FnProofOk.calls (k : Nat) (A0 : Option Addr) (c0 : Nat) (l0 : List Int) (A1 : Option Addr) (c1 : Nat) (l1 : List Int) (r : Bool) (w : World) (hr0 : Kd.C (Kd.int .u8) w A0 l0.length l0) (hc0 : l0.length ≤ c0) (hr1 : Kd.C (Kd.int .u8) w A1 l1.length l1) (hc1 : l1.length ≤ c1) (h : laws_FnProofOk.f k l0 l1 = some r) {a : Addr} (hE : errAt a w) :
  Calls Tryd.prog 12 #[.slice A0 l0.length c0, .slice A1 l1.length c1] w fun e w' => e = .returned (.bool r) ∧ Below w.heap.size w w' := by
 have HE := Aside0.mk hE
 clear hE
 have hu29 := Tryd.underlying29
 have HR0 := Aside0.mk hr0
 have HC0 := Aside0.mk hc0
 clear hr0 hc0
 have HR1 := Aside0.mk hr1
 have HC1 := Aside0.mk hc1
 clear hr1 hc1
 have HB := Aside0.mk (Below.refl w.heap.size w)
 have H := h
 unfold laws_FnProofOk.f at H
 clear h
 have HC3 := Aside0.mk H
 clear H
 go_enter Tryd.func12, Tryd.ntmps12
 go_upto_region 1 with (fail)
 go_cut [20] (fun v20 wc => ∃ (kq : Nat) (x20_2 : Bool), v20 = .bool x20_2 ∧ Aside0 (laws_FnProofOk.j0 kq l0 l1 x20_2 = some r) ∧ Aside0 (kq ≤ k) ∧ Aside0 (Below w.heap.size w wc))
 case first =>
  have H := HC3.out
  clear HC3
  by_cases c4 : (l0.length : Int) > 1048576
  ·rw [if_pos c4] at H
   have c4b0 : decide (1048576 < (l0.length : Int)) = true := decide_eq_true c4
   have c4b1 : decide (1048576 < l0.length) = true := decide_eq_true (by omega)
   clear c4
   (first | rw [c4b0] | (simp only [i64_w, i32_w]; rw [c4b0]) | skip)
   have H' := Aside0.mk H
   clear H
   go_wp2
   go_meet
   case rel => exact ⟨_, (true), rfl, H', ⟨by first | omega | exact Nat.le_refl _⟩, ⟨HB.out⟩⟩
  ·rw [if_neg c4] at H
   have c4b0 : decide (1048576 < (l0.length : Int)) = false := decide_eq_false c4
   have c4b1 : decide (1048576 < l0.length) = false := decide_eq_false (by omega)
   clear c4
   (first | rw [c4b0] | (simp only [i64_w, i32_w]; rw [c4b0]) | skip)
   have H' := Aside0.mk H
   clear H
   go_wp2
   go_meet
   case rel => exact ⟨_, (decide ((l1.length : Int) > 1048576)), rfl, H', ⟨by first | omega | exact Nat.le_refl _⟩, ⟨HB.out⟩⟩
 case rest =>
  clear HC3
  try clear c1
  try clear p2
  try clear c4
  try clear c4b0
  try clear c4b1
  obtain ⟨kq, x20_2, rfl, HA, HJ2, HB⟩ := hcut
  cases kq with
  | zero => exact absurd HA.out (by simp [laws_FnProofOk.j0])
  | succ kj2 =>
   have H := HA.out
   clear HA
   simp only [laws_FnProofOk.j0] at H
   by_cases c5 : x20_2 = true
   ·subst c5
    rw [if_pos rfl] at H
    obtain rfl := Option.some.inj H
    go_wp2
    go_ret
    exact ⟨rfl, HB.out⟩
   ·replace c5 := Bool.eq_false_iff.mpr c5
    subst c5
    rw [if_neg (show ¬ (false = true) by decide)] at H
    replace H := bnd H
    obtain ⟨⟨t755, t756, t759, t760, t761⟩, A6, H⟩ := H
    dsimp only at H
    replace H := bnd H
    obtain ⟨t765, A7, H⟩ := H
    replace H := bnd H
    obtain ⟨t766, A8, H⟩ := H
    by_cases c9 : (t765 != t766) = true
    ·rw [if_pos c9] at H
     have c9b0 : (t765 != t766) = true := c9
     (try (have c9b1 : decide (t765 = t766) = false := by simpa using c9))
     (try (have c9b2 : (t765 == t766) = false := by simpa using c9))
     (try (have c9b3 : ¬ (t765 = t766) := by simpa using c9))
     clear c9
     obtain rfl := Option.some.inj H
     go_wp2_with (first | ((with_reducible refine gate_callee (f := 50) rfl ?_); refine goesL_ (some 23) rfl rfl Tryd.func50 (by kernel_rfl) rfl #[.slice A0 l0.length c0] rfl (by (try simp only [List.map_toArray, List.map_cons, List.map_nil]); first | done | rfl | (simp only [List.length_drop, List.length_take]; rfl)) ?_; (with_reducible refine (spec_DrawProofOk.calls kj2 _ _ l0 t755 t756 t759 t760 t761 _ ?side1 ?side2 A6.out).mono ?_); (case side1 => exact (Kd.C_below HR0.out HB.out)); (case side2 => exact HC0.out); rintro e w10 ⟨v757, v762, rfl, ho0, ho1, hb⟩; refine ⟨_, rfl, ?_⟩; replace HO758 := Aside0.mk (Kd.R_lower ho0 (below_size (HB.out))); replace HO763 := Aside0.mk (Kd.Q_lower ho1 (below_size (HB.out))); replace HB := Aside0.mk (below_step (HB.out) hb); clear hb ho0 ho1) | ((with_reducible refine gate_dst (N := 7) rfl ?_); (try (refine gate_guard (by rfl) ?_; dsimp only)); refine box_event ?hg (N := 7) ?hd (cs := #[.int .i64 0, .int .i64 0, .slice none 0 0]) (t := 29) ?hr ?_; (case hd => rfl); (case hg => rfl); (case hr => first | (go_simp; done) | (go_simp; rfl)); intro gb764 hg w11 hbox hb; replace HO758 := Aside0.mk (Kd.R_below (HO758.out) hb); replace HO763 := Aside0.mk (Kd.Q_below (HO763.out) hb); replace BK764 := Aside0.mk (hbox); replace GW764 := Aside0.mk ((by rw [hg]; exact (below_size (HB.out)) : w.heap.size ≤ gb764)); replace GE764 := Aside0.mk ((by rw [hg]; exact (below_size (HB.out)) : w.heap.size ≤ gb764)); replace HB := Aside0.mk (below_step (by repeat (with_reducible first | exact HB.out | apply below_alloc | apply pw_below_drewN | apply below_drew1)) hb); clear hb hbox hg; have hcz12_0 : w11.cell? ⟨gb764, 0, none⟩ = some (.int .i64 0) := (blk_cell BK764.out 0).trans rfl; have hcz12_1 : w11.cell? ⟨gb764, 1, none⟩ = some (.int .i64 0) := (blk_cell BK764.out 1).trans rfl; have hcz12_2 : w11.cell? ⟨gb764, 2, none⟩ = some (.slice none 0 0) := (blk_cell BK764.out 2).trans rfl; have hfz12_0 := blk_frozen BK764.out 0; have hfz12_1 := blk_frozen BK764.out 1; have hfz12_2 := blk_frozen BK764.out 2; obtain ⟨Ao13, co13, eo13, _⟩ := Kd.Q_slice HO763.out; subst eo13; obtain ⟨Ao14, co14, eo14⟩ := Kd.R_slice HO758.out; subst eo14) | ((with_reducible refine gate_callee (f := 37) rfl ?_); refine goesL_ (some 30) rfl rfl Tryd.func37 (by kernel_rfl) rfl #[.int .i64 t755, .slice Ao14 t756.length co14, .agg #[.int .i64 t759, .int .i64 t760, .slice Ao13 t761.length co13]] rfl (by (try simp only [List.map_toArray, List.map_cons, List.map_nil]); first | done | rfl | (simp only [List.length_drop, List.length_take]; rfl)) ?_; (with_reducible refine (impl_ProofOk.calls kj2 t755 _ _ t756 t759 t760 _ _ t761 t765 _ ?side1 ?side2 ?side3 ?side4 A7.out HE.out ?sideB).mono ?_); (case side1 => refine (Kd.R_reads' (e := 3) (base := w.heap.size) (ok := fun k_ => some k_ ≠ (.slice Ao13 t761.length co13 : Value).ownBlock) (n := t756.length) (c := co14) ?_).2.2; exact ((Kd.R_mono (Kd.R_far (p := ⟨gb764, 2, none⟩) (Kd.R_far (p := ⟨gb764, 1, none⟩) (Kd.R_far (p := ⟨gb764, 0, none⟩) (Kd.R_types HO758.out BK764.out (by decide)) (fun _ hk => hk.2) (.int .i64 t759)) (fun _ hk => hk.2) (.int .i64 t760)) (fun _ hk => hk.2) (.slice Ao13 t761.length co13)) (fun _ h_ => h_.1)))); (case side2 => exact (Kd.R_reads' HO758.out).2.1); (case side3 => refine (Kd.Q_reads' (e := 3) (base := w.heap.size) (ok := fun k_ => some k_ ≠ (.slice Ao14 t756.length co14 : Value).ownBlock) (n := t761.length) (c := co13) ?_).2.2; exact ((Kd.Q_mono (Kd.Q_far (p := ⟨gb764, 2, none⟩) (Kd.Q_far (p := ⟨gb764, 1, none⟩) (Kd.Q_far (p := ⟨gb764, 0, none⟩) (Kd.Q_types HO763.out BK764.out (by decide)) (fun _ hk => hk.2) (.int .i64 t759)) (fun _ hk => hk.2) (.int .i64 t760)) (fun _ hk => hk.2) (.slice Ao13 t761.length co13)) (fun _ h_ => h_.1)))); (case side4 => exact (Kd.Q_reads' HO763.out).2.1); (case sideB => exact (by repeat (with_reducible first | exact HB.out | apply below_alloc | apply pw_below_drewN | apply below_drew1 | refine below_set ?_ GE764.out))); rintro e w15 ⟨rfl, hb⟩; refine ⟨_, rfl, ?_⟩; replace HO758 := Aside0.mk (Kd.R_below ((Kd.R_mono (Kd.R_far (p := ⟨gb764, 2, none⟩) (Kd.R_far (p := ⟨gb764, 1, none⟩) (Kd.R_far (p := ⟨gb764, 0, none⟩) (Kd.R_types HO758.out BK764.out (by decide)) (fun _ hk => hk.2) (.int .i64 t759)) (fun _ hk => hk.2) (.int .i64 t760)) (fun _ hk => hk.2) (.slice Ao13 t761.length co13)) (fun _ h_ => h_.1))) hb); replace HO763 := Aside0.mk (Kd.Q_below ((Kd.Q_mono (Kd.Q_far (p := ⟨gb764, 2, none⟩) (Kd.Q_far (p := ⟨gb764, 1, none⟩) (Kd.Q_far (p := ⟨gb764, 0, none⟩) (Kd.Q_types HO763.out BK764.out (by decide)) (fun _ hk => hk.2) (.int .i64 t759)) (fun _ hk => hk.2) (.int .i64 t760)) (fun _ hk => hk.2) (.slice Ao13 t761.length co13)) (fun _ h_ => h_.1))) hb); replace BK764 := Aside0.mk (blk_below (g := gb764) (o := .cells #[.int .i64 t759, .int .i64 t760, .slice Ao13 t761.length co13] 29 (0, 0)) (by refine blk_put (cs := #[.int .i64 t759, .int .i64 t760, .slice none 0 0]) ?_ 2 _ rfl; refine blk_put (cs := #[.int .i64 t759, .int .i64 0, .slice none 0 0]) ?_ 1 _ rfl; refine blk_put (cs := #[.int .i64 0, .int .i64 0, .slice none 0 0]) ?_ 0 _ rfl; exact BK764.out) hb); replace HB := Aside0.mk (below_step (by repeat (with_reducible first | exact HB.out | apply below_alloc | apply pw_below_drewN | apply below_drew1 | refine below_set ?_ GE764.out)) hb); (try clear hb); (try clear hb2); (try clear hk); (try clear hi); have hcz16_0 : w15.cell? ⟨gb764, 0, none⟩ = some (.int .i64 t759) := (blk_cell BK764.out 0).trans rfl; have hcz16_1 : w15.cell? ⟨gb764, 1, none⟩ = some (.int .i64 t760) := (blk_cell BK764.out 1).trans rfl; have hcz16_2 : w15.cell? ⟨gb764, 2, none⟩ = some (.slice Ao13 t761.length co13) := (blk_cell BK764.out 2).trans rfl; have hfz16_0 := blk_frozen BK764.out 0; have hfz16_1 := blk_frozen BK764.out 1; have hfz16_2 := blk_frozen BK764.out 2) | ((with_reducible refine gate_callee (f := 36) rfl ?_); refine goesL_ (some 35) rfl rfl Tryd.func36 (by kernel_rfl) rfl #[.int .i64 t755, .slice Ao14 t756.length co14, .agg #[.int .i64 t759, .int .i64 t760, .slice Ao13 t761.length co13]] rfl (by (try simp only [List.map_toArray, List.map_cons, List.map_nil]); first | done | rfl | (simp only [List.length_drop, List.length_take]; rfl)) ?_; (with_reducible refine (spec_ProofOk.calls kj2 t755 _ _ t756 t759 t760 _ _ t761 t766 _ ?side1 ?side2 ?side3 ?side4 A8.out).mono ?_); (case side1 => exact (Kd.R_reads' HO758.out).2.2); (case side2 => exact (Kd.R_reads' HO758.out).2.1); (case side3 => exact (Kd.Q_reads' HO763.out).2.2); (case side4 => exact (Kd.Q_reads' HO763.out).2.1); rintro e w17 ⟨rfl, hb⟩; refine ⟨_, rfl, ?_⟩; replace HO758 := Aside0.mk (Kd.R_below (HO758.out) hb); replace HO763 := Aside0.mk (Kd.Q_below (HO763.out) hb); replace BK764 := Aside0.mk (blk_below (g := gb764) (o := .cells #[.int .i64 t759, .int .i64 t760, .slice Ao13 t761.length co13] 29 (0, 0)) (by exact BK764.out) hb); replace HB := Aside0.mk (below_step (by repeat (with_reducible first | exact HB.out | apply below_alloc | apply pw_below_drewN | apply below_drew1 | refine below_set ?_ GE764.out)) hb); clear hb))
     go_ret
     exact ⟨rfl, HB.out⟩
    ·rw [if_neg c9] at H
     have c9b0 : (t765 != t766) = false := by simpa using c9
     (try (have c9b1 : decide (t765 = t766) = true := by simpa using c9))
     (try (have c9b2 : (t765 == t766) = true := by simpa using c9))
     clear c9
     replace H := bnd H
     obtain ⟨⟨t767, t768, t769, t772⟩, A18, H⟩ := H
     dsimp only at H
     have HC19 := Aside0.mk H
     clear H
     go_upto_region 8 with (first | ((with_reducible refine gate_callee (f := 50) rfl ?_); refine goesL_ (some 23) rfl rfl Tryd.func50 (by kernel_rfl) rfl #[.slice A0 l0.length c0] rfl (by (try simp only [List.map_toArray, List.map_cons, List.map_nil]); first | done | rfl | (simp only [List.length_drop, List.length_take]; rfl)) ?_; (with_reducible refine (spec_DrawProofOk.calls kj2 _ _ l0 t755 t756 t759 t760 t761 _ ?side1 ?side2 A6.out).mono ?_); (case side1 => exact (Kd.C_below HR0.out HB.out)); (case side2 => exact HC0.out); rintro e w20 ⟨v757, v762, rfl, ho0, ho1, hb⟩; refine ⟨_, rfl, ?_⟩; have n0_ := Aside0.mk (Kd.R_lower ho0 (below_size (HB.out))); have n1_ := Aside0.mk (Kd.Q_lower ho1 (below_size (HB.out))); have n2_ := Aside0.mk (below_step (by repeat (with_reducible first | exact HB.out | apply below_alloc | apply pw_below_drewN | apply below_drew1)) hb); clear HB; have HO758 := n0_; have HO763 := n1_; have HB := n2_; clear n0_ n1_ n2_; (try clear hb); (try clear hb2); (try clear hk); (try clear hi); (try clear ho0); (try clear ho1)) | ((with_reducible refine gate_dst (N := 7) rfl ?_); (try (refine gate_guard (by rfl) ?_; dsimp only)); refine box_event ?hg (N := 7) ?hd (cs := #[.int .i64 0, .int .i64 0, .slice none 0 0]) (t := 29) ?hr ?_; (case hd => rfl); (case hg => rfl); (case hr => first | (go_simp; done) | (go_simp; rfl)); intro gb764 hg w21 hbox hb; have n0_ := Aside0.mk (Kd.R_below (HO758.out) hb); have n1_ := Aside0.mk (Kd.Q_below (HO763.out) hb); have n2_ := Aside0.mk (below_step (by repeat (with_reducible first | exact HB.out | apply below_alloc | apply pw_below_drewN | apply below_drew1)) hb); have n3_ := Aside0.mk (hbox); have n4_ := Aside0.mk ((by rw [hg]; exact (below_size (by repeat (with_reducible first | exact HB.out | apply below_alloc | apply pw_below_drewN | apply below_drew1))) : w.heap.size ≤ gb764)); have n5_ := Aside0.mk ((by rw [hg]; exact (below_size (by repeat (with_reducible first | exact HB.out | apply below_alloc | apply pw_below_drewN | apply below_drew1))) : w.heap.size ≤ gb764)); clear HO758; clear HO763; clear HB; have HO758 := n0_; have HO763 := n1_; have HB := n2_; have BK764 := n3_; have GW764 := n4_; have GE764 := n5_; clear n0_ n1_ n2_ n3_ n4_ n5_; clear hb hbox hg; have hcz22_0 : w21.cell? ⟨gb764, 0, none⟩ = some (.int .i64 0) := (blk_cell BK764.out 0).trans rfl; have hcz22_1 : w21.cell? ⟨gb764, 1, none⟩ = some (.int .i64 0) := (blk_cell BK764.out 1).trans rfl; have hcz22_2 : w21.cell? ⟨gb764, 2, none⟩ = some (.slice none 0 0) := (blk_cell BK764.out 2).trans rfl; have hfz22_0 := blk_frozen BK764.out 0; have hfz22_1 := blk_frozen BK764.out 1; have hfz22_2 := blk_frozen BK764.out 2; obtain ⟨Ao23, co23, eo23, _⟩ := Kd.Q_slice HO763.out; subst eo23; obtain ⟨Ao24, co24, eo24⟩ := Kd.R_slice HO758.out; subst eo24) | ((with_reducible refine gate_callee (f := 37) rfl ?_); refine goesL_ (some 30) rfl rfl Tryd.func37 (by kernel_rfl) rfl #[.int .i64 t755, .slice Ao24 t756.length co24, .agg #[.int .i64 t759, .int .i64 t760, .slice Ao23 t761.length co23]] rfl (by (try simp only [List.map_toArray, List.map_cons, List.map_nil]); first | done | rfl | (simp only [List.length_drop, List.length_take]; rfl)) ?_; (with_reducible refine (impl_ProofOk.calls kj2 t755 _ _ t756 t759 t760 _ _ t761 t765 _ ?side1 ?side2 ?side3 ?side4 A7.out HE.out ?sideB).mono ?_); (case side1 => refine (Kd.R_reads' (e := 3) (base := w.heap.size) (ok := fun k_ => some k_ ≠ (.slice Ao23 t761.length co23 : Value).ownBlock) (n := t756.length) (c := co24) ?_).2.2; exact ((Kd.R_mono (Kd.R_far (p := ⟨gb764, 2, none⟩) (Kd.R_far (p := ⟨gb764, 1, none⟩) (Kd.R_far (p := ⟨gb764, 0, none⟩) (Kd.R_types HO758.out BK764.out (by decide)) (fun _ hk => hk.2) (.int .i64 t759)) (fun _ hk => hk.2) (.int .i64 t760)) (fun _ hk => hk.2) (.slice Ao23 t761.length co23)) (fun _ h_ => h_.1)))); (case side2 => exact (Kd.R_reads' HO758.out).2.1); (case side3 => refine (Kd.Q_reads' (e := 3) (base := w.heap.size) (ok := fun k_ => some k_ ≠ (.slice Ao24 t756.length co24 : Value).ownBlock) (n := t761.length) (c := co23) ?_).2.2; exact ((Kd.Q_mono (Kd.Q_far (p := ⟨gb764, 2, none⟩) (Kd.Q_far (p := ⟨gb764, 1, none⟩) (Kd.Q_far (p := ⟨gb764, 0, none⟩) (Kd.Q_types HO763.out BK764.out (by decide)) (fun _ hk => hk.2) (.int .i64 t759)) (fun _ hk => hk.2) (.int .i64 t760)) (fun _ hk => hk.2) (.slice Ao23 t761.length co23)) (fun _ h_ => h_.1)))); (case side4 => exact (Kd.Q_reads' HO763.out).2.1); (case sideB => exact (by repeat (with_reducible first | exact HB.out | apply below_alloc | apply pw_below_drewN | apply below_drew1 | refine below_set ?_ GE764.out))); rintro e w25 ⟨rfl, hb⟩; refine ⟨_, rfl, ?_⟩; have n0_ := Aside0.mk (Kd.R_below ((Kd.R_mono (Kd.R_far (p := ⟨gb764, 2, none⟩) (Kd.R_far (p := ⟨gb764, 1, none⟩) (Kd.R_far (p := ⟨gb764, 0, none⟩) (Kd.R_types HO758.out BK764.out (by decide)) (fun _ hk => hk.2) (.int .i64 t759)) (fun _ hk => hk.2) (.int .i64 t760)) (fun _ hk => hk.2) (.slice Ao23 t761.length co23)) (fun _ h_ => h_.1))) hb); have n1_ := Aside0.mk (Kd.Q_below ((Kd.Q_mono (Kd.Q_far (p := ⟨gb764, 2, none⟩) (Kd.Q_far (p := ⟨gb764, 1, none⟩) (Kd.Q_far (p := ⟨gb764, 0, none⟩) (Kd.Q_types HO763.out BK764.out (by decide)) (fun _ hk => hk.2) (.int .i64 t759)) (fun _ hk => hk.2) (.int .i64 t760)) (fun _ hk => hk.2) (.slice Ao23 t761.length co23)) (fun _ h_ => h_.1))) hb); have n2_ := Aside0.mk (blk_below (g := gb764) (o := .cells #[.int .i64 t759, .int .i64 t760, .slice Ao23 t761.length co23] 29 (0, 0)) (by refine blk_put (cs := #[.int .i64 t759, .int .i64 t760, .slice none 0 0]) ?_ 2 _ rfl; refine blk_put (cs := #[.int .i64 t759, .int .i64 0, .slice none 0 0]) ?_ 1 _ rfl; refine blk_put (cs := #[.int .i64 0, .int .i64 0, .slice none 0 0]) ?_ 0 _ rfl; exact BK764.out) hb); have n3_ := Aside0.mk (below_step (by repeat (with_reducible first | exact HB.out | apply below_alloc | apply pw_below_drewN | apply below_drew1 | refine below_set ?_ GE764.out)) hb); clear HO758; clear HO763; clear BK764; clear HB; have HO758 := n0_; have HO763 := n1_; have BK764 := n2_; have HB := n3_; clear n0_ n1_ n2_ n3_; (try clear hb); (try clear hb2); (try clear hk); (try clear hi); have hcz26_0 : w25.cell? ⟨gb764, 0, none⟩ = some (.int .i64 t759) := (blk_cell BK764.out 0).trans rfl; have hcz26_1 : w25.cell? ⟨gb764, 1, none⟩ = some (.int .i64 t760) := (blk_cell BK764.out 1).trans rfl; have hcz26_2 : w25.cell? ⟨gb764, 2, none⟩ = some (.slice Ao23 t761.length co23) := (blk_cell BK764.out 2).trans rfl; have hfz26_0 := blk_frozen BK764.out 0; have hfz26_1 := blk_frozen BK764.out 1; have hfz26_2 := blk_frozen BK764.out 2) | ((with_reducible refine gate_callee (f := 36) rfl ?_); refine goesL_ (some 35) rfl rfl Tryd.func36 (by kernel_rfl) rfl #[.int .i64 t755, .slice Ao24 t756.length co24, .agg #[.int .i64 t759, .int .i64 t760, .slice Ao23 t761.length co23]] rfl (by (try simp only [List.map_toArray, List.map_cons, List.map_nil]); first | done | rfl | (simp only [List.length_drop, List.length_take]; rfl)) ?_; (with_reducible refine (spec_ProofOk.calls kj2 t755 _ _ t756 t759 t760 _ _ t761 t766 _ ?side1 ?side2 ?side3 ?side4 A8.out).mono ?_); (case side1 => exact (Kd.R_reads' HO758.out).2.2); (case side2 => exact (Kd.R_reads' HO758.out).2.1); (case side3 => exact (Kd.Q_reads' HO763.out).2.2); (case side4 => exact (Kd.Q_reads' HO763.out).2.1); rintro e w27 ⟨rfl, hb⟩; refine ⟨_, rfl, ?_⟩; have n0_ := Aside0.mk (Kd.R_below (HO758.out) hb); have n1_ := Aside0.mk (Kd.Q_below (HO763.out) hb); have n2_ := Aside0.mk (blk_below (g := gb764) (o := .cells #[.int .i64 t759, .int .i64 t760, .slice Ao23 t761.length co23] 29 (0, 0)) (by exact BK764.out) hb); have n3_ := Aside0.mk (below_step (by repeat (with_reducible first | exact HB.out | apply below_alloc | apply pw_below_drewN | apply below_drew1 | refine below_set ?_ GE764.out)) hb); clear HO758; clear HO763; clear BK764; clear HB; have HO758 := n0_; have HO763 := n1_; have BK764 := n2_; have HB := n3_; clear n0_ n1_ n2_ n3_; (try clear hb); (try clear hb2); (try clear hk); (try clear hi); have hcz28_0 : w27.cell? ⟨gb764, 0, none⟩ = some (.int .i64 t759) := (blk_cell BK764.out 0).trans rfl; have hcz28_1 : w27.cell? ⟨gb764, 1, none⟩ = some (.int .i64 t760) := (blk_cell BK764.out 1).trans rfl; have hcz28_2 : w27.cell? ⟨gb764, 2, none⟩ = some (.slice Ao23 t761.length co23) := (blk_cell BK764.out 2).trans rfl; have hfz28_0 := blk_frozen BK764.out 0; have hfz28_1 := blk_frozen BK764.out 1; have hfz28_2 := blk_frozen BK764.out 2) | ((with_reducible refine gate_callee (f := 45) rfl ?_); refine goesL_ (some 44) rfl rfl Tryd.func45 (by kernel_rfl) rfl #[.int .i64 t755, .slice Ao24 t756.length co24, .int .i64 t759, .int .i64 t760] rfl (by (try simp only [List.map_toArray, List.map_cons, List.map_nil]); first | done | rfl | (simp only [List.length_drop, List.length_take]; rfl)) ?_; (with_reducible refine (impl_ProofMake.calls kj2 t755 _ _ t756 t759 t760 t767 t768 t769 t772 _ ?side1 ?side2 A18.out).mono ?_); (case side1 => exact (Kd.R_reads' HO758.out).2.2); (case side2 => exact (Kd.R_reads' HO758.out).2.1); rintro e w29 ⟨v770, rfl, ho0, hb⟩; refine ⟨_, rfl, ?_⟩; have n0_ := Aside0.mk (Kd.R_elder' (HO758.out) (Kd.R_base ho0) hb); have n1_ := Aside0.mk (Kd.Q_elder' (HO763.out) (Kd.R_base ho0) hb); have n2_ := Aside0.mk (Kd.R_lower (Kd.R_new' (Kd.R_new' ho0 (Kd.R_lt (HO758.out))) (Kd.Q_lt (HO763.out))) (below_size (by repeat (with_reducible first | exact HB.out | apply below_alloc | apply pw_below_drewN | apply below_drew1 | refine below_set ?_ GE764.out)))); have n3_ := Aside0.mk (blk_below (g := gb764) (o := .cells #[.int .i64 t759, .int .i64 t760, .slice Ao23 t761.length co23] 29 (0, 0)) (by exact BK764.out) hb); have n4_ := Aside0.mk (below_step (by repeat (with_reducible first | exact HB.out | apply below_alloc | apply pw_below_drewN | apply below_drew1 | refine below_set ?_ GE764.out)) hb); clear HO758; clear HO763; clear BK764; clear HB; have HO758 := n0_; have HO763 := n1_; have HO771 := n2_; have BK764 := n3_; have HB := n4_; clear n0_ n1_ n2_ n3_ n4_; (try clear hb); (try clear hb2); (try clear hk); (try clear hi); (try clear ho0)) | ((with_reducible refine gate_dst (N := 9) rfl ?_); (try (refine gate_guard (by rfl) ?_; dsimp only)); refine box_event ?hg (N := 9) ?hd (cs := #[.int .i64 0, .int .i64 0, .slice none 0 0]) (t := 29) ?hr ?_; (case hd => rfl); (case hg => rfl); (case hr => first | (go_simp; done) | (go_simp; rfl)); intro gb773 hg w30 hbox hb; have n0_ := Aside0.mk (Kd.R_below (HO758.out) hb); have n1_ := Aside0.mk (Kd.Q_below (HO763.out) hb); have n2_ := Aside0.mk (Kd.R_below (HO771.out) hb); have n3_ := Aside0.mk (blk_below (g := gb764) (o := .cells #[.int .i64 t759, .int .i64 t760, .slice Ao23 t761.length co23] 29 (0, 0)) (by exact BK764.out) hb); have n4_ := Aside0.mk (below_step (by repeat (with_reducible first | exact HB.out | apply below_alloc | apply pw_below_drewN | apply below_drew1 | refine below_set ?_ GE764.out)) hb); have n5_ := Aside0.mk (hbox); have n6_ := Aside0.mk ((by rw [hg]; exact (below_size (by repeat (with_reducible first | exact HB.out | apply below_alloc | apply pw_below_drewN | apply below_drew1 | refine below_set ?_ GE764.out))) : w.heap.size ≤ gb773)); have n7_ := Aside0.mk ((by rw [hg]; exact (below_size (by repeat (with_reducible first | exact HB.out | apply below_alloc | apply pw_below_drewN | apply below_drew1 | refine below_set ?_ GE764.out))) : w.heap.size ≤ gb773)); have n8_ := Aside0.mk ((by rw [hg]; exact Nat.ne_of_lt (blk_lt (g := gb764) (o := .cells #[.int .i64 t759, .int .i64 t760, .slice Ao23 t761.length co23] 29 (0, 0)) (by exact BK764.out)) : gb764 ≠ gb773)); have n9_ := Aside0.mk ((by rw [hg]; exact Nat.ne_of_gt (blk_lt (g := gb764) (o := .cells #[.int .i64 t759, .int .i64 t760, .slice Ao23 t761.length co23] 29 (0, 0)) (by exact BK764.out)) : gb773 ≠ gb764)); clear HO758; clear HO763; clear HO771; clear BK764; clear HB; have HO758 := n0_; have HO763 := n1_; have HO771 := n2_; have BK764 := n3_; have HB := n4_; have BK773 := n5_; have GW773 := n6_; have GE773 := n7_; have NB764_773 := n8_; have NB773_764 := n9_; clear n0_ n1_ n2_ n3_ n4_ n5_ n6_ n7_ n8_ n9_; clear hb hbox hg; have hnb31 := NB773_764.out; have hnc31 := NB764_773.out; have hcz32_0 : w30.cell? ⟨gb773, 0, none⟩ = some (.int .i64 0) := (blk_cell BK773.out 0).trans rfl; have hcz32_1 : w30.cell? ⟨gb773, 1, none⟩ = some (.int .i64 0) := (blk_cell BK773.out 1).trans rfl; have hcz32_2 : w30.cell? ⟨gb773, 2, none⟩ = some (.slice none 0 0) := (blk_cell BK773.out 2).trans rfl; have hfz32_0 := blk_frozen BK773.out 0; have hfz32_1 := blk_frozen BK773.out 1; have hfz32_2 := blk_frozen BK773.out 2; obtain ⟨Ao33, co33, eo33⟩ := Kd.R_slice HO771.out; subst eo33))
     (try simp only [Act.put, List.setIfInBounds_toArray, List.set_cons_zero, List.set_cons_succ])
     go_cut [59] (fun v59 wc => ∃ (kq : Nat) (x59_18 : Bool), v59 = .bool x59_18 ∧ Aside0 (laws_FnProofOk.j1 kq l1 t755 t756 t765 x59_18 t759 t760 t761 = some r) ∧ Aside0 (kq ≤ kj2) ∧ Aside0 (Kd.R (Kd.int .i64) 3 wc w.heap.size (fun k_ => some k_ ≠ ((.slice Ao23 t761.length co23) : Value).ownBlock ∧ some k_ ≠ ((.slice Ao33 t769.length co33) : Value).ownBlock) (.slice Ao24 t756.length co24) t756) ∧ Aside0 (Kd.Q (Kd.int .i64) 3 wc w.heap.size (fun k_ => some k_ ≠ ((.slice Ao24 t756.length co24) : Value).ownBlock ∧ some k_ ≠ ((.slice Ao33 t769.length co33) : Value).ownBlock) (.slice Ao23 t761.length co23) t761) ∧ Aside0 (Kd.Q (Kd.int .i64) 3 wc w.heap.size (fun k_ => some k_ ≠ ((.slice Ao24 t756.length co24) : Value).ownBlock ∧ some k_ ≠ ((.slice Ao23 t761.length co23) : Value).ownBlock) (.slice Ao33 t769.length co33) t769) ∧ Aside0 (wc.heap[gb764]? = some (.cells #[.int .i64 t759, .int .i64 t760, (.slice Ao23 t761.length co23)] 29 (0, 0))) ∧ Aside0 (wc.heap[gb773]? = some (.cells #[.int .i64 t767, .int .i64 t768, (.slice Ao33 t769.length co33)] 29 (0, 0))) ∧ Aside0 (Below w.heap.size w wc))
     case first =>
      have H := HC19.out
      clear HC19
      by_cases c34 : t772 = true
      ·subst c34
       rw [if_pos rfl] at H
       replace H := bnd H
       obtain ⟨t774, A35, H⟩ := H
       by_cases c36 : t774 = true
       ·subst c36
        rw [if_pos rfl] at H
        replace H := bnd H
        obtain ⟨t775, A37, H⟩ := H
        have H' := Aside0.mk H
        clear H
        go_wp2_with (first | (go_at_call 49; (with_reducible refine (impl_TypeOk.calls kj2 t755 _ _ t756 true _ ?side1 ?side2 A35.out).mono ?_); (case side1 => refine (Kd.R_reads' (e := 3) (base := w.heap.size) (ok := fun k_ => (some k_ ≠ (.slice Ao23 t761.length co23 : Value).ownBlock ∧ some k_ ≠ (.slice Ao33 t769.length co33 : Value).ownBlock)) (n := t756.length) (c := co24) ?_).2.2; exact ((Kd.R_mono (Kd.R_far (p := ⟨gb773, 2, none⟩) (Kd.R_far (p := ⟨gb773, 1, none⟩) (Kd.R_far (p := ⟨gb773, 0, none⟩) (Kd.R_types HO758.out BK773.out (by decide)) (fun _ hk => hk.2) (.int .i64 t767)) (fun _ hk => hk.2) (.int .i64 t768)) (fun _ hk => hk.2) (.slice Ao33 t769.length co33)) (fun _ h_ => h_.1)))); (case side2 => exact (Kd.R_reads' HO758.out).2.1); rintro e w38 ⟨rfl, hb⟩; replace HO758 := Aside0.mk (Kd.R_below ((Kd.R_mono (Kd.R_far (p := ⟨gb773, 2, none⟩) (Kd.R_far (p := ⟨gb773, 1, none⟩) (Kd.R_far (p := ⟨gb773, 0, none⟩) (Kd.R_types HO758.out BK773.out (by decide)) (fun _ hk => hk.2) (.int .i64 t767)) (fun _ hk => hk.2) (.int .i64 t768)) (fun _ hk => hk.2) (.slice Ao33 t769.length co33)) (fun _ h_ => h_.1))) hb); replace HO763 := Aside0.mk (Kd.Q_below ((Kd.Q_mono (Kd.Q_far (p := ⟨gb773, 2, none⟩) (Kd.Q_far (p := ⟨gb773, 1, none⟩) (Kd.Q_far (p := ⟨gb773, 0, none⟩) (Kd.Q_types HO763.out BK773.out (by decide)) (fun _ hk => hk.2) (.int .i64 t767)) (fun _ hk => hk.2) (.int .i64 t768)) (fun _ hk => hk.2) (.slice Ao33 t769.length co33)) (fun _ h_ => h_.1))) hb); replace HO771 := Aside0.mk (Kd.R_below ((Kd.R_mono (Kd.R_far (p := ⟨gb773, 2, none⟩) (Kd.R_far (p := ⟨gb773, 1, none⟩) (Kd.R_far (p := ⟨gb773, 0, none⟩) (Kd.R_types HO771.out BK773.out (by decide)) (fun _ hk => hk.2) (.int .i64 t767)) (fun _ hk => hk.2) (.int .i64 t768)) (fun _ hk => hk.2) (.slice Ao33 t769.length co33)) (fun _ h_ => h_.1))) hb); replace BK764 := Aside0.mk (blk_below (g := gb764) (o := .cells #[.int .i64 t759, .int .i64 t760, .slice Ao23 t761.length co23] 29 (0, 0)) (by refine blk_far ?_ NB764_773.out _; refine blk_far ?_ NB764_773.out _; refine blk_far ?_ NB764_773.out _; exact BK764.out) hb); replace BK773 := Aside0.mk (blk_below (g := gb773) (o := .cells #[.int .i64 t767, .int .i64 t768, .slice Ao33 t769.length co33] 29 (0, 0)) (by refine blk_put (cs := #[.int .i64 t767, .int .i64 t768, .slice none 0 0]) ?_ 2 _ rfl; refine blk_put (cs := #[.int .i64 t767, .int .i64 0, .slice none 0 0]) ?_ 1 _ rfl; refine blk_put (cs := #[.int .i64 0, .int .i64 0, .slice none 0 0]) ?_ 0 _ rfl; exact BK773.out) hb); replace HB := Aside0.mk (below_step (by repeat (with_reducible first | exact HB.out | apply below_alloc | apply pw_below_drewN | apply below_drew1 | refine below_set ?_ GE764.out | refine below_set ?_ GE773.out)) hb); (try clear hb); (try clear hb2); (try clear hk); (try clear hi); have hnb39 := NB764_773.out; have hnc39 := NB773_764.out; have hcz40_0 : w38.cell? ⟨gb764, 0, none⟩ = some (.int .i64 t759) := (blk_cell BK764.out 0).trans rfl; have hcz40_1 : w38.cell? ⟨gb764, 1, none⟩ = some (.int .i64 t760) := (blk_cell BK764.out 1).trans rfl; have hcz40_2 : w38.cell? ⟨gb764, 2, none⟩ = some (.slice Ao23 t761.length co23) := (blk_cell BK764.out 2).trans rfl; have hfz40_0 := blk_frozen BK764.out 0; have hfz40_1 := blk_frozen BK764.out 1; have hfz40_2 := blk_frozen BK764.out 2; have hcz41_0 : w38.cell? ⟨gb773, 0, none⟩ = some (.int .i64 t767) := (blk_cell BK773.out 0).trans rfl; have hcz41_1 : w38.cell? ⟨gb773, 1, none⟩ = some (.int .i64 t768) := (blk_cell BK773.out 1).trans rfl; have hcz41_2 : w38.cell? ⟨gb773, 2, none⟩ = some (.slice Ao33 t769.length co33) := (blk_cell BK773.out 2).trans rfl; have hfz41_0 := blk_frozen BK773.out 0; have hfz41_1 := blk_frozen BK773.out 1; have hfz41_2 := blk_frozen BK773.out 2) | (go_at_call 34; (with_reducible refine (laws_loProof.calls kj2 t759 t760 _ _ t761 t767 t768 _ _ t769 t775 _ ?side1 ?side2 ?side3 ?side4 A37.out).mono ?_); (case side1 => exact (Kd.Q_reads' HO763.out).2.2); (case side2 => exact (Kd.Q_reads' HO763.out).2.1); (case side3 => exact (Kd.R_reads' HO771.out).2.2); (case side4 => exact (Kd.R_reads' HO771.out).2.1); rintro e w42 ⟨rfl, hb⟩; replace HO758 := Aside0.mk (Kd.R_below (HO758.out) hb); replace HO763 := Aside0.mk (Kd.Q_below (HO763.out) hb); replace HO771 := Aside0.mk (Kd.R_below (HO771.out) hb); replace BK764 := Aside0.mk (blk_below (g := gb764) (o := .cells #[.int .i64 t759, .int .i64 t760, .slice Ao23 t761.length co23] 29 (0, 0)) (by exact BK764.out) hb); replace BK773 := Aside0.mk (blk_below (g := gb773) (o := .cells #[.int .i64 t767, .int .i64 t768, .slice Ao33 t769.length co33] 29 (0, 0)) (by exact BK773.out) hb); replace HB := Aside0.mk (below_step (by repeat (with_reducible first | exact HB.out | apply below_alloc | apply pw_below_drewN | apply below_drew1 | refine below_set ?_ GE764.out | refine below_set ?_ GE773.out)) hb); clear hb))
        go_meet
        case rel => exact ⟨_, ((t765 != t775)), rfl, H', ⟨by have := HJ2.out; first | omega | exact Nat.le_refl _⟩, ⟨HO758.out⟩, ⟨HO763.out⟩, ⟨Kd.Q_of_R (Kd.R_mono HO771.out (fun _ hk => ⟨hk.1.2, hk.2⟩))⟩, ⟨by exact BK764.out⟩, ⟨by exact BK773.out⟩, ⟨by repeat (with_reducible first | exact HB.out | apply below_alloc | apply pw_below_drewN | apply below_drew1 | refine below_set ?_ GE764.out | refine below_set ?_ GE773.out)⟩⟩
       ·replace c36 := Bool.eq_false_iff.mpr c36
        subst c36
        rw [if_neg (show ¬ (false = true) by decide)] at H
        have H' := Aside0.mk H
        clear H
        go_wp2_with (first | (go_at_call 49; (with_reducible refine (impl_TypeOk.calls kj2 t755 _ _ t756 false _ ?side1 ?side2 A35.out).mono ?_); (case side1 => refine (Kd.R_reads' (e := 3) (base := w.heap.size) (ok := fun k_ => (some k_ ≠ (.slice Ao23 t761.length co23 : Value).ownBlock ∧ some k_ ≠ (.slice Ao33 t769.length co33 : Value).ownBlock)) (n := t756.length) (c := co24) ?_).2.2; exact ((Kd.R_mono (Kd.R_far (p := ⟨gb773, 2, none⟩) (Kd.R_far (p := ⟨gb773, 1, none⟩) (Kd.R_far (p := ⟨gb773, 0, none⟩) (Kd.R_types HO758.out BK773.out (by decide)) (fun _ hk => hk.2) (.int .i64 t767)) (fun _ hk => hk.2) (.int .i64 t768)) (fun _ hk => hk.2) (.slice Ao33 t769.length co33)) (fun _ h_ => h_.1)))); (case side2 => exact (Kd.R_reads' HO758.out).2.1); rintro e w43 ⟨rfl, hb⟩; replace HO758 := Aside0.mk (Kd.R_below ((Kd.R_mono (Kd.R_far (p := ⟨gb773, 2, none⟩) (Kd.R_far (p := ⟨gb773, 1, none⟩) (Kd.R_far (p := ⟨gb773, 0, none⟩) (Kd.R_types HO758.out BK773.out (by decide)) (fun _ hk => hk.2) (.int .i64 t767)) (fun _ hk => hk.2) (.int .i64 t768)) (fun _ hk => hk.2) (.slice Ao33 t769.length co33)) (fun _ h_ => h_.1))) hb); replace HO763 := Aside0.mk (Kd.Q_below ((Kd.Q_mono (Kd.Q_far (p := ⟨gb773, 2, none⟩) (Kd.Q_far (p := ⟨gb773, 1, none⟩) (Kd.Q_far (p := ⟨gb773, 0, none⟩) (Kd.Q_types HO763.out BK773.out (by decide)) (fun _ hk => hk.2) (.int .i64 t767)) (fun _ hk => hk.2) (.int .i64 t768)) (fun _ hk => hk.2) (.slice Ao33 t769.length co33)) (fun _ h_ => h_.1))) hb); replace HO771 := Aside0.mk (Kd.R_below ((Kd.R_mono (Kd.R_far (p := ⟨gb773, 2, none⟩) (Kd.R_far (p := ⟨gb773, 1, none⟩) (Kd.R_far (p := ⟨gb773, 0, none⟩) (Kd.R_types HO771.out BK773.out (by decide)) (fun _ hk => hk.2) (.int .i64 t767)) (fun _ hk => hk.2) (.int .i64 t768)) (fun _ hk => hk.2) (.slice Ao33 t769.length co33)) (fun _ h_ => h_.1))) hb); replace BK764 := Aside0.mk (blk_below (g := gb764) (o := .cells #[.int .i64 t759, .int .i64 t760, .slice Ao23 t761.length co23] 29 (0, 0)) (by refine blk_far ?_ NB764_773.out _; refine blk_far ?_ NB764_773.out _; refine blk_far ?_ NB764_773.out _; exact BK764.out) hb); replace BK773 := Aside0.mk (blk_below (g := gb773) (o := .cells #[.int .i64 t767, .int .i64 t768, .slice Ao33 t769.length co33] 29 (0, 0)) (by refine blk_put (cs := #[.int .i64 t767, .int .i64 t768, .slice none 0 0]) ?_ 2 _ rfl; refine blk_put (cs := #[.int .i64 t767, .int .i64 0, .slice none 0 0]) ?_ 1 _ rfl; refine blk_put (cs := #[.int .i64 0, .int .i64 0, .slice none 0 0]) ?_ 0 _ rfl; exact BK773.out) hb); replace HB := Aside0.mk (below_step (by repeat (with_reducible first | exact HB.out | apply below_alloc | apply pw_below_drewN | apply below_drew1 | refine below_set ?_ GE764.out | refine below_set ?_ GE773.out)) hb); clear hb))
        go_meet
        case rel => exact ⟨_, ((t765 != false)), (by simp [*]), H', ⟨by have := HJ2.out; first | omega | exact Nat.le_refl _⟩, ⟨HO758.out⟩, ⟨HO763.out⟩, ⟨Kd.Q_of_R (Kd.R_mono HO771.out (fun _ hk => ⟨hk.1.2, hk.2⟩))⟩, ⟨by exact BK764.out⟩, ⟨by exact BK773.out⟩, ⟨HB.out⟩⟩
      ·replace c34 := Bool.eq_false_iff.mpr c34
       subst c34
       rw [if_neg (show ¬ (false = true) by decide)] at H
       have H' := Aside0.mk H
       clear H
       go_wp2
       go_meet
       case rel => exact ⟨_, ((t765 != false)), (by simp [*]), H', ⟨by have := HJ2.out; first | omega | exact Nat.le_refl _⟩, ⟨Kd.R_mono (Kd.R_far (p := ⟨gb773, 2, none⟩) (Kd.R_far (p := ⟨gb773, 1, none⟩) (Kd.R_far (p := ⟨gb773, 0, none⟩) (Kd.R_types HO758.out BK773.out (by decide)) (fun _ hk => hk.2) (.int .i64 t767)) (fun _ hk => hk.2) (.int .i64 t768)) (fun _ hk => hk.2) (.slice Ao33 t769.length co33)) (fun _ hk => ⟨hk.1.1, hk.1.2⟩)⟩, ⟨Kd.Q_mono (Kd.Q_far (p := ⟨gb773, 2, none⟩) (Kd.Q_far (p := ⟨gb773, 1, none⟩) (Kd.Q_far (p := ⟨gb773, 0, none⟩) (Kd.Q_types HO763.out BK773.out (by decide)) (fun _ hk => hk.2) (.int .i64 t767)) (fun _ hk => hk.2) (.int .i64 t768)) (fun _ hk => hk.2) (.slice Ao33 t769.length co33)) (fun _ hk => ⟨hk.1.1, hk.1.2⟩)⟩, ⟨Kd.Q_of_R (Kd.R_mono (Kd.R_far (p := ⟨gb773, 2, none⟩) (Kd.R_far (p := ⟨gb773, 1, none⟩) (Kd.R_far (p := ⟨gb773, 0, none⟩) (Kd.R_types HO771.out BK773.out (by decide)) (fun _ hk => hk.2) (.int .i64 t767)) (fun _ hk => hk.2) (.int .i64 t768)) (fun _ hk => hk.2) (.slice Ao33 t769.length co33)) (fun _ hk => ⟨hk.1.1.2, hk.1.2⟩))⟩, ⟨by refine blk_far ?_ NB764_773.out _; refine blk_far ?_ NB764_773.out _; refine blk_far ?_ NB764_773.out _; exact BK764.out⟩, ⟨by refine blk_put (cs := #[.int .i64 t767, .int .i64 t768, .slice none 0 0]) ?_ 2 _ rfl; refine blk_put (cs := #[.int .i64 t767, .int .i64 0, .slice none 0 0]) ?_ 1 _ rfl; refine blk_put (cs := #[.int .i64 0, .int .i64 0, .slice none 0 0]) ?_ 0 _ rfl; exact BK773.out⟩, ⟨by repeat (with_reducible first | exact HB.out | apply below_alloc | apply pw_below_drewN | apply below_drew1 | refine below_set ?_ GE764.out | refine below_set ?_ GE773.out)⟩⟩
     case rest =>
      clear HC19
      try clear c1
      try clear p2
      try clear c3
      try clear c4
      try clear c4b0
      try clear c4b1
      try clear c5
      try clear c9
      try clear c9b0
      try clear c9b1
      try clear c9b2
      try clear c12
      try clear c31
      try clear c34
      try clear c36
      try clear c37
      try clear c39
      try clear hcz12_0
      try clear hcz12_1
      try clear hcz12_2
      try clear hcz16_0
      try clear hcz16_1
      try clear hcz16_2
      try clear hcz22_0
      try clear hcz22_1
      try clear hcz22_2
      try clear hcz26_0
      try clear hcz26_1
      try clear hcz26_2
      try clear hcz28_0
      try clear hcz28_1
      try clear hcz28_2
      try clear hcz32_0
      try clear hcz32_1
      try clear hcz32_2
      try clear hcz40_0
      try clear hcz40_1
      try clear hcz40_2
      try clear hcz41_0
      try clear hcz41_1
      try clear hcz41_2
      try clear hfz12_0
      try clear hfz12_1
      try clear hfz12_2
      try clear hfz16_0
      try clear hfz16_1
      try clear hfz16_2
      try clear hfz22_0
      try clear hfz22_1
      try clear hfz22_2
      try clear hfz26_0
      try clear hfz26_1
      try clear hfz26_2
      try clear hfz28_0
      try clear hfz28_1
      try clear hfz28_2
      try clear hfz32_0
      try clear hfz32_1
      try clear hfz32_2
      try clear hfz40_0
      try clear hfz40_1
      try clear hfz40_2
      try clear hfz41_0
      try clear hfz41_1
      try clear hfz41_2
      try clear p2
      obtain ⟨kq, x59_18, rfl, HA, HJ18, HO_6, HO_765002, HO_774002, BK764, BK773, HB⟩ := hcut
      cases kq with
      | zero => exact absurd HA.out (by simp [laws_FnProofOk.j1])
      | succ kj18 =>
       have H := HA.out
       clear HA
       simp only [laws_FnProofOk.j1] at H
       by_cases c44 : x59_18 = true
       ·subst c44
        rw [if_pos rfl] at H
        obtain rfl := Option.some.inj H
        go_wp2
        go_ret
        exact ⟨rfl, HB.out⟩
       ·replace c44 := Bool.eq_false_iff.mpr c44
        subst c44
        rw [if_neg (show ¬ (false = true) by decide)] at H
        by_cases c45 : t765 = true
        ·subst c45
         rw [if_pos rfl] at H
         obtain ⟨y776, hy776⟩ : ∃ y_ : List Int, y_ = (([] : List Int)) := ⟨_, rfl⟩
         replace H : (if y776.length + t761.length < 17592186044416 then ((some (y776 ++ t761 : List Int)).bind fun y779 => (if (y779.length : Int) = 0 then (none) else (if 0 ≤ ((l1.length : Int) % (y779.length : Int)) then (if ((l1.length : Int) % (y779.length : Int)) < (y779.length : Int) then ((impl_FieldSum.f (rd y779 ((l1.length : Int) % (y779.length : Int))) (1 + ((l1.length : Int) % 30))).bind fun t784 => ((impl_ProofOk.f kj18 t755 t756 t759 t760 (y779.set (((l1.length : Int) % (y779.length : Int)) : Int).toNat t784)).bind fun t786 => (some (!t786)))) else (none)) else (none)))) else (none)) = some r := by first | (rw [hy776]; with_reducible exact H) | (have H2_ := (Option.bind_some _ _).symm.trans H; rw [hy776]; with_reducible exact H2_) | (have H2_ := (Option.bind_some _ _).symm.trans H; with_reducible exact H2_) | with_reducible exact H | (rw [hy776]; exact H) | exact H
         have Ny776 := Aside0.mk hy776
         clear hy776
         by_cases c46 : y776.length + t761.length < 17592186044416
         ·rw [if_pos c46] at H
          have LMc46 := Aside0.mk c46
          clear c46
          obtain ⟨y779, hy779⟩ : ∃ y_ : List Int, y_ = (y776 ++ t761) := ⟨_, rfl⟩
          replace H : (if (y779.length : Int) = 0 then (none) else (if 0 ≤ ((l1.length : Int) % (y779.length : Int)) then (if ((l1.length : Int) % (y779.length : Int)) < (y779.length : Int) then ((impl_FieldSum.f (rd y779 ((l1.length : Int) % (y779.length : Int))) (1 + ((l1.length : Int) % 30))).bind fun t784 => ((impl_ProofOk.f kj18 t755 t756 t759 t760 (y779.set (((l1.length : Int) % (y779.length : Int)) : Int).toNat t784)).bind fun t786 => (some (!t786)))) else (none)) else (none))) = some r := by first | (rw [hy779]; with_reducible exact H) | (have H2_ := (Option.bind_some _ _).symm.trans H; rw [hy779]; with_reducible exact H2_) | (have H2_ := (Option.bind_some _ _).symm.trans H; with_reducible exact H2_) | with_reducible exact H | (rw [hy779]; exact H) | exact H
          have Ny779 := Aside0.mk hy779
          clear hy779
          by_cases c47 : (y779.length : Int) = 0
          ·rw [if_pos c47] at H
           exact absurd H (by simp)
          ·rw [if_neg c47] at H
           have c47b0 : ((y779.length : Int) == 0) = false := beq_eq_false_iff_ne.mpr c47
           have c47b1 : ((y779.length : Int) != 0) = true := bne_iff_ne.mpr c47
           have c47b2 : ¬ (y779 = []) := fun h_ => c47 (by rw [h_]; rfl)
           obtain ⟨ji48, hji48⟩ : ∃ j_ : Int, ((l1.length : Int) % (y779.length : Int)) = j_ := ⟨_, rfl⟩
           replace H : (if 0 ≤ (ji48) then (if (ji48) < (y779.length : Int) then ((impl_FieldSum.f (rd y779 (ji48)) (1 + ((l1.length : Int) % 30))).bind fun t784 => ((impl_ProofOk.f kj18 t755 t756 t759 t760 (y779.set ((ji48) : Int).toNat t784)).bind fun t786 => (some (!t786)))) else (none)) else (none)) = some r := by first | (rw [hji48] at H; exact H) | (simp only [hji48] at H ⊢; exact H)
           by_cases c49 : 0 ≤ (ji48)
           ·rw [if_pos c49] at H
            have c49b0 : decide (0 ≤ (ji48)) = true := decide_eq_true c49
            clear c49
            by_cases c50 : (ji48) < (y779.length : Int)
            ·rw [if_pos c50] at H
             have c50b0 : decide ((ji48) < (y779.length : Int)) = true := decide_eq_true c50
             clear c50
             replace H := bnd H
             obtain ⟨t784, A51, H⟩ := H
             obtain ⟨y785, hy785⟩ : ∃ y_ : List Int, y_ = (y779.set ((ji48) : Int).toNat t784) := ⟨_, rfl⟩
             replace H : ((impl_ProofOk.f kj18 t755 t756 t759 t760 y785).bind fun t786 => (some (!t786))) = some r := by rw [hy785]; with_reducible exact H
             have Ny785 := Aside0.mk hy785
             clear hy785
             replace H := bnd H
             obtain ⟨t786, A53, H⟩ := H
             obtain rfl := Option.some.inj H
             try go_wp2
             replace HO_6 := Aside0.mk (Kd.R_drew HO_6.out)
             replace HO_765002 := Aside0.mk (Kd.Q_drew HO_765002.out)
             replace HO_774002 := Aside0.mk (Kd.Q_drew HO_774002.out)
             replace BK764 := Aside0.mk (blk_drew BK764.out)
             replace BK773 := Aside0.mk (blk_drew BK773.out)
             replace HB := Aside0.mk (below_drew1 HB.out)
             refine start_ (n := 11) (S := fun w' => w'.cell? ⟨gb764, 0, none⟩ = some (.int .i64 t759) ∧ w'.cell? ⟨gb764, 1, none⟩ = some (.int .i64 t760) ∧ w'.cell? ⟨gb764, 2, none⟩ = some (.slice Ao23 t761.length co23)) (ds := []) (bs 11 0) (by kernel_rfl) rfl rfl ⟨(blk_cell BK764.out 0).trans rfl, (blk_cell BK764.out 1).trans rfl, (blk_cell BK764.out 2).trans rfl⟩ (fun hHeld => ?_); refine with_tabW laws_FnProofOk.tab12 laws_FnProofOk.bits12 (fun HT_ HW_ => ?_)
             generalize wc.drew = w54 at HO_6 HO_765002 HO_774002 BK764 BK773 HB hHeld ⊢
             refine pZ 0 (some 62) (bs 11 1) rfl rfl (any_of HT_.out (by kernel_rfl)) ?_
             refine pZ 2 (some 64) (bs 11 5) rfl rfl (any_of HT_.out (by kernel_rfl)) ?_
             refine pZ 5 (some 67) (bs 11 37) rfl rfl (any_of HT_.out (by kernel_rfl)) ?_
             refine tZ 1 (some 63) (bs 11 39) rfl rfl (take_ofW HT_.out HW_.out (by kernel_rfl)) hHeld (by rintro w' ⟨s0, s1, s2⟩; go_simp; with_reducible rfl) ?_
             refine tZ 3 (some 65) (bs 11 47) rfl rfl (take_ofW HT_.out HW_.out (by kernel_rfl)) hHeld (by rintro w' ⟨s0, s1, s2⟩; go_simp; with_reducible rfl) ?_
             refine tZ 6 (some 68) (bs 11 111) rfl rfl (take_ofW HT_.out HW_.out (by kernel_rfl)) hHeld (by rintro w' ⟨s0, s1, s2⟩; go_simp; with_reducible rfl) ?_
             refine join_ (σ := Value × Value × Nat) 1 (bs 11 1023) (fun s_ => [(66, s_.1), (69, s_.2.1), (11, .pointer (some ⟨s_.2.2, 0, none⟩)), (70, .agg #[.int .i64 t759, .int .i64 t760, s_.2.1])]) (fun s_ w' => (w'.cell? ⟨gb764, 0, none⟩ = some (.int .i64 t759) ∧ w'.cell? ⟨gb764, 1, none⟩ = some (.int .i64 t760) ∧ w'.cell? ⟨gb764, 2, none⟩ = some (.slice Ao23 t761.length co23)) ∧ (Kd.R (Kd.int .i64) 3 w' w.heap.size (fun k_ => some k_ ≠ (.slice Ao24 t756.length co24 : Value).ownBlock ∧ some k_ ≠ (.slice Ao23 t761.length co23 : Value).ownBlock ∧ some k_ ≠ (.slice Ao33 t769.length co33 : Value).ownBlock) s_.2.1 y779) ∧ (Kd.R (Kd.int .i64) 3 w' w.heap.size (fun k_ => some k_ ≠ (s_.2.1 : Value).ownBlock ∧ some k_ ≠ (.slice Ao23 t761.length co23 : Value).ownBlock ∧ some k_ ≠ (.slice Ao33 t769.length co33 : Value).ownBlock) (.slice Ao24 t756.length co24) t756) ∧ (Kd.Q (Kd.int .i64) 3 w' w.heap.size (fun k_ => some k_ ≠ (s_.2.1 : Value).ownBlock ∧ some k_ ≠ (.slice Ao24 t756.length co24 : Value).ownBlock ∧ some k_ ≠ (.slice Ao33 t769.length co33 : Value).ownBlock) (.slice Ao23 t761.length co23) t761) ∧ (Kd.Q (Kd.int .i64) 3 w' w.heap.size (fun k_ => some k_ ≠ (s_.2.1 : Value).ownBlock ∧ some k_ ≠ (.slice Ao24 t756.length co24 : Value).ownBlock ∧ some k_ ≠ (.slice Ao23 t761.length co23 : Value).ownBlock) (.slice Ao33 t769.length co33) t769) ∧ (w'.heap[gb764]? = some (.cells #[.int .i64 t759, .int .i64 t760, .slice Ao23 t761.length co23] 29 (0, 0))) ∧ (w'.heap[gb773]? = some (.cells #[.int .i64 t767, .int .i64 t768, .slice Ao33 t769.length co33] 29 (0, 0))) ∧ (w'.heap[s_.2.2]? = some (.cells #[.int .i64 0, .int .i64 0, .slice none 0 0] 29 (0, 0))) ∧ (w.heap.size ≤ s_.2.2) ∧ (w.heap.size ≤ s_.2.2) ∧ (gb764 ≠ s_.2.2) ∧ (s_.2.2 ≠ gb764) ∧ (gb773 ≠ s_.2.2) ∧ (s_.2.2 ≠ gb773) ∧ (Below w.heap.size w w')) ?_ ?_
             rotate_left
             ·intro hCont
              refine two_ (i := 4) (j := 9) (Ni := some 66) (Nj := some 11) (bs 11 127) (bs 11 623) rfl rfl rfl rfl (two_of HT_.out (by kernel_rfl)) (by decide) (by decide) (fun K hK => ?_) (fun K hK => ?_)
              ·skip
               refine Kd.R_lit_step (Kd.int .i64) _ 3 ?hg (N := 66) ?hd (xs := ([] : List Int)) (inner := []) (ok := fun _ => True) (okp := fun _ => True) ?hr ?hp (fun _ hk => hk) trivial (Below.refl _ _) (Nat.le_refl _) (by simp) ?_; (case hd => rfl); (case hg => rfl); (case hr => first | (go_simp; done) | (go_simp; rfl)); (case hp => exact (Reps.none _ _))
               intro v777 w55 ho56 hb hg_ hnew_
               clear hg_ hnew_
               (first | rw [← Ny776.out] at ho56 | (simp only [Int.reduceToNat] at ho56; rw [← Ny776.out] at ho56))
               replace HO778 := Aside0.mk (Kd.R_lower (Kd.R_new' (Kd.R_new' (Kd.R_new' ho56 (Kd.R_lt (HO_6.out))) (Kd.Q_lt (HO_765002.out))) (Kd.Q_lt (HO_774002.out))) (below_size (HB.out)))
               replace HO_6 := Aside0.mk (Kd.R_elder' (HO_6.out) (Kd.R_base ho56) hb)
               replace HO_765002 := Aside0.mk (Kd.Q_elder' (HO_765002.out) (Kd.R_base ho56) hb)
               replace HO_774002 := Aside0.mk (Kd.Q_elder' (HO_774002.out) (Kd.R_base ho56) hb)
               replace BK764 := Aside0.mk (blk_below (g := gb764) (o := .cells #[.int .i64 t759, .int .i64 t760, .slice Ao23 t761.length co23] 29 (0, 0)) (by exact BK764.out) hb)
               replace BK773 := Aside0.mk (blk_below (g := gb773) (o := .cells #[.int .i64 t767, .int .i64 t768, .slice Ao33 t769.length co33] 29 (0, 0)) (by exact BK773.out) hb)
               replace HB := Aside0.mk (below_step (HB.out) hb)
               clear hb ho56
               refine hK.out _ _ ⟨(blk_cell BK764.out 0).trans rfl, (blk_cell BK764.out 1).trans rfl, (blk_cell BK764.out 2).trans rfl⟩ (fun hHeld => ?_)
               clear hK K
               refine norm_ (a' := ?_) ?_ ?_
               rotate_left
               ·show Act.put _ (some 66) _ = _
                simp only [Act.put, List.setIfInBounds_toArray, List.set_cons_zero, List.set_cons_succ, i64_w, i32_w]
                rfl
               refine two_ (i := 7) (j := 9) (Ni := some 69) (Nj := some 11) (bs 11 255) (bs 11 639) rfl rfl rfl rfl (two_of HT_.out (by kernel_rfl)) (by decide) (by decide) (fun K hK => ?_) (fun K hK => ?_)
               ·skip
                refine Kd.R_append_rows_step (Kd.int .i64) (w0 := w) w.heap.size (by rfl) (.tmp 66) (.tmp 68) 22 3 (.int .i64 0) 8 rfl Tryd.underlying22 info3 rfl (by decide) (by omega) v777 y776 t761 _ _ _ (fun k_ => some k_ ≠ (.slice Ao24 t756.length co24 : Value).ownBlock ∧ some k_ ≠ (.slice Ao23 t761.length co23 : Value).ownBlock ∧ some k_ ≠ (.slice Ao33 t769.length co33 : Value).ownBlock) (fun _ => False) rfl rfl ?aO ?aR (fun _ _ h => h) (fun _ h => h.elim) ?aF ?aB ?aS ?aL ?_
                (case aR => exact (Kd.Q_reads' HO_765002.out).2.2)
                (case aB => exact (HB.out))
                (case aF => exact (fun k_ hk => ⟨Kd.fresh' (Kd.R_lt (HO_6.out)) k_ hk, Kd.fresh' (Kd.Q_lt (HO_765002.out)) k_ hk, Kd.fresh' (Kd.Q_lt (HO_774002.out)) k_ hk⟩))
                (case aO => exact (Kd.R_mono HO778.out (fun _ hk => ⟨hk.1.1.2, ⟨hk.1.2, hk.2⟩⟩)))
                (case aS => exact (below_size (HB.out)))
                (case aL => have := LMc46.out; omega)
                intro v780 w57 ho hb hg hat
                rw [← Ny779.out] at ho
                have n0_ := Aside0.mk (Kd.R_after (ok := (fun k_ => some k_ ≠ (.slice Ao23 t761.length co23 : Value).ownBlock ∧ some k_ ≠ (.slice Ao33 t769.length co33 : Value).ownBlock)) (HO_6.out) hg hat)
                have n1_ := Aside0.mk (Kd.Q_after (ok := (fun k_ => some k_ ≠ (.slice Ao24 t756.length co24 : Value).ownBlock ∧ some k_ ≠ (.slice Ao33 t769.length co33 : Value).ownBlock)) (HO_765002.out) hg hat)
                have n2_ := Aside0.mk (Kd.Q_after (ok := (fun k_ => some k_ ≠ (.slice Ao24 t756.length co24 : Value).ownBlock ∧ some k_ ≠ (.slice Ao23 t761.length co23 : Value).ownBlock)) (HO_774002.out) hg hat)
                have n3_ := Aside0.mk (blk_grown (g := gb764) (o := .cells #[.int .i64 t759, .int .i64 t760, .slice Ao23 t761.length co23] 29 (0, 0)) (by exact BK764.out) hg (Kd.R_ne HO778.out BK764.out (by decide)))
                have n4_ := Aside0.mk (blk_grown (g := gb773) (o := .cells #[.int .i64 t767, .int .i64 t768, .slice Ao33 t769.length co33] 29 (0, 0)) (by exact BK773.out) hg (Kd.R_ne HO778.out BK773.out (by decide)))
                have n5_ := Aside0.mk (hb)
                have n6_ := Aside0.mk (ho)
                clear HO_6
                clear HO_765002
                clear HO_774002
                clear BK764
                clear BK773
                clear HB
                clear HO778
                have HO_6 := n0_
                have HO_765002 := n1_
                have HO_774002 := n2_
                have BK764 := n3_
                have BK773 := n4_
                have HB := n5_
                have HO781 := n6_
                clear n0_ n1_ n2_ n3_ n4_ n5_ n6_
                clear ho hb hg hat
                obtain ⟨Ao58, co58, eo58⟩ := Kd.R_slice HO781.out
                (first | subst eo58 | (injection eo58 with f1_ f2_ f3_; have f4_ := f1_.symm; have f5_ := f3_.symm; clear f1_ f2_ f3_; subst f4_; subst f5_))
                refine hK.out _ _ ⟨(blk_cell BK764.out 0).trans rfl, (blk_cell BK764.out 1).trans rfl, (blk_cell BK764.out 2).trans rfl⟩ (fun hHeld => ?_)
                clear hK K
                refine norm_ (a' := ?_) ?_ ?_
                rotate_left
                ·show Act.put _ (some 69) _ = _
                 simp only [Act.put, List.setIfInBounds_toArray, List.set_cons_zero, List.set_cons_succ, i64_w, i32_w]
                 rfl
                refine pZ 8 (some 70) (bs 11 511) rfl rfl (any_of HT_.out (by kernel_rfl)) ?_
                refine one_ (i := 9) (N := some 11) (bs 11 1023) rfl rfl (one_of HT_.out (by kernel_rfl)) (by decide) (fun K hK => ?_)
                refine box_step ?hg (N := 11) ?hd (cs := #[.int .i64 0, .int .i64 0, .slice none 0 0]) (t := 29) ?hr ?_; (case hd => rfl); (case hg => rfl); (case hr => first | (go_simp; done) | (go_simp; rfl))
                intro gb782 hg w59 hbox hb
                replace HO_6 := Aside0.mk (Kd.R_below (HO_6.out) hb)
                replace HO_765002 := Aside0.mk (Kd.Q_below (HO_765002.out) hb)
                replace HO_774002 := Aside0.mk (Kd.Q_below (HO_774002.out) hb)
                replace HO781 := Aside0.mk (Kd.R_below (HO781.out) hb)
                replace BK782 := Aside0.mk (hbox)
                replace GW782 := Aside0.mk ((by rw [hg]; exact (below_size (HB.out)) : w.heap.size ≤ gb782))
                replace GE782 := Aside0.mk ((by rw [hg]; exact (below_size (HB.out)) : w.heap.size ≤ gb782))
                replace HB := Aside0.mk (below_step (HB.out) hb)
                replace NB764_782 := Aside0.mk ((by rw [hg]; exact Nat.ne_of_lt (blk_lt (g := gb764) (o := .cells #[.int .i64 t759, .int .i64 t760, .slice Ao23 t761.length co23] 29 (0, 0)) (by exact BK764.out)) : gb764 ≠ gb782))
                replace NB782_764 := Aside0.mk ((by rw [hg]; exact Nat.ne_of_gt (blk_lt (g := gb764) (o := .cells #[.int .i64 t759, .int .i64 t760, .slice Ao23 t761.length co23] 29 (0, 0)) (by exact BK764.out)) : gb782 ≠ gb764))
                replace BK764 := Aside0.mk (blk_below (g := gb764) (o := .cells #[.int .i64 t759, .int .i64 t760, .slice Ao23 t761.length co23] 29 (0, 0)) (by exact BK764.out) hb)
                replace NB773_782 := Aside0.mk ((by rw [hg]; exact Nat.ne_of_lt (blk_lt (g := gb773) (o := .cells #[.int .i64 t767, .int .i64 t768, .slice Ao33 t769.length co33] 29 (0, 0)) (by exact BK773.out)) : gb773 ≠ gb782))
                replace NB782_773 := Aside0.mk ((by rw [hg]; exact Nat.ne_of_gt (blk_lt (g := gb773) (o := .cells #[.int .i64 t767, .int .i64 t768, .slice Ao33 t769.length co33] 29 (0, 0)) (by exact BK773.out)) : gb782 ≠ gb773))
                replace BK773 := Aside0.mk (blk_below (g := gb773) (o := .cells #[.int .i64 t767, .int .i64 t768, .slice Ao33 t769.length co33] 29 (0, 0)) (by exact BK773.out) hb)
                clear hb hbox hg
                refine hK.out _ _ ⟨(blk_cell BK764.out 0).trans rfl, (blk_cell BK764.out 1).trans rfl, (blk_cell BK764.out 2).trans rfl⟩ (fun hHeld => ?_)
                clear hK K
                refine norm_ (a' := ?_) ?_ ?_
                rotate_left
                ·show Act.put _ (some 11) _ = _
                 simp only [Act.put, List.setIfInBounds_toArray, List.set_cons_zero, List.set_cons_succ, i64_w, i32_w]
                 rfl
                exact norm_ (by simp only [putAll, Act.put, List.setIfInBounds_toArray, List.set_cons_zero, List.set_cons_succ]) (hCont (v777, .slice Ao58 y779.length co58, gb782) _ ⟨hHeld, (HO781.out), (Kd.R_mono HO_6.out (fun _ hk => ⟨hk.2, ⟨hk.1.1, hk.1.2⟩⟩)), (Kd.Q_mono HO_765002.out (fun _ hk => ⟨hk.2, ⟨hk.1.1, hk.1.2⟩⟩)), (Kd.Q_mono HO_774002.out (fun _ hk => ⟨hk.2, ⟨hk.1.1, hk.1.2⟩⟩)), (by exact BK764.out), (by exact BK773.out), (by exact BK782.out), GW782.out, GE782.out, NB764_782.out, NB782_764.out, NB773_782.out, NB782_773.out, (HB.out)⟩)
               ·skip
                refine box_step ?hg (N := 11) ?hd (cs := #[.int .i64 0, .int .i64 0, .slice none 0 0]) (t := 29) ?hr ?_; (case hd => rfl); (case hg => rfl); (case hr => first | (go_simp; done) | (go_simp; rfl))
                intro gb782 hg w57 hbox hb
                replace HO_6 := Aside0.mk (Kd.R_below (HO_6.out) hb)
                replace HO_765002 := Aside0.mk (Kd.Q_below (HO_765002.out) hb)
                replace HO_774002 := Aside0.mk (Kd.Q_below (HO_774002.out) hb)
                replace HO778 := Aside0.mk (Kd.R_below (HO778.out) hb)
                replace BK782 := Aside0.mk (hbox)
                replace GW782 := Aside0.mk ((by rw [hg]; exact (below_size (HB.out)) : w.heap.size ≤ gb782))
                replace GE782 := Aside0.mk ((by rw [hg]; exact (below_size (HB.out)) : w.heap.size ≤ gb782))
                replace HB := Aside0.mk (below_step (HB.out) hb)
                replace NB764_782 := Aside0.mk ((by rw [hg]; exact Nat.ne_of_lt (blk_lt (g := gb764) (o := .cells #[.int .i64 t759, .int .i64 t760, .slice Ao23 t761.length co23] 29 (0, 0)) (by exact BK764.out)) : gb764 ≠ gb782))
                replace NB782_764 := Aside0.mk ((by rw [hg]; exact Nat.ne_of_gt (blk_lt (g := gb764) (o := .cells #[.int .i64 t759, .int .i64 t760, .slice Ao23 t761.length co23] 29 (0, 0)) (by exact BK764.out)) : gb782 ≠ gb764))
                replace BK764 := Aside0.mk (blk_below (g := gb764) (o := .cells #[.int .i64 t759, .int .i64 t760, .slice Ao23 t761.length co23] 29 (0, 0)) (by exact BK764.out) hb)
                replace NB773_782 := Aside0.mk ((by rw [hg]; exact Nat.ne_of_lt (blk_lt (g := gb773) (o := .cells #[.int .i64 t767, .int .i64 t768, .slice Ao33 t769.length co33] 29 (0, 0)) (by exact BK773.out)) : gb773 ≠ gb782))
                replace NB782_773 := Aside0.mk ((by rw [hg]; exact Nat.ne_of_gt (blk_lt (g := gb773) (o := .cells #[.int .i64 t767, .int .i64 t768, .slice Ao33 t769.length co33] 29 (0, 0)) (by exact BK773.out)) : gb782 ≠ gb773))
                replace BK773 := Aside0.mk (blk_below (g := gb773) (o := .cells #[.int .i64 t767, .int .i64 t768, .slice Ao33 t769.length co33] 29 (0, 0)) (by exact BK773.out) hb)
                clear hb hbox hg
                refine hK.out _ _ ⟨(blk_cell BK764.out 0).trans rfl, (blk_cell BK764.out 1).trans rfl, (blk_cell BK764.out 2).trans rfl⟩ (fun hHeld => ?_)
                clear hK K
                refine norm_ (a' := ?_) ?_ ?_
                rotate_left
                ·show Act.put _ (some 11) _ = _
                 simp only [Act.put, List.setIfInBounds_toArray, List.set_cons_zero, List.set_cons_succ, i64_w, i32_w]
                 rfl
                refine one_ (i := 7) (N := some 69) (bs 11 767) rfl rfl (one_of HT_.out (by kernel_rfl)) (by decide) (fun K hK => ?_)
                refine Kd.R_append_rows_step (Kd.int .i64) (w0 := w) w.heap.size (by rfl) (.tmp 66) (.tmp 68) 22 3 (.int .i64 0) 8 rfl Tryd.underlying22 info3 rfl (by decide) (by omega) v777 y776 t761 _ _ _ (fun k_ => some k_ ≠ (.slice Ao24 t756.length co24 : Value).ownBlock ∧ some k_ ≠ (.slice Ao23 t761.length co23 : Value).ownBlock ∧ some k_ ≠ (.slice Ao33 t769.length co33 : Value).ownBlock) (fun _ => False) rfl rfl ?aO ?aR (fun _ _ h => h) (fun _ h => h.elim) ?aF ?aB ?aS ?aL ?_
                (case aR => exact (Kd.Q_reads' HO_765002.out).2.2)
                (case aB => exact (HB.out))
                (case aF => exact (fun k_ hk => ⟨Kd.fresh' (Kd.R_lt (HO_6.out)) k_ hk, Kd.fresh' (Kd.Q_lt (HO_765002.out)) k_ hk, Kd.fresh' (Kd.Q_lt (HO_774002.out)) k_ hk⟩))
                (case aO => exact (Kd.R_mono HO778.out (fun _ hk => ⟨hk.1.1.2, ⟨hk.1.2, hk.2⟩⟩)))
                (case aS => exact (below_size (HB.out)))
                (case aL => have := LMc46.out; omega)
                intro v780 w58 ho hb hg hat
                rw [← Ny779.out] at ho
                have n0_ := Aside0.mk (Kd.R_after (ok := (fun k_ => some k_ ≠ (.slice Ao23 t761.length co23 : Value).ownBlock ∧ some k_ ≠ (.slice Ao33 t769.length co33 : Value).ownBlock)) (HO_6.out) hg hat)
                have n1_ := Aside0.mk (Kd.Q_after (ok := (fun k_ => some k_ ≠ (.slice Ao24 t756.length co24 : Value).ownBlock ∧ some k_ ≠ (.slice Ao33 t769.length co33 : Value).ownBlock)) (HO_765002.out) hg hat)
                have n2_ := Aside0.mk (Kd.Q_after (ok := (fun k_ => some k_ ≠ (.slice Ao24 t756.length co24 : Value).ownBlock ∧ some k_ ≠ (.slice Ao23 t761.length co23 : Value).ownBlock)) (HO_774002.out) hg hat)
                have n3_ := Aside0.mk (blk_grown (g := gb764) (o := .cells #[.int .i64 t759, .int .i64 t760, .slice Ao23 t761.length co23] 29 (0, 0)) (by exact BK764.out) hg (Kd.R_ne HO778.out BK764.out (by decide)))
                have n4_ := Aside0.mk (blk_grown (g := gb773) (o := .cells #[.int .i64 t767, .int .i64 t768, .slice Ao33 t769.length co33] 29 (0, 0)) (by exact BK773.out) hg (Kd.R_ne HO778.out BK773.out (by decide)))
                have n5_ := Aside0.mk (blk_grown (g := gb782) (o := .cells #[.int .i64 0, .int .i64 0, .slice none 0 0] 29 (0, 0)) (by exact BK782.out) hg (Kd.R_ne HO778.out BK782.out (by decide)))
                have n6_ := Aside0.mk (hb)
                have n7_ := Aside0.mk (ho)
                clear HO_6
                clear HO_765002
                clear HO_774002
                clear BK764
                clear BK773
                clear BK782
                clear HB
                clear HO778
                have HO_6 := n0_
                have HO_765002 := n1_
                have HO_774002 := n2_
                have BK764 := n3_
                have BK773 := n4_
                have BK782 := n5_
                have HB := n6_
                have HO781 := n7_
                clear n0_ n1_ n2_ n3_ n4_ n5_ n6_ n7_
                clear ho hb hg hat
                obtain ⟨Ao59, co59, eo59⟩ := Kd.R_slice HO781.out
                (first | subst eo59 | (injection eo59 with f1_ f2_ f3_; have f4_ := f1_.symm; have f5_ := f3_.symm; clear f1_ f2_ f3_; subst f4_; subst f5_))
                refine hK.out _ _ ⟨(blk_cell BK764.out 0).trans rfl, (blk_cell BK764.out 1).trans rfl, (blk_cell BK764.out 2).trans rfl⟩ (fun hHeld => ?_)
                clear hK K
                refine norm_ (a' := ?_) ?_ ?_
                rotate_left
                ·show Act.put _ (some 69) _ = _
                 simp only [Act.put, List.setIfInBounds_toArray, List.set_cons_zero, List.set_cons_succ, i64_w, i32_w]
                 rfl
                refine pZ 8 (some 70) (bs 11 1023) rfl rfl (any_of HT_.out (by kernel_rfl)) ?_
                exact norm_ (by simp only [putAll, Act.put, List.setIfInBounds_toArray, List.set_cons_zero, List.set_cons_succ]) (hCont (v777, .slice Ao59 y779.length co59, gb782) _ ⟨hHeld, (HO781.out), (Kd.R_mono HO_6.out (fun _ hk => ⟨hk.2, ⟨hk.1.1, hk.1.2⟩⟩)), (Kd.Q_mono HO_765002.out (fun _ hk => ⟨hk.2, ⟨hk.1.1, hk.1.2⟩⟩)), (Kd.Q_mono HO_774002.out (fun _ hk => ⟨hk.2, ⟨hk.1.1, hk.1.2⟩⟩)), (by exact BK764.out), (by exact BK773.out), (by exact BK782.out), GW782.out, GE782.out, NB764_782.out, NB782_764.out, NB773_782.out, NB782_773.out, (HB.out)⟩)
              ·skip
               refine box_step ?hg (N := 11) ?hd (cs := #[.int .i64 0, .int .i64 0, .slice none 0 0]) (t := 29) ?hr ?_; (case hd => rfl); (case hg => rfl); (case hr => first | (go_simp; done) | (go_simp; rfl))
               intro gb782 hg w55 hbox hb
               replace HO_6 := Aside0.mk (Kd.R_below (HO_6.out) hb)
               replace HO_765002 := Aside0.mk (Kd.Q_below (HO_765002.out) hb)
               replace HO_774002 := Aside0.mk (Kd.Q_below (HO_774002.out) hb)
               replace BK782 := Aside0.mk (hbox)
               replace GW782 := Aside0.mk ((by rw [hg]; exact (below_size (HB.out)) : w.heap.size ≤ gb782))
               replace GE782 := Aside0.mk ((by rw [hg]; exact (below_size (HB.out)) : w.heap.size ≤ gb782))
               replace HB := Aside0.mk (below_step (HB.out) hb)
               replace NB764_782 := Aside0.mk ((by rw [hg]; exact Nat.ne_of_lt (blk_lt (g := gb764) (o := .cells #[.int .i64 t759, .int .i64 t760, .slice Ao23 t761.length co23] 29 (0, 0)) (by exact BK764.out)) : gb764 ≠ gb782))
               replace NB782_764 := Aside0.mk ((by rw [hg]; exact Nat.ne_of_gt (blk_lt (g := gb764) (o := .cells #[.int .i64 t759, .int .i64 t760, .slice Ao23 t761.length co23] 29 (0, 0)) (by exact BK764.out)) : gb782 ≠ gb764))
               replace BK764 := Aside0.mk (blk_below (g := gb764) (o := .cells #[.int .i64 t759, .int .i64 t760, .slice Ao23 t761.length co23] 29 (0, 0)) (by exact BK764.out) hb)
               replace NB773_782 := Aside0.mk ((by rw [hg]; exact Nat.ne_of_lt (blk_lt (g := gb773) (o := .cells #[.int .i64 t767, .int .i64 t768, .slice Ao33 t769.length co33] 29 (0, 0)) (by exact BK773.out)) : gb773 ≠ gb782))
               replace NB782_773 := Aside0.mk ((by rw [hg]; exact Nat.ne_of_gt (blk_lt (g := gb773) (o := .cells #[.int .i64 t767, .int .i64 t768, .slice Ao33 t769.length co33] 29 (0, 0)) (by exact BK773.out)) : gb782 ≠ gb773))
               replace BK773 := Aside0.mk (blk_below (g := gb773) (o := .cells #[.int .i64 t767, .int .i64 t768, .slice Ao33 t769.length co33] 29 (0, 0)) (by exact BK773.out) hb)
               clear hb hbox hg
               refine hK.out _ _ ⟨(blk_cell BK764.out 0).trans rfl, (blk_cell BK764.out 1).trans rfl, (blk_cell BK764.out 2).trans rfl⟩ (fun hHeld => ?_)
               clear hK K
               refine norm_ (a' := ?_) ?_ ?_
               rotate_left
               ·show Act.put _ (some 11) _ = _
                simp only [Act.put, List.setIfInBounds_toArray, List.set_cons_zero, List.set_cons_succ, i64_w, i32_w]
                rfl
               refine one_ (i := 4) (N := some 66) (bs 11 639) rfl rfl (one_of HT_.out (by kernel_rfl)) (by decide) (fun K hK => ?_)
               refine Kd.R_lit_step (Kd.int .i64) _ 3 ?hg (N := 66) ?hd (xs := ([] : List Int)) (inner := []) (ok := fun _ => True) (okp := fun _ => True) ?hr ?hp (fun _ hk => hk) trivial (Below.refl _ _) (Nat.le_refl _) (by simp) ?_; (case hd => rfl); (case hg => rfl); (case hr => first | (go_simp; done) | (go_simp; rfl)); (case hp => exact (Reps.none _ _))
               intro v777 w56 ho57 hb hg_ hnew_
               clear hg_ hnew_
               (first | rw [← Ny776.out] at ho57 | (simp only [Int.reduceToNat] at ho57; rw [← Ny776.out] at ho57))
               replace HO778 := Aside0.mk (Kd.R_lower (Kd.R_new' (Kd.R_new' (Kd.R_new' ho57 (Kd.R_lt (HO_6.out))) (Kd.Q_lt (HO_765002.out))) (Kd.Q_lt (HO_774002.out))) (below_size (HB.out)))
               replace HO_6 := Aside0.mk (Kd.R_elder' (HO_6.out) (Kd.R_base ho57) hb)
               replace HO_765002 := Aside0.mk (Kd.Q_elder' (HO_765002.out) (Kd.R_base ho57) hb)
               replace HO_774002 := Aside0.mk (Kd.Q_elder' (HO_774002.out) (Kd.R_base ho57) hb)
               replace BK764 := Aside0.mk (blk_below (g := gb764) (o := .cells #[.int .i64 t759, .int .i64 t760, .slice Ao23 t761.length co23] 29 (0, 0)) (by exact BK764.out) hb)
               replace BK773 := Aside0.mk (blk_below (g := gb773) (o := .cells #[.int .i64 t767, .int .i64 t768, .slice Ao33 t769.length co33] 29 (0, 0)) (by exact BK773.out) hb)
               replace BK782 := Aside0.mk (blk_below (g := gb782) (o := .cells #[.int .i64 0, .int .i64 0, .slice none 0 0] 29 (0, 0)) (by exact BK782.out) hb)
               replace HB := Aside0.mk (below_step (HB.out) hb)
               clear hb ho57
               refine hK.out _ _ ⟨(blk_cell BK764.out 0).trans rfl, (blk_cell BK764.out 1).trans rfl, (blk_cell BK764.out 2).trans rfl⟩ (fun hHeld => ?_)
               clear hK K
               refine norm_ (a' := ?_) ?_ ?_
               rotate_left
               ·show Act.put _ (some 66) _ = _
                simp only [Act.put, List.setIfInBounds_toArray, List.set_cons_zero, List.set_cons_succ, i64_w, i32_w]
                rfl
               refine one_ (i := 7) (N := some 69) (bs 11 767) rfl rfl (one_of HT_.out (by kernel_rfl)) (by decide) (fun K hK => ?_)
               refine Kd.R_append_rows_step (Kd.int .i64) (w0 := w) w.heap.size (by rfl) (.tmp 66) (.tmp 68) 22 3 (.int .i64 0) 8 rfl Tryd.underlying22 info3 rfl (by decide) (by omega) v777 y776 t761 _ _ _ (fun k_ => some k_ ≠ (.slice Ao24 t756.length co24 : Value).ownBlock ∧ some k_ ≠ (.slice Ao23 t761.length co23 : Value).ownBlock ∧ some k_ ≠ (.slice Ao33 t769.length co33 : Value).ownBlock) (fun _ => False) rfl rfl ?aO ?aR (fun _ _ h => h) (fun _ h => h.elim) ?aF ?aB ?aS ?aL ?_
               (case aR => exact (Kd.Q_reads' HO_765002.out).2.2)
               (case aB => exact (HB.out))
               (case aF => exact (fun k_ hk => ⟨Kd.fresh' (Kd.R_lt (HO_6.out)) k_ hk, Kd.fresh' (Kd.Q_lt (HO_765002.out)) k_ hk, Kd.fresh' (Kd.Q_lt (HO_774002.out)) k_ hk⟩))
               (case aO => exact (Kd.R_mono HO778.out (fun _ hk => ⟨hk.1.1.2, ⟨hk.1.2, hk.2⟩⟩)))
               (case aS => exact (below_size (by repeat (with_reducible first | exact HB.out | apply below_alloc | apply pw_below_drewN | apply below_drew1 | refine below_set ?_ GE764.out | refine below_set ?_ GE773.out | refine below_set ?_ GE782.out))))
               (case aL => have := LMc46.out; omega)
               intro v780 w58 ho hb hg hat
               rw [← Ny779.out] at ho
               have n0_ := Aside0.mk (Kd.R_after (ok := (fun k_ => some k_ ≠ (.slice Ao23 t761.length co23 : Value).ownBlock ∧ some k_ ≠ (.slice Ao33 t769.length co33 : Value).ownBlock)) (HO_6.out) hg hat)
               have n1_ := Aside0.mk (Kd.Q_after (ok := (fun k_ => some k_ ≠ (.slice Ao24 t756.length co24 : Value).ownBlock ∧ some k_ ≠ (.slice Ao33 t769.length co33 : Value).ownBlock)) (HO_765002.out) hg hat)
               have n2_ := Aside0.mk (Kd.Q_after (ok := (fun k_ => some k_ ≠ (.slice Ao24 t756.length co24 : Value).ownBlock ∧ some k_ ≠ (.slice Ao23 t761.length co23 : Value).ownBlock)) (HO_774002.out) hg hat)
               have n3_ := Aside0.mk (blk_grown (g := gb764) (o := .cells #[.int .i64 t759, .int .i64 t760, .slice Ao23 t761.length co23] 29 (0, 0)) (by exact BK764.out) hg (Kd.R_ne HO778.out BK764.out (by decide)))
               have n4_ := Aside0.mk (blk_grown (g := gb773) (o := .cells #[.int .i64 t767, .int .i64 t768, .slice Ao33 t769.length co33] 29 (0, 0)) (by exact BK773.out) hg (Kd.R_ne HO778.out BK773.out (by decide)))
               have n5_ := Aside0.mk (blk_grown (g := gb782) (o := .cells #[.int .i64 0, .int .i64 0, .slice none 0 0] 29 (0, 0)) (by exact BK782.out) hg (Kd.R_ne HO778.out BK782.out (by decide)))
               have n6_ := Aside0.mk (hb)
               have n7_ := Aside0.mk (ho)
               clear HO_6
               clear HO_765002
               clear HO_774002
               clear BK764
               clear BK773
               clear BK782
               clear HB
               clear HO778
               have HO_6 := n0_
               have HO_765002 := n1_
               have HO_774002 := n2_
               have BK764 := n3_
               have BK773 := n4_
               have BK782 := n5_
               have HB := n6_
               have HO781 := n7_
               clear n0_ n1_ n2_ n3_ n4_ n5_ n6_ n7_
               clear ho hb hg hat
               obtain ⟨Ao59, co59, eo59⟩ := Kd.R_slice HO781.out
               (first | subst eo59 | (injection eo59 with f1_ f2_ f3_; have f4_ := f1_.symm; have f5_ := f3_.symm; clear f1_ f2_ f3_; subst f4_; subst f5_))
               refine hK.out _ _ ⟨(blk_cell BK764.out 0).trans rfl, (blk_cell BK764.out 1).trans rfl, (blk_cell BK764.out 2).trans rfl⟩ (fun hHeld => ?_)
               clear hK K
               refine norm_ (a' := ?_) ?_ ?_
               rotate_left
               ·show Act.put _ (some 69) _ = _
                simp only [Act.put, List.setIfInBounds_toArray, List.set_cons_zero, List.set_cons_succ, i64_w, i32_w]
                rfl
               refine pZ 8 (some 70) (bs 11 1023) rfl rfl (any_of HT_.out (by kernel_rfl)) ?_
               exact norm_ (by simp only [putAll, Act.put, List.setIfInBounds_toArray, List.set_cons_zero, List.set_cons_succ]) (hCont (v777, .slice Ao59 y779.length co59, gb782) _ ⟨hHeld, (HO781.out), (Kd.R_mono HO_6.out (fun _ hk => ⟨hk.2, ⟨hk.1.1, hk.1.2⟩⟩)), (Kd.Q_mono HO_765002.out (fun _ hk => ⟨hk.2, ⟨hk.1.1, hk.1.2⟩⟩)), (Kd.Q_mono HO_774002.out (fun _ hk => ⟨hk.2, ⟨hk.1.1, hk.1.2⟩⟩)), (by exact BK764.out), (by exact BK773.out), (by exact BK782.out), GW782.out, GE782.out, NB764_782.out, NB782_764.out, NB773_782.out, NB782_773.out, (by repeat (with_reducible first | exact HB.out | apply below_alloc | apply pw_below_drewN | apply below_drew1 | refine below_set ?_ GE764.out | refine below_set ?_ GE773.out | refine below_set ?_ GE782.out))⟩)
             rintro ⟨v777, v780, gb782⟩ w60 ⟨hS_, h0_, h1_, h2_, h3_, h4_, h5_, h6_, h7_, h8_, h9_, h10_, h11_, h12_, h13_⟩
             have n0_ : Aside0 (Kd.R (Kd.int .i64) 3 w60 w.heap.size (fun k_ => some k_ ≠ (.slice Ao24 t756.length co24 : Value).ownBlock ∧ some k_ ≠ (.slice Ao23 t761.length co23 : Value).ownBlock ∧ some k_ ≠ (.slice Ao33 t769.length co33 : Value).ownBlock) v780 y779) := ⟨h0_⟩
             have n1_ : Aside0 (Kd.R (Kd.int .i64) 3 w60 w.heap.size (fun k_ => some k_ ≠ (v780 : Value).ownBlock ∧ some k_ ≠ (.slice Ao23 t761.length co23 : Value).ownBlock ∧ some k_ ≠ (.slice Ao33 t769.length co33 : Value).ownBlock) (.slice Ao24 t756.length co24) t756) := ⟨h1_⟩
             have n2_ : Aside0 (Kd.Q (Kd.int .i64) 3 w60 w.heap.size (fun k_ => some k_ ≠ (v780 : Value).ownBlock ∧ some k_ ≠ (.slice Ao24 t756.length co24 : Value).ownBlock ∧ some k_ ≠ (.slice Ao33 t769.length co33 : Value).ownBlock) (.slice Ao23 t761.length co23) t761) := ⟨h2_⟩
             have n3_ : Aside0 (Kd.Q (Kd.int .i64) 3 w60 w.heap.size (fun k_ => some k_ ≠ (v780 : Value).ownBlock ∧ some k_ ≠ (.slice Ao24 t756.length co24 : Value).ownBlock ∧ some k_ ≠ (.slice Ao23 t761.length co23 : Value).ownBlock) (.slice Ao33 t769.length co33) t769) := ⟨h3_⟩
             have n4_ : Aside0 (w60.heap[gb764]? = some (.cells #[.int .i64 t759, .int .i64 t760, .slice Ao23 t761.length co23] 29 (0, 0))) := ⟨h4_⟩
             have n5_ : Aside0 (w60.heap[gb773]? = some (.cells #[.int .i64 t767, .int .i64 t768, .slice Ao33 t769.length co33] 29 (0, 0))) := ⟨h5_⟩
             have n6_ : Aside0 (w60.heap[gb782]? = some (.cells #[.int .i64 0, .int .i64 0, .slice none 0 0] 29 (0, 0))) := ⟨h6_⟩
             have n7_ : Aside0 (w.heap.size ≤ gb782) := ⟨h7_⟩
             have n8_ : Aside0 (w.heap.size ≤ gb782) := ⟨h8_⟩
             have n9_ : Aside0 (gb764 ≠ gb782) := ⟨h9_⟩
             have n10_ : Aside0 (gb782 ≠ gb764) := ⟨h10_⟩
             have n11_ : Aside0 (gb773 ≠ gb782) := ⟨h11_⟩
             have n12_ : Aside0 (gb782 ≠ gb773) := ⟨h12_⟩
             have n13_ : Aside0 (Below w.heap.size w w60) := ⟨h13_⟩
             clear HO_6
             clear HO_765002
             clear HO_774002
             clear BK764
             clear BK773
             clear HB
             clear h0_ h1_ h2_ h3_ h4_ h5_ h6_ h7_ h8_ h9_ h10_ h11_ h12_ h13_
             have HO781 := n0_
             have HO_6 := n1_
             have HO_765002 := n2_
             have HO_774002 := n3_
             have BK764 := n4_
             have BK773 := n5_
             have BK782 := n6_
             have GW782 := n7_
             have GE782 := n8_
             have NB764_782 := n9_
             have NB782_764 := n10_
             have NB773_782 := n11_
             have NB782_773 := n12_
             have HB := n13_
             clear n0_ n1_ n2_ n3_ n4_ n5_ n6_ n7_ n8_ n9_ n10_ n11_ n12_ n13_
             have hHeld : w60.cell? ⟨gb764, 0, none⟩ = some (.int .i64 t759) ∧ w60.cell? ⟨gb764, 1, none⟩ = some (.int .i64 t760) ∧ w60.cell? ⟨gb764, 2, none⟩ = some (.slice Ao23 t761.length co23) := hS_
             obtain ⟨Ao61, co61, eo61⟩ := Kd.R_slice HO781.out
             (first | subst eo61 | (injection eo61 with f1_ f2_ f3_; have f4_ := f1_.symm; have f5_ := f3_.symm; clear f1_ f2_ f3_; subst f4_; subst f5_))
             refine norm_ (a' := ?_) ?_ ?_
             rotate_left
             ·simp only [putAll, Act.put, List.setIfInBounds_toArray, List.set_cons_zero, List.set_cons_succ]
              rfl
             refine one_ (i := 10) (N := none) (bs 11 2047) rfl rfl (one_of HT_.out (by kernel_rfl)) (by decide) (fun K hK => ?_)
             have hs62 : w60.cell? ⟨gb782, 0, none⟩ = some (.int .i64 0) := (blk_cell BK782.out 0).trans rfl
             have hfs62 := blk_frozen BK782.out 0
             have hns62_0 := NB764_782.out
             have hns62_1 := NB773_782.out
             have hms62_0 := NB782_764.out
             have hms62_1 := NB782_773.out
             have hs63 : w60.cell? ⟨gb782, 1, none⟩ = some (.int .i64 0) := (blk_cell BK782.out 1).trans rfl
             have hfs63 := blk_frozen BK782.out 1
             have hns63_0 := NB764_782.out
             have hns63_1 := NB773_782.out
             have hms63_0 := NB782_764.out
             have hms63_1 := NB782_773.out
             have hs64 : w60.cell? ⟨gb782, 2, none⟩ = some (.slice none 0 0) := (blk_cell BK782.out 2).trans rfl
             have hfs64 := blk_frozen BK782.out 2
             have hns64_0 := NB764_782.out
             have hns64_1 := NB773_782.out
             have hms64_0 := NB782_764.out
             have hms64_1 := NB782_773.out
             refine skip_ (w1 := ?_) (by rfl) rfl ?_ ?_
             rotate_left
             ·go_simp
              rfl
             refine hK.out _ _ ⟨((cell_far (p := ⟨gb782, _, none⟩) NB764_782.out _).trans (((cell_far (p := ⟨gb782, _, none⟩) NB764_782.out _).trans (((cell_far (p := ⟨gb782, _, none⟩) NB764_782.out _).trans (hHeld.1)))))), ((cell_far (p := ⟨gb782, _, none⟩) NB764_782.out _).trans (((cell_far (p := ⟨gb782, _, none⟩) NB764_782.out _).trans (((cell_far (p := ⟨gb782, _, none⟩) NB764_782.out _).trans (hHeld.2.1)))))), ((cell_far (p := ⟨gb782, _, none⟩) NB764_782.out _).trans (((cell_far (p := ⟨gb782, _, none⟩) NB764_782.out _).trans (((cell_far (p := ⟨gb782, _, none⟩) NB764_782.out _).trans (hHeld.2.2))))))⟩ (fun hHeld => ?_)
             clear hK K
             refine done_ (done_of HT_.out (by kernel_rfl)) ?_
             have hnb65 := NB782_764.out
             have hnc65 := NB764_782.out
             have hnb66 := NB782_773.out
             have hnc66 := NB773_782.out
             have hcz67_0 : w60.cell? ⟨gb782, 0, none⟩ = some (.int .i64 0) := (blk_cell BK782.out 0).trans rfl
             have hcz67_1 : w60.cell? ⟨gb782, 1, none⟩ = some (.int .i64 0) := (blk_cell BK782.out 1).trans rfl
             have hcz67_2 : w60.cell? ⟨gb782, 2, none⟩ = some (.slice none 0 0) := (blk_cell BK782.out 2).trans rfl
             have hfz67_0 := blk_frozen BK782.out 0
             have hfz67_1 := blk_frozen BK782.out 1
             have hfz67_2 := blk_frozen BK782.out 2
             try go_wp2
             replace HO_6 : Aside0 (Kd.R (Kd.int .i64) 3 (((w60.setCell ⟨gb782, 0, none⟩ (.int .i64 t759)).setCell ⟨gb782, 1, none⟩ (.int .i64 t760)).setCell ⟨gb782, 2, none⟩ (.slice Ao61 y779.length co61)) w.heap.size (fun k_ => some k_ ≠ (.slice Ao23 t761.length co23 : Value).ownBlock ∧ some k_ ≠ (.slice Ao33 t769.length co33 : Value).ownBlock ∧ some k_ ≠ (.slice Ao61 y779.length co61 : Value).ownBlock) (.slice Ao24 t756.length co24) t756) := ⟨Kd.R_mono (Kd.R_far (p := ⟨gb782, 2, none⟩) (Kd.R_far (p := ⟨gb782, 1, none⟩) (Kd.R_far (p := ⟨gb782, 0, none⟩) (Kd.R_types HO_6.out BK782.out (by decide)) (fun _ hk => hk.2) (.int .i64 t759)) (fun _ hk => hk.2) (.int .i64 t760)) (fun _ hk => hk.2) (.slice Ao61 y779.length co61)) (fun _ hk => ⟨hk.1.2.1, ⟨hk.1.2.2, hk.1.1⟩⟩)⟩
             replace HO_765002 : Aside0 (Kd.Q (Kd.int .i64) 3 (((w60.setCell ⟨gb782, 0, none⟩ (.int .i64 t759)).setCell ⟨gb782, 1, none⟩ (.int .i64 t760)).setCell ⟨gb782, 2, none⟩ (.slice Ao61 y779.length co61)) w.heap.size (fun k_ => some k_ ≠ (.slice Ao24 t756.length co24 : Value).ownBlock ∧ some k_ ≠ (.slice Ao33 t769.length co33 : Value).ownBlock ∧ some k_ ≠ (.slice Ao61 y779.length co61 : Value).ownBlock) (.slice Ao23 t761.length co23) t761) := ⟨Kd.Q_mono (Kd.Q_far (p := ⟨gb782, 2, none⟩) (Kd.Q_far (p := ⟨gb782, 1, none⟩) (Kd.Q_far (p := ⟨gb782, 0, none⟩) (Kd.Q_types HO_765002.out BK782.out (by decide)) (fun _ hk => hk.2) (.int .i64 t759)) (fun _ hk => hk.2) (.int .i64 t760)) (fun _ hk => hk.2) (.slice Ao61 y779.length co61)) (fun _ hk => ⟨hk.1.2.1, ⟨hk.1.2.2, hk.1.1⟩⟩)⟩
             replace HO_774002 : Aside0 (Kd.Q (Kd.int .i64) 3 (((w60.setCell ⟨gb782, 0, none⟩ (.int .i64 t759)).setCell ⟨gb782, 1, none⟩ (.int .i64 t760)).setCell ⟨gb782, 2, none⟩ (.slice Ao61 y779.length co61)) w.heap.size (fun k_ => some k_ ≠ (.slice Ao24 t756.length co24 : Value).ownBlock ∧ some k_ ≠ (.slice Ao23 t761.length co23 : Value).ownBlock ∧ some k_ ≠ (.slice Ao61 y779.length co61 : Value).ownBlock) (.slice Ao33 t769.length co33) t769) := ⟨Kd.Q_mono (Kd.Q_far (p := ⟨gb782, 2, none⟩) (Kd.Q_far (p := ⟨gb782, 1, none⟩) (Kd.Q_far (p := ⟨gb782, 0, none⟩) (Kd.Q_types HO_774002.out BK782.out (by decide)) (fun _ hk => hk.2) (.int .i64 t759)) (fun _ hk => hk.2) (.int .i64 t760)) (fun _ hk => hk.2) (.slice Ao61 y779.length co61)) (fun _ hk => ⟨hk.1.2.1, ⟨hk.1.2.2, hk.1.1⟩⟩)⟩
             replace HO781 : Aside0 (Kd.R (Kd.int .i64) 3 (((w60.setCell ⟨gb782, 0, none⟩ (.int .i64 t759)).setCell ⟨gb782, 1, none⟩ (.int .i64 t760)).setCell ⟨gb782, 2, none⟩ (.slice Ao61 y779.length co61)) w.heap.size (fun k_ => some k_ ≠ (.slice Ao24 t756.length co24 : Value).ownBlock ∧ some k_ ≠ (.slice Ao23 t761.length co23 : Value).ownBlock ∧ some k_ ≠ (.slice Ao33 t769.length co33 : Value).ownBlock) (.slice Ao61 y779.length co61) y779) := ⟨Kd.R_mono (Kd.R_far (p := ⟨gb782, 2, none⟩) (Kd.R_far (p := ⟨gb782, 1, none⟩) (Kd.R_far (p := ⟨gb782, 0, none⟩) (Kd.R_types HO781.out BK782.out (by decide)) (fun _ hk => hk.2) (.int .i64 t759)) (fun _ hk => hk.2) (.int .i64 t760)) (fun _ hk => hk.2) (.slice Ao61 y779.length co61)) (fun _ hk => ⟨hk.1.1, ⟨hk.1.2.1, hk.1.2.2⟩⟩)⟩
             replace BK764 : Aside0 ((((w60.setCell ⟨gb782, 0, none⟩ (.int .i64 t759)).setCell ⟨gb782, 1, none⟩ (.int .i64 t760)).setCell ⟨gb782, 2, none⟩ (.slice Ao61 y779.length co61)).heap[gb764]? = some (.cells #[.int .i64 t759, .int .i64 t760, .slice Ao23 t761.length co23] 29 (0, 0))) := ⟨by refine blk_far ?_ NB764_782.out _; refine blk_far ?_ NB764_782.out _; refine blk_far ?_ NB764_782.out _; exact BK764.out⟩
             replace BK773 : Aside0 ((((w60.setCell ⟨gb782, 0, none⟩ (.int .i64 t759)).setCell ⟨gb782, 1, none⟩ (.int .i64 t760)).setCell ⟨gb782, 2, none⟩ (.slice Ao61 y779.length co61)).heap[gb773]? = some (.cells #[.int .i64 t767, .int .i64 t768, .slice Ao33 t769.length co33] 29 (0, 0))) := ⟨by refine blk_far ?_ NB773_782.out _; refine blk_far ?_ NB773_782.out _; refine blk_far ?_ NB773_782.out _; exact BK773.out⟩
             replace BK782 : Aside0 ((((w60.setCell ⟨gb782, 0, none⟩ (.int .i64 t759)).setCell ⟨gb782, 1, none⟩ (.int .i64 t760)).setCell ⟨gb782, 2, none⟩ (.slice Ao61 y779.length co61)).heap[gb782]? = some (.cells #[.int .i64 t759, .int .i64 t760, .slice Ao61 y779.length co61] 29 (0, 0))) := ⟨by refine blk_put (cs := #[.int .i64 t759, .int .i64 t760, .slice none 0 0]) ?_ 2 _ rfl; refine blk_put (cs := #[.int .i64 t759, .int .i64 0, .slice none 0 0]) ?_ 1 _ rfl; refine blk_put (cs := #[.int .i64 0, .int .i64 0, .slice none 0 0]) ?_ 0 _ rfl; exact BK782.out⟩
             replace HB : Aside0 (Below w.heap.size w (((w60.setCell ⟨gb782, 0, none⟩ (.int .i64 t759)).setCell ⟨gb782, 1, none⟩ (.int .i64 t760)).setCell ⟨gb782, 2, none⟩ (.slice Ao61 y779.length co61))) := ⟨by repeat (with_reducible first | exact HB.out | apply below_alloc | apply pw_below_drewN | apply below_drew1 | refine below_set ?_ GE764.out | refine below_set ?_ GE773.out | refine below_set ?_ GE782.out)⟩
             generalize (((w60.setCell ⟨gb782, 0, none⟩ (.int .i64 t759)).setCell ⟨gb782, 1, none⟩ (.int .i64 t760)).setCell ⟨gb782, 2, none⟩ (.slice Ao61 y779.length co61)) = w68 at HO_6 HO_765002 HO_774002 HO781 BK764 BK773 BK782 HB ⊢
             replace HO_6 := Aside0.mk (Kd.R_drew HO_6.out)
             replace HO_765002 := Aside0.mk (Kd.Q_drew HO_765002.out)
             replace HO_774002 := Aside0.mk (Kd.Q_drew HO_774002.out)
             replace HO781 := Aside0.mk (Kd.R_drew HO781.out)
             replace BK764 := Aside0.mk (blk_drew BK764.out)
             replace BK773 := Aside0.mk (blk_drew BK773.out)
             replace BK782 := Aside0.mk (blk_drew BK782.out)
             replace HB := Aside0.mk (below_drew1 HB.out)
             have p783 : 0 ≤ ((ji48) : Int) := of_decide_eq_true ‹_›
             have q783 : (ji48) < (y779.length : Int) := of_decide_eq_true ‹_›
             obtain ⟨ad783, e783, hx783_0⟩ := Kd.at_int (Kd.R_reads' HO781.out).2.2 (ji48) p783 q783
             cases e783
             replace p783 := eq_true p783
             replace q783 := eq_true q783
             refine start_ (n := 15) (S := fun w' => w'.cell? ⟨gb782, 0, none⟩ = some (.int .i64 t759) ∧ w'.cell? ⟨gb782, 1, none⟩ = some (.int .i64 t760) ∧ w'.cell? ⟨gb782, 2, none⟩ = some (.slice (some ad783) y779.length co61) ∧ w'.cell? (ad783.add ((ji48)).toNat) = some (.int .i64 (rd y779 (ji48)))) (ds := [14]) (bs 15 0) (by kernel_rfl) rfl rfl ⟨(blk_cell BK782.out 0).trans rfl, (blk_cell BK782.out 1).trans rfl, (blk_cell BK782.out 2).trans rfl, hx783_0⟩ (fun hHeld => ?_); refine with_tabW laws_FnProofOk.tab14 laws_FnProofOk.bits14 (fun HT_ HW_ => ?_)
             generalize w68.drew = w69 at HO_6 HO_765002 HO_774002 HO781 BK764 BK773 BK782 HB hx783_0 hHeld ⊢
             refine pZ 0 (some 77) (bs 15 1) rfl rfl (any_of HT_.out (by kernel_rfl)) ?_
             refine pZ 2 (some 79) (bs 15 5) rfl rfl (any_of HT_.out (by kernel_rfl)) ?_
             refine pZ 3 (some 80) (bs 15 13) rfl rfl (any_of HT_.out (by kernel_rfl)) ?_
             refine pZ 5 (some 82) (bs 15 45) rfl rfl (any_of HT_.out (by kernel_rfl)) ?_
             refine pZ 8 (some 85) (bs 15 301) rfl rfl (any_of HT_.out (by kernel_rfl)) ?_
             refine pZ 9 (some 86) (bs 15 813) rfl rfl (any_of HT_.out (by kernel_rfl)) ?_
             refine pZ 10 (some 87) (bs 15 1837) rfl rfl (any_of HT_.out (by kernel_rfl)) ?_
             refine pZ 11 (some 88) (bs 15 3885) rfl rfl (any_of HT_.out (by kernel_rfl)) ?_
             refine tZ 1 (some 78) (bs 15 3887) rfl rfl (take_ofW HT_.out HW_.out (by kernel_rfl)) hHeld (by rintro w' ⟨s0, s1, s2, s3⟩; go_simp; with_reducible rfl) ?_
             refine tZ 4 (some 81) (bs 15 3903) rfl rfl (take_ofW HT_.out HW_.out (by kernel_rfl)) hHeld (by rintro w' ⟨s0, s1, s2, s3⟩; go_simp; with_reducible rfl) ?_
             refine pZ 6 (some 83) (bs 15 3967) rfl rfl (any_of HT_.out (by kernel_rfl)) ?_
             refine tZ 7 (some 84) (bs 15 4095) rfl rfl (take_ofW HT_.out HW_.out (by kernel_rfl)) hHeld (by rintro w' ⟨s0, s1, s2, s3⟩; go_simp; with_reducible rfl) ?_
             refine one_ (i := 12) (N := some 89) (bs 15 8191) rfl rfl (one_of HT_.out (by kernel_rfl)) (by decide) (fun K hK => ?_)
             refine goes_ Tryd.func51 (by kernel_rfl) rfl #[.int .i64 (rd y779 (ji48)), .int .i64 (1 + ((l1.length : Int) % 30))] (by rfl) rfl rfl (by (try simp only [List.map_toArray, List.map_cons, List.map_nil]); first | done | (simp only [hji48]; rfl) | rfl | (simp only [List.length_drop, List.length_take]; rfl) | (have e_ : (1 + ((l1.length : Int) % 30)) = wrap64 (1 + Int.tmod (l1.length : Int) 30) := (by rw [Int.tmod_eq_emod_of_nonneg (by omega)]; unfold wrap64; omega); rw [e_]; try rfl)) ?_
             with_reducible refine (impl_FieldSum.calls (rd y779 (ji48)) (1 + ((l1.length : Int) % 30)) t784 _ A51.out).mono ?_
             rintro e w' ⟨rfl, ⟨nd, rfl⟩⟩
             refine ⟨_, rfl, ?_⟩
             have p52 : 0 ≤ ((ji48) : Int) := of_decide_eq_true ‹_›
             have q52 : ((ji48) : Int) < ((y779.length : Int) : Int) := of_decide_eq_true ‹_›
             obtain ⟨go52, co52, eo52, gb52, gl52, cl52, HG52⟩ := Kd.R_form HO781.out (by omega)
             (first | cases eo52 | (injection eo52 with ea_ en_ ec_; (first | subst ea_ | (injection ea_ with ea_; subst ea_)); subst ec_; clear en_))
             have GB52 := Aside0.mk gb52
             have GG52 := Aside0.mk HG52
             clear gb52 gl52 HG52
             (first | simp only [add_plain] at hx783_0 | skip)
             obtain ⟨hx52_0, hf52_0⟩ := Kd.R_celln 0 HO781.out ((ji48) : Int) p52 q52
             replace p52 := eq_true p52
             replace q52 := eq_true q52
             have HP70 := Kd.R_putn HO781.out ((ji48) : Int) t784
             rw [← Ny785.out] at HP70
             have HQ70 := Aside0.mk HP70
             clear HP70
             refine hK.out _ _ ⟨(blk_cell BK782.out 0).trans rfl, (blk_cell BK782.out 1).trans rfl, (blk_cell BK782.out 2).trans rfl, hHeld.2.2.2⟩ (fun hHeld => ?_)
             clear hK K
             refine norm_ (a' := ?_) ?_ ?_
             rotate_left
             ·show Act.put _ (some 89) _ = _
              simp only [Act.put, List.setIfInBounds_toArray, List.set_cons_zero, List.set_cons_succ, i64_w, i32_w]
              rfl
             refine pZ 13 (some 90) (bs 15 16383) rfl rfl (any_of HT_.out (by kernel_rfl)) ?_
             refine last_ (i := 14) (N := none) (bs 15 32767) rfl rfl (one_of HT_.out (by kernel_rfl)) (by decide) (fun K hK => ?_)
             refine skip_ (w1 := ?_) (by rfl) rfl ?_ ?_
             rotate_left
             ·go_simp
              rfl
             refine hK.out _ _ ?_
             clear hK K
             refine done_ (done_of HT_.out (by kernel_rfl)) ?_
             have hcz71_0 : w69.cell? ⟨gb782, 0, none⟩ = some (.int .i64 t759) := (blk_cell BK782.out 0).trans rfl
             have hcz71_1 : w69.cell? ⟨gb782, 1, none⟩ = some (.int .i64 t760) := (blk_cell BK782.out 1).trans rfl
             have hcz71_2 : w69.cell? ⟨gb782, 2, none⟩ = some (.slice (some ⟨go52, 0, none⟩) y779.length co61) := (blk_cell BK782.out 2).trans rfl
             have hfz71_0 := blk_frozen BK782.out 0
             have hfz71_1 := blk_frozen BK782.out 1
             have hfz71_2 := blk_frozen BK782.out 2
             have hfar_ : gb782 ≠ go52 := (fun e_ => by have h1_ := BK782.out; rw [e_] at h1_; have h2_ := GG52.out; rw [h2_] at h1_; simp at h1_)
             have hbk_ := blk_far (p := ⟨go52, ji48.toNat, none⟩) (blk_drewN BK782.out nd) hfar_ (.int .i64 t784)
             have hcy_0 : ((w69.drewN nd).setCell ⟨go52, ji48.toNat, none⟩ (.int .i64 t784)).cell? ⟨gb782, 0, none⟩ = some (.int .i64 t759) := (blk_cell hbk_ 0).trans rfl
             have hcy_1 : ((w69.drewN nd).setCell ⟨go52, ji48.toNat, none⟩ (.int .i64 t784)).cell? ⟨gb782, 1, none⟩ = some (.int .i64 t760) := (blk_cell hbk_ 1).trans rfl
             have hcy_2 : ((w69.drewN nd).setCell ⟨go52, ji48.toNat, none⟩ (.int .i64 t784)).cell? ⟨gb782, 2, none⟩ = some (.slice (some ⟨go52, 0, none⟩) y779.length co61) := (blk_cell hbk_ 2).trans rfl
             try go_wp2_with (first | ((with_reducible refine gate_callee (f := 37) rfl ?_); refine goesL_ (some 94) rfl rfl Tryd.func37 (by kernel_rfl) rfl #[.int .i64 t755, .slice Ao24 t756.length co24, .agg #[.int .i64 t759, .int .i64 t760, .slice (some ⟨go52, 0, none⟩) y785.length co61]] rfl (by (try simp only [List.map_toArray, List.map_cons, List.map_nil]); first | done | (rw [show y785.length = y779.length from (Kd.R_reads' HQ70.out).1.symm] <;> rfl) | rfl | (simp only [List.length_drop, List.length_take]; rfl)) ?_; (with_reducible refine (impl_ProofOk.calls kj18 t755 _ _ t756 t759 t760 _ _ y785 t786 _ ?side1 ?side2 ?side3 ?side4 A53.out HE.out ?sideB).mono ?_); (case side1 => refine (Kd.R_reads' (e := 3) (base := w.heap.size) (ok := fun k_ => (some k_ ≠ (.slice Ao23 t761.length co23 : Value).ownBlock ∧ (some k_ ≠ (.slice Ao33 t769.length co33 : Value).ownBlock ∧ some k_ ≠ (.slice (some ⟨go52, 0, none⟩) y779.length co61 : Value).ownBlock))) (n := t756.length) (c := co24) ?_).2.2; exact ((Kd.R_mono (Kd.R_far (p := ⟨go52, ((ji48) : Int).toNat, none⟩) (Kd.R_mono HO_6.out (fun k_ hk => (⟨hk, fun e_ => hk.2.2 (by rw [e_]; rfl)⟩ : _ ∧ k_ ≠ go52))) (fun _ hk => hk.2) (.int .i64 t784)) (fun _ h_ => h_.1)))); (case side2 => exact (Kd.R_reads' HO_6.out).2.1); (case side3 => refine (Kd.R_reads' (e := 3) (base := w.heap.size) (ok := fun k_ => (some k_ ≠ (.slice Ao24 t756.length co24 : Value).ownBlock ∧ (some k_ ≠ (.slice Ao23 t761.length co23 : Value).ownBlock ∧ some k_ ≠ (.slice Ao33 t769.length co33 : Value).ownBlock))) (n := y779.length) (c := co61) ?_).2.2; exact (HQ70.out)); (case side4 => rw [show y785.length = y779.length from (Kd.R_reads' HQ70.out).1.symm]; exact (Kd.R_reads' HO781.out).2.1); (case sideB => exact (by repeat (first | (with_reducible first | exact HB.out | apply below_alloc | apply pw_below_drewN | apply below_drew1 | refine below_set ?_ GB52.out | refine below_set ?_ GE764.out | refine below_set ?_ GE773.out | refine below_set ?_ GE782.out) | exact HB.out))); rintro e w72 ⟨rfl, hb⟩; refine ⟨_, rfl, ?_⟩; replace HO_6 := Aside0.mk (Kd.R_below (by (with_reducible repeat (first | apply Kd.R_alloc | apply Kd.R_drewN | apply Kd.R_drew)); exact (Kd.R_mono (Kd.R_far (p := ⟨go52, ((ji48) : Int).toNat, none⟩) (Kd.R_mono HO_6.out (fun k_ hk => (⟨hk, fun e_ => hk.2.2 (by rw [e_]; rfl)⟩ : _ ∧ k_ ≠ go52))) (fun _ hk => hk.2) (.int .i64 t784)) (fun _ h_ => h_.1))) hb); replace HO_765002 := Aside0.mk (Kd.Q_below (by (with_reducible repeat (first | apply Kd.Q_alloc | apply Kd.Q_drewN | apply Kd.Q_drew)); exact (Kd.Q_mono (Kd.Q_far (p := ⟨go52, ((ji48) : Int).toNat, none⟩) (Kd.Q_mono HO_765002.out (fun k_ hk => (⟨hk, fun e_ => hk.2.2 (by rw [e_]; rfl)⟩ : _ ∧ k_ ≠ go52))) (fun _ hk => hk.2) (.int .i64 t784)) (fun _ h_ => h_.1))) hb); replace HO_774002 := Aside0.mk (Kd.Q_below (by (with_reducible repeat (first | apply Kd.Q_alloc | apply Kd.Q_drewN | apply Kd.Q_drew)); exact (Kd.Q_mono (Kd.Q_far (p := ⟨go52, ((ji48) : Int).toNat, none⟩) (Kd.Q_mono HO_774002.out (fun k_ hk => (⟨hk, fun e_ => hk.2.2 (by rw [e_]; rfl)⟩ : _ ∧ k_ ≠ go52))) (fun _ hk => hk.2) (.int .i64 t784)) (fun _ h_ => h_.1))) hb); replace BK764 := Aside0.mk (blk_below (g := gb764) (o := .cells #[.int .i64 t759, .int .i64 t760, .slice Ao23 t761.length co23] 29 (0, 0)) (by (with_reducible repeat (first | refine blk_drewN ?_ _ | refine blk_drew ?_ | refine blk_alloc ?_ _)); refine blk_far ?_ (by have h_ := Kd.R_ne HO781.out BK764.out (by decide); intro e_; exact h_ (by rw [e_]; rfl)) _; (with_reducible repeat (first | refine blk_drewN ?_ _ | refine blk_drew ?_ | refine blk_alloc ?_ _)); exact BK764.out) hb); replace BK773 := Aside0.mk (blk_below (g := gb773) (o := .cells #[.int .i64 t767, .int .i64 t768, .slice Ao33 t769.length co33] 29 (0, 0)) (by (with_reducible repeat (first | refine blk_drewN ?_ _ | refine blk_drew ?_ | refine blk_alloc ?_ _)); refine blk_far ?_ (by have h_ := Kd.R_ne HO781.out BK773.out (by decide); intro e_; exact h_ (by rw [e_]; rfl)) _; (with_reducible repeat (first | refine blk_drewN ?_ _ | refine blk_drew ?_ | refine blk_alloc ?_ _)); exact BK773.out) hb); replace BK782 := Aside0.mk (blk_below (g := gb782) (o := .cells #[.int .i64 t759, .int .i64 t760, .slice (some ⟨go52, 0, none⟩) y779.length co61] 29 (0, 0)) (by (with_reducible repeat (first | refine blk_drewN ?_ _ | refine blk_drew ?_ | refine blk_alloc ?_ _)); refine blk_far ?_ (by have h_ := Kd.R_ne HO781.out BK782.out (by decide); intro e_; exact h_ (by rw [e_]; rfl)) _; (with_reducible repeat (first | refine blk_drewN ?_ _ | refine blk_drew ?_ | refine blk_alloc ?_ _)); exact BK782.out) hb); replace HO781 := Aside0.mk (Kd.R_below (by (with_reducible repeat (first | apply Kd.R_alloc | apply Kd.R_drewN | apply Kd.R_drew)); exact HQ70.out) hb); replace HB := Aside0.mk (below_step (by repeat (first | (with_reducible first | exact HB.out | apply below_alloc | apply pw_below_drewN | apply below_drew1 | refine below_set ?_ GB52.out | refine below_set ?_ GE764.out | refine below_set ?_ GE773.out | refine below_set ?_ GE782.out) | exact HB.out)) hb); clear hb))
             go_ret
             exact ⟨by first | rfl | (simp [errW_none, errW_some] <;> rfl) | (simp only [← hji48]; first | rfl | (simp [errW_none, errW_some] <;> rfl)) | (simp [*, errW_none, errW_some] <;> rfl), HB.out⟩
            ·rw [if_neg c50] at H
             exact absurd H (by simp)
           ·rw [if_neg c49] at H
            exact absurd H (by simp)
         ·rw [if_neg c46] at H
          exact absurd H (by simp)
        ·replace c45 := Bool.eq_false_iff.mpr c45
         subst c45
         rw [if_neg (show ¬ (false = true) by decide)] at H
         obtain rfl := Option.some.inj H
         go_wp2
         go_ret
         exact ⟨rfl, HB.out⟩
def laws_FnProofOk.Pure : Prop := ∀ (l0 : List Int) (l1 : List Int), l0.length ≤ maxLen → l0.length * 1 ≤ 140737488351232 → (∀ x ∈ l0, (Lit.int .u8 x).wf = true) → l1.length ≤ maxLen → l1.length * 1 ≤ 140737488351232 → (∀ x ∈ l1, (Lit.int .u8 x).wf = true) → ∃ k, laws_FnProofOk.f k l0 l1 = some true
end Go.Proofs.YtahbooeioigbgaaDoor.Da
