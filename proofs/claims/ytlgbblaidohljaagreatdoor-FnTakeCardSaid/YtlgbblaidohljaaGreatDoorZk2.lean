import Derived.Test.YtlgbblaidohljaaGreatDoorZ
import Derived.Test.YtlgbblaidohljaaGreatDoorZk0
import Derived.Test.YtlgbblaidohljaaGreatDoorZk1
namespace Go.Proofs.YtlgbblaidohljaaGreatDoor.Zk
open Go.RowKit Go.Proofs.YtlgbblaidohljaaGreatDoorT.PrintWords Go.Proofs.YtlgbblaidohljaaGreatDoorT.PrintLast Go.Proofs.YtlgbblaidohljaaGreatDoorT.PrintMore Go.Proofs.YtlgbblaidohljaaGreatDoor.Z
attribute [local go_sem] max2_int min2_int max_two min_two max_three min_three max_four min_four
set_option linter.unusedVariables false
set_option linter.unusedSimpArgs false
private theorem c38x10 : Ent Tryz.prog 38 := ent Tryz.func38 (by kernel_rfl) rfl
def spec_l3Sum.l0 : Nat → List Int → List Int → List Int → Int → Option (List Int)
  | 0, _, _, _, _ => none
  | k + 1, x0, x1, x5, x6 => if x6 < (x0.length : Int) then (if 0 ≤ x6 then (if x6 < (x1.length : Int) then ((spec_FieldSum.f (rd x0 x6) (rd x1 x6)).bind fun t130 => (if x5.length < 17592186044416 then (spec_l3Sum.l0 k x0 x1 (x5 ++ [t130]) (wrap64 (x6 + 1))) else (none))) else (none)) else (none)) else (some x5)
def spec_l3Sum.f (k : Nat) (l0 : List Int) (l1 : List Int) : Option (List Int) := spec_l3Sum.l0 k l0 l1 (([] : List Int)) 0
def spec_l3Sum.T5 : Bool × List (List Nat × List Nat) := (true, [([], []), ([], []), ([], []), ([1, 2], [1, 2]), ([3], [3]), ([], []), ([], []), ([5, 6], [5, 6]), ([7], [7]), ([4, 8], [4, 8]), ([9], [9]), ([0, 10, 9], [0, 10]), ([11, 11, 0, 1, 2, 3, 4, 5, 6, 7, 8, 9, 10, 11], [0, 11])])
def spec_l3Sum.B5 : List Nat := [0, 0, 0, 6, 14, 0, 0, 96, 224, 510, 1022, 2047, 4095]
theorem spec_l3Sum.tab5 : rtab .any (opsOf Tryz.f77 5) = spec_l3Sum.T5 := by kernel_rfl
theorem spec_l3Sum.bits5 : waitsOk spec_l3Sum.T5.2 spec_l3Sum.B5 = true := by kernel_rfl
set_option maxHeartbeats 8000000 in
set_option maxRecDepth 100000 in
theorem spec_l3Sum.calls (k : Nat) (A0 : Option Addr) (c0 : Nat) (l0 : List Int) (A1 : Option Addr) (c1 : Nat) (l1 : List Int) (r : List Int) (w : World) (hr0 : Kd.C (Kd.int .i64) w A0 l0.length l0) (hc0 : l0.length ≤ c0) (hr1 : Kd.C (Kd.int .i64) w A1 l1.length l1) (hc1 : l1.length ≤ c1) (h : spec_l3Sum.f k l0 l1 = some r) :
  Calls Tryz.prog 77 #[.slice A0 l0.length c0, .slice A1 l1.length c1] w fun e w' => ∃ v0_ : Value, e = .returned (v0_) ∧ Kd.R (Kd.int .i64) 3 w' w.heap.size (fun _ => True) v0_ r ∧ Below w.heap.size w w' := by
 have HR0 := Aside0.mk hr0
 have HC0 := Aside0.mk hc0
 clear hr0 hc0
 have HR1 := Aside0.mk hr1
 have HC1 := Aside0.mk hc1
 clear hr1 hc1
 have HB := Aside0.mk (Below.refl w.heap.size w)
 have H : (spec_l3Sum.l0 k l0 l1 (([] : List Int)) 0) = some r := h
 clear h
 obtain ⟨y486, hy486⟩ : ∃ y_ : List Int, y_ = (([] : List Int)) := ⟨_, rfl⟩
 rw [← hy486] at H
 have Ny486 := Aside0.mk hy486
 clear hy486
 have H' := Aside0.mk H
 clear H
 go_enter Tryz.func77, Tryz.ntmps77
 go_wp2_with (first | ((with_reducible refine gate_dst (N := 7) rfl ?_); refine Kd.R_lit (Kd.int .i64) _ 3 ?hg (N := 7) ?hd (xs := ([] : List Int)) (inner := []) (ok := fun _ => True) (okp := fun _ => True) ?hr ?hp (fun _ hk => hk) trivial (Below.refl _ _) (Nat.le_refl _) (by simp) ?_; (case hd => rfl); (case hg => rfl); (case hr => first | (go_simp; done) | (go_simp; rfl)); (case hp => exact (Reps.none _ _)); intro v487 w3 ho4 hb hg_ hnew_; clear hg_ hnew_; (first | rw [← Ny486.out] at ho4 | (simp only [Int.reduceToNat] at ho4; rw [← Ny486.out] at ho4)); replace HO488 := Aside0.mk (Kd.R_lower ho4 bsZ); replace HB := bnZ hb; clear hb ho4))
 go_loopg [5, 6] k (fun kq v5 v6 w' => ∃ (x5_1 : List Int) (x6_1 : Int), v6 = .int .i64 x6_1 ∧ Aside0 (spec_l3Sum.l0 kq l0 l1 x5_1 x6_1 = some r) ∧ Aside0 (kq ≤ k) ∧ Aside0 (Kd.R (Kd.int .i64) 3 w' w.heap.size (fun _ => True) v5 x5_1) ∧ Aside0 (Below w.heap.size w w'))
 case atStart => exact ⟨(y486), (0), rfl, H', ⟨Nat.le_refl _⟩, ⟨HO488.out⟩, ⟨by repeat (with_reducible first | exact HB.out | apply below_alloc | apply pw_below_drewN | apply below_drew1)⟩⟩
 case round =>
  clear H'
  try clear c1
  try clear p2
  obtain ⟨x5_1, x6_1, rfl, HA, HK1, HO_5, HB⟩ := hrel
  cases gk with
  | zero => exact absurd HA.out (by simp [spec_l3Sum.l0])
  | succ k1 =>
   have H := HA.out
   clear HA
   simp only [spec_l3Sum.l0] at H
   by_cases c5 : x6_1 < (l0.length : Int)
   ·rw [if_pos c5] at H
    have c5b0 : decide (x6_1 < (l0.length : Int)) = true := decide_eq_true c5
    clear c5
    by_cases c6 : 0 ≤ x6_1
    ·rw [if_pos c6] at H
     have c6b0 : decide (0 ≤ x6_1) = true := decide_eq_true c6
     clear c6
     by_cases c7 : x6_1 < (l1.length : Int)
     ·rw [if_pos c7] at H
      have c7b0 : decide (x6_1 < (l1.length : Int)) = true := decide_eq_true c7
      clear c7
      replace H := bnd H
      obtain ⟨t491, A8, H⟩ := H
      by_cases c9 : x5_1.length < 17592186044416
      ·rw [if_pos c9] at H
       have LMc9 := Aside0.mk c9
       clear c9
       obtain ⟨y492, hy492⟩ : ∃ y_ : List Int, y_ = (x5_1 ++ [t491]) := ⟨_, rfl⟩
       rw [← hy492] at H
       have Ny492 := Aside0.mk hy492
       clear hy492
       have H' := Aside0.mk H
       clear H
       try go_wp2
       replace HO_5 := Aside0.mk (Kd.R_drew HO_5.out)
       replace HB := Aside0.mk (below_drew1 HB.out)
       have p489 : 0 ≤ (x6_1 : Int) := of_decide_eq_true ‹_›
       have q489 : x6_1 < (l0.length : Int) := of_decide_eq_true ‹_›
       obtain ⟨ad489, e489, hx489_0⟩ := Kd.at_int HR0.out x6_1 p489 q489
       have hw489_0 := hx489_0
       cases e489
       replace hx489_0 := (HB.out.cell (World.block_lt_of_cell? w _ hx489_0)).trans hx489_0
       replace p489 := eq_true p489
       replace q489 := eq_true q489
       have p490 : 0 ≤ (x6_1 : Int) := of_decide_eq_true ‹_›
       have q490 : x6_1 < (l1.length : Int) := of_decide_eq_true ‹_›
       obtain ⟨ad490, e490, hx490_0⟩ := Kd.at_int HR1.out x6_1 p490 q490
       have hw490_0 := hx490_0
       cases e490
       replace hx490_0 := (HB.out.cell (World.block_lt_of_cell? w _ hx490_0)).trans hx490_0
       replace p490 := eq_true p490
       replace q490 := eq_true q490
       refine start_ (n := 13) (S := fun w' => w'.cell? (ad489.add (x6_1).toNat) = some (.int .i64 (rd l0 x6_1)) ∧ w'.cell? (ad490.add (x6_1).toNat) = some (.int .i64 (rd l1 x6_1))) (ds := []) (bs 13 0) (by kernel_rfl) rfl rfl ⟨((HB.out.cell (World.block_lt_of_cell? w _ hw489_0)).trans hw489_0), ((HB.out.cell (World.block_lt_of_cell? w _ hw490_0)).trans hw490_0)⟩ (fun hHeld => ?_); refine with_tabW spec_l3Sum.tab5 spec_l3Sum.bits5 (fun HT_ HW_ => ?_)
       generalize wr.drew = w10 at HO_5 HB hx489_0 hx490_0 hHeld ⊢
       refine pZ 0 (some 14) (bs 13 1) rfl rfl (any_of HT_.out (by kernel_rfl)) ?_
       refine pZ 1 (some 15) (bs 13 3) rfl rfl (any_of HT_.out (by kernel_rfl)) ?_
       refine pZ 2 (some 16) (bs 13 7) rfl rfl (any_of HT_.out (by kernel_rfl)) ?_
       refine pZ 3 (some 17) (bs 13 15) rfl rfl (any_of HT_.out (by kernel_rfl)) ?_
       refine pZ 5 (some 19) (bs 13 47) rfl rfl (any_of HT_.out (by kernel_rfl)) ?_
       refine pZ 6 (some 20) (bs 13 111) rfl rfl (any_of HT_.out (by kernel_rfl)) ?_
       refine pZ 7 (some 21) (bs 13 239) rfl rfl (any_of HT_.out (by kernel_rfl)) ?_
       refine tZ 4 (some 18) (bs 13 255) rfl rfl (take_ofW HT_.out HW_.out (by kernel_rfl)) hHeld (by rintro w' ⟨s0, s1⟩; go_simp; with_reducible rfl) ?_
       refine tZ 8 (some 22) (bs 13 511) rfl rfl (take_ofW HT_.out HW_.out (by kernel_rfl)) hHeld (by rintro w' ⟨s0, s1⟩; go_simp; with_reducible rfl) ?_
       refine one_ (i := 9) (N := some 23) (bs 13 1023) rfl rfl (one_of HT_.out (by kernel_rfl)) (by decide) (fun K hK => ?_)
       refine goes_ Tryz.func108 (by kernel_rfl) rfl #[.int .i64 (rd l0 x6_1), .int .i64 (rd l1 x6_1)] (by rfl) rfl rfl (by (try simp only [List.map_toArray, List.map_cons, List.map_nil]); first | done | rfl | (simp only [List.length_drop, List.length_take]; rfl)) ?_
       with_reducible refine (spec_FieldSum.calls (rd l0 x6_1) (rd l1 x6_1) t491 _ A8.out).mono ?_
       rintro e w' ⟨rfl, ⟨nd, rfl⟩⟩
       refine ⟨_, rfl, ?_⟩
       refine hK.out _ _ ⟨((HB.out.cell (World.block_lt_of_cell? w _ hw489_0)).trans hw489_0), ((HB.out.cell (World.block_lt_of_cell? w _ hw490_0)).trans hw490_0)⟩ (fun hHeld => ?_)
       clear hK K
       refine norm_ (a' := ?_) ?_ ?_
       rotate_left
       ·show Act.put _ (some 23) _ = _
        simp only [Act.put, List.setIfInBounds_toArray, List.set_cons_zero, List.set_cons_succ, i64_w, i32_w]
        rfl
       refine one_ (i := 10) (N := some 24) (bs 13 2047) rfl rfl (one_of HT_.out (by kernel_rfl)) (by decide) (fun K hK => ?_)
       refine value_ (w1 := ?_) (v := ?_) (by rfl) rfl ?_ ?_
       rotate_left 2
       ·go_simp
        constructor
        ·rfl
        ·rfl
       refine hK.out _ _ ⟨(World.cell?_alloc_lt _ _ _ (World.block_lt_of_cell? _ _ (((HB.out.cell (World.block_lt_of_cell? w _ hw489_0)).trans hw489_0)))).trans (((HB.out.cell (World.block_lt_of_cell? w _ hw489_0)).trans hw489_0)), (World.cell?_alloc_lt _ _ _ (World.block_lt_of_cell? _ _ (((HB.out.cell (World.block_lt_of_cell? w _ hw490_0)).trans hw490_0)))).trans (((HB.out.cell (World.block_lt_of_cell? w _ hw490_0)).trans hw490_0))⟩ (fun hHeld => ?_)
       clear hK K
       refine norm_ (a' := ?_) ?_ ?_
       rotate_left
       ·show Act.put _ (some 24) _ = _
        simp only [Act.put, List.setIfInBounds_toArray, List.set_cons_zero, List.set_cons_succ, i64_w, i32_w]
        rfl
       refine one_ (i := 11) (N := some 25) (bs 13 4095) rfl rfl (one_of HT_.out (by kernel_rfl)) (by decide) (fun K hK => ?_)
       refine Kd.R_append_step (Kd.int .i64) (w0 := w) w.heap.size (by rfl) (.tmp 14) (.tmp 24) 22 3 (.int .i64 0) 8 rfl Tryz.underlying22 info3 rfl (by decide) (by omega) u5 x5_1 t491 [.int .i64 t491] (fun _ => True) (fun _ => False) rfl rfl ?aP (fun _ hk => hk.elim) ?aF ?aO ?aB ?aS ?aL ?_
       (case aP => exact rfl)
       (case aB => exact bZ)
       (case aF => exact (fun _ _ => trivial))
       (case aO => exact (HO_5.out))
       (case aS => exact bsZ)
       (case aL => have := LMc9.out; omega)
       intro v493 w11 ho hb hg hat
       rw [← Ny492.out] at ho
       have n0_ := Aside0.mk (hb)
       have n1_ := Aside0.mk (ho)
       clear HB
       clear HO_5
       have HB := n0_
       have HO494 := n1_
       clear n0_ n1_
       clear ho hb hg hat
       refine hK.out _ _ ⟨((HB.out.cell (World.block_lt_of_cell? w _ hw489_0)).trans hw489_0), ((HB.out.cell (World.block_lt_of_cell? w _ hw490_0)).trans hw490_0)⟩ (fun hHeld => ?_)
       clear hK K
       refine norm_ (a' := ?_) ?_ ?_
       rotate_left
       ·show Act.put _ (some 25) _ = _
        simp only [Act.put, List.setIfInBounds_toArray, List.set_cons_zero, List.set_cons_succ, i64_w, i32_w]
        rfl
       refine pZ 12 (some 5) (bs 13 8191) rfl rfl (any_of HT_.out (by kernel_rfl)) ?_
       refine done_ (done_of HT_.out (by kernel_rfl)) ?_
       try go_wp2
       go_roundg k1
       case measure => have := HK1.out; omega
       case rel => exact ⟨(y492), (wrap64 (x6_1 + 1)), rfl, H', ⟨by have := HK1.out; omega⟩, ⟨HO494.out⟩, ⟨by repeat (with_reducible first | exact HB.out | apply below_alloc | apply pw_below_drewN | apply below_drew1)⟩⟩
      ·rw [if_neg c9] at H
       exact absurd H (by simp)
     ·rw [if_neg c7] at H
      exact absurd H (by simp)
    ·rw [if_neg c6] at H
     exact absurd H (by simp)
   ·rw [if_neg c5] at H
    have c5b0 : decide (x6_1 < (l0.length : Int)) = false := decide_eq_false c5
    clear c5
    obtain rfl := Option.some.inj H
    go_wp2
    go_ret
    exact ⟨_, rfl, HO_5.out, by repeat (with_reducible first | exact HB.out | apply below_alloc | apply pw_below_drewN | apply below_drew1)⟩
def spec_FieldMul.f (a0 : Int) (a1 : Int) : Option (Int) := (spec_FieldOk.f a0).bind fun t134 => (if t134 = true then ((spec_FieldOk.f a1).bind fun t135 => (if t135 = true then (some (Int.tmod (wrap64 (a0 * a1)) 31)) else (some 0))) else (some 0))
set_option maxHeartbeats 8000000 in
set_option maxRecDepth 100000 in
theorem spec_FieldMul.calls (a0 : Int) (a1 : Int) (r : Int) (w : World) (h : spec_FieldMul.f a0 a1 = some r) :
  Calls Tryz.prog 78 #[.int .i64 a0, .int .i64 a1] w fun e w' => e = .returned (.int .i64 r) ∧ Drawn0 w w' := by
 have H := h
 unfold spec_FieldMul.f at H
 clear h
 replace H := bnd H
 obtain ⟨t294, A3, H⟩ := H
 by_cases c4 : t294 = true
 ·subst c4
  rw [if_pos rfl] at H
  replace H := bnd H
  obtain ⟨t295, A5, H⟩ := H
  by_cases c6 : t295 = true
  ·subst c6
   rw [if_pos rfl] at H
   obtain rfl := Option.some.inj H
   go_enter Tryz.func78, Tryz.ntmps78
   go_wp2_with (first | (refine gsD c38x10 (spec_FieldOk.calls a0 true _ A3.out) ?_; intro nd) | (go_at_call 38; (with_reducible refine (spec_FieldOk.calls a1 true _ A5.out).mono ?_); rintro e w' ⟨rfl, ⟨nd, rfl⟩⟩))
   go_ret
   exact ⟨rfl, ⟨_, rfl⟩⟩
  ·replace c6 := Bool.eq_false_iff.mpr c6
   subst c6
   rw [if_neg (show ¬ (false = true) by decide)] at H
   obtain rfl := Option.some.inj H
   go_enter Tryz.func78, Tryz.ntmps78
   go_wp2_with (first | (refine gsD c38x10 (spec_FieldOk.calls a0 true _ A3.out) ?_; intro nd) | (go_at_call 38; (with_reducible refine (spec_FieldOk.calls a1 false _ A5.out).mono ?_); rintro e w' ⟨rfl, ⟨nd, rfl⟩⟩))
   go_ret
   exact ⟨rfl, ⟨_, rfl⟩⟩
 ·replace c4 := Bool.eq_false_iff.mpr c4
  subst c4
  rw [if_neg (show ¬ (false = true) by decide)] at H
  obtain rfl := Option.some.inj H
  go_enter Tryz.func78, Tryz.ntmps78
  go_wp2_with (first | (refine gsD c38x10 (spec_FieldOk.calls a0 false _ A3.out) ?_; intro nd))
  go_ret
  exact ⟨rfl, ⟨_, rfl⟩⟩
def spec_l13Decide.f (k : Nat) (l0 : List Int) (l1 : List Int) : Option (Bool) := (spec_l3Sum.f k l0 l1).bind fun t136 => (if 0 < (t136.length : Int) then (if 1 < (t136.length : Int) then ((spec_FieldMul.f (rd t136 0) (rd t136 1)).bind fun t141 => (if 2 < (t136.length : Int) then (if t141 = (rd t136 2) then (if 3 < (t136.length : Int) then (some ((rd t136 3) == 0)) else (none)) else (some false)) else (none))) else (none)) else (none))
set_option maxHeartbeats 8000000 in
set_option maxRecDepth 100000 in
theorem spec_l13Decide.calls (k : Nat) (A0 : Option Addr) (c0 : Nat) (l0 : List Int) (A1 : Option Addr) (c1 : Nat) (l1 : List Int) (r : Bool) (w : World) (hr0 : Kd.C (Kd.int .i64) w A0 l0.length l0) (hc0 : l0.length ≤ c0) (hr1 : Kd.C (Kd.int .i64) w A1 l1.length l1) (hc1 : l1.length ≤ c1) (h : spec_l13Decide.f k l0 l1 = some r) :
  Calls Tryz.prog 39 #[.slice A0 l0.length c0, .slice A1 l1.length c1] w fun e w' => e = .returned (.bool r) ∧ Below w.heap.size w w' := by
 have HR0 := Aside0.mk hr0
 have HC0 := Aside0.mk hc0
 clear hr0 hc0
 have HR1 := Aside0.mk hr1
 have HC1 := Aside0.mk hc1
 clear hr1 hc1
 have HB := Aside0.mk (Below.refl w.heap.size w)
 have H := h
 unfold spec_l13Decide.f at H
 clear h
 replace H := bnd H
 obtain ⟨t495, A3, H⟩ := H
 by_cases c4 : 0 < (t495.length : Int)
 ·rw [if_pos c4] at H
  have c4b0 : decide (0 < (t495.length : Int)) = true := decide_eq_true c4
  have c4b1 : decide (0 < t495.length) = true := decide_eq_true (by omega)
  clear c4
  by_cases c5 : 1 < (t495.length : Int)
  ·rw [if_pos c5] at H
   have c5b0 : decide (1 < (t495.length : Int)) = true := decide_eq_true c5
   have c5b1 : decide (1 < t495.length) = true := decide_eq_true (by omega)
   clear c5
   replace H := bnd H
   obtain ⟨t500, A6, H⟩ := H
   by_cases c7 : 2 < (t495.length : Int)
   ·rw [if_pos c7] at H
    have c7b0 : decide (2 < (t495.length : Int)) = true := decide_eq_true c7
    have c7b1 : decide (2 < t495.length) = true := decide_eq_true (by omega)
    clear c7
    by_cases c8 : t500 = (rd t495 2)
    ·rw [if_pos c8] at H
     have c8b0 : (t500 == (rd t495 2)) = true := beq_iff_eq.mpr c8
     have c8b1 : (t500 != (rd t495 2)) = false := bne_eq_false_iff_eq.mpr c8
     clear c8
     by_cases c9 : 3 < (t495.length : Int)
     ·rw [if_pos c9] at H
      have c9b0 : decide (3 < (t495.length : Int)) = true := decide_eq_true c9
      have c9b1 : decide (3 < t495.length) = true := decide_eq_true (by omega)
      clear c9
      obtain rfl := Option.some.inj H
      go_enter Tryz.func39, Tryz.ntmps39
      go_wp2_with (first | (go_at_call 77; (with_reducible refine (spec_l3Sum.calls k _ _ l0 _ _ l1 t495 _ ?side1 ?side2 ?side3 ?side4 A3.out).mono ?_); (case side1 => exact HR0.out); (case side2 => exact HC0.out); (case side3 => exact HR1.out); (case side4 => exact HC1.out); rintro e w10 ⟨v496, rfl, ho0, hb⟩; replace HO497 := Aside0.mk (Kd.R_lower ho0 bsZ); replace HB := bnZ hb; (try clear hb); (try clear hb2); (try clear hk); (try clear hi); (try clear ho0); obtain ⟨Ao11, co11, eo11⟩ := Kd.R_slice HO497.out; subst eo11; have p498 : 0 ≤ (0 : Int) := (by omega); have q498 : 0 < (t495.length : Int) := of_decide_eq_true ‹_›; obtain ⟨ad498, e498, hx498_0⟩ := Kd.at_int (Kd.R_reads' HO497.out).2.2 0 p498 q498; cases e498; have qi498 : (0 < t495.length) = True := eq_true (by omega); (try rw [show ((0 : Int)).toNat = 0 from rfl] at hx498_0); (try rw [Addr.add_zero'] at hx498_0); replace p498 := eq_true p498; replace q498 := eq_true q498; have p499 : 0 ≤ (1 : Int) := (by omega); have q499 : 1 < (t495.length : Int) := of_decide_eq_true ‹_›; obtain ⟨ad499, e499, hx499_0⟩ := Kd.at_int (Kd.R_reads' HO497.out).2.2 1 p499 q499; obtain rfl : ad498 = ad499 := (by injection e499); (try simp only [show (1 : Int).toNat = 1 from rfl, Nat.reduceMul, Nat.reduceEqDiff, Go.Addr.add, ↓reduceIte] at hx499_0); have qi499 : (1 < t495.length) = True := eq_true (by omega); (try rw [show ((1 : Int)).toNat = 1 from rfl] at hx499_0); replace p499 := eq_true p499; replace q499 := eq_true q499) | (go_at_call 78; (with_reducible refine (spec_FieldMul.calls (rd t495 0) (rd t495 1) t500 _ A6.out).mono ?_); rintro e w' ⟨rfl, ⟨nd, rfl⟩⟩; (try first | exact ⟨rfl, _, World.drewN_drewN _ _ _⟩ | exact ⟨rfl, _, Eq.trans (World.drewN_drewN _ _ _) (congrArg (World.drewN _) (Nat.add_assoc _ _ _))⟩); have p501 : 0 ≤ (2 : Int) := (by omega); have q501 : 2 < (t495.length : Int) := of_decide_eq_true ‹_›; obtain ⟨ad501, e501, hx501_0⟩ := Kd.at_int (Kd.R_reads' HO497.out).2.2 2 p501 q501; obtain rfl : ad498 = ad501 := (by injection e501); (try simp only [show (2 : Int).toNat = 2 from rfl, Nat.reduceMul, Nat.reduceEqDiff, Go.Addr.add, ↓reduceIte] at hx501_0); have qi501 : (2 < t495.length) = True := eq_true (by omega); (try rw [show ((2 : Int)).toNat = 2 from rfl] at hx501_0); replace p501 := eq_true p501; replace q501 := eq_true q501; have p502 : 0 ≤ (3 : Int) := (by omega); have q502 : 3 < (t495.length : Int) := of_decide_eq_true ‹_›; obtain ⟨ad502, e502, hx502_0⟩ := Kd.at_int (Kd.R_reads' HO497.out).2.2 3 p502 q502; obtain rfl : ad498 = ad502 := (by injection e502); (try simp only [show (3 : Int).toNat = 3 from rfl, Nat.reduceMul, Nat.reduceEqDiff, Go.Addr.add, ↓reduceIte] at hx502_0); have qi502 : (3 < t495.length) = True := eq_true (by omega); (try rw [show ((3 : Int)).toNat = 3 from rfl] at hx502_0); replace p502 := eq_true p502; replace q502 := eq_true q502))
      repeat (go_quiet (first | (go_at_call 77; (with_reducible refine (spec_l3Sum.calls k _ _ l0 _ _ l1 t495 _ ?side1 ?side2 ?side3 ?side4 A3.out).mono ?_); (case side1 => exact HR0.out); (case side2 => exact HC0.out); (case side3 => exact HR1.out); (case side4 => exact HC1.out); rintro e w10 ⟨v496, rfl, ho0, hb⟩; have n0_ := Aside0.mk (Kd.R_lower ho0 bsZ); have n1_ := bnZ hb; clear HB; have HO497 := n0_; have HB := n1_; clear n0_ n1_; (try clear hb); (try clear hb2); (try clear hk); (try clear hi); (try clear ho0); obtain ⟨Ao11, co11, eo11⟩ := Kd.R_slice HO497.out; subst eo11; have p498 : 0 ≤ (0 : Int) := (by omega); have q498 : 0 < (t495.length : Int) := of_decide_eq_true ‹_›; obtain ⟨ad498, e498, hx498_0⟩ := Kd.at_int (Kd.R_reads' HO497.out).2.2 0 p498 q498; cases e498; have qi498 : (0 < t495.length) = True := eq_true (by omega); (try rw [show ((0 : Int)).toNat = 0 from rfl] at hx498_0); (try rw [Addr.add_zero'] at hx498_0); replace p498 := eq_true p498; replace q498 := eq_true q498; have p499 : 0 ≤ (1 : Int) := (by omega); have q499 : 1 < (t495.length : Int) := of_decide_eq_true ‹_›; obtain ⟨ad499, e499, hx499_0⟩ := Kd.at_int (Kd.R_reads' HO497.out).2.2 1 p499 q499; obtain rfl : ad498 = ad499 := (by injection e499); (try simp only [show (1 : Int).toNat = 1 from rfl, Nat.reduceMul, Nat.reduceEqDiff, Go.Addr.add, ↓reduceIte] at hx499_0); have qi499 : (1 < t495.length) = True := eq_true (by omega); (try rw [show ((1 : Int)).toNat = 1 from rfl] at hx499_0); replace p499 := eq_true p499; replace q499 := eq_true q499) | (go_at_call 78; (with_reducible refine (spec_FieldMul.calls (rd t495 0) (rd t495 1) t500 _ A6.out).mono ?_); rintro e w' ⟨rfl, ⟨nd, rfl⟩⟩; (try first | exact ⟨rfl, _, World.drewN_drewN _ _ _⟩ | exact ⟨rfl, _, Eq.trans (World.drewN_drewN _ _ _) (congrArg (World.drewN _) (Nat.add_assoc _ _ _))⟩); have p501 : 0 ≤ (2 : Int) := (by omega); have q501 : 2 < (t495.length : Int) := of_decide_eq_true ‹_›; obtain ⟨ad501, e501, hx501_0⟩ := Kd.at_int (Kd.R_reads' HO497.out).2.2 2 p501 q501; obtain rfl : ad498 = ad501 := (by injection e501); (try simp only [show (2 : Int).toNat = 2 from rfl, Nat.reduceMul, Nat.reduceEqDiff, Go.Addr.add, ↓reduceIte] at hx501_0); have qi501 : (2 < t495.length) = True := eq_true (by omega); (try rw [show ((2 : Int)).toNat = 2 from rfl] at hx501_0); replace p501 := eq_true p501; replace q501 := eq_true q501; have p502 : 0 ≤ (3 : Int) := (by omega); have q502 : 3 < (t495.length : Int) := of_decide_eq_true ‹_›; obtain ⟨ad502, e502, hx502_0⟩ := Kd.at_int (Kd.R_reads' HO497.out).2.2 3 p502 q502; obtain rfl : ad498 = ad502 := (by injection e502); (try simp only [show (3 : Int).toNat = 3 from rfl, Nat.reduceMul, Nat.reduceEqDiff, Go.Addr.add, ↓reduceIte] at hx502_0); have qi502 : (3 < t495.length) = True := eq_true (by omega); (try rw [show ((3 : Int)).toNat = 3 from rfl] at hx502_0); replace p502 := eq_true p502; replace q502 := eq_true q502)); try go_wp2_with (first | (go_at_call 77; (with_reducible refine (spec_l3Sum.calls k _ _ l0 _ _ l1 t495 _ ?side1 ?side2 ?side3 ?side4 A3.out).mono ?_); (case side1 => exact HR0.out); (case side2 => exact HC0.out); (case side3 => exact HR1.out); (case side4 => exact HC1.out); rintro e w10 ⟨v496, rfl, ho0, hb⟩; replace HO497 := Aside0.mk (Kd.R_lower ho0 bsZ); replace HB := bnZ hb; (try clear hb); (try clear hb2); (try clear hk); (try clear hi); (try clear ho0); obtain ⟨Ao11, co11, eo11⟩ := Kd.R_slice HO497.out; subst eo11; have p498 : 0 ≤ (0 : Int) := (by omega); have q498 : 0 < (t495.length : Int) := of_decide_eq_true ‹_›; obtain ⟨ad498, e498, hx498_0⟩ := Kd.at_int (Kd.R_reads' HO497.out).2.2 0 p498 q498; cases e498; have qi498 : (0 < t495.length) = True := eq_true (by omega); (try rw [show ((0 : Int)).toNat = 0 from rfl] at hx498_0); (try rw [Addr.add_zero'] at hx498_0); replace p498 := eq_true p498; replace q498 := eq_true q498; have p499 : 0 ≤ (1 : Int) := (by omega); have q499 : 1 < (t495.length : Int) := of_decide_eq_true ‹_›; obtain ⟨ad499, e499, hx499_0⟩ := Kd.at_int (Kd.R_reads' HO497.out).2.2 1 p499 q499; obtain rfl : ad498 = ad499 := (by injection e499); (try simp only [show (1 : Int).toNat = 1 from rfl, Nat.reduceMul, Nat.reduceEqDiff, Go.Addr.add, ↓reduceIte] at hx499_0); have qi499 : (1 < t495.length) = True := eq_true (by omega); (try rw [show ((1 : Int)).toNat = 1 from rfl] at hx499_0); replace p499 := eq_true p499; replace q499 := eq_true q499) | (go_at_call 78; (with_reducible refine (spec_FieldMul.calls (rd t495 0) (rd t495 1) t500 _ A6.out).mono ?_); rintro e w' ⟨rfl, ⟨nd, rfl⟩⟩; (try first | exact ⟨rfl, _, World.drewN_drewN _ _ _⟩ | exact ⟨rfl, _, Eq.trans (World.drewN_drewN _ _ _) (congrArg (World.drewN _) (Nat.add_assoc _ _ _))⟩); have p501 : 0 ≤ (2 : Int) := (by omega); have q501 : 2 < (t495.length : Int) := of_decide_eq_true ‹_›; obtain ⟨ad501, e501, hx501_0⟩ := Kd.at_int (Kd.R_reads' HO497.out).2.2 2 p501 q501; obtain rfl : ad498 = ad501 := (by injection e501); (try simp only [show (2 : Int).toNat = 2 from rfl, Nat.reduceMul, Nat.reduceEqDiff, Go.Addr.add, ↓reduceIte] at hx501_0); have qi501 : (2 < t495.length) = True := eq_true (by omega); (try rw [show ((2 : Int)).toNat = 2 from rfl] at hx501_0); replace p501 := eq_true p501; replace q501 := eq_true q501; have p502 : 0 ≤ (3 : Int) := (by omega); have q502 : 3 < (t495.length : Int) := of_decide_eq_true ‹_›; obtain ⟨ad502, e502, hx502_0⟩ := Kd.at_int (Kd.R_reads' HO497.out).2.2 3 p502 q502; obtain rfl : ad498 = ad502 := (by injection e502); (try simp only [show (3 : Int).toNat = 3 from rfl, Nat.reduceMul, Nat.reduceEqDiff, Go.Addr.add, ↓reduceIte] at hx502_0); have qi502 : (3 < t495.length) = True := eq_true (by omega); (try rw [show ((3 : Int)).toNat = 3 from rfl] at hx502_0); replace p502 := eq_true p502; replace q502 := eq_true q502)))
      go_ret
      exact ⟨rfl, by repeat (with_reducible first | exact HB.out | apply below_alloc | apply pw_below_drewN | apply below_drew1)⟩
     ·rw [if_neg c9] at H
      exact absurd H (by simp)
    ·rw [if_neg c8] at H
     have c8b0 : (t500 == (rd t495 2)) = false := beq_eq_false_iff_ne.mpr c8
     have c8b1 : (t500 != (rd t495 2)) = true := bne_iff_ne.mpr c8
     obtain rfl := Option.some.inj H
     go_enter Tryz.func39, Tryz.ntmps39
     go_wp2_with (first | (go_at_call 77; (with_reducible refine (spec_l3Sum.calls k _ _ l0 _ _ l1 t495 _ ?side1 ?side2 ?side3 ?side4 A3.out).mono ?_); (case side1 => exact HR0.out); (case side2 => exact HC0.out); (case side3 => exact HR1.out); (case side4 => exact HC1.out); rintro e w12 ⟨v496, rfl, ho0, hb⟩; replace HO497 := Aside0.mk (Kd.R_lower ho0 bsZ); replace HB := bnZ hb; (try clear hb); (try clear hb2); (try clear hk); (try clear hi); (try clear ho0); obtain ⟨Ao13, co13, eo13⟩ := Kd.R_slice HO497.out; subst eo13; have p498 : 0 ≤ (0 : Int) := (by omega); have q498 : 0 < (t495.length : Int) := of_decide_eq_true ‹_›; obtain ⟨ad498, e498, hx498_0⟩ := Kd.at_int (Kd.R_reads' HO497.out).2.2 0 p498 q498; cases e498; have qi498 : (0 < t495.length) = True := eq_true (by omega); (try rw [show ((0 : Int)).toNat = 0 from rfl] at hx498_0); (try rw [Addr.add_zero'] at hx498_0); replace p498 := eq_true p498; replace q498 := eq_true q498; have p499 : 0 ≤ (1 : Int) := (by omega); have q499 : 1 < (t495.length : Int) := of_decide_eq_true ‹_›; obtain ⟨ad499, e499, hx499_0⟩ := Kd.at_int (Kd.R_reads' HO497.out).2.2 1 p499 q499; obtain rfl : ad498 = ad499 := (by injection e499); (try simp only [show (1 : Int).toNat = 1 from rfl, Nat.reduceMul, Nat.reduceEqDiff, Go.Addr.add, ↓reduceIte] at hx499_0); have qi499 : (1 < t495.length) = True := eq_true (by omega); (try rw [show ((1 : Int)).toNat = 1 from rfl] at hx499_0); replace p499 := eq_true p499; replace q499 := eq_true q499) | (go_at_call 78; (with_reducible refine (spec_FieldMul.calls (rd t495 0) (rd t495 1) t500 _ A6.out).mono ?_); rintro e w' ⟨rfl, ⟨nd, rfl⟩⟩; (try first | exact ⟨rfl, _, World.drewN_drewN _ _ _⟩ | exact ⟨rfl, _, Eq.trans (World.drewN_drewN _ _ _) (congrArg (World.drewN _) (Nat.add_assoc _ _ _))⟩); have p501 : 0 ≤ (2 : Int) := (by omega); have q501 : 2 < (t495.length : Int) := of_decide_eq_true ‹_›; obtain ⟨ad501, e501, hx501_0⟩ := Kd.at_int (Kd.R_reads' HO497.out).2.2 2 p501 q501; obtain rfl : ad498 = ad501 := (by injection e501); (try simp only [show (2 : Int).toNat = 2 from rfl, Nat.reduceMul, Nat.reduceEqDiff, Go.Addr.add, ↓reduceIte] at hx501_0); have qi501 : (2 < t495.length) = True := eq_true (by omega); (try rw [show ((2 : Int)).toNat = 2 from rfl] at hx501_0); replace p501 := eq_true p501; replace q501 := eq_true q501))
     repeat (go_quiet (first | (go_at_call 77; (with_reducible refine (spec_l3Sum.calls k _ _ l0 _ _ l1 t495 _ ?side1 ?side2 ?side3 ?side4 A3.out).mono ?_); (case side1 => exact HR0.out); (case side2 => exact HC0.out); (case side3 => exact HR1.out); (case side4 => exact HC1.out); rintro e w12 ⟨v496, rfl, ho0, hb⟩; have n0_ := Aside0.mk (Kd.R_lower ho0 bsZ); have n1_ := bnZ hb; clear HB; have HO497 := n0_; have HB := n1_; clear n0_ n1_; (try clear hb); (try clear hb2); (try clear hk); (try clear hi); (try clear ho0); obtain ⟨Ao13, co13, eo13⟩ := Kd.R_slice HO497.out; subst eo13; have p498 : 0 ≤ (0 : Int) := (by omega); have q498 : 0 < (t495.length : Int) := of_decide_eq_true ‹_›; obtain ⟨ad498, e498, hx498_0⟩ := Kd.at_int (Kd.R_reads' HO497.out).2.2 0 p498 q498; cases e498; have qi498 : (0 < t495.length) = True := eq_true (by omega); (try rw [show ((0 : Int)).toNat = 0 from rfl] at hx498_0); (try rw [Addr.add_zero'] at hx498_0); replace p498 := eq_true p498; replace q498 := eq_true q498; have p499 : 0 ≤ (1 : Int) := (by omega); have q499 : 1 < (t495.length : Int) := of_decide_eq_true ‹_›; obtain ⟨ad499, e499, hx499_0⟩ := Kd.at_int (Kd.R_reads' HO497.out).2.2 1 p499 q499; obtain rfl : ad498 = ad499 := (by injection e499); (try simp only [show (1 : Int).toNat = 1 from rfl, Nat.reduceMul, Nat.reduceEqDiff, Go.Addr.add, ↓reduceIte] at hx499_0); have qi499 : (1 < t495.length) = True := eq_true (by omega); (try rw [show ((1 : Int)).toNat = 1 from rfl] at hx499_0); replace p499 := eq_true p499; replace q499 := eq_true q499) | (go_at_call 78; (with_reducible refine (spec_FieldMul.calls (rd t495 0) (rd t495 1) t500 _ A6.out).mono ?_); rintro e w' ⟨rfl, ⟨nd, rfl⟩⟩; (try first | exact ⟨rfl, _, World.drewN_drewN _ _ _⟩ | exact ⟨rfl, _, Eq.trans (World.drewN_drewN _ _ _) (congrArg (World.drewN _) (Nat.add_assoc _ _ _))⟩); have p501 : 0 ≤ (2 : Int) := (by omega); have q501 : 2 < (t495.length : Int) := of_decide_eq_true ‹_›; obtain ⟨ad501, e501, hx501_0⟩ := Kd.at_int (Kd.R_reads' HO497.out).2.2 2 p501 q501; obtain rfl : ad498 = ad501 := (by injection e501); (try simp only [show (2 : Int).toNat = 2 from rfl, Nat.reduceMul, Nat.reduceEqDiff, Go.Addr.add, ↓reduceIte] at hx501_0); have qi501 : (2 < t495.length) = True := eq_true (by omega); (try rw [show ((2 : Int)).toNat = 2 from rfl] at hx501_0); replace p501 := eq_true p501; replace q501 := eq_true q501)); try go_wp2_with (first | (go_at_call 77; (with_reducible refine (spec_l3Sum.calls k _ _ l0 _ _ l1 t495 _ ?side1 ?side2 ?side3 ?side4 A3.out).mono ?_); (case side1 => exact HR0.out); (case side2 => exact HC0.out); (case side3 => exact HR1.out); (case side4 => exact HC1.out); rintro e w12 ⟨v496, rfl, ho0, hb⟩; replace HO497 := Aside0.mk (Kd.R_lower ho0 bsZ); replace HB := bnZ hb; (try clear hb); (try clear hb2); (try clear hk); (try clear hi); (try clear ho0); obtain ⟨Ao13, co13, eo13⟩ := Kd.R_slice HO497.out; subst eo13; have p498 : 0 ≤ (0 : Int) := (by omega); have q498 : 0 < (t495.length : Int) := of_decide_eq_true ‹_›; obtain ⟨ad498, e498, hx498_0⟩ := Kd.at_int (Kd.R_reads' HO497.out).2.2 0 p498 q498; cases e498; have qi498 : (0 < t495.length) = True := eq_true (by omega); (try rw [show ((0 : Int)).toNat = 0 from rfl] at hx498_0); (try rw [Addr.add_zero'] at hx498_0); replace p498 := eq_true p498; replace q498 := eq_true q498; have p499 : 0 ≤ (1 : Int) := (by omega); have q499 : 1 < (t495.length : Int) := of_decide_eq_true ‹_›; obtain ⟨ad499, e499, hx499_0⟩ := Kd.at_int (Kd.R_reads' HO497.out).2.2 1 p499 q499; obtain rfl : ad498 = ad499 := (by injection e499); (try simp only [show (1 : Int).toNat = 1 from rfl, Nat.reduceMul, Nat.reduceEqDiff, Go.Addr.add, ↓reduceIte] at hx499_0); have qi499 : (1 < t495.length) = True := eq_true (by omega); (try rw [show ((1 : Int)).toNat = 1 from rfl] at hx499_0); replace p499 := eq_true p499; replace q499 := eq_true q499) | (go_at_call 78; (with_reducible refine (spec_FieldMul.calls (rd t495 0) (rd t495 1) t500 _ A6.out).mono ?_); rintro e w' ⟨rfl, ⟨nd, rfl⟩⟩; (try first | exact ⟨rfl, _, World.drewN_drewN _ _ _⟩ | exact ⟨rfl, _, Eq.trans (World.drewN_drewN _ _ _) (congrArg (World.drewN _) (Nat.add_assoc _ _ _))⟩); have p501 : 0 ≤ (2 : Int) := (by omega); have q501 : 2 < (t495.length : Int) := of_decide_eq_true ‹_›; obtain ⟨ad501, e501, hx501_0⟩ := Kd.at_int (Kd.R_reads' HO497.out).2.2 2 p501 q501; obtain rfl : ad498 = ad501 := (by injection e501); (try simp only [show (2 : Int).toNat = 2 from rfl, Nat.reduceMul, Nat.reduceEqDiff, Go.Addr.add, ↓reduceIte] at hx501_0); have qi501 : (2 < t495.length) = True := eq_true (by omega); (try rw [show ((2 : Int)).toNat = 2 from rfl] at hx501_0); replace p501 := eq_true p501; replace q501 := eq_true q501)))
     go_ret
     exact ⟨rfl, by repeat (with_reducible first | exact HB.out | apply below_alloc | apply pw_below_drewN | apply below_drew1)⟩
   ·rw [if_neg c7] at H
    exact absurd H (by simp)
  ·rw [if_neg c5] at H
   exact absurd H (by simp)
 ·rw [if_neg c4] at H
  exact absurd H (by simp)
end Go.Proofs.YtlgbblaidohljaaGreatDoor.Zk
