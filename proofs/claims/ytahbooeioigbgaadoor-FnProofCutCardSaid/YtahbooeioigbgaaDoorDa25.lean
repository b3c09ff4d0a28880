import Derived.Test.YtahbooeioigbgaaDoorZ
import Derived.Test.YtahbooeioigbgaaDoorDa0
import Derived.Test.YtahbooeioigbgaaDoorDa1
import Derived.Test.YtahbooeioigbgaaDoorDa2
import Derived.Test.YtahbooeioigbgaaDoorDa6
namespace Go.Proofs.YtahbooeioigbgaaDoor.Da
open Go.RowKit Go.Proofs.YtahbooeioigbgaaDoorW.PrintWords Go.Proofs.YtahbooeioigbgaaDoorW.PrintLast Go.Proofs.YtahbooeioigbgaaDoorW.PrintMore Go.Proofs.YtahbooeioigbgaaDoor.Z
attribute [local go_sem] max2_int min2_int max_two min_two max_three min_three max_four min_four
set_option linter.unusedVariables false
set_option linter.unusedSimpArgs false
theorem c63x25 : Ent Tryd.prog 63 := ent Tryd.func63 (by kernel_rfl) rfl
theorem c98x25 : Ent Tryd.prog 98 := ent Tryd.func98 (by kernel_rfl) rfl
def spec_ProofLen.f (a0 : Int) : Option (Int) := (spec_l11Kind.f a0).bind fun t586 => (if t586 = true then ((spec_TypeLen.f a0).bind fun t587 => (some (wrap64 ((wrap64 (3 * t587)) + 3)))) else (some 0))
set_option maxHeartbeats 8000000 in
set_option maxRecDepth 100000 in
theorem spec_ProofLen.calls (a0 : Int) (r : Int) (w : World) (h : spec_ProofLen.f a0 = some r) :
  Calls Tryd.prog 65 #[.int .i64 a0] w fun e w' => e = .returned (.int .i64 r) ∧ Drawn0 w w' := by
 have H := h
 unfold spec_ProofLen.f at H
 clear h
 replace H := bnd H
 obtain ⟨t586, A2, H⟩ := H
 by_cases c3 : t586 = true
 ·subst c3
  rw [if_pos rfl] at H
  replace H := bnd H
  obtain ⟨t587, A4, H⟩ := H
  obtain rfl := Option.some.inj H
  go_enter Tryd.func65, Tryd.ntmps65
  go_wp2_with (first | (refine gsD c63x25 (spec_l11Kind.calls a0 true _ A2.out) ?_; intro nd) | (refine gsD c98x25 (spec_TypeLen.calls a0 t587 _ A4.out) ?_; intro nd))
  go_ret
  exact ⟨rfl, ⟨_, rfl⟩⟩
 ·replace c3 := Bool.eq_false_iff.mpr c3
  subst c3
  rw [if_neg (show ¬ (false = true) by decide)] at H
  obtain rfl := Option.some.inj H
  go_enter Tryd.func65, Tryd.ntmps65
  go_wp2_with (first | (refine gsD c63x25 (spec_l11Kind.calls a0 false _ A2.out) ?_; intro nd))
  go_ret
  exact ⟨rfl, ⟨_, rfl⟩⟩
def spec_l12Cut.f (a0 : Int) (l1 : List Int) : Option (List Int × Int × Int × List Int) := (spec_TypeLen.f a0).bind fun t589 => ((some (([] : List Int) : List Int)).bind fun y590 => (if 0 ≤ t589 then (if t589 ≤ (l1.length : Int) then (if y590.length + (l1.take (t589 : Int).toNat).length < 17592186044416 then (if t589 < (l1.length : Int) then (if 0 ≤ (wrap64 (t589 + 1)) then (if (wrap64 (t589 + 1)) < (l1.length : Int) then ((some (([] : List Int) : List Int)).bind fun y599 => (if 0 ≤ (wrap64 (t589 + 2)) then (if (wrap64 (t589 + 2)) ≤ (l1.length : Int) then (if y599.length + (l1.drop ((wrap64 (t589 + 2)) : Int).toNat).length < 17592186044416 then (some ((y590 ++ (l1.take (t589 : Int).toNat)), rd l1 t589, rd l1 (wrap64 (t589 + 1)), (y599 ++ (l1.drop ((wrap64 (t589 + 2)) : Int).toNat)))) else (none)) else (none)) else (none))) else (none)) else (none)) else (none)) else (none)) else (none)) else (none)))
def spec_l12Cut.T2 : Bool × List (List Nat × List Nat) := (true, [([], []), ([], []), ([], []), ([1, 2], [1, 2]), ([0, 3], [0, 3]), ([], []), ([], []), ([5, 6], [5, 6]), ([7], [7]), ([], []), ([], []), ([10], [10]), ([9, 11], [9, 11]), ([12], [12]), ([], []), ([], []), ([], []), ([16], [16]), ([15, 17], [15, 17]), ([14, 18, 4], [14, 18]), ([8, 13, 19], [8, 13, 19]), ([4, 19, 0, 1, 2, 3, 4], [4]), ([20, 21, 0, 1, 2, 3, 4, 5, 6, 7, 8, 9, 10, 11, 12, 13, 14, 15, 16, 17, 18, 19, 20, 21], [20])])
def spec_l12Cut.B2 : List Nat := [0, 0, 0, 6, 15, 0, 0, 96, 224, 0, 0, 1024, 3584, 7680, 0, 0, 0, 65536, 229376, 507935, 1048575, 1032223, 4194303]
theorem spec_l12Cut.tab2 : rtab .any (opsOf Tryd.f78 2) = spec_l12Cut.T2 := by kernel_rfl
theorem spec_l12Cut.bits2 : waitsOk spec_l12Cut.T2.2 spec_l12Cut.B2 = true := by kernel_rfl
set_option maxHeartbeats 8000000 in
set_option maxRecDepth 100000 in
theorem spec_l12Cut.calls (a0 : Int) (A1 : Option Addr) (c1 : Nat) (l1 : List Int) (r1 : List Int) (r2 : Int) (r3 : Int) (r4 : List Int) (w : World) (hr1 : Kd.C (Kd.int .i64) w A1 l1.length l1) (hc1 : l1.length ≤ c1) (h : spec_l12Cut.f a0 l1 = some (r1, r2, r3, r4)) :
  Calls Tryd.prog 78 #[.int .i64 a0, .slice A1 l1.length c1] w fun e w' => ∃ v0_ v3_ : Value, e = .returned (.tuple #[v0_, .agg #[.int .i64 r2, .int .i64 r3, v3_]]) ∧ Kd.R (Kd.int .i64) 3 w' w.heap.size (fun k_ => some k_ ≠ (v3_ : Value).ownBlock) v0_ r1 ∧ Kd.R (Kd.int .i64) 3 w' w.heap.size (fun k_ => some k_ ≠ (v0_ : Value).ownBlock) v3_ r4 ∧ Below w.heap.size w w' := by
 have hu29 := Tryd.underlying29
 have HR1 := Aside0.mk hr1
 have HC1 := Aside0.mk hc1
 clear hr1 hc1
 have HB := Aside0.mk (Below.refl w.heap.size w)
 have H := h
 unfold spec_l12Cut.f at H
 clear h
 replace H := bnd H
 obtain ⟨t589, A3, H⟩ := H
 obtain ⟨y590, hy590⟩ : ∃ y_ : List Int, y_ = (([] : List Int)) := ⟨_, rfl⟩
 replace H : (if 0 ≤ t589 then (if t589 ≤ (l1.length : Int) then (if y590.length + (l1.take (t589 : Int).toNat).length < 17592186044416 then (if t589 < (l1.length : Int) then (if 0 ≤ (wrap64 (t589 + 1)) then (if (wrap64 (t589 + 1)) < (l1.length : Int) then ((some (([] : List Int) : List Int)).bind fun y599 => (if 0 ≤ (wrap64 (t589 + 2)) then (if (wrap64 (t589 + 2)) ≤ (l1.length : Int) then (if y599.length + (l1.drop ((wrap64 (t589 + 2)) : Int).toNat).length < 17592186044416 then (some ((y590 ++ (l1.take (t589 : Int).toNat)), rd l1 t589, rd l1 (wrap64 (t589 + 1)), (y599 ++ (l1.drop ((wrap64 (t589 + 2)) : Int).toNat)))) else (none)) else (none)) else (none))) else (none)) else (none)) else (none)) else (none)) else (none)) else (none)) = some (r1, r2, r3, r4) := by first | (rw [hy590]; with_reducible exact H) | (have H2_ := (Option.bind_some _ _).symm.trans H; rw [hy590]; with_reducible exact H2_) | (have H2_ := (Option.bind_some _ _).symm.trans H; with_reducible exact H2_) | with_reducible exact H | (rw [hy590]; exact H) | exact H
 have Ny590 := Aside0.mk hy590
 clear hy590
 by_cases c4 : 0 ≤ t589
 ·rw [if_pos c4] at H
  have c4b0 := eq_true c4
  have c4b1 : decide (0 ≤ t589) = true := decide_eq_true c4
  clear c4
  by_cases c5 : t589 ≤ (l1.length : Int)
  ·rw [if_pos c5] at H
   have c5b0 := eq_true c5
   have c5b1 : decide (t589 ≤ (l1.length : Int)) = true := decide_eq_true c5
   clear c5
   by_cases c6 : y590.length + (l1.take (t589 : Int).toNat).length < 17592186044416
   ·rw [if_pos c6] at H
    have LMc6 := Aside0.mk c6
    clear c6
    obtain ⟨y594, hy594⟩ : ∃ y_ : List Int, y_ = (y590 ++ (l1.take (t589 : Int).toNat)) := ⟨_, rfl⟩
    replace H : (if t589 < (l1.length : Int) then (if 0 ≤ (wrap64 (t589 + 1)) then (if (wrap64 (t589 + 1)) < (l1.length : Int) then ((some (([] : List Int) : List Int)).bind fun y599 => (if 0 ≤ (wrap64 (t589 + 2)) then (if (wrap64 (t589 + 2)) ≤ (l1.length : Int) then (if y599.length + (l1.drop ((wrap64 (t589 + 2)) : Int).toNat).length < 17592186044416 then (some (y594, rd l1 t589, rd l1 (wrap64 (t589 + 1)), (y599 ++ (l1.drop ((wrap64 (t589 + 2)) : Int).toNat)))) else (none)) else (none)) else (none))) else (none)) else (none)) else (none)) = some (r1, r2, r3, r4) := by rw [hy594]; with_reducible exact H
    have Ny594 := Aside0.mk hy594
    clear hy594
    by_cases c7 : t589 < (l1.length : Int)
    ·rw [if_pos c7] at H
     have c7b0 : decide (t589 < (l1.length : Int)) = true := decide_eq_true c7
     clear c7
     obtain ⟨ji8, hji8⟩ : ∃ j_ : Int, (wrap64 (t589 + 1)) = j_ := ⟨_, rfl⟩
     replace H : (if 0 ≤ (ji8) then (if (ji8) < (l1.length : Int) then ((some (([] : List Int) : List Int)).bind fun y599 => (if 0 ≤ (wrap64 (t589 + 2)) then (if (wrap64 (t589 + 2)) ≤ (l1.length : Int) then (if y599.length + (l1.drop ((wrap64 (t589 + 2)) : Int).toNat).length < 17592186044416 then (some (y594, rd l1 t589, rd l1 (ji8), (y599 ++ (l1.drop ((wrap64 (t589 + 2)) : Int).toNat)))) else (none)) else (none)) else (none))) else (none)) else (none)) = some (r1, r2, r3, r4) := by first | (rw [hji8] at H; exact H) | (simp only [hji8] at H ⊢; exact H)
     (try rw [hji8] at A3)
     have hji8w : (IntKind.i64.wrap (t589 + 1)) = ji8 := (i64_w _).trans hji8
     by_cases c9 : 0 ≤ (ji8)
     ·rw [if_pos c9] at H
      have c9b0 : decide (0 ≤ (ji8)) = true := decide_eq_true c9
      clear c9
      by_cases c10 : (ji8) < (l1.length : Int)
      ·rw [if_pos c10] at H
       have c10b0 : decide ((ji8) < (l1.length : Int)) = true := decide_eq_true c10
       clear c10
       obtain ⟨y599, hy599⟩ : ∃ y_ : List Int, y_ = (([] : List Int)) := ⟨_, rfl⟩
       replace H : (if 0 ≤ (wrap64 (t589 + 2)) then (if (wrap64 (t589 + 2)) ≤ (l1.length : Int) then (if y599.length + (l1.drop ((wrap64 (t589 + 2)) : Int).toNat).length < 17592186044416 then (some (y594, rd l1 t589, rd l1 (ji8), (y599 ++ (l1.drop ((wrap64 (t589 + 2)) : Int).toNat)))) else (none)) else (none)) else (none)) = some (r1, r2, r3, r4) := by first | (rw [hy599]; with_reducible exact H) | (have H2_ := (Option.bind_some _ _).symm.trans H; rw [hy599]; with_reducible exact H2_) | (have H2_ := (Option.bind_some _ _).symm.trans H; with_reducible exact H2_) | with_reducible exact H | (rw [hy599]; exact H) | exact H
       have Ny599 := Aside0.mk hy599
       clear hy599
       obtain ⟨ji11, hji11⟩ : ∃ j_ : Int, (wrap64 (t589 + 2)) = j_ := ⟨_, rfl⟩
       replace H : (if 0 ≤ (ji11) then (if (ji11) ≤ (l1.length : Int) then (if y599.length + (l1.drop ((ji11) : Int).toNat).length < 17592186044416 then (some (y594, rd l1 t589, rd l1 (ji8), (y599 ++ (l1.drop ((ji11) : Int).toNat)))) else (none)) else (none)) else (none)) = some (r1, r2, r3, r4) := by first | (rw [hji11] at H; exact H) | (simp only [hji11] at H ⊢; exact H)
       (try rw [hji11] at A3)
       have hji11w : (IntKind.i64.wrap (t589 + 2)) = ji11 := (i64_w _).trans hji11
       by_cases c12 : 0 ≤ (ji11)
       ·rw [if_pos c12] at H
        have c12b0 := eq_true c12
        have c12b1 : decide (0 ≤ (ji11)) = true := decide_eq_true c12
        clear c12
        by_cases c13 : (ji11) ≤ (l1.length : Int)
        ·rw [if_pos c13] at H
         have c13b0 := eq_true c13
         have c13b1 : decide ((ji11) ≤ (l1.length : Int)) = true := decide_eq_true c13
         clear c13
         by_cases c14 : y599.length + (l1.drop ((ji11) : Int).toNat).length < 17592186044416
         ·rw [if_pos c14] at H
          have LMc14 := Aside0.mk c14
          clear c14
          obtain ⟨y603, hy603⟩ : ∃ y_ : List Int, y_ = (y599 ++ (l1.drop ((ji11) : Int).toNat)) := ⟨_, rfl⟩
          replace H : (some (y594, rd l1 t589, rd l1 (ji8), y603)) = some (r1, r2, r3, r4) := by rw [hy603]; with_reducible exact H
          have Ny603 := Aside0.mk hy603
          clear hy603
          simp only [Option.some.injEq, Prod.mk.injEq] at H
          obtain ⟨rfl, rfl, rfl, rfl⟩ := H
          go_enter Tryd.func78, Tryd.ntmps78
          try go_wp2_with (first | ((with_reducible refine gate_dst (N := 5) rfl ?_); refine box_event ?hg (N := 5) ?hd (cs := #[.int .i64 0, .int .i64 0, .slice none 0 0]) (t := 29) ?hr ?_; (case hd => rfl); (case hg => rfl); (case hr => first | (go_simp; done) | (go_simp; rfl)); intro gb588 hg w15 hbox hb; replace BK588 := Aside0.mk (hbox); replace GW588 := Aside0.mk ((by rw [hg]; exact (below_size (by repeat (with_reducible first | exact HB.out | apply below_alloc | apply pw_below_drewN | apply below_drew1))) : w.heap.size ≤ gb588)); replace GE588 := Aside0.mk ((by rw [hg]; exact (below_size (by repeat (with_reducible first | exact HB.out | apply below_alloc | apply pw_below_drewN | apply below_drew1))) : w.heap.size ≤ gb588)); replace HB := Aside0.mk (below_step (by repeat (with_reducible first | exact HB.out | apply below_alloc | apply pw_below_drewN | apply below_drew1)) hb); clear hb hbox hg) | (refine gsD c98x25 (spec_TypeLen.calls a0 t589 _ A3.out) ?_; intro nd; (try (rw [drewN_self w15]; generalize hq_ : World.drewN w15 _ = w15; have n0_ : Aside0 (w15.heap[gb588]? = some (.cells #[.int .i64 0, .int .i64 0, .slice none 0 0] 29 (0, 0))) := ⟨by rw [← hq_]; exact (by exact BK588.out)⟩; have n1_ : Aside0 (Below w.heap.size w w15) := ⟨by rw [← hq_]; exact (by repeat (with_reducible first | exact HB.out | apply below_alloc | apply pw_below_drewN | apply below_drew1 | refine below_set ?_ GE588.out))⟩; clear BK588 HB hq_; have BK588 := n0_; have HB := n1_; clear n0_ n1_))))
          replace BK588 := Aside0.mk (blk_drew BK588.out)
          replace HB := Aside0.mk (below_drew1 HB.out)
          obtain ⟨i017, hi017, _, hsz17, _⟩ := info_parts info3
          obtain ⟨hcut17, hA17, hC17⟩ := print_take_of (P := Tryd.prog) (Value.int .i64) 0 22 3 .i64 Tryd.underlying22 hi017 hsz17 A1 c1 l1 t589 (of_decide_eq_true ‹_›) (of_decide_eq_true ‹_›) HC1.out
          have HR593 := Aside0.mk (Kd.C_of_reads (h1 := fun _ => rfl) (hA17 _ (Kd.reads_of_C HR1.out)))
          have HC593 := Aside0.mk hC17
          clear hA17 hC17 hi017 hsz17
          have p597 : 0 ≤ (t589 : Int) := of_decide_eq_true ‹_›
          have q597 : t589 < (l1.length : Int) := of_decide_eq_true ‹_›
          obtain ⟨ad597, e597, hx597_0⟩ := Kd.at_int HR1.out t589 p597 q597
          have hw597_0 := hx597_0
          cases e597
          replace hx597_0 := (HB.out.cell (World.block_lt_of_cell? w _ hx597_0)).trans hx597_0
          replace p597 := eq_true p597
          replace q597 := eq_true q597
          have p598 : 0 ≤ ((ji8) : Int) := of_decide_eq_true ‹_›
          have q598 : (ji8) < (l1.length : Int) := of_decide_eq_true ‹_›
          obtain ⟨ad598, e598, hx598_0⟩ := Kd.at_int HR1.out (ji8) p598 q598
          have hw598_0 := hx598_0
          obtain rfl : ad597 = ad598 := (by injection e598)
          replace hx598_0 := (HB.out.cell (World.block_lt_of_cell? w _ hx598_0)).trans hx598_0
          replace p598 := eq_true p598
          replace q598 := eq_true q598
          obtain ⟨i018, hi018, _, hsz18, _⟩ := info_parts info3
          obtain ⟨A18, hcut18, hA18, hC18⟩ := print_drop_of (P := Tryd.prog) (Value.int .i64) 0 22 3 .i64 Tryd.underlying22 hi018 hsz18 (some ad597) c1 l1 (ji11) (of_decide_eq_true ‹_›) (of_decide_eq_true ‹_›) HC1.out
          have HR602 := Aside0.mk (Kd.C_of_reads (h1 := fun _ => rfl) (hA18 _ (Kd.reads_of_C HR1.out)))
          have HC602 := Aside0.mk hC18
          clear hA18 hC18 hi018 hsz18
          refine start_ (n := 23) (S := fun w' => w'.cell? (ad597.add (t589).toNat) = some (.int .i64 (rd l1 t589)) ∧ w'.cell? (ad597.add ((ji8)).toNat) = some (.int .i64 (rd l1 (ji8)))) (ds := []) (bs 23 0) (by kernel_rfl) rfl rfl ⟨((HB.out.cell (World.block_lt_of_cell? w _ hw597_0)).trans hw597_0), ((HB.out.cell (World.block_lt_of_cell? w _ hw598_0)).trans hw598_0)⟩ (fun hHeld => ?_); refine with_tabW spec_l12Cut.tab2 spec_l12Cut.bits2 (fun HT_ HW_ => ?_)
          generalize w15.drew = w16 at BK588 HB HR593 HR602 hx597_0 hx598_0 hHeld ⊢
          refine pZ 1 (some 10) (bs 23 2) rfl rfl (any_of HT_.out (by kernel_rfl)) ?_
          refine pZ 2 (some 11) (bs 23 6) rfl rfl (any_of HT_.out (by kernel_rfl)) ?_
          refine pZ 3 (some 12) (bs 23 14) rfl rfl (any_of HT_.out (by kernel_rfl)) ?_
          refine pZ 5 (some 14) (bs 23 46) rfl rfl (any_of HT_.out (by kernel_rfl)) ?_
          refine pZ 6 (some 15) (bs 23 110) rfl rfl (any_of HT_.out (by kernel_rfl)) ?_
          refine pZ 7 (some 16) (bs 23 238) rfl rfl (any_of HT_.out (by kernel_rfl)) ?_
          refine pZ 9 (some 18) (bs 23 750) rfl rfl (any_of HT_.out (by kernel_rfl)) ?_
          refine pZ 10 (some 19) (bs 23 1774) rfl rfl (any_of HT_.out (by kernel_rfl)) ?_
          refine pZ 11 (some 20) (bs 23 3822) rfl rfl (any_of HT_.out (by kernel_rfl)) ?_
          refine pZ 12 (some 21) (bs 23 7918) rfl rfl (any_of HT_.out (by kernel_rfl)) ?_
          refine pZ 15 (some 24) (bs 23 40686) rfl rfl (any_of HT_.out (by kernel_rfl)) ?_
          refine pZ 16 (some 25) (bs 23 106222) rfl rfl (any_of HT_.out (by kernel_rfl)) ?_
          refine pZ 17 (some 26) (bs 23 237294) rfl rfl (any_of HT_.out (by kernel_rfl)) ?_
          refine pZ 18 (some 27) (bs 23 499438) rfl rfl (any_of HT_.out (by kernel_rfl)) ?_
          refine tZ 8 (some 17) (bs 23 499694) rfl rfl (take_ofW HT_.out HW_.out (by kernel_rfl)) hHeld (by rintro w' ⟨s0, s1⟩; go_simp; with_reducible rfl) ?_
          refine tZ 13 (some 22) (bs 23 507886) rfl rfl (take_ofW HT_.out HW_.out (by kernel_rfl)) hHeld (by rintro w' ⟨s0, s1⟩; go_simp; with_reducible rfl) ?_
          refine join_ (σ := Value × Value × Value) 4 (bs 23 524287) (fun s_ => [(9, s_.1), (13, s_.2.1), (23, s_.2.2)]) (fun s_ w' => (w'.cell? (ad597.add (t589).toNat) = some (.int .i64 (rd l1 t589)) ∧ w'.cell? (ad597.add ((ji8)).toNat) = some (.int .i64 (rd l1 (ji8)))) ∧ (Kd.R (Kd.int .i64) 3 w' w.heap.size (fun k_ => some k_ ≠ (s_.2.2 : Value).ownBlock) s_.2.1 y594) ∧ (Kd.R (Kd.int .i64) 3 w' w.heap.size (fun k_ => some k_ ≠ (s_.2.1 : Value).ownBlock) s_.2.2 y599) ∧ (w'.heap[gb588]? = some (.cells #[.int .i64 0, .int .i64 0, .slice none 0 0] 29 (0, 0))) ∧ (Below w.heap.size w w')) ?_ ?_
          rotate_left
          ·intro hCont
           refine two_ (i := 0) (j := 14) (Ni := some 9) (Nj := some 23) (bs 23 507887) (bs 23 524270) rfl rfl rfl rfl (two_of HT_.out (by kernel_rfl)) (by decide) (by decide) (fun K hK => ?_) (fun K hK => ?_)
           ·skip
            refine Kd.R_lit_step (Kd.int .i64) _ 3 ?hg (N := 9) ?hd (xs := ([] : List Int)) (inner := []) (ok := fun _ => True) (okp := fun _ => True) ?hr ?hp (fun _ hk => hk) trivial (Below.refl _ _) (Nat.le_refl _) (by simp) ?_; (case hd => rfl); (case hg => rfl); (case hr => first | (go_simp; done) | (go_simp; rfl)); (case hp => exact (Reps.none _ _))
            intro v591 w19 ho20 hb hg_ hnew_
            clear hg_ hnew_
            (first | rw [← Ny590.out] at ho20 | (simp only [Int.reduceToNat] at ho20; rw [← Ny590.out] at ho20))
            replace HO592 := Aside0.mk (Kd.R_lower ho20 (below_size (by repeat (with_reducible first | exact HB.out | apply below_alloc | apply pw_below_drewN | apply below_drew1 | refine below_set ?_ GE588.out))))
            replace BK588 := Aside0.mk (blk_below (g := gb588) (o := .cells #[.int .i64 0, .int .i64 0, .slice none 0 0] 29 (0, 0)) (by exact BK588.out) hb)
            replace HB := Aside0.mk (below_step (HB.out) hb)
            clear hb ho20
            refine hK.out _ _ ⟨((HB.out.cell (World.block_lt_of_cell? w _ hw597_0)).trans hw597_0), ((HB.out.cell (World.block_lt_of_cell? w _ hw598_0)).trans hw598_0)⟩ (fun hHeld => ?_)
            clear hK K
            refine norm_ (a' := ?_) ?_ ?_
            rotate_left
            ·show Act.put _ (some 9) _ = _
             simp only [Act.put, List.setIfInBounds_toArray, List.set_cons_zero, List.set_cons_succ, i64_w, i32_w]
             rfl
            refine two_ (i := 4) (j := 14) (Ni := some 13) (Nj := some 23) (bs 23 507903) (bs 23 524271) rfl rfl rfl rfl (two_of HT_.out (by kernel_rfl)) (by decide) (by decide) (fun K hK => ?_) (fun K hK => ?_)
            ·skip
             refine Kd.R_append_rows_step (Kd.int .i64) (w0 := w) w.heap.size (by rfl) (.tmp 9) (.tmp 12) 22 3 (.int .i64 0) 8 rfl Tryd.underlying22 info3 rfl (by decide) (by omega) v591 y590 (l1.take (t589 : Int).toNat) _ _ _ (fun _ => True) (fun _ => False) rfl rfl ?aO ?aR (fun _ _ h => h) (fun _ h => h.elim) ?aF ?aB ?aS ?aL ?_
             (case aR => first | (refine readsRow_len ?_ (show (l1.take (t589 : Int).toNat).length = t589.toNat from (by rw [List.length_take]; have h_ : (t589 : Int) ≤ (l1.length : Int) := of_decide_eq_true ‹_›; omega)); repeat (first | exact (Kd.C_below HR593.out HB.out) | (with_reducible refine Kd.C_alloc ?_ _) | (with_reducible refine Kd.C_drewN ?_ _) | (with_reducible refine Kd.C_drew ?_))) | (repeat (first | exact (Kd.C_below HR593.out HB.out) | (with_reducible refine Kd.C_alloc ?_ _) | (with_reducible refine Kd.C_drewN ?_ _) | (with_reducible refine Kd.C_drew ?_))))
             (case aB => exact (HB.out))
             (case aF => exact (fun _ _ => trivial))
             (case aO => exact (HO592.out))
             (case aS => exact (below_size (HB.out)))
             (case aL => have := LMc6.out; have hlx_ := (show (l1.take (t589 : Int).toNat).length = t589.toNat from (by rw [List.length_take]; have h_ : (t589 : Int) ≤ (l1.length : Int) := of_decide_eq_true ‹_›; omega)); omega)
             intro v595 w21 ho hb hg hat
             rw [← Ny594.out] at ho
             have n0_ := Aside0.mk (blk_grown (g := gb588) (o := .cells #[.int .i64 0, .int .i64 0, .slice none 0 0] 29 (0, 0)) (by exact BK588.out) hg (Kd.R_ne HO592.out BK588.out (by decide)))
             have n1_ := Aside0.mk (hb)
             have n2_ := Aside0.mk (ho)
             clear BK588
             clear HB
             clear HO592
             have BK588 := n0_
             have HB := n1_
             have HO596 := n2_
             clear n0_ n1_ n2_
             clear ho hb hg hat
             refine hK.out _ _ ⟨((HB.out.cell (World.block_lt_of_cell? w _ hw597_0)).trans hw597_0), ((HB.out.cell (World.block_lt_of_cell? w _ hw598_0)).trans hw598_0)⟩ (fun hHeld => ?_)
             clear hK K
             refine norm_ (a' := ?_) ?_ ?_
             rotate_left
             ·show Act.put _ (some 13) _ = _
              simp only [Act.put, List.setIfInBounds_toArray, List.set_cons_zero, List.set_cons_succ, i64_w, i32_w]
              rfl
             refine one_ (i := 14) (N := some 23) (bs 23 524287) rfl rfl (one_of HT_.out (by kernel_rfl)) (by decide) (fun K hK => ?_)
             refine Kd.R_lit_step (Kd.int .i64) _ 3 ?hg (N := 23) ?hd (xs := ([] : List Int)) (inner := []) (ok := fun _ => True) (okp := fun _ => True) ?hr ?hp (fun _ hk => hk) trivial (Below.refl _ _) (Nat.le_refl _) (by simp) ?_; (case hd => rfl); (case hg => rfl); (case hr => first | (go_simp; done) | (go_simp; rfl)); (case hp => exact (Reps.none _ _))
             intro v600 w22 ho23 hb hg_ hnew_
             clear hg_ hnew_
             (first | rw [← Ny599.out] at ho23 | (simp only [Int.reduceToNat] at ho23; rw [← Ny599.out] at ho23))
             replace HO601 := Aside0.mk (Kd.R_lower (Kd.R_new' ho23 (Kd.R_lt (HO596.out))) (below_size (HB.out)))
             replace HO596 := Aside0.mk (Kd.R_elder' (HO596.out) (Kd.R_base ho23) hb)
             replace BK588 := Aside0.mk (blk_below (g := gb588) (o := .cells #[.int .i64 0, .int .i64 0, .slice none 0 0] 29 (0, 0)) (by exact BK588.out) hb)
             replace HB := Aside0.mk (below_step (HB.out) hb)
             clear hb ho23
             refine hK.out _ _ ⟨((HB.out.cell (World.block_lt_of_cell? w _ hw597_0)).trans hw597_0), ((HB.out.cell (World.block_lt_of_cell? w _ hw598_0)).trans hw598_0)⟩ (fun hHeld => ?_)
             clear hK K
             refine norm_ (a' := ?_) ?_ ?_
             rotate_left
             ·show Act.put _ (some 23) _ = _
              simp only [Act.put, List.setIfInBounds_toArray, List.set_cons_zero, List.set_cons_succ, i64_w, i32_w]
              rfl
             exact norm_ (by simp only [putAll, Act.put, List.setIfInBounds_toArray, List.set_cons_zero, List.set_cons_succ]) (hCont (v591, v595, v600) _ ⟨hHeld, (Kd.R_mono HO596.out (fun _ hk => hk.2)), (Kd.R_mono HO601.out (fun _ hk => hk.2)), (by exact BK588.out), (HB.out)⟩)
            ·skip
             refine Kd.R_lit_step (Kd.int .i64) _ 3 ?hg (N := 23) ?hd (xs := ([] : List Int)) (inner := []) (ok := fun _ => True) (okp := fun _ => True) ?hr ?hp (fun _ hk => hk) trivial (Below.refl _ _) (Nat.le_refl _) (by simp) ?_; (case hd => rfl); (case hg => rfl); (case hr => first | (go_simp; done) | (go_simp; rfl)); (case hp => exact (Reps.none _ _))
             intro v600 w21 ho22 hb hg_ hnew_
             clear hg_ hnew_
             (first | rw [← Ny599.out] at ho22 | (simp only [Int.reduceToNat] at ho22; rw [← Ny599.out] at ho22))
             replace HO601 := Aside0.mk (Kd.R_lower (Kd.R_new' ho22 (Kd.R_lt (HO592.out))) (below_size (HB.out)))
             replace HO592 := Aside0.mk (Kd.R_elder' (HO592.out) (Kd.R_base ho22) hb)
             replace BK588 := Aside0.mk (blk_below (g := gb588) (o := .cells #[.int .i64 0, .int .i64 0, .slice none 0 0] 29 (0, 0)) (by exact BK588.out) hb)
             replace HB := Aside0.mk (below_step (by repeat (with_reducible first | exact HB.out | apply below_alloc | apply pw_below_drewN | apply below_drew1 | refine below_set ?_ GE588.out)) hb)
             clear hb ho22
             refine hK.out _ _ ⟨((HB.out.cell (World.block_lt_of_cell? w _ hw597_0)).trans hw597_0), ((HB.out.cell (World.block_lt_of_cell? w _ hw598_0)).trans hw598_0)⟩ (fun hHeld => ?_)
             clear hK K
             refine norm_ (a' := ?_) ?_ ?_
             rotate_left
             ·show Act.put _ (some 23) _ = _
              simp only [Act.put, List.setIfInBounds_toArray, List.set_cons_zero, List.set_cons_succ, i64_w, i32_w]
              rfl
             refine one_ (i := 4) (N := some 13) (bs 23 524287) rfl rfl (one_of HT_.out (by kernel_rfl)) (by decide) (fun K hK => ?_)
             refine Kd.R_append_rows_step (Kd.int .i64) (w0 := w) w.heap.size (by rfl) (.tmp 9) (.tmp 12) 22 3 (.int .i64 0) 8 rfl Tryd.underlying22 info3 rfl (by decide) (by omega) v591 y590 (l1.take (t589 : Int).toNat) _ _ _ (fun k_ => some k_ ≠ (v600 : Value).ownBlock) (fun _ => False) rfl rfl ?aO ?aR (fun _ _ h => h) (fun _ h => h.elim) ?aF ?aB ?aS ?aL ?_
             (case aR => first | (refine readsRow_len ?_ (show (l1.take (t589 : Int).toNat).length = t589.toNat from (by rw [List.length_take]; have h_ : (t589 : Int) ≤ (l1.length : Int) := of_decide_eq_true ‹_›; omega)); repeat (first | exact (Kd.C_below HR593.out HB.out) | (with_reducible refine Kd.C_alloc ?_ _) | (with_reducible refine Kd.C_drewN ?_ _) | (with_reducible refine Kd.C_drew ?_))) | (repeat (first | exact (Kd.C_below HR593.out HB.out) | (with_reducible refine Kd.C_alloc ?_ _) | (with_reducible refine Kd.C_drewN ?_ _) | (with_reducible refine Kd.C_drew ?_))))
             (case aB => exact (by repeat (with_reducible first | exact HB.out | apply below_alloc | apply pw_below_drewN | apply below_drew1 | refine below_set ?_ GE588.out)))
             (case aF => exact (fun k_ hk => Kd.fresh' (Kd.R_lt (HO601.out)) k_ hk))
             (case aO => exact (Kd.R_mono HO592.out (fun _ hk => hk.2)))
             (case aS => exact (below_size (by repeat (with_reducible first | exact HB.out | apply below_alloc | apply pw_below_drewN | apply below_drew1 | refine below_set ?_ GE588.out))))
             (case aL => have := LMc6.out; have hlx_ := (show (l1.take (t589 : Int).toNat).length = t589.toNat from (by rw [List.length_take]; have h_ : (t589 : Int) ≤ (l1.length : Int) := of_decide_eq_true ‹_›; omega)); omega)
             intro v595 w23 ho hb hg hat
             rw [← Ny594.out] at ho
             have n0_ := Aside0.mk (blk_grown (g := gb588) (o := .cells #[.int .i64 0, .int .i64 0, .slice none 0 0] 29 (0, 0)) (by exact BK588.out) hg (Kd.R_ne HO592.out BK588.out (by decide)))
             have n1_ := Aside0.mk (Kd.R_after (ok := (fun _ => True)) (HO601.out) hg hat)
             have n2_ := Aside0.mk (hb)
             have n3_ := Aside0.mk (ho)
             clear BK588
             clear HO601
             clear HB
             clear HO592
             have BK588 := n0_
             have HO601 := n1_
             have HB := n2_
             have HO596 := n3_
             clear n0_ n1_ n2_ n3_
             clear ho hb hg hat
             refine hK.out _ _ ⟨((HB.out.cell (World.block_lt_of_cell? w _ hw597_0)).trans hw597_0), ((HB.out.cell (World.block_lt_of_cell? w _ hw598_0)).trans hw598_0)⟩ (fun hHeld => ?_)
             clear hK K
             refine norm_ (a' := ?_) ?_ ?_
             rotate_left
             ·show Act.put _ (some 13) _ = _
              simp only [Act.put, List.setIfInBounds_toArray, List.set_cons_zero, List.set_cons_succ, i64_w, i32_w]
              rfl
             exact norm_ (by simp only [putAll, Act.put, List.setIfInBounds_toArray, List.set_cons_zero, List.set_cons_succ]) (hCont (v591, v595, v600) _ ⟨hHeld, (HO596.out), (Kd.R_mono HO601.out (fun _ hk => hk.2)), (by exact BK588.out), (by repeat (with_reducible first | exact HB.out | apply below_alloc | apply pw_below_drewN | apply below_drew1 | refine below_set ?_ GE588.out))⟩)
           ·skip
            refine Kd.R_lit_step (Kd.int .i64) _ 3 ?hg (N := 23) ?hd (xs := ([] : List Int)) (inner := []) (ok := fun _ => True) (okp := fun _ => True) ?hr ?hp (fun _ hk => hk) trivial (Below.refl _ _) (Nat.le_refl _) (by simp) ?_; (case hd => rfl); (case hg => rfl); (case hr => first | (go_simp; done) | (go_simp; rfl)); (case hp => exact (Reps.none _ _))
            intro v600 w19 ho20 hb hg_ hnew_
            clear hg_ hnew_
            (first | rw [← Ny599.out] at ho20 | (simp only [Int.reduceToNat] at ho20; rw [← Ny599.out] at ho20))
            replace HO601 := Aside0.mk (Kd.R_lower ho20 (below_size (by repeat (with_reducible first | exact HB.out | apply below_alloc | apply pw_below_drewN | apply below_drew1 | refine below_set ?_ GE588.out))))
            replace BK588 := Aside0.mk (blk_below (g := gb588) (o := .cells #[.int .i64 0, .int .i64 0, .slice none 0 0] 29 (0, 0)) (by exact BK588.out) hb)
            replace HB := Aside0.mk (below_step (HB.out) hb)
            clear hb ho20
            refine hK.out _ _ ⟨((HB.out.cell (World.block_lt_of_cell? w _ hw597_0)).trans hw597_0), ((HB.out.cell (World.block_lt_of_cell? w _ hw598_0)).trans hw598_0)⟩ (fun hHeld => ?_)
            clear hK K
            refine norm_ (a' := ?_) ?_ ?_
            rotate_left
            ·show Act.put _ (some 23) _ = _
             simp only [Act.put, List.setIfInBounds_toArray, List.set_cons_zero, List.set_cons_succ, i64_w, i32_w]
             rfl
            refine one_ (i := 0) (N := some 9) (bs 23 524271) rfl rfl (one_of HT_.out (by kernel_rfl)) (by decide) (fun K hK => ?_)
            refine Kd.R_lit_step (Kd.int .i64) _ 3 ?hg (N := 9) ?hd (xs := ([] : List Int)) (inner := []) (ok := fun _ => True) (okp := fun _ => True) ?hr ?hp (fun _ hk => hk) trivial (Below.refl _ _) (Nat.le_refl _) (by simp) ?_; (case hd => rfl); (case hg => rfl); (case hr => first | (go_simp; done) | (go_simp; rfl)); (case hp => exact (Reps.none _ _))
            intro v591 w21 ho22 hb hg_ hnew_
            clear hg_ hnew_
            (first | rw [← Ny590.out] at ho22 | (simp only [Int.reduceToNat] at ho22; rw [← Ny590.out] at ho22))
            replace HO592 := Aside0.mk (Kd.R_lower (Kd.R_new' ho22 (Kd.R_lt (HO601.out))) (below_size (HB.out)))
            replace HO601 := Aside0.mk (Kd.R_elder' (HO601.out) (Kd.R_base ho22) hb)
            replace BK588 := Aside0.mk (blk_below (g := gb588) (o := .cells #[.int .i64 0, .int .i64 0, .slice none 0 0] 29 (0, 0)) (by exact BK588.out) hb)
            replace HB := Aside0.mk (below_step (HB.out) hb)
            clear hb ho22
            refine hK.out _ _ ⟨((HB.out.cell (World.block_lt_of_cell? w _ hw597_0)).trans hw597_0), ((HB.out.cell (World.block_lt_of_cell? w _ hw598_0)).trans hw598_0)⟩ (fun hHeld => ?_)
            clear hK K
            refine norm_ (a' := ?_) ?_ ?_
            rotate_left
            ·show Act.put _ (some 9) _ = _
             simp only [Act.put, List.setIfInBounds_toArray, List.set_cons_zero, List.set_cons_succ, i64_w, i32_w]
             rfl
            refine one_ (i := 4) (N := some 13) (bs 23 524287) rfl rfl (one_of HT_.out (by kernel_rfl)) (by decide) (fun K hK => ?_)
            refine Kd.R_append_rows_step (Kd.int .i64) (w0 := w) w.heap.size (by rfl) (.tmp 9) (.tmp 12) 22 3 (.int .i64 0) 8 rfl Tryd.underlying22 info3 rfl (by decide) (by omega) v591 y590 (l1.take (t589 : Int).toNat) _ _ _ (fun k_ => some k_ ≠ (v600 : Value).ownBlock) (fun _ => False) rfl rfl ?aO ?aR (fun _ _ h => h) (fun _ h => h.elim) ?aF ?aB ?aS ?aL ?_
            (case aR => first | (refine readsRow_len ?_ (show (l1.take (t589 : Int).toNat).length = t589.toNat from (by rw [List.length_take]; have h_ : (t589 : Int) ≤ (l1.length : Int) := of_decide_eq_true ‹_›; omega)); repeat (first | exact (Kd.C_below HR593.out HB.out) | (with_reducible refine Kd.C_alloc ?_ _) | (with_reducible refine Kd.C_drewN ?_ _) | (with_reducible refine Kd.C_drew ?_))) | (repeat (first | exact (Kd.C_below HR593.out HB.out) | (with_reducible refine Kd.C_alloc ?_ _) | (with_reducible refine Kd.C_drewN ?_ _) | (with_reducible refine Kd.C_drew ?_))))
            (case aB => exact (HB.out))
            (case aF => exact (fun k_ hk => Kd.fresh' (Kd.R_lt (HO601.out)) k_ hk))
            (case aO => exact (Kd.R_mono HO592.out (fun _ hk => hk.2)))
            (case aS => exact (below_size (HB.out)))
            (case aL => have := LMc6.out; have hlx_ := (show (l1.take (t589 : Int).toNat).length = t589.toNat from (by rw [List.length_take]; have h_ : (t589 : Int) ≤ (l1.length : Int) := of_decide_eq_true ‹_›; omega)); omega)
            intro v595 w23 ho hb hg hat
            rw [← Ny594.out] at ho
            have n0_ := Aside0.mk (blk_grown (g := gb588) (o := .cells #[.int .i64 0, .int .i64 0, .slice none 0 0] 29 (0, 0)) (by exact BK588.out) hg (Kd.R_ne HO592.out BK588.out (by decide)))
            have n1_ := Aside0.mk (Kd.R_after (ok := (fun _ => True)) (HO601.out) hg hat)
            have n2_ := Aside0.mk (hb)
            have n3_ := Aside0.mk (ho)
            clear BK588
            clear HO601
            clear HB
            clear HO592
            have BK588 := n0_
            have HO601 := n1_
            have HB := n2_
            have HO596 := n3_
            clear n0_ n1_ n2_ n3_
            clear ho hb hg hat
            refine hK.out _ _ ⟨((HB.out.cell (World.block_lt_of_cell? w _ hw597_0)).trans hw597_0), ((HB.out.cell (World.block_lt_of_cell? w _ hw598_0)).trans hw598_0)⟩ (fun hHeld => ?_)
            clear hK K
            refine norm_ (a' := ?_) ?_ ?_
            rotate_left
            ·show Act.put _ (some 13) _ = _
             simp only [Act.put, List.setIfInBounds_toArray, List.set_cons_zero, List.set_cons_succ, i64_w, i32_w]
             rfl
            exact norm_ (by simp only [putAll, Act.put, List.setIfInBounds_toArray, List.set_cons_zero, List.set_cons_succ]) (hCont (v591, v595, v600) _ ⟨hHeld, (HO596.out), (Kd.R_mono HO601.out (fun _ hk => hk.2)), (by exact BK588.out), (HB.out)⟩)
          rintro ⟨v591, v595, v600⟩ w24 ⟨hS_, h0_, h1_, h2_, h3_⟩
          have n0_ : Aside0 (Kd.R (Kd.int .i64) 3 w24 w.heap.size (fun k_ => some k_ ≠ (v600 : Value).ownBlock) v595 y594) := ⟨h0_⟩
          have n1_ : Aside0 (Kd.R (Kd.int .i64) 3 w24 w.heap.size (fun k_ => some k_ ≠ (v595 : Value).ownBlock) v600 y599) := ⟨h1_⟩
          have n2_ : Aside0 (w24.heap[gb588]? = some (.cells #[.int .i64 0, .int .i64 0, .slice none 0 0] 29 (0, 0))) := ⟨h2_⟩
          have n3_ : Aside0 (Below w.heap.size w w24) := ⟨h3_⟩
          clear BK588
          clear HB
          clear h0_ h1_ h2_ h3_
          have HO596 := n0_
          have HO601 := n1_
          have BK588 := n2_
          have HB := n3_
          clear n0_ n1_ n2_ n3_
          have hHeld : w24.cell? (ad597.add (t589).toNat) = some (.int .i64 (rd l1 t589)) ∧ w24.cell? (ad597.add ((ji8)).toNat) = some (.int .i64 (rd l1 (ji8))) := hS_
          refine norm_ (a' := ?_) ?_ ?_
          rotate_left
          ·simp only [putAll, Act.put, List.setIfInBounds_toArray, List.set_cons_zero, List.set_cons_succ]
           rfl
          refine one_ (i := 19) (N := some 28) (bs 23 1048575) rfl rfl (one_of HT_.out (by kernel_rfl)) (by decide) (fun K hK => ?_)
          refine Kd.R_append_rows_step (Kd.int .i64) (w0 := w) w.heap.size (by rfl) (.tmp 23) (.tmp 27) 22 3 (.int .i64 0) 8 rfl Tryd.underlying22 info3 rfl (by decide) (by omega) v600 y599 (l1.drop ((ji11) : Int).toNat) _ _ _ (fun k_ => some k_ ≠ (v595 : Value).ownBlock) (fun _ => False) rfl rfl ?aO ?aR (fun _ _ h => h) (fun _ h => h.elim) ?aF ?aB ?aS ?aL ?_
          (case aR => first | (refine readsRow_len ?_ (show (l1.drop ((ji11) : Int).toNat).length = (l1.length - (ji11).toNat) from List.length_drop); repeat (first | exact (Kd.C_below HR602.out HB.out) | (with_reducible refine Kd.C_alloc ?_ _) | (with_reducible refine Kd.C_drewN ?_ _) | (with_reducible refine Kd.C_drew ?_))) | (repeat (first | exact (Kd.C_below HR602.out HB.out) | (with_reducible refine Kd.C_alloc ?_ _) | (with_reducible refine Kd.C_drewN ?_ _) | (with_reducible refine Kd.C_drew ?_))))
          (case aB => exact (HB.out))
          (case aF => exact (fun k_ hk => Kd.fresh' (Kd.R_lt (HO596.out)) k_ hk))
          (case aO => exact (HO601.out))
          (case aS => exact (below_size (HB.out)))
          (case aL => have := LMc14.out; have hlx_ := (show (l1.drop ((ji11) : Int).toNat).length = (l1.length - (ji11).toNat) from List.length_drop); omega)
          intro v604 w25 ho hb hg hat
          rw [← Ny603.out] at ho
          have n0_ := Aside0.mk (blk_grown (g := gb588) (o := .cells #[.int .i64 0, .int .i64 0, .slice none 0 0] 29 (0, 0)) (by exact BK588.out) hg (Kd.R_ne HO601.out BK588.out (by decide)))
          have n1_ := Aside0.mk (Kd.R_after (ok := (fun _ => True)) (Kd.R_mono HO596.out (fun _ hk => ⟨trivial, hk⟩)) hg hat)
          have n2_ := Aside0.mk (hb)
          have n3_ := Aside0.mk (ho)
          clear BK588
          clear HO596
          clear HB
          clear HO601
          have BK588 := n0_
          have HO596 := n1_
          have HB := n2_
          have HO605 := n3_
          clear n0_ n1_ n2_ n3_
          clear ho hb hg hat
          obtain ⟨Ao26, co26, eo26⟩ := Kd.R_slice HO605.out
          (first | subst eo26 | (injection eo26 with f1_ f2_ f3_; have f4_ := f1_.symm; have f5_ := f3_.symm; clear f1_ f2_ f3_; subst f4_; subst f5_))
          refine hK.out _ _ ⟨((HB.out.cell (World.block_lt_of_cell? w _ hw597_0)).trans hw597_0), ((HB.out.cell (World.block_lt_of_cell? w _ hw598_0)).trans hw598_0)⟩ (fun hHeld => ?_)
          clear hK K
          refine norm_ (a' := ?_) ?_ ?_
          rotate_left
          ·show Act.put _ (some 28) _ = _
           simp only [Act.put, List.setIfInBounds_toArray, List.set_cons_zero, List.set_cons_succ, i64_w, i32_w]
           rfl
          refine pZ 20 (some 29) (bs 23 2097151) rfl rfl (any_of HT_.out (by kernel_rfl)) ?_
          refine pZ 21 (some 4) (bs 23 4194303) rfl rfl (any_of HT_.out (by kernel_rfl)) ?_
          refine one_ (i := 22) (N := none) (bs 23 8388607) rfl rfl (one_of HT_.out (by kernel_rfl)) (by decide) (fun K hK => ?_)
          have hs27 : w25.cell? ⟨gb588, 0, none⟩ = some (.int .i64 0) := (blk_cell BK588.out 0).trans rfl
          have hfs27 := blk_frozen BK588.out 0
          have hs28 : w25.cell? ⟨gb588, 1, none⟩ = some (.int .i64 0) := (blk_cell BK588.out 1).trans rfl
          have hfs28 := blk_frozen BK588.out 1
          have hs29 : w25.cell? ⟨gb588, 2, none⟩ = some (.slice none 0 0) := (blk_cell BK588.out 2).trans rfl
          have hfs29 := blk_frozen BK588.out 2
          refine skip_ (w1 := ?_) (by rfl) rfl ?_ ?_
          rotate_left
          ·go_simp
           rfl
          refine hK.out _ _ ⟨((cell_far (p := ⟨gb588, _, none⟩) (by first | exact Nat.ne_of_lt (Nat.lt_of_lt_of_le (by have := World.block_lt_of_cell? _ _ hw597_0; first | rwa [add_block] at this | exact this) GW588.out) | (rw [add_block]; exact Nat.ne_of_lt (Nat.lt_of_lt_of_le (by have := World.block_lt_of_cell? _ _ hw597_0; first | rwa [add_block] at this | exact this) GW588.out)) | (show (Addr.add _ _).block ≠ _; rw [add_block]; exact Nat.ne_of_lt (Nat.lt_of_lt_of_le (by have := World.block_lt_of_cell? _ _ hw597_0; first | rwa [add_block] at this | exact this) GW588.out)) | (dsimp only; exact Nat.ne_of_lt (Nat.lt_of_lt_of_le (by have := World.block_lt_of_cell? _ _ hw597_0; first | rwa [add_block] at this | exact this) GW588.out))) _).trans (((cell_far (p := ⟨gb588, _, none⟩) (by first | exact Nat.ne_of_lt (Nat.lt_of_lt_of_le (by have := World.block_lt_of_cell? _ _ hw597_0; first | rwa [add_block] at this | exact this) GW588.out) | (rw [add_block]; exact Nat.ne_of_lt (Nat.lt_of_lt_of_le (by have := World.block_lt_of_cell? _ _ hw597_0; first | rwa [add_block] at this | exact this) GW588.out)) | (show (Addr.add _ _).block ≠ _; rw [add_block]; exact Nat.ne_of_lt (Nat.lt_of_lt_of_le (by have := World.block_lt_of_cell? _ _ hw597_0; first | rwa [add_block] at this | exact this) GW588.out)) | (dsimp only; exact Nat.ne_of_lt (Nat.lt_of_lt_of_le (by have := World.block_lt_of_cell? _ _ hw597_0; first | rwa [add_block] at this | exact this) GW588.out))) _).trans (((cell_far (p := ⟨gb588, _, none⟩) (by first | exact Nat.ne_of_lt (Nat.lt_of_lt_of_le (by have := World.block_lt_of_cell? _ _ hw597_0; first | rwa [add_block] at this | exact this) GW588.out) | (rw [add_block]; exact Nat.ne_of_lt (Nat.lt_of_lt_of_le (by have := World.block_lt_of_cell? _ _ hw597_0; first | rwa [add_block] at this | exact this) GW588.out)) | (show (Addr.add _ _).block ≠ _; rw [add_block]; exact Nat.ne_of_lt (Nat.lt_of_lt_of_le (by have := World.block_lt_of_cell? _ _ hw597_0; first | rwa [add_block] at this | exact this) GW588.out)) | (dsimp only; exact Nat.ne_of_lt (Nat.lt_of_lt_of_le (by have := World.block_lt_of_cell? _ _ hw597_0; first | rwa [add_block] at this | exact this) GW588.out))) _).trans (hHeld.1)))))), ((cell_far (p := ⟨gb588, _, none⟩) (by first | exact Nat.ne_of_lt (Nat.lt_of_lt_of_le (by have := World.block_lt_of_cell? _ _ hw598_0; first | rwa [add_block] at this | exact this) GW588.out) | (rw [add_block]; exact Nat.ne_of_lt (Nat.lt_of_lt_of_le (by have := World.block_lt_of_cell? _ _ hw598_0; first | rwa [add_block] at this | exact this) GW588.out)) | (show (Addr.add _ _).block ≠ _; rw [add_block]; exact Nat.ne_of_lt (Nat.lt_of_lt_of_le (by have := World.block_lt_of_cell? _ _ hw598_0; first | rwa [add_block] at this | exact this) GW588.out)) | (dsimp only; exact Nat.ne_of_lt (Nat.lt_of_lt_of_le (by have := World.block_lt_of_cell? _ _ hw598_0; first | rwa [add_block] at this | exact this) GW588.out))) _).trans (((cell_far (p := ⟨gb588, _, none⟩) (by first | exact Nat.ne_of_lt (Nat.lt_of_lt_of_le (by have := World.block_lt_of_cell? _ _ hw598_0; first | rwa [add_block] at this | exact this) GW588.out) | (rw [add_block]; exact Nat.ne_of_lt (Nat.lt_of_lt_of_le (by have := World.block_lt_of_cell? _ _ hw598_0; first | rwa [add_block] at this | exact this) GW588.out)) | (show (Addr.add _ _).block ≠ _; rw [add_block]; exact Nat.ne_of_lt (Nat.lt_of_lt_of_le (by have := World.block_lt_of_cell? _ _ hw598_0; first | rwa [add_block] at this | exact this) GW588.out)) | (dsimp only; exact Nat.ne_of_lt (Nat.lt_of_lt_of_le (by have := World.block_lt_of_cell? _ _ hw598_0; first | rwa [add_block] at this | exact this) GW588.out))) _).trans (((cell_far (p := ⟨gb588, _, none⟩) (by first | exact Nat.ne_of_lt (Nat.lt_of_lt_of_le (by have := World.block_lt_of_cell? _ _ hw598_0; first | rwa [add_block] at this | exact this) GW588.out) | (rw [add_block]; exact Nat.ne_of_lt (Nat.lt_of_lt_of_le (by have := World.block_lt_of_cell? _ _ hw598_0; first | rwa [add_block] at this | exact this) GW588.out)) | (show (Addr.add _ _).block ≠ _; rw [add_block]; exact Nat.ne_of_lt (Nat.lt_of_lt_of_le (by have := World.block_lt_of_cell? _ _ hw598_0; first | rwa [add_block] at this | exact this) GW588.out)) | (dsimp only; exact Nat.ne_of_lt (Nat.lt_of_lt_of_le (by have := World.block_lt_of_cell? _ _ hw598_0; first | rwa [add_block] at this | exact this) GW588.out))) _).trans (hHeld.2))))))⟩ (fun hHeld => ?_)
          clear hK K
          refine done_ (done_of HT_.out (by kernel_rfl)) ?_
          try go_wp2
          refine bodyPost_ret (results_tc rfl _ _ gb588 29 #[.int .i64 (rd l1 t589), .int .i64 (rd l1 (ji8)), .slice Ao26 y603.length co26] (0, 0) _ rfl (by refine blk_put (cs := #[.int .i64 (rd l1 t589), .int .i64 (rd l1 (ji8)), .slice none 0 0]) ?_ 2 _ rfl; refine blk_put (cs := #[.int .i64 (rd l1 t589), .int .i64 0, .slice none 0 0]) ?_ 1 _ rfl; refine blk_put (cs := #[.int .i64 0, .int .i64 0, .slice none 0 0]) ?_ 0 _ rfl; exact BK588.out) Tryd.underlying29 rfl (by kernel_rfl)) rfl ?_
          exact ⟨_, _, by first | rfl | (simp [errW_none, errW_some] <;> rfl) | (simp only [← hji8, ← hji11]; first | rfl | (simp [errW_none, errW_some] <;> rfl)) | (simp [*, errW_none, errW_some] <;> rfl), Kd.R_mono (Kd.R_far (p := ⟨gb588, 2, none⟩) (Kd.R_far (p := ⟨gb588, 1, none⟩) (Kd.R_far (p := ⟨gb588, 0, none⟩) (Kd.R_types HO596.out BK588.out (by decide)) (fun _ hk => hk.2) (.int .i64 (rd l1 t589))) (fun _ hk => hk.2) (.int .i64 (rd l1 (ji8)))) (fun _ hk => hk.2) (.slice Ao26 y603.length co26)) (fun _ hk => hk.1.2), Kd.R_mono (Kd.R_far (p := ⟨gb588, 2, none⟩) (Kd.R_far (p := ⟨gb588, 1, none⟩) (Kd.R_far (p := ⟨gb588, 0, none⟩) (Kd.R_types HO605.out BK588.out (by decide)) (fun _ hk => hk.2) (.int .i64 (rd l1 t589))) (fun _ hk => hk.2) (.int .i64 (rd l1 (ji8)))) (fun _ hk => hk.2) (.slice Ao26 y603.length co26)) (fun _ hk => hk.1), by repeat (with_reducible first | exact HB.out | apply below_alloc | apply pw_below_drewN | apply below_drew1 | refine below_set ?_ GE588.out)⟩
         ·rw [if_neg c14] at H
          exact absurd H (by simp)
        ·rw [if_neg c13] at H
         exact absurd H (by simp)
       ·rw [if_neg c12] at H
        exact absurd H (by simp)
      ·rw [if_neg c10] at H
       exact absurd H (by simp)
     ·rw [if_neg c9] at H
      exact absurd H (by simp)
    ·rw [if_neg c7] at H
     exact absurd H (by simp)
   ·rw [if_neg c6] at H
    exact absurd H (by simp)
  ·rw [if_neg c5] at H
   exact absurd H (by simp)
 ·rw [if_neg c4] at H
  exact absurd H (by simp)
def spec_ProofCut.f (k : Nat) (a0 : Int) (l1 : List Int) : Option (List Int × Int × Int × List Int × Bool) := (spec_l11Kind.f a0).bind fun t607 => (if t607 = true then ((spec_ShareOk.f k l1).bind fun t608 => (if t608 = true then ((spec_ProofLen.f a0).bind fun t609 => (if (l1.length : Int) = t609 then ((spec_l12Cut.f a0 l1).bind fun bt610 => (some (bt610.1, bt610.2.1, bt610.2.2.1, bt610.2.2.2, true))) else (some ((([] : List Int)), 0, 0, ([] : List Int), false)))) else (some ((([] : List Int)), 0, 0, ([] : List Int), false)))) else (some ((([] : List Int)), 0, 0, ([] : List Int), false)))
set_option maxHeartbeats 8000000 in
set_option maxRecDepth 100000 in
theorem spec_ProofCut.calls (k : Nat) (a0 : Int) (A1 : Option Addr) (c1 : Nat) (l1 : List Int) (r1 : List Int) (r2 : Int) (r3 : Int) (r4 : List Int) (r5 : Bool) (w : World) (hr1 : Kd.C (Kd.int .i64) w A1 l1.length l1) (hc1 : l1.length ≤ c1) (h : spec_ProofCut.f k a0 l1 = some (r1, r2, r3, r4, r5)) :
  Calls Tryd.prog 39 #[.int .i64 a0, .slice A1 l1.length c1] w fun e w' => ∃ v0_ v3_ : Value, e = .returned (.tuple #[v0_, .agg #[.int .i64 r2, .int .i64 r3, v3_], .bool r5]) ∧ Kd.R (Kd.int .i64) 3 w' w.heap.size (fun k_ => some k_ ≠ (v3_ : Value).ownBlock) v0_ r1 ∧ Kd.R (Kd.int .i64) 3 w' w.heap.size (fun k_ => some k_ ≠ (v0_ : Value).ownBlock) v3_ r4 ∧ Below w.heap.size w w' := by
 have hu29 := Tryd.underlying29
 have HR1 := Aside0.mk hr1
 have HC1 := Aside0.mk hc1
 clear hr1 hc1
 have HB := Aside0.mk (Below.refl w.heap.size w)
 have H := h
 unfold spec_ProofCut.f at H
 clear h
 replace H := bnd H
 obtain ⟨t607, A3, H⟩ := H
 by_cases c4 : t607 = true
 ·subst c4
  rw [if_pos rfl] at H
  replace H := bnd H
  obtain ⟨t608, A5, H⟩ := H
  by_cases c6 : t608 = true
  ·subst c6
   rw [if_pos rfl] at H
   replace H := bnd H
   obtain ⟨t609, A7, H⟩ := H
   by_cases c8 : (l1.length : Int) = t609
   ·rw [if_pos c8] at H
    have c8b0 : ((l1.length : Int) == t609) = true := beq_iff_eq.mpr c8
    have c8b1 : ((l1.length : Int) != t609) = false := bne_eq_false_iff_eq.mpr c8
    clear c8
    replace H := bnd H
    obtain ⟨⟨t610, t613, t614, t615⟩, A9, H⟩ := H
    dsimp only at H
    simp only [Option.some.injEq, Prod.mk.injEq] at H
    obtain ⟨rfl, rfl, rfl, rfl, rfl⟩ := H
    go_enter Tryd.func39, Tryd.ntmps39
    try go_wp2_with (first | ((with_reducible refine gate_dst (N := 5) rfl ?_); (try (refine gate_guard (by rfl) ?_; dsimp only)); refine box_event ?hg (N := 5) ?hd (cs := #[.int .i64 0, .int .i64 0, .slice none 0 0]) (t := 29) ?hr ?_; (case hd => rfl); (case hg => rfl); (case hr => first | (go_simp; done) | (go_simp; rfl)); intro gb606 hg w10 hbox hb; replace BK606 := Aside0.mk (hbox); replace GW606 := Aside0.mk ((by rw [hg]; exact (below_size (by repeat (with_reducible first | exact HB.out | apply below_alloc | apply pw_below_drewN | apply below_drew1))) : w.heap.size ≤ gb606)); replace GE606 := Aside0.mk ((by rw [hg]; exact (below_size (by repeat (with_reducible first | exact HB.out | apply below_alloc | apply pw_below_drewN | apply below_drew1))) : w.heap.size ≤ gb606)); replace HB := Aside0.mk (below_step (by repeat (with_reducible first | exact HB.out | apply below_alloc | apply pw_below_drewN | apply below_drew1)) hb); clear hb hbox hg) | (refine gsD c63x25 (spec_l11Kind.calls a0 true _ A3.out) ?_; intro nd; (try (rw [drewN_self w10]; generalize hq_ : World.drewN w10 _ = w10; have n0_ : Aside0 (w10.heap[gb606]? = some (.cells #[.int .i64 0, .int .i64 0, .slice none 0 0] 29 (0, 0))) := ⟨by rw [← hq_]; exact (by exact BK606.out)⟩; have n1_ : Aside0 (Below w.heap.size w w10) := ⟨by rw [← hq_]; exact (by repeat (with_reducible first | exact HB.out | apply below_alloc | apply pw_below_drewN | apply below_drew1 | refine below_set ?_ GE606.out))⟩; clear BK606 HB hq_; have BK606 := n0_; have HB := n1_; clear n0_ n1_))) | (go_at_call 64; (with_reducible refine (spec_ShareOk.calls k _ _ l1 true _ ?side1 ?side2 A5.out).mono ?_); (case side1 => exact (Kd.C_below HR1.out HB.out)); (case side2 => exact HC1.out); rintro e w' ⟨rfl, ⟨nd, rfl⟩⟩; (try (rw [drewN_self w10]; generalize hq_ : World.drewN w10 _ = w10; have n0_ : Aside0 (w10.heap[gb606]? = some (.cells #[.int .i64 0, .int .i64 0, .slice none 0 0] 29 (0, 0))) := ⟨by rw [← hq_]; exact (by exact BK606.out)⟩; have n1_ : Aside0 (Below w.heap.size w w10) := ⟨by rw [← hq_]; exact (by repeat (with_reducible first | exact HB.out | apply below_alloc | apply pw_below_drewN | apply below_drew1 | refine below_set ?_ GE606.out))⟩; clear BK606 HB hq_; have BK606 := n0_; have HB := n1_; clear n0_ n1_))) | (go_at_call 65; (with_reducible refine (spec_ProofLen.calls a0 t609 _ A7.out).mono ?_); rintro e w' ⟨rfl, ⟨nd, rfl⟩⟩; (try (rw [drewN_self w10]; generalize hq_ : World.drewN w10 _ = w10; have n0_ : Aside0 (w10.heap[gb606]? = some (.cells #[.int .i64 0, .int .i64 0, .slice none 0 0] 29 (0, 0))) := ⟨by rw [← hq_]; exact (by exact BK606.out)⟩; have n1_ : Aside0 (Below w.heap.size w w10) := ⟨by rw [← hq_]; exact (by repeat (with_reducible first | exact HB.out | apply below_alloc | apply pw_below_drewN | apply below_drew1 | refine below_set ?_ GE606.out))⟩; clear BK606 HB hq_; have BK606 := n0_; have HB := n1_; clear n0_ n1_))) | ((with_reducible refine gate_callee (f := 78) rfl ?_); refine goesL_ (some 29) rfl rfl Tryd.func78 (by kernel_rfl) rfl #[.int .i64 a0, .slice A1 l1.length c1] rfl (by (try simp only [List.map_toArray, List.map_cons, List.map_nil]); first | done | rfl | (simp only [List.length_drop, List.length_take]; rfl)) ?_; (with_reducible refine (spec_l12Cut.calls a0 _ _ l1 t610 t613 t614 t615 _ ?side1 ?side2 A9.out).mono ?_); (case side1 => exact (Kd.C_below HR1.out HB.out)); (case side2 => exact HC1.out); rintro e w11 ⟨v611, v616, rfl, ho0, ho1, hb⟩; refine ⟨_, rfl, ?_⟩; replace HO612 := Aside0.mk (Kd.R_lower ho0 (below_size (by repeat (with_reducible first | exact HB.out | apply below_alloc | apply pw_below_drewN | apply below_drew1 | refine below_set ?_ GE606.out)))); replace HO617 := Aside0.mk (Kd.R_lower ho1 (below_size (by repeat (with_reducible first | exact HB.out | apply below_alloc | apply pw_below_drewN | apply below_drew1 | refine below_set ?_ GE606.out)))); replace BK606 := Aside0.mk (blk_below (g := gb606) (o := .cells #[.int .i64 0, .int .i64 0, .slice none 0 0] 29 (0, 0)) (by exact BK606.out) hb); replace HB := Aside0.mk (below_step (by repeat (with_reducible first | exact HB.out | apply below_alloc | apply pw_below_drewN | apply below_drew1 | refine below_set ?_ GE606.out)) hb); clear hb ho0 ho1) | ((with_reducible refine gate_dst (N := 8) rfl ?_); (try (refine gate_guard (by rfl) ?_; dsimp only)); refine box_event ?hg (N := 8) ?hd (cs := #[.int .i64 0, .int .i64 0, .slice none 0 0]) (t := 29) ?hr ?_; (case hd => rfl); (case hg => rfl); (case hr => first | (go_simp; done) | (go_simp; rfl)); intro gb618 hg w12 hbox hb; replace HO612 := Aside0.mk (Kd.R_below (HO612.out) hb); replace HO617 := Aside0.mk (Kd.R_below (HO617.out) hb); replace BK618 := Aside0.mk (hbox); replace GW618 := Aside0.mk ((by rw [hg]; exact (below_size (by repeat (with_reducible first | exact HB.out | apply below_alloc | apply pw_below_drewN | apply below_drew1 | refine below_set ?_ GE606.out))) : w.heap.size ≤ gb618)); replace GE618 := Aside0.mk ((by rw [hg]; exact (below_size (by repeat (with_reducible first | exact HB.out | apply below_alloc | apply pw_below_drewN | apply below_drew1 | refine below_set ?_ GE606.out))) : w.heap.size ≤ gb618)); replace HB := Aside0.mk (below_step (by repeat (with_reducible first | exact HB.out | apply below_alloc | apply pw_below_drewN | apply below_drew1 | refine below_set ?_ GE606.out)) hb); replace NB606_618 := Aside0.mk ((by rw [hg]; exact Nat.ne_of_lt (blk_lt (g := gb606) (o := .cells #[.int .i64 0, .int .i64 0, .slice none 0 0] 29 (0, 0)) (by exact BK606.out)) : gb606 ≠ gb618)); replace NB618_606 := Aside0.mk ((by rw [hg]; exact Nat.ne_of_gt (blk_lt (g := gb606) (o := .cells #[.int .i64 0, .int .i64 0, .slice none 0 0] 29 (0, 0)) (by exact BK606.out)) : gb618 ≠ gb606)); replace BK606 := Aside0.mk (blk_below (g := gb606) (o := .cells #[.int .i64 0, .int .i64 0, .slice none 0 0] 29 (0, 0)) (by exact BK606.out) hb); clear hb hbox hg; have hnb13 := NB618_606.out; have hnc13 := NB606_618.out; have hcz14_0 : w12.cell? ⟨gb618, 0, none⟩ = some (.int .i64 0) := (blk_cell BK618.out 0).trans rfl; have hcz14_1 : w12.cell? ⟨gb618, 1, none⟩ = some (.int .i64 0) := (blk_cell BK618.out 1).trans rfl; have hcz14_2 : w12.cell? ⟨gb618, 2, none⟩ = some (.slice none 0 0) := (blk_cell BK618.out 2).trans rfl; have hfz14_0 := blk_frozen BK618.out 0; have hfz14_1 := blk_frozen BK618.out 1; have hfz14_2 := blk_frozen BK618.out 2; obtain ⟨Ao15, co15, eo15⟩ := Kd.R_slice HO617.out; subst eo15))
    replace HO612 : Aside0 (Kd.R (Kd.int .i64) 3 (((w12.setCell ⟨gb618, 0, none⟩ (.int .i64 t613)).setCell ⟨gb618, 1, none⟩ (.int .i64 t614)).setCell ⟨gb618, 2, none⟩ (.slice Ao15 t615.length co15)) w.heap.size (fun k_ => some k_ ≠ (.slice Ao15 t615.length co15 : Value).ownBlock) v611 t610) := ⟨Kd.R_mono (Kd.R_far (p := ⟨gb618, 2, none⟩) (Kd.R_far (p := ⟨gb618, 1, none⟩) (Kd.R_far (p := ⟨gb618, 0, none⟩) (Kd.R_types HO612.out BK618.out (by decide)) (fun _ hk => hk.2) (.int .i64 t613)) (fun _ hk => hk.2) (.int .i64 t614)) (fun _ hk => hk.2) (.slice Ao15 t615.length co15)) (fun _ hk => hk.1)⟩
    replace HO617 : Aside0 (Kd.R (Kd.int .i64) 3 (((w12.setCell ⟨gb618, 0, none⟩ (.int .i64 t613)).setCell ⟨gb618, 1, none⟩ (.int .i64 t614)).setCell ⟨gb618, 2, none⟩ (.slice Ao15 t615.length co15)) w.heap.size (fun k_ => some k_ ≠ (v611 : Value).ownBlock) (.slice Ao15 t615.length co15) t615) := ⟨Kd.R_mono (Kd.R_far (p := ⟨gb618, 2, none⟩) (Kd.R_far (p := ⟨gb618, 1, none⟩) (Kd.R_far (p := ⟨gb618, 0, none⟩) (Kd.R_types HO617.out BK618.out (by decide)) (fun _ hk => hk.2) (.int .i64 t613)) (fun _ hk => hk.2) (.int .i64 t614)) (fun _ hk => hk.2) (.slice Ao15 t615.length co15)) (fun _ hk => hk.1)⟩
    replace BK606 : Aside0 ((((w12.setCell ⟨gb618, 0, none⟩ (.int .i64 t613)).setCell ⟨gb618, 1, none⟩ (.int .i64 t614)).setCell ⟨gb618, 2, none⟩ (.slice Ao15 t615.length co15)).heap[gb606]? = some (.cells #[.int .i64 0, .int .i64 0, .slice none 0 0] 29 (0, 0))) := ⟨by refine blk_far ?_ NB606_618.out _; refine blk_far ?_ NB606_618.out _; refine blk_far ?_ NB606_618.out _; exact BK606.out⟩
    replace BK618 : Aside0 ((((w12.setCell ⟨gb618, 0, none⟩ (.int .i64 t613)).setCell ⟨gb618, 1, none⟩ (.int .i64 t614)).setCell ⟨gb618, 2, none⟩ (.slice Ao15 t615.length co15)).heap[gb618]? = some (.cells #[.int .i64 t613, .int .i64 t614, .slice Ao15 t615.length co15] 29 (0, 0))) := ⟨by refine blk_put (cs := #[.int .i64 t613, .int .i64 t614, .slice none 0 0]) ?_ 2 _ rfl; refine blk_put (cs := #[.int .i64 t613, .int .i64 0, .slice none 0 0]) ?_ 1 _ rfl; refine blk_put (cs := #[.int .i64 0, .int .i64 0, .slice none 0 0]) ?_ 0 _ rfl; exact BK618.out⟩
    replace HB : Aside0 (Below w.heap.size w (((w12.setCell ⟨gb618, 0, none⟩ (.int .i64 t613)).setCell ⟨gb618, 1, none⟩ (.int .i64 t614)).setCell ⟨gb618, 2, none⟩ (.slice Ao15 t615.length co15))) := ⟨by repeat (with_reducible first | exact HB.out | apply below_alloc | apply pw_below_drewN | apply below_drew1 | refine below_set ?_ GE606.out | refine below_set ?_ GE618.out)⟩
    generalize (((w12.setCell ⟨gb618, 0, none⟩ (.int .i64 t613)).setCell ⟨gb618, 1, none⟩ (.int .i64 t614)).setCell ⟨gb618, 2, none⟩ (.slice Ao15 t615.length co15)) = w16 at HO612 HO617 BK606 BK618 HB ⊢
    replace HO612 := Aside0.mk (Kd.R_drew HO612.out)
    replace HO617 := Aside0.mk (Kd.R_drew HO617.out)
    replace BK606 := Aside0.mk (blk_drew BK606.out)
    replace BK618 := Aside0.mk (blk_drew BK618.out)
    replace HB := Aside0.mk (below_drew1 HB.out)
    refine start_ (n := 5) (S := fun w' => w'.cell? ⟨gb618, 0, none⟩ = some (.int .i64 t613) ∧ w'.cell? ⟨gb618, 1, none⟩ = some (.int .i64 t614) ∧ w'.cell? ⟨gb618, 2, none⟩ = some (.slice Ao15 t615.length co15)) (ds := []) (bs 5 0) (by kernel_rfl) rfl rfl ⟨(blk_cell BK618.out 0).trans rfl, (blk_cell BK618.out 1).trans rfl, (blk_cell BK618.out 2).trans rfl⟩ (fun hHeld => ?_)
    generalize w16.drew = w17 at HO612 HO617 BK606 BK618 HB hHeld ⊢
    refine pZ 0 (some 32) (bs 5 1) rfl rfl (by kernel_rfl) ?_
    refine pZ 2 (some 4) (bs 5 5) rfl rfl (by kernel_rfl) ?_
    refine tZ 1 (some 33) (bs 5 7) rfl rfl (by kernel_rfl) hHeld (by rintro w' ⟨s0, s1, s2⟩; go_simp; with_reducible rfl) ?_
    refine one_ (i := 3) (N := none) (bs 5 15) rfl rfl (by kernel_rfl) (by decide) (fun K hK => ?_)
    have hs18 : w17.cell? ⟨gb606, 0, none⟩ = some (.int .i64 0) := (blk_cell BK606.out 0).trans rfl
    have hfs18 := blk_frozen BK606.out 0
    have hns18_1 := NB618_606.out
    have hms18_1 := NB606_618.out
    have hs19 : w17.cell? ⟨gb606, 1, none⟩ = some (.int .i64 0) := (blk_cell BK606.out 1).trans rfl
    have hfs19 := blk_frozen BK606.out 1
    have hns19_1 := NB618_606.out
    have hms19_1 := NB606_618.out
    have hs20 : w17.cell? ⟨gb606, 2, none⟩ = some (.slice none 0 0) := (blk_cell BK606.out 2).trans rfl
    have hfs20 := blk_frozen BK606.out 2
    have hns20_1 := NB618_606.out
    have hms20_1 := NB606_618.out
    refine skip_ (w1 := ?_) (by rfl) rfl ?_ ?_
    rotate_left
    ·go_simp
     rfl
    refine hK.out _ _ ⟨((cell_far (p := ⟨gb606, _, none⟩) NB618_606.out _).trans (((cell_far (p := ⟨gb606, _, none⟩) NB618_606.out _).trans (((cell_far (p := ⟨gb606, _, none⟩) NB618_606.out _).trans (hHeld.1)))))), ((cell_far (p := ⟨gb606, _, none⟩) NB618_606.out _).trans (((cell_far (p := ⟨gb606, _, none⟩) NB618_606.out _).trans (((cell_far (p := ⟨gb606, _, none⟩) NB618_606.out _).trans (hHeld.2.1)))))), ((cell_far (p := ⟨gb606, _, none⟩) NB618_606.out _).trans (((cell_far (p := ⟨gb606, _, none⟩) NB618_606.out _).trans (((cell_far (p := ⟨gb606, _, none⟩) NB618_606.out _).trans (hHeld.2.2))))))⟩ (fun hHeld => ?_)
    clear hK K
    refine pZ 4 (some 6) (bs 5 31) rfl rfl (by kernel_rfl) ?_
    refine done_ (by kernel_rfl) ?_
    try go_wp2
    refine bodyPost_ret (results_list (rs := [.tmp 4, .cell 5 29, .tmp 6]) rfl (by simp) (.tmp (.cell gb606 29 #[.int .i64 t613, .int .i64 t614, .slice Ao15 t615.length co15] (0, 0) _ rfl (by refine blk_put (cs := #[.int .i64 t613, .int .i64 t614, .slice none 0 0]) ?_ 2 _ rfl; refine blk_put (cs := #[.int .i64 t613, .int .i64 0, .slice none 0 0]) ?_ 1 _ rfl; refine blk_put (cs := #[.int .i64 0, .int .i64 0, .slice none 0 0]) ?_ 0 _ rfl; exact BK606.out) Tryd.underlying29 rfl (by kernel_rfl) (.tmp .nil)))) rfl ?_
    exact ⟨_, _, rfl, Kd.R_mono (Kd.R_far (p := ⟨gb606, 2, none⟩) (Kd.R_far (p := ⟨gb606, 1, none⟩) (Kd.R_far (p := ⟨gb606, 0, none⟩) (Kd.R_types HO612.out BK606.out (by decide)) (fun _ hk => hk.2) (.int .i64 t613)) (fun _ hk => hk.2) (.int .i64 t614)) (fun _ hk => hk.2) (.slice Ao15 t615.length co15)) (fun _ hk => hk.1), Kd.R_mono (Kd.R_far (p := ⟨gb606, 2, none⟩) (Kd.R_far (p := ⟨gb606, 1, none⟩) (Kd.R_far (p := ⟨gb606, 0, none⟩) (Kd.R_types HO617.out BK606.out (by decide)) (fun _ hk => hk.2) (.int .i64 t613)) (fun _ hk => hk.2) (.int .i64 t614)) (fun _ hk => hk.2) (.slice Ao15 t615.length co15)) (fun _ hk => hk.1), by repeat (with_reducible first | exact HB.out | apply below_alloc | apply pw_below_drewN | apply below_drew1 | refine below_set ?_ GE606.out | refine below_set ?_ GE618.out)⟩
   ·rw [if_neg c8] at H
    have c8b0 : ((l1.length : Int) == t609) = false := beq_eq_false_iff_ne.mpr c8
    have c8b1 : ((l1.length : Int) != t609) = true := bne_iff_ne.mpr c8
    obtain ⟨y619, hy619⟩ : ∃ y_ : List Int, y_ = (([] : List Int)) := ⟨_, rfl⟩
    replace H : (some (y619, 0, 0, ([] : List Int), false)) = some (r1, r2, r3, r4, r5) := by rw [hy619]; with_reducible exact H
    have Ny619 := Aside0.mk hy619
    clear hy619
    simp only [Option.some.injEq, Prod.mk.injEq] at H
    obtain ⟨rfl, rfl, rfl, rfl, rfl⟩ := H
    go_enter Tryd.func39, Tryd.ntmps39
    go_wp2_with (first | ((with_reducible refine gate_dst (N := 5) rfl ?_); (try (refine gate_guard (by rfl) ?_; dsimp only)); refine box_event ?hg (N := 5) ?hd (cs := #[.int .i64 0, .int .i64 0, .slice none 0 0]) (t := 29) ?hr ?_; (case hd => rfl); (case hg => rfl); (case hr => first | (go_simp; done) | (go_simp; rfl)); intro gb606 hg w21 hbox hb; replace BK606 := Aside0.mk (hbox); replace GW606 := Aside0.mk ((by rw [hg]; exact (below_size (by repeat (with_reducible first | exact HB.out | apply below_alloc | apply pw_below_drewN | apply below_drew1))) : w.heap.size ≤ gb606)); replace GE606 := Aside0.mk ((by rw [hg]; exact (below_size (by repeat (with_reducible first | exact HB.out | apply below_alloc | apply pw_below_drewN | apply below_drew1))) : w.heap.size ≤ gb606)); replace HB := Aside0.mk (below_step (by repeat (with_reducible first | exact HB.out | apply below_alloc | apply pw_below_drewN | apply below_drew1)) hb); clear hb hbox hg) | (refine gsD c63x25 (spec_l11Kind.calls a0 true _ A3.out) ?_; intro nd; (try (rw [drewN_self w21]; generalize hq_ : World.drewN w21 _ = w21; have n0_ : Aside0 (w21.heap[gb606]? = some (.cells #[.int .i64 0, .int .i64 0, .slice none 0 0] 29 (0, 0))) := ⟨by rw [← hq_]; exact (by exact BK606.out)⟩; have n1_ : Aside0 (Below w.heap.size w w21) := ⟨by rw [← hq_]; exact (by repeat (with_reducible first | exact HB.out | apply below_alloc | apply pw_below_drewN | apply below_drew1 | refine below_set ?_ GE606.out))⟩; clear BK606 HB hq_; have BK606 := n0_; have HB := n1_; clear n0_ n1_))) | (go_at_call 64; (with_reducible refine (spec_ShareOk.calls k _ _ l1 true _ ?side1 ?side2 A5.out).mono ?_); (case side1 => exact (Kd.C_below HR1.out HB.out)); (case side2 => exact HC1.out); rintro e w' ⟨rfl, ⟨nd, rfl⟩⟩; (try (rw [drewN_self w21]; generalize hq_ : World.drewN w21 _ = w21; have n0_ : Aside0 (w21.heap[gb606]? = some (.cells #[.int .i64 0, .int .i64 0, .slice none 0 0] 29 (0, 0))) := ⟨by rw [← hq_]; exact (by exact BK606.out)⟩; have n1_ : Aside0 (Below w.heap.size w w21) := ⟨by rw [← hq_]; exact (by repeat (with_reducible first | exact HB.out | apply below_alloc | apply pw_below_drewN | apply below_drew1 | refine below_set ?_ GE606.out))⟩; clear BK606 HB hq_; have BK606 := n0_; have HB := n1_; clear n0_ n1_))) | (go_at_call 65; (with_reducible refine (spec_ProofLen.calls a0 t609 _ A7.out).mono ?_); rintro e w' ⟨rfl, ⟨nd, rfl⟩⟩; (try (rw [drewN_self w21]; generalize hq_ : World.drewN w21 _ = w21; have n0_ : Aside0 (w21.heap[gb606]? = some (.cells #[.int .i64 0, .int .i64 0, .slice none 0 0] 29 (0, 0))) := ⟨by rw [← hq_]; exact (by exact BK606.out)⟩; have n1_ : Aside0 (Below w.heap.size w w21) := ⟨by rw [← hq_]; exact (by repeat (with_reducible first | exact HB.out | apply below_alloc | apply pw_below_drewN | apply below_drew1 | refine below_set ?_ GE606.out))⟩; clear BK606 HB hq_; have BK606 := n0_; have HB := n1_; clear n0_ n1_))) | ((with_reducible refine gate_dst (N := 24) rfl ?_); (try (refine gate_guard (by rfl) ?_; dsimp only)); refine Kd.R_lit (Kd.int .i64) _ 3 ?hg (N := 24) ?hd (xs := ([] : List Int)) (inner := []) (ok := fun _ => True) (okp := fun _ => True) ?hr ?hp (fun _ hk => hk) trivial (Below.refl _ _) (Nat.le_refl _) (by simp) ?_; (case hd => rfl); (case hg => rfl); (case hr => first | (go_simp; done) | (go_simp; rfl)); (case hp => exact (Reps.none _ _)); intro v620 w22 ho23 hb hg_ hnew_; clear hg_ hnew_; (first | rw [← Ny619.out] at ho23 | (simp only [Int.reduceToNat] at ho23; rw [← Ny619.out] at ho23)); replace HO621 := Aside0.mk (Kd.R_lower ho23 (below_size (by repeat (with_reducible first | exact HB.out | apply below_alloc | apply pw_below_drewN | apply below_drew1 | refine below_set ?_ GE606.out)))); replace BK606 := Aside0.mk (blk_below (g := gb606) (o := .cells #[.int .i64 0, .int .i64 0, .slice none 0 0] 29 (0, 0)) (by exact BK606.out) hb); replace HB := Aside0.mk (below_step (by repeat (with_reducible first | exact HB.out | apply below_alloc | apply pw_below_drewN | apply below_drew1 | refine below_set ?_ GE606.out)) hb); clear hb ho23; have hcz24_0 : w22.cell? ⟨gb606, 0, none⟩ = some (.int .i64 0) := (blk_cell BK606.out 0).trans rfl; have hcz24_1 : w22.cell? ⟨gb606, 1, none⟩ = some (.int .i64 0) := (blk_cell BK606.out 1).trans rfl; have hcz24_2 : w22.cell? ⟨gb606, 2, none⟩ = some (.slice none 0 0) := (blk_cell BK606.out 2).trans rfl; have hfz24_0 := blk_frozen BK606.out 0; have hfz24_1 := blk_frozen BK606.out 1; have hfz24_2 := blk_frozen BK606.out 2))
    refine bodyPost_ret (results_list (rs := [.tmp 4, .cell 5 29, .tmp 6]) rfl (by simp) (.tmp (.cell gb606 29 #[.int .i64 0, .int .i64 0, .slice none 0 0] (0, 0) _ rfl (by refine blk_put (cs := #[.int .i64 0, .int .i64 0, .slice none 0 0]) ?_ 2 _ rfl; refine blk_put (cs := #[.int .i64 0, .int .i64 0, .slice none 0 0]) ?_ 1 _ rfl; refine blk_put (cs := #[.int .i64 0, .int .i64 0, .slice none 0 0]) ?_ 0 _ rfl; exact BK606.out) Tryd.underlying29 rfl (by kernel_rfl) (.tmp .nil)))) rfl ?_
    exact ⟨_, _, rfl, Kd.R_mono (Kd.R_far (p := ⟨gb606, 2, none⟩) (Kd.R_far (p := ⟨gb606, 1, none⟩) (Kd.R_far (p := ⟨gb606, 0, none⟩) (Kd.R_types HO621.out BK606.out (by decide)) (fun _ hk => hk.2) (.int .i64 0)) (fun _ hk => hk.2) (.int .i64 0)) (fun _ hk => hk.2) (.slice none 0 0)) (fun _ hk => (by simp [Value.ownBlock])), by first | exact Kd.R_nil _ _ _ _ _ | exact Kd.N_nil _ _ _ _ _ | exact Kd.V_nil _ _ _ _ _ | exact Kd.Q_nil _ _ _ _ _ | exact Kd.S_nil _ _ _ _ _, by repeat (with_reducible first | exact HB.out | apply below_alloc | apply pw_below_drewN | apply below_drew1 | refine below_set ?_ GE606.out)⟩
  ·replace c6 := Bool.eq_false_iff.mpr c6
   subst c6
   rw [if_neg (show ¬ (false = true) by decide)] at H
   obtain ⟨y622, hy622⟩ : ∃ y_ : List Int, y_ = (([] : List Int)) := ⟨_, rfl⟩
   replace H : (some (y622, 0, 0, ([] : List Int), false)) = some (r1, r2, r3, r4, r5) := by rw [hy622]; with_reducible exact H
   have Ny622 := Aside0.mk hy622
   clear hy622
   simp only [Option.some.injEq, Prod.mk.injEq] at H
   obtain ⟨rfl, rfl, rfl, rfl, rfl⟩ := H
   go_enter Tryd.func39, Tryd.ntmps39
   go_wp2_with (first | ((with_reducible refine gate_dst (N := 5) rfl ?_); (try (refine gate_guard (by rfl) ?_; dsimp only)); refine box_event ?hg (N := 5) ?hd (cs := #[.int .i64 0, .int .i64 0, .slice none 0 0]) (t := 29) ?hr ?_; (case hd => rfl); (case hg => rfl); (case hr => first | (go_simp; done) | (go_simp; rfl)); intro gb606 hg w25 hbox hb; replace BK606 := Aside0.mk (hbox); replace GW606 := Aside0.mk ((by rw [hg]; exact (below_size (by repeat (with_reducible first | exact HB.out | apply below_alloc | apply pw_below_drewN | apply below_drew1))) : w.heap.size ≤ gb606)); replace GE606 := Aside0.mk ((by rw [hg]; exact (below_size (by repeat (with_reducible first | exact HB.out | apply below_alloc | apply pw_below_drewN | apply below_drew1))) : w.heap.size ≤ gb606)); replace HB := Aside0.mk (below_step (by repeat (with_reducible first | exact HB.out | apply below_alloc | apply pw_below_drewN | apply below_drew1)) hb); clear hb hbox hg) | (refine gsD c63x25 (spec_l11Kind.calls a0 true _ A3.out) ?_; intro nd; (try (rw [drewN_self w25]; generalize hq_ : World.drewN w25 _ = w25; have n0_ : Aside0 (w25.heap[gb606]? = some (.cells #[.int .i64 0, .int .i64 0, .slice none 0 0] 29 (0, 0))) := ⟨by rw [← hq_]; exact (by exact BK606.out)⟩; have n1_ : Aside0 (Below w.heap.size w w25) := ⟨by rw [← hq_]; exact (by repeat (with_reducible first | exact HB.out | apply below_alloc | apply pw_below_drewN | apply below_drew1 | refine below_set ?_ GE606.out))⟩; clear BK606 HB hq_; have BK606 := n0_; have HB := n1_; clear n0_ n1_))) | (go_at_call 64; (with_reducible refine (spec_ShareOk.calls k _ _ l1 false _ ?side1 ?side2 A5.out).mono ?_); (case side1 => exact (Kd.C_below HR1.out HB.out)); (case side2 => exact HC1.out); rintro e w' ⟨rfl, ⟨nd, rfl⟩⟩; (try (rw [drewN_self w25]; generalize hq_ : World.drewN w25 _ = w25; have n0_ : Aside0 (w25.heap[gb606]? = some (.cells #[.int .i64 0, .int .i64 0, .slice none 0 0] 29 (0, 0))) := ⟨by rw [← hq_]; exact (by exact BK606.out)⟩; have n1_ : Aside0 (Below w.heap.size w w25) := ⟨by rw [← hq_]; exact (by repeat (with_reducible first | exact HB.out | apply below_alloc | apply pw_below_drewN | apply below_drew1 | refine below_set ?_ GE606.out))⟩; clear BK606 HB hq_; have BK606 := n0_; have HB := n1_; clear n0_ n1_))) | ((with_reducible refine gate_dst (N := 24) rfl ?_); (try (refine gate_guard (by rfl) ?_; dsimp only)); refine Kd.R_lit (Kd.int .i64) _ 3 ?hg (N := 24) ?hd (xs := ([] : List Int)) (inner := []) (ok := fun _ => True) (okp := fun _ => True) ?hr ?hp (fun _ hk => hk) trivial (Below.refl _ _) (Nat.le_refl _) (by simp) ?_; (case hd => rfl); (case hg => rfl); (case hr => first | (go_simp; done) | (go_simp; rfl)); (case hp => exact (Reps.none _ _)); intro v623 w26 ho27 hb hg_ hnew_; clear hg_ hnew_; (first | rw [← Ny622.out] at ho27 | (simp only [Int.reduceToNat] at ho27; rw [← Ny622.out] at ho27)); replace HO624 := Aside0.mk (Kd.R_lower ho27 (below_size (by repeat (with_reducible first | exact HB.out | apply below_alloc | apply pw_below_drewN | apply below_drew1 | refine below_set ?_ GE606.out)))); replace BK606 := Aside0.mk (blk_below (g := gb606) (o := .cells #[.int .i64 0, .int .i64 0, .slice none 0 0] 29 (0, 0)) (by exact BK606.out) hb); replace HB := Aside0.mk (below_step (by repeat (with_reducible first | exact HB.out | apply below_alloc | apply pw_below_drewN | apply below_drew1 | refine below_set ?_ GE606.out)) hb); clear hb ho27; have hcz28_0 : w26.cell? ⟨gb606, 0, none⟩ = some (.int .i64 0) := (blk_cell BK606.out 0).trans rfl; have hcz28_1 : w26.cell? ⟨gb606, 1, none⟩ = some (.int .i64 0) := (blk_cell BK606.out 1).trans rfl; have hcz28_2 : w26.cell? ⟨gb606, 2, none⟩ = some (.slice none 0 0) := (blk_cell BK606.out 2).trans rfl; have hfz28_0 := blk_frozen BK606.out 0; have hfz28_1 := blk_frozen BK606.out 1; have hfz28_2 := blk_frozen BK606.out 2))
   refine bodyPost_ret (results_list (rs := [.tmp 4, .cell 5 29, .tmp 6]) rfl (by simp) (.tmp (.cell gb606 29 #[.int .i64 0, .int .i64 0, .slice none 0 0] (0, 0) _ rfl (by refine blk_put (cs := #[.int .i64 0, .int .i64 0, .slice none 0 0]) ?_ 2 _ rfl; refine blk_put (cs := #[.int .i64 0, .int .i64 0, .slice none 0 0]) ?_ 1 _ rfl; refine blk_put (cs := #[.int .i64 0, .int .i64 0, .slice none 0 0]) ?_ 0 _ rfl; exact BK606.out) Tryd.underlying29 rfl (by kernel_rfl) (.tmp .nil)))) rfl ?_
   exact ⟨_, _, rfl, Kd.R_mono (Kd.R_far (p := ⟨gb606, 2, none⟩) (Kd.R_far (p := ⟨gb606, 1, none⟩) (Kd.R_far (p := ⟨gb606, 0, none⟩) (Kd.R_types HO624.out BK606.out (by decide)) (fun _ hk => hk.2) (.int .i64 0)) (fun _ hk => hk.2) (.int .i64 0)) (fun _ hk => hk.2) (.slice none 0 0)) (fun _ hk => (by simp [Value.ownBlock])), by first | exact Kd.R_nil _ _ _ _ _ | exact Kd.N_nil _ _ _ _ _ | exact Kd.V_nil _ _ _ _ _ | exact Kd.Q_nil _ _ _ _ _ | exact Kd.S_nil _ _ _ _ _, by repeat (with_reducible first | exact HB.out | apply below_alloc | apply pw_below_drewN | apply below_drew1 | refine below_set ?_ GE606.out)⟩
 ·replace c4 := Bool.eq_false_iff.mpr c4
  subst c4
  rw [if_neg (show ¬ (false = true) by decide)] at H
  obtain ⟨y625, hy625⟩ : ∃ y_ : List Int, y_ = (([] : List Int)) := ⟨_, rfl⟩
  replace H : (some (y625, 0, 0, ([] : List Int), false)) = some (r1, r2, r3, r4, r5) := by rw [hy625]; with_reducible exact H
  have Ny625 := Aside0.mk hy625
  clear hy625
  simp only [Option.some.injEq, Prod.mk.injEq] at H
  obtain ⟨rfl, rfl, rfl, rfl, rfl⟩ := H
  go_enter Tryd.func39, Tryd.ntmps39
  go_wp2_with (first | ((with_reducible refine gate_dst (N := 5) rfl ?_); (try (refine gate_guard (by rfl) ?_; dsimp only)); refine box_event ?hg (N := 5) ?hd (cs := #[.int .i64 0, .int .i64 0, .slice none 0 0]) (t := 29) ?hr ?_; (case hd => rfl); (case hg => rfl); (case hr => first | (go_simp; done) | (go_simp; rfl)); intro gb606 hg w29 hbox hb; replace BK606 := Aside0.mk (hbox); replace GW606 := Aside0.mk ((by rw [hg]; exact (below_size (by repeat (with_reducible first | exact HB.out | apply below_alloc | apply pw_below_drewN | apply below_drew1))) : w.heap.size ≤ gb606)); replace GE606 := Aside0.mk ((by rw [hg]; exact (below_size (by repeat (with_reducible first | exact HB.out | apply below_alloc | apply pw_below_drewN | apply below_drew1))) : w.heap.size ≤ gb606)); replace HB := Aside0.mk (below_step (by repeat (with_reducible first | exact HB.out | apply below_alloc | apply pw_below_drewN | apply below_drew1)) hb); clear hb hbox hg) | (refine gsD c63x25 (spec_l11Kind.calls a0 false _ A3.out) ?_; intro nd; (try (rw [drewN_self w29]; generalize hq_ : World.drewN w29 _ = w29; have n0_ : Aside0 (w29.heap[gb606]? = some (.cells #[.int .i64 0, .int .i64 0, .slice none 0 0] 29 (0, 0))) := ⟨by rw [← hq_]; exact (by exact BK606.out)⟩; have n1_ : Aside0 (Below w.heap.size w w29) := ⟨by rw [← hq_]; exact (by repeat (with_reducible first | exact HB.out | apply below_alloc | apply pw_below_drewN | apply below_drew1 | refine below_set ?_ GE606.out))⟩; clear BK606 HB hq_; have BK606 := n0_; have HB := n1_; clear n0_ n1_))) | ((with_reducible refine gate_dst (N := 24) rfl ?_); (try (refine gate_guard (by rfl) ?_; dsimp only)); refine Kd.R_lit (Kd.int .i64) _ 3 ?hg (N := 24) ?hd (xs := ([] : List Int)) (inner := []) (ok := fun _ => True) (okp := fun _ => True) ?hr ?hp (fun _ hk => hk) trivial (Below.refl _ _) (Nat.le_refl _) (by simp) ?_; (case hd => rfl); (case hg => rfl); (case hr => first | (go_simp; done) | (go_simp; rfl)); (case hp => exact (Reps.none _ _)); intro v626 w30 ho31 hb hg_ hnew_; clear hg_ hnew_; (first | rw [← Ny625.out] at ho31 | (simp only [Int.reduceToNat] at ho31; rw [← Ny625.out] at ho31)); replace HO627 := Aside0.mk (Kd.R_lower ho31 (below_size (by repeat (with_reducible first | exact HB.out | apply below_alloc | apply pw_below_drewN | apply below_drew1 | refine below_set ?_ GE606.out)))); replace BK606 := Aside0.mk (blk_below (g := gb606) (o := .cells #[.int .i64 0, .int .i64 0, .slice none 0 0] 29 (0, 0)) (by exact BK606.out) hb); replace HB := Aside0.mk (below_step (by repeat (with_reducible first | exact HB.out | apply below_alloc | apply pw_below_drewN | apply below_drew1 | refine below_set ?_ GE606.out)) hb); clear hb ho31; have hcz32_0 : w30.cell? ⟨gb606, 0, none⟩ = some (.int .i64 0) := (blk_cell BK606.out 0).trans rfl; have hcz32_1 : w30.cell? ⟨gb606, 1, none⟩ = some (.int .i64 0) := (blk_cell BK606.out 1).trans rfl; have hcz32_2 : w30.cell? ⟨gb606, 2, none⟩ = some (.slice none 0 0) := (blk_cell BK606.out 2).trans rfl; have hfz32_0 := blk_frozen BK606.out 0; have hfz32_1 := blk_frozen BK606.out 1; have hfz32_2 := blk_frozen BK606.out 2))
  refine bodyPost_ret (results_list (rs := [.tmp 4, .cell 5 29, .tmp 6]) rfl (by simp) (.tmp (.cell gb606 29 #[.int .i64 0, .int .i64 0, .slice none 0 0] (0, 0) _ rfl (by refine blk_put (cs := #[.int .i64 0, .int .i64 0, .slice none 0 0]) ?_ 2 _ rfl; refine blk_put (cs := #[.int .i64 0, .int .i64 0, .slice none 0 0]) ?_ 1 _ rfl; refine blk_put (cs := #[.int .i64 0, .int .i64 0, .slice none 0 0]) ?_ 0 _ rfl; exact BK606.out) Tryd.underlying29 rfl (by kernel_rfl) (.tmp .nil)))) rfl ?_
  exact ⟨_, _, rfl, Kd.R_mono (Kd.R_far (p := ⟨gb606, 2, none⟩) (Kd.R_far (p := ⟨gb606, 1, none⟩) (Kd.R_far (p := ⟨gb606, 0, none⟩) (Kd.R_types HO627.out BK606.out (by decide)) (fun _ hk => hk.2) (.int .i64 0)) (fun _ hk => hk.2) (.int .i64 0)) (fun _ hk => hk.2) (.slice none 0 0)) (fun _ hk => (by simp [Value.ownBlock])), by first | exact Kd.R_nil _ _ _ _ _ | exact Kd.N_nil _ _ _ _ _ | exact Kd.V_nil _ _ _ _ _ | exact Kd.Q_nil _ _ _ _ _ | exact Kd.S_nil _ _ _ _ _, by repeat (with_reducible first | exact HB.out | apply below_alloc | apply pw_below_drewN | apply below_drew1 | refine below_set ?_ GE606.out)⟩
def impl_ShareOk.f (l0 : List Int) : Option (Bool) := (impl_elementsOk.f l0 20).bind fun t628 => (some t628)
set_option maxHeartbeats 8000000 in
set_option maxRecDepth 100000 in
theorem impl_ShareOk.calls (A0 : Option Addr) (c0 : Nat) (l0 : List Int) (r : Bool) (w : World) (hr0 : Kd.C (Kd.int .i64) w A0 l0.length l0) (hc0 : l0.length ≤ c0) (h : impl_ShareOk.f l0 = some r) :
  Calls Tryd.prog 40 #[.slice A0 l0.length c0] w fun e w' => e = .returned (.bool r) ∧ Drawn0 w w' := by
 have HR0 := Aside0.mk hr0
 have HC0 := Aside0.mk hc0
 clear hr0 hc0
 have H : ((impl_elementsOk.f l0 20).bind fun t628 => (some t628)) = some r := h
 clear h
 replace H := bnd H
 obtain ⟨t628, A2, H⟩ := H
 obtain rfl := Option.some.inj H
 go_enter Tryd.func40, Tryd.ntmps40
 go_wp2_with (first | ((with_reducible refine gate_callee (f := 79) rfl ?_); refine goesL_ (some 4) rfl rfl Tryd.func79 (by kernel_rfl) rfl #[.slice A0 l0.length c0, .int .i64 20] rfl (by (try simp only [List.map_toArray, List.map_cons, List.map_nil]); first | done | rfl | (simp only [List.length_drop, List.length_take]; rfl)) ?_; (with_reducible refine (impl_elementsOk.calls _ _ l0 20 t628 _ ?side1 ?side2 A2.out).mono ?_); (case side1 => exact HR0.out); (case side2 => exact HC0.out); rintro e w' ⟨rfl, ⟨nd, rfl⟩⟩; refine ⟨_, rfl, ?_⟩))
 go_ret
 exact ⟨rfl, ⟨_, rfl⟩⟩
end Go.Proofs.YtahbooeioigbgaaDoor.Da
