import Derived.Test.YtplbobmllflniaaZ
import Derived.Test.YtplbobmllflniaaEa0
import Derived.Test.YtplbobmllflniaaEa4
namespace Go.Proofs.Ytplbobmllflniaa.Ea
open Go.RowKit Go.Proofs.YtplbobmllflniaaW.PrintWords Go.Proofs.YtplbobmllflniaaW.PrintLast Go.Proofs.YtplbobmllflniaaW.PrintMore Go.Proofs.Ytplbobmllflniaa.Z
attribute [local go_sem] max2_int min2_int max_two min_two max_three min_three max_four min_four
set_option linter.unusedVariables false
set_option linter.unusedSimpArgs false
theorem c86x6 : Ent Try.prog 86 := ent Try.func86 (by kernel_rfl) rfl
theorem c108x6 : Ent Try.prog 108 := ent Try.func108 (by kernel_rfl) rfl
def spec_l12Cut.f (a0 : Int) (l1 : List Int) : Option (List Int × Int × Int × List Int) := (spec_TypeLen.f a0).bind fun t189 => ((some (([] : List Int) : List Int)).bind fun y190 => (if 0 ≤ t189 then (if t189 ≤ (l1.length : Int) then (if y190.length + (l1.take (t189 : Int).toNat).length < 17592186044416 then (if t189 < (l1.length : Int) then (if 0 ≤ (wrap64 (t189 + 1)) then (if (wrap64 (t189 + 1)) < (l1.length : Int) then ((some (([] : List Int) : List Int)).bind fun y199 => (if 0 ≤ (wrap64 (t189 + 2)) then (if (wrap64 (t189 + 2)) ≤ (l1.length : Int) then (if y199.length + (l1.drop ((wrap64 (t189 + 2)) : Int).toNat).length < 17592186044416 then (some ((y190 ++ (l1.take (t189 : Int).toNat)), rd l1 t189, rd l1 (wrap64 (t189 + 1)), (y199 ++ (l1.drop ((wrap64 (t189 + 2)) : Int).toNat)))) else (none)) else (none)) else (none))) else (none)) else (none)) else (none)) else (none)) else (none)) else (none)))
def spec_l12Cut.T2 : Bool × List (List Nat × List Nat) := (true, [([], []), ([], []), ([], []), ([1, 2], [1, 2]), ([0, 3], [0, 3]), ([], []), ([], []), ([5, 6], [5, 6]), ([7], [7]), ([], []), ([], []), ([10], [10]), ([9, 11], [9, 11]), ([12], [12]), ([], []), ([], []), ([], []), ([16], [16]), ([15, 17], [15, 17]), ([14, 18, 4], [14, 18]), ([8, 13, 19], [8, 13, 19]), ([4, 19, 0, 1, 2, 3, 4], [4]), ([20, 21, 0, 1, 2, 3, 4, 5, 6, 7, 8, 9, 10, 11, 12, 13, 14, 15, 16, 17, 18, 19, 20, 21], [20])])
def spec_l12Cut.B2 : List Nat := [0, 0, 0, 6, 15, 0, 0, 96, 224, 0, 0, 1024, 3584, 7680, 0, 0, 0, 65536, 229376, 507935, 1048575, 1032223, 4194303]
theorem spec_l12Cut.tab2 : rtab .any (opsOf Try.f146 2) = spec_l12Cut.T2 := by kernel_rfl
theorem spec_l12Cut.bits2 : waitsOk spec_l12Cut.T2.2 spec_l12Cut.B2 = true := by kernel_rfl
set_option maxHeartbeats 8000000 in
set_option maxRecDepth 100000 in
theorem spec_l12Cut.calls (a0 : Int) (A1 : Option Addr) (c1 : Nat) (l1 : List Int) (r1 : List Int) (r2 : Int) (r3 : Int) (r4 : List Int) (w : World) (hr1 : Kd.C (Kd.int .i64) w A1 l1.length l1) (hc1 : l1.length ≤ c1) (h : spec_l12Cut.f a0 l1 = some (r1, r2, r3, r4)) :
  Calls Try.prog 146 #[.int .i64 a0, .slice A1 l1.length c1] w fun e w' => ∃ v0_ v3_ : Value, e = .returned (.tuple #[v0_, .agg #[.int .i64 r2, .int .i64 r3, v3_]]) ∧ Kd.R (Kd.int .i64) 3 w' w.heap.size (fun k_ => some k_ ≠ (v3_ : Value).ownBlock) v0_ r1 ∧ Kd.R (Kd.int .i64) 3 w' w.heap.size (fun k_ => some k_ ≠ (v0_ : Value).ownBlock) v3_ r4 ∧ Below w.heap.size w w' := by
 have hu59 := Try.underlying59
 have HR1 := Aside0.mk hr1
 have HC1 := Aside0.mk hc1
 clear hr1 hc1
 have HB := Aside0.mk (Below.refl w.heap.size w)
 have H := h
 unfold spec_l12Cut.f at H
 clear h
 replace H := bnd H
 obtain ⟨t189, A3, H⟩ := H
 obtain ⟨y190, hy190⟩ : ∃ y_ : List Int, y_ = (([] : List Int)) := ⟨_, rfl⟩
 replace H : (if 0 ≤ t189 then (if t189 ≤ (l1.length : Int) then (if y190.length + (l1.take (t189 : Int).toNat).length < 17592186044416 then (if t189 < (l1.length : Int) then (if 0 ≤ (wrap64 (t189 + 1)) then (if (wrap64 (t189 + 1)) < (l1.length : Int) then ((some (([] : List Int) : List Int)).bind fun y199 => (if 0 ≤ (wrap64 (t189 + 2)) then (if (wrap64 (t189 + 2)) ≤ (l1.length : Int) then (if y199.length + (l1.drop ((wrap64 (t189 + 2)) : Int).toNat).length < 17592186044416 then (some ((y190 ++ (l1.take (t189 : Int).toNat)), rd l1 t189, rd l1 (wrap64 (t189 + 1)), (y199 ++ (l1.drop ((wrap64 (t189 + 2)) : Int).toNat)))) else (none)) else (none)) else (none))) else (none)) else (none)) else (none)) else (none)) else (none)) else (none)) = some (r1, r2, r3, r4) := by first | (rw [hy190]; with_reducible exact H) | (have H2_ := (Option.bind_some _ _).symm.trans H; rw [hy190]; with_reducible exact H2_) | (have H2_ := (Option.bind_some _ _).symm.trans H; with_reducible exact H2_) | with_reducible exact H | (rw [hy190]; exact H) | exact H
 have Ny190 := Aside0.mk hy190
 clear hy190
 by_cases c4 : 0 ≤ t189
 ·rw [if_pos c4] at H
  have c4b0 := eq_true c4
  have c4b1 : decide (0 ≤ t189) = true := decide_eq_true c4
  clear c4
  by_cases c5 : t189 ≤ (l1.length : Int)
  ·rw [if_pos c5] at H
   have c5b0 := eq_true c5
   have c5b1 : decide (t189 ≤ (l1.length : Int)) = true := decide_eq_true c5
   clear c5
   by_cases c6 : y190.length + (l1.take (t189 : Int).toNat).length < 17592186044416
   ·rw [if_pos c6] at H
    have LMc6 := Aside0.mk c6
    clear c6
    obtain ⟨y194, hy194⟩ : ∃ y_ : List Int, y_ = (y190 ++ (l1.take (t189 : Int).toNat)) := ⟨_, rfl⟩
    replace H : (if t189 < (l1.length : Int) then (if 0 ≤ (wrap64 (t189 + 1)) then (if (wrap64 (t189 + 1)) < (l1.length : Int) then ((some (([] : List Int) : List Int)).bind fun y199 => (if 0 ≤ (wrap64 (t189 + 2)) then (if (wrap64 (t189 + 2)) ≤ (l1.length : Int) then (if y199.length + (l1.drop ((wrap64 (t189 + 2)) : Int).toNat).length < 17592186044416 then (some (y194, rd l1 t189, rd l1 (wrap64 (t189 + 1)), (y199 ++ (l1.drop ((wrap64 (t189 + 2)) : Int).toNat)))) else (none)) else (none)) else (none))) else (none)) else (none)) else (none)) = some (r1, r2, r3, r4) := by rw [hy194]; with_reducible exact H
    have Ny194 := Aside0.mk hy194
    clear hy194
    by_cases c7 : t189 < (l1.length : Int)
    ·rw [if_pos c7] at H
     have c7b0 : decide (t189 < (l1.length : Int)) = true := decide_eq_true c7
     clear c7
     obtain ⟨ji8, hji8⟩ : ∃ j_ : Int, (wrap64 (t189 + 1)) = j_ := ⟨_, rfl⟩
     replace H : (if 0 ≤ (ji8) then (if (ji8) < (l1.length : Int) then ((some (([] : List Int) : List Int)).bind fun y199 => (if 0 ≤ (wrap64 (t189 + 2)) then (if (wrap64 (t189 + 2)) ≤ (l1.length : Int) then (if y199.length + (l1.drop ((wrap64 (t189 + 2)) : Int).toNat).length < 17592186044416 then (some (y194, rd l1 t189, rd l1 (ji8), (y199 ++ (l1.drop ((wrap64 (t189 + 2)) : Int).toNat)))) else (none)) else (none)) else (none))) else (none)) else (none)) = some (r1, r2, r3, r4) := by first | (rw [hji8] at H; exact H) | (simp only [hji8] at H ⊢; exact H)
     (try rw [hji8] at A3)
     have hji8w : (IntKind.i64.wrap (t189 + 1)) = ji8 := (i64_w _).trans hji8
     by_cases c9 : 0 ≤ (ji8)
     ·rw [if_pos c9] at H
      have c9b0 : decide (0 ≤ (ji8)) = true := decide_eq_true c9
      clear c9
      by_cases c10 : (ji8) < (l1.length : Int)
      ·rw [if_pos c10] at H
       have c10b0 : decide ((ji8) < (l1.length : Int)) = true := decide_eq_true c10
       clear c10
       obtain ⟨y199, hy199⟩ : ∃ y_ : List Int, y_ = (([] : List Int)) := ⟨_, rfl⟩
       replace H : (if 0 ≤ (wrap64 (t189 + 2)) then (if (wrap64 (t189 + 2)) ≤ (l1.length : Int) then (if y199.length + (l1.drop ((wrap64 (t189 + 2)) : Int).toNat).length < 17592186044416 then (some (y194, rd l1 t189, rd l1 (ji8), (y199 ++ (l1.drop ((wrap64 (t189 + 2)) : Int).toNat)))) else (none)) else (none)) else (none)) = some (r1, r2, r3, r4) := by first | (rw [hy199]; with_reducible exact H) | (have H2_ := (Option.bind_some _ _).symm.trans H; rw [hy199]; with_reducible exact H2_) | (have H2_ := (Option.bind_some _ _).symm.trans H; with_reducible exact H2_) | with_reducible exact H | (rw [hy199]; exact H) | exact H
       have Ny199 := Aside0.mk hy199
       clear hy199
       obtain ⟨ji11, hji11⟩ : ∃ j_ : Int, (wrap64 (t189 + 2)) = j_ := ⟨_, rfl⟩
       replace H : (if 0 ≤ (ji11) then (if (ji11) ≤ (l1.length : Int) then (if y199.length + (l1.drop ((ji11) : Int).toNat).length < 17592186044416 then (some (y194, rd l1 t189, rd l1 (ji8), (y199 ++ (l1.drop ((ji11) : Int).toNat)))) else (none)) else (none)) else (none)) = some (r1, r2, r3, r4) := by first | (rw [hji11] at H; exact H) | (simp only [hji11] at H ⊢; exact H)
       (try rw [hji11] at A3)
       have hji11w : (IntKind.i64.wrap (t189 + 2)) = ji11 := (i64_w _).trans hji11
       by_cases c12 : 0 ≤ (ji11)
       ·rw [if_pos c12] at H
        have c12b0 := eq_true c12
        have c12b1 : decide (0 ≤ (ji11)) = true := decide_eq_true c12
        clear c12
        by_cases c13 : (ji11) ≤ (l1.length : Int)
        ·rw [if_pos c13] at H
         have c13b0 := eq_true c13
         have c13b1 : decide ((ji11) ≤ (l1.length : Int)) = true := decide_eq_true c13
         clear c13
         by_cases c14 : y199.length + (l1.drop ((ji11) : Int).toNat).length < 17592186044416
         ·rw [if_pos c14] at H
          have LMc14 := Aside0.mk c14
          clear c14
          obtain ⟨y203, hy203⟩ : ∃ y_ : List Int, y_ = (y199 ++ (l1.drop ((ji11) : Int).toNat)) := ⟨_, rfl⟩
          replace H : (some (y194, rd l1 t189, rd l1 (ji8), y203)) = some (r1, r2, r3, r4) := by rw [hy203]; with_reducible exact H
          have Ny203 := Aside0.mk hy203
          clear hy203
          simp only [Option.some.injEq, Prod.mk.injEq] at H
          obtain ⟨rfl, rfl, rfl, rfl⟩ := H
          go_enter Try.func146, Try.ntmps146
          try go_wp2_with (first | ((with_reducible refine gate_dst (N := 5) rfl ?_); refine box_event ?hg (N := 5) ?hd (cs := #[.int .i64 0, .int .i64 0, .slice none 0 0]) (t := 59) ?hr ?_; (case hd => rfl); (case hg => rfl); (case hr => first | (go_simp; done) | (go_simp; rfl)); intro gb188 hg w15 hbox hb; replace BK188 := Aside0.mk (hbox); replace GW188 := Aside0.mk ((by rw [hg]; exact (below_size (by repeat (with_reducible first | exact HB.out | apply below_alloc | apply pw_below_drewN | apply below_drew1))) : w.heap.size ≤ gb188)); replace GE188 := Aside0.mk ((by rw [hg]; exact (below_size (by repeat (with_reducible first | exact HB.out | apply below_alloc | apply pw_below_drewN | apply below_drew1))) : w.heap.size ≤ gb188)); replace HB := Aside0.mk (below_step (by repeat (with_reducible first | exact HB.out | apply below_alloc | apply pw_below_drewN | apply below_drew1)) hb); clear hb hbox hg) | (refine gsD c86x6 (spec_TypeLen.calls a0 t189 _ A3.out) ?_; intro nd; (try (rw [drewN_self w15]; generalize hq_ : World.drewN w15 _ = w15; have n0_ : Aside0 (w15.heap[gb188]? = some (.cells #[.int .i64 0, .int .i64 0, .slice none 0 0] 59 (0, 0))) := ⟨by rw [← hq_]; exact (by exact BK188.out)⟩; have n1_ : Aside0 (Below w.heap.size w w15) := ⟨by rw [← hq_]; exact (by repeat (with_reducible first | exact HB.out | apply below_alloc | apply pw_below_drewN | apply below_drew1 | refine below_set ?_ GE188.out))⟩; clear BK188 HB hq_; have BK188 := n0_; have HB := n1_; clear n0_ n1_))))
          replace BK188 := Aside0.mk (blk_drew BK188.out)
          replace HB := Aside0.mk (below_drew1 HB.out)
          obtain ⟨i017, hi017, _, hsz17, _⟩ := info_parts info3
          obtain ⟨hcut17, hA17, hC17⟩ := print_take_of (P := Try.prog) (Value.int .i64) 0 30 3 .i64 Try.underlying30 hi017 hsz17 A1 c1 l1 t189 (of_decide_eq_true ‹_›) (of_decide_eq_true ‹_›) HC1.out
          have HR193 := Aside0.mk (Kd.C_of_reads (h1 := fun _ => rfl) (hA17 _ (Kd.reads_of_C HR1.out)))
          have HC193 := Aside0.mk hC17
          clear hA17 hC17 hi017 hsz17
          have p197 : 0 ≤ (t189 : Int) := of_decide_eq_true ‹_›
          have q197 : t189 < (l1.length : Int) := of_decide_eq_true ‹_›
          obtain ⟨ad197, e197, hx197_0⟩ := Kd.at_int HR1.out t189 p197 q197
          have hw197_0 := hx197_0
          cases e197
          replace hx197_0 := (HB.out.cell (World.block_lt_of_cell? w _ hx197_0)).trans hx197_0
          replace p197 := eq_true p197
          replace q197 := eq_true q197
          have p198 : 0 ≤ ((ji8) : Int) := of_decide_eq_true ‹_›
          have q198 : (ji8) < (l1.length : Int) := of_decide_eq_true ‹_›
          obtain ⟨ad198, e198, hx198_0⟩ := Kd.at_int HR1.out (ji8) p198 q198
          have hw198_0 := hx198_0
          obtain rfl : ad197 = ad198 := (by injection e198)
          replace hx198_0 := (HB.out.cell (World.block_lt_of_cell? w _ hx198_0)).trans hx198_0
          replace p198 := eq_true p198
          replace q198 := eq_true q198
          obtain ⟨i018, hi018, _, hsz18, _⟩ := info_parts info3
          obtain ⟨A18, hcut18, hA18, hC18⟩ := print_drop_of (P := Try.prog) (Value.int .i64) 0 30 3 .i64 Try.underlying30 hi018 hsz18 (some ad197) c1 l1 (ji11) (of_decide_eq_true ‹_›) (of_decide_eq_true ‹_›) HC1.out
          have HR202 := Aside0.mk (Kd.C_of_reads (h1 := fun _ => rfl) (hA18 _ (Kd.reads_of_C HR1.out)))
          have HC202 := Aside0.mk hC18
          clear hA18 hC18 hi018 hsz18
          refine start_ (n := 23) (S := fun w' => w'.cell? (ad197.add (t189).toNat) = some (.int .i64 (rd l1 t189)) ∧ w'.cell? (ad197.add ((ji8)).toNat) = some (.int .i64 (rd l1 (ji8)))) (ds := []) (bs 23 0) (by kernel_rfl) rfl rfl ⟨((HB.out.cell (World.block_lt_of_cell? w _ hw197_0)).trans hw197_0), ((HB.out.cell (World.block_lt_of_cell? w _ hw198_0)).trans hw198_0)⟩ (fun hHeld => ?_); refine with_tabW spec_l12Cut.tab2 spec_l12Cut.bits2 (fun HT_ HW_ => ?_)
          generalize w15.drew = w16 at BK188 HB HR193 HR202 hx197_0 hx198_0 hHeld ⊢
          refine pZ 1 (some 10) (bs 23 2) rfl rfl (any_of HT_.out (by kernel_rfl)) ?_
          refine pZ 2 (some 11) (bs 23 6) rfl rfl (any_of HT_.out (by kernel_rfl)) ?_
          refine pZ 3 (some 12) (bs 23 14) rfl rfl (any_of HT_.out (by kernel_rfl)) ?_
          refine pZ 5 (some 14) (bs 23 46) rfl rfl (any_of HT_.out (by kernel_rfl)) ?_
          refine pZ 6 (some 15) (bs 23 110) rfl rfl (any_of HT_.out (by kernel_rfl)) ?_
          refine pZ 7 (some 16) (bs 23 238) rfl rfl (any_of HT_.out (by kernel_rfl)) ?_
          refine pZ 9 (some 18) (bs 23 750) rfl rfl (any_of HT_.out (by kernel_rfl)) ?_
          refine pZ 10 (some 19) (bs 23 1774) rfl rfl (any_of HT_.out (by kernel_rfl)) ?_
          refine pZ 11 (some 20) (bs 23 3822) rfl rfl (any_of HT_.out (by kernel_rfl)) ?_
          refine pZ 12 (some 21) (bs 23 7918) rfl rfl (any_of HT_.out (by kernel_rfl)) ?_
          refine pZ 15 (some 24) (bs 23 40686) rfl rfl (any_of HT_.out (by kernel_rfl)) ?_
          refine pZ 16 (some 25) (bs 23 106222) rfl rfl (any_of HT_.out (by kernel_rfl)) ?_
          refine pZ 17 (some 26) (bs 23 237294) rfl rfl (any_of HT_.out (by kernel_rfl)) ?_
          refine pZ 18 (some 27) (bs 23 499438) rfl rfl (any_of HT_.out (by kernel_rfl)) ?_
          refine tZ 8 (some 17) (bs 23 499694) rfl rfl (take_ofW HT_.out HW_.out (by kernel_rfl)) hHeld (by rintro w' ⟨s0, s1⟩; go_simp; with_reducible rfl) ?_
          refine tZ 13 (some 22) (bs 23 507886) rfl rfl (take_ofW HT_.out HW_.out (by kernel_rfl)) hHeld (by rintro w' ⟨s0, s1⟩; go_simp; with_reducible rfl) ?_
          refine join_ (σ := Value × Value × Value) 4 (bs 23 524287) (fun s_ => [(9, s_.1), (13, s_.2.1), (23, s_.2.2)]) (fun s_ w' => (w'.cell? (ad197.add (t189).toNat) = some (.int .i64 (rd l1 t189)) ∧ w'.cell? (ad197.add ((ji8)).toNat) = some (.int .i64 (rd l1 (ji8)))) ∧ (Kd.R (Kd.int .i64) 3 w' w.heap.size (fun k_ => some k_ ≠ (s_.2.2 : Value).ownBlock) s_.2.1 y194) ∧ (Kd.R (Kd.int .i64) 3 w' w.heap.size (fun k_ => some k_ ≠ (s_.2.1 : Value).ownBlock) s_.2.2 y199) ∧ (w'.heap[gb188]? = some (.cells #[.int .i64 0, .int .i64 0, .slice none 0 0] 59 (0, 0))) ∧ (Below w.heap.size w w')) ?_ ?_
          rotate_left
          ·intro hCont
           refine two_ (i := 0) (j := 14) (Ni := some 9) (Nj := some 23) (bs 23 507887) (bs 23 524270) rfl rfl rfl rfl (two_of HT_.out (by kernel_rfl)) (by decide) (by decide) (fun K hK => ?_) (fun K hK => ?_)
           ·skip
            refine Kd.R_lit_step (Kd.int .i64) _ 3 ?hg (N := 9) ?hd (xs := ([] : List Int)) (inner := []) (ok := fun _ => True) (okp := fun _ => True) ?hr ?hp (fun _ hk => hk) trivial (Below.refl _ _) (Nat.le_refl _) (by simp) ?_; (case hd => rfl); (case hg => rfl); (case hr => first | (go_simp; done) | (go_simp; rfl)); (case hp => exact (Reps.none _ _))
            intro v191 w19 ho20 hb hg_ hnew_
            clear hg_ hnew_
            (first | rw [← Ny190.out] at ho20 | (simp only [Int.reduceToNat] at ho20; rw [← Ny190.out] at ho20))
            replace HO192 := Aside0.mk (Kd.R_lower ho20 (below_size (by repeat (with_reducible first | exact HB.out | apply below_alloc | apply pw_below_drewN | apply below_drew1 | refine below_set ?_ GE188.out))))
            replace BK188 := Aside0.mk (blk_below (g := gb188) (o := .cells #[.int .i64 0, .int .i64 0, .slice none 0 0] 59 (0, 0)) (by exact BK188.out) hb)
            replace HB := Aside0.mk (below_step (HB.out) hb)
            clear hb ho20
            refine hK.out _ _ ⟨((HB.out.cell (World.block_lt_of_cell? w _ hw197_0)).trans hw197_0), ((HB.out.cell (World.block_lt_of_cell? w _ hw198_0)).trans hw198_0)⟩ (fun hHeld => ?_)
            clear hK K
            refine norm_ (a' := ?_) ?_ ?_
            rotate_left
            ·show Act.put _ (some 9) _ = _
             simp only [Act.put, List.setIfInBounds_toArray, List.set_cons_zero, List.set_cons_succ, i64_w, i32_w]
             rfl
            refine two_ (i := 4) (j := 14) (Ni := some 13) (Nj := some 23) (bs 23 507903) (bs 23 524271) rfl rfl rfl rfl (two_of HT_.out (by kernel_rfl)) (by decide) (by decide) (fun K hK => ?_) (fun K hK => ?_)
            ·skip
             refine Kd.R_append_rows_step (Kd.int .i64) (w0 := w) w.heap.size (by rfl) (.tmp 9) (.tmp 12) 30 3 (.int .i64 0) 8 rfl Try.underlying30 info3 rfl (by decide) (by omega) v191 y190 (l1.take (t189 : Int).toNat) _ _ _ (fun _ => True) (fun _ => False) rfl rfl ?aO ?aR (fun _ _ h => h) (fun _ h => h.elim) ?aF ?aB ?aS ?aL ?_
             (case aR => first | (refine readsRow_len ?_ (show (l1.take (t189 : Int).toNat).length = t189.toNat from (by rw [List.length_take]; have h_ : (t189 : Int) ≤ (l1.length : Int) := of_decide_eq_true ‹_›; omega)); repeat (first | exact (Kd.C_below HR193.out HB.out) | (with_reducible refine Kd.C_alloc ?_ _) | (with_reducible refine Kd.C_drewN ?_ _) | (with_reducible refine Kd.C_drew ?_))) | (repeat (first | exact (Kd.C_below HR193.out HB.out) | (with_reducible refine Kd.C_alloc ?_ _) | (with_reducible refine Kd.C_drewN ?_ _) | (with_reducible refine Kd.C_drew ?_))))
             (case aB => exact (HB.out))
             (case aF => exact (fun _ _ => trivial))
             (case aO => exact (HO192.out))
             (case aS => exact (below_size (HB.out)))
             (case aL => have := LMc6.out; have hlx_ := (show (l1.take (t189 : Int).toNat).length = t189.toNat from (by rw [List.length_take]; have h_ : (t189 : Int) ≤ (l1.length : Int) := of_decide_eq_true ‹_›; omega)); omega)
             intro v195 w21 ho hb hg hat
             rw [← Ny194.out] at ho
             have n0_ := Aside0.mk (blk_grown (g := gb188) (o := .cells #[.int .i64 0, .int .i64 0, .slice none 0 0] 59 (0, 0)) (by exact BK188.out) hg (Kd.R_ne HO192.out BK188.out (by decide)))
             have n1_ := Aside0.mk (hb)
             have n2_ := Aside0.mk (ho)
             clear BK188
             clear HB
             clear HO192
             have BK188 := n0_
             have HB := n1_
             have HO196 := n2_
             clear n0_ n1_ n2_
             clear ho hb hg hat
             refine hK.out _ _ ⟨((HB.out.cell (World.block_lt_of_cell? w _ hw197_0)).trans hw197_0), ((HB.out.cell (World.block_lt_of_cell? w _ hw198_0)).trans hw198_0)⟩ (fun hHeld => ?_)
             clear hK K
             refine norm_ (a' := ?_) ?_ ?_
             rotate_left
             ·show Act.put _ (some 13) _ = _
              simp only [Act.put, List.setIfInBounds_toArray, List.set_cons_zero, List.set_cons_succ, i64_w, i32_w]
              rfl
             refine one_ (i := 14) (N := some 23) (bs 23 524287) rfl rfl (one_of HT_.out (by kernel_rfl)) (by decide) (fun K hK => ?_)
             refine Kd.R_lit_step (Kd.int .i64) _ 3 ?hg (N := 23) ?hd (xs := ([] : List Int)) (inner := []) (ok := fun _ => True) (okp := fun _ => True) ?hr ?hp (fun _ hk => hk) trivial (Below.refl _ _) (Nat.le_refl _) (by simp) ?_; (case hd => rfl); (case hg => rfl); (case hr => first | (go_simp; done) | (go_simp; rfl)); (case hp => exact (Reps.none _ _))
             intro v200 w22 ho23 hb hg_ hnew_
             clear hg_ hnew_
             (first | rw [← Ny199.out] at ho23 | (simp only [Int.reduceToNat] at ho23; rw [← Ny199.out] at ho23))
             replace HO201 := Aside0.mk (Kd.R_lower (Kd.R_new' ho23 (Kd.R_lt (HO196.out))) (below_size (HB.out)))
             replace HO196 := Aside0.mk (Kd.R_elder' (HO196.out) (Kd.R_base ho23) hb)
             replace BK188 := Aside0.mk (blk_below (g := gb188) (o := .cells #[.int .i64 0, .int .i64 0, .slice none 0 0] 59 (0, 0)) (by exact BK188.out) hb)
             replace HB := Aside0.mk (below_step (HB.out) hb)
             clear hb ho23
             refine hK.out _ _ ⟨((HB.out.cell (World.block_lt_of_cell? w _ hw197_0)).trans hw197_0), ((HB.out.cell (World.block_lt_of_cell? w _ hw198_0)).trans hw198_0)⟩ (fun hHeld => ?_)
             clear hK K
             refine norm_ (a' := ?_) ?_ ?_
             rotate_left
             ·show Act.put _ (some 23) _ = _
              simp only [Act.put, List.setIfInBounds_toArray, List.set_cons_zero, List.set_cons_succ, i64_w, i32_w]
              rfl
             exact norm_ (by simp only [putAll, Act.put, List.setIfInBounds_toArray, List.set_cons_zero, List.set_cons_succ]) (hCont (v191, v195, v200) _ ⟨hHeld, (Kd.R_mono HO196.out (fun _ hk => hk.2)), (Kd.R_mono HO201.out (fun _ hk => hk.2)), (by exact BK188.out), (HB.out)⟩)
            ·skip
             refine Kd.R_lit_step (Kd.int .i64) _ 3 ?hg (N := 23) ?hd (xs := ([] : List Int)) (inner := []) (ok := fun _ => True) (okp := fun _ => True) ?hr ?hp (fun _ hk => hk) trivial (Below.refl _ _) (Nat.le_refl _) (by simp) ?_; (case hd => rfl); (case hg => rfl); (case hr => first | (go_simp; done) | (go_simp; rfl)); (case hp => exact (Reps.none _ _))
             intro v200 w21 ho22 hb hg_ hnew_
             clear hg_ hnew_
             (first | rw [← Ny199.out] at ho22 | (simp only [Int.reduceToNat] at ho22; rw [← Ny199.out] at ho22))
             replace HO201 := Aside0.mk (Kd.R_lower (Kd.R_new' ho22 (Kd.R_lt (HO192.out))) (below_size (HB.out)))
             replace HO192 := Aside0.mk (Kd.R_elder' (HO192.out) (Kd.R_base ho22) hb)
             replace BK188 := Aside0.mk (blk_below (g := gb188) (o := .cells #[.int .i64 0, .int .i64 0, .slice none 0 0] 59 (0, 0)) (by exact BK188.out) hb)
             replace HB := Aside0.mk (below_step (by repeat (with_reducible first | exact HB.out | apply below_alloc | apply pw_below_drewN | apply below_drew1 | refine below_set ?_ GE188.out)) hb)
             clear hb ho22
             refine hK.out _ _ ⟨((HB.out.cell (World.block_lt_of_cell? w _ hw197_0)).trans hw197_0), ((HB.out.cell (World.block_lt_of_cell? w _ hw198_0)).trans hw198_0)⟩ (fun hHeld => ?_)
             clear hK K
             refine norm_ (a' := ?_) ?_ ?_
             rotate_left
             ·show Act.put _ (some 23) _ = _
              simp only [Act.put, List.setIfInBounds_toArray, List.set_cons_zero, List.set_cons_succ, i64_w, i32_w]
              rfl
             refine one_ (i := 4) (N := some 13) (bs 23 524287) rfl rfl (one_of HT_.out (by kernel_rfl)) (by decide) (fun K hK => ?_)
             refine Kd.R_append_rows_step (Kd.int .i64) (w0 := w) w.heap.size (by rfl) (.tmp 9) (.tmp 12) 30 3 (.int .i64 0) 8 rfl Try.underlying30 info3 rfl (by decide) (by omega) v191 y190 (l1.take (t189 : Int).toNat) _ _ _ (fun k_ => some k_ ≠ (v200 : Value).ownBlock) (fun _ => False) rfl rfl ?aO ?aR (fun _ _ h => h) (fun _ h => h.elim) ?aF ?aB ?aS ?aL ?_
             (case aR => first | (refine readsRow_len ?_ (show (l1.take (t189 : Int).toNat).length = t189.toNat from (by rw [List.length_take]; have h_ : (t189 : Int) ≤ (l1.length : Int) := of_decide_eq_true ‹_›; omega)); repeat (first | exact (Kd.C_below HR193.out HB.out) | (with_reducible refine Kd.C_alloc ?_ _) | (with_reducible refine Kd.C_drewN ?_ _) | (with_reducible refine Kd.C_drew ?_))) | (repeat (first | exact (Kd.C_below HR193.out HB.out) | (with_reducible refine Kd.C_alloc ?_ _) | (with_reducible refine Kd.C_drewN ?_ _) | (with_reducible refine Kd.C_drew ?_))))
             (case aB => exact (by repeat (with_reducible first | exact HB.out | apply below_alloc | apply pw_below_drewN | apply below_drew1 | refine below_set ?_ GE188.out)))
             (case aF => exact (fun k_ hk => Kd.fresh' (Kd.R_lt (HO201.out)) k_ hk))
             (case aO => exact (Kd.R_mono HO192.out (fun _ hk => hk.2)))
             (case aS => exact (below_size (by repeat (with_reducible first | exact HB.out | apply below_alloc | apply pw_below_drewN | apply below_drew1 | refine below_set ?_ GE188.out))))
             (case aL => have := LMc6.out; have hlx_ := (show (l1.take (t189 : Int).toNat).length = t189.toNat from (by rw [List.length_take]; have h_ : (t189 : Int) ≤ (l1.length : Int) := of_decide_eq_true ‹_›; omega)); omega)
             intro v195 w23 ho hb hg hat
             rw [← Ny194.out] at ho
             have n0_ := Aside0.mk (blk_grown (g := gb188) (o := .cells #[.int .i64 0, .int .i64 0, .slice none 0 0] 59 (0, 0)) (by exact BK188.out) hg (Kd.R_ne HO192.out BK188.out (by decide)))
             have n1_ := Aside0.mk (Kd.R_after (ok := (fun _ => True)) (HO201.out) hg hat)
             have n2_ := Aside0.mk (hb)
             have n3_ := Aside0.mk (ho)
             clear BK188
             clear HO201
             clear HB
             clear HO192
             have BK188 := n0_
             have HO201 := n1_
             have HB := n2_
             have HO196 := n3_
             clear n0_ n1_ n2_ n3_
             clear ho hb hg hat
             refine hK.out _ _ ⟨((HB.out.cell (World.block_lt_of_cell? w _ hw197_0)).trans hw197_0), ((HB.out.cell (World.block_lt_of_cell? w _ hw198_0)).trans hw198_0)⟩ (fun hHeld => ?_)
             clear hK K
             refine norm_ (a' := ?_) ?_ ?_
             rotate_left
             ·show Act.put _ (some 13) _ = _
              simp only [Act.put, List.setIfInBounds_toArray, List.set_cons_zero, List.set_cons_succ, i64_w, i32_w]
              rfl
             exact norm_ (by simp only [putAll, Act.put, List.setIfInBounds_toArray, List.set_cons_zero, List.set_cons_succ]) (hCont (v191, v195, v200) _ ⟨hHeld, (HO196.out), (Kd.R_mono HO201.out (fun _ hk => hk.2)), (by exact BK188.out), (by repeat (with_reducible first | exact HB.out | apply below_alloc | apply pw_below_drewN | apply below_drew1 | refine below_set ?_ GE188.out))⟩)
           ·skip
            refine Kd.R_lit_step (Kd.int .i64) _ 3 ?hg (N := 23) ?hd (xs := ([] : List Int)) (inner := []) (ok := fun _ => True) (okp := fun _ => True) ?hr ?hp (fun _ hk => hk) trivial (Below.refl _ _) (Nat.le_refl _) (by simp) ?_; (case hd => rfl); (case hg => rfl); (case hr => first | (go_simp; done) | (go_simp; rfl)); (case hp => exact (Reps.none _ _))
            intro v200 w19 ho20 hb hg_ hnew_
            clear hg_ hnew_
            (first | rw [← Ny199.out] at ho20 | (simp only [Int.reduceToNat] at ho20; rw [← Ny199.out] at ho20))
            replace HO201 := Aside0.mk (Kd.R_lower ho20 (below_size (by repeat (with_reducible first | exact HB.out | apply below_alloc | apply pw_below_drewN | apply below_drew1 | refine below_set ?_ GE188.out))))
            replace BK188 := Aside0.mk (blk_below (g := gb188) (o := .cells #[.int .i64 0, .int .i64 0, .slice none 0 0] 59 (0, 0)) (by exact BK188.out) hb)
            replace HB := Aside0.mk (below_step (HB.out) hb)
            clear hb ho20
            refine hK.out _ _ ⟨((HB.out.cell (World.block_lt_of_cell? w _ hw197_0)).trans hw197_0), ((HB.out.cell (World.block_lt_of_cell? w _ hw198_0)).trans hw198_0)⟩ (fun hHeld => ?_)
            clear hK K
            refine norm_ (a' := ?_) ?_ ?_
            rotate_left
            ·show Act.put _ (some 23) _ = _
             simp only [Act.put, List.setIfInBounds_toArray, List.set_cons_zero, List.set_cons_succ, i64_w, i32_w]
             rfl
            refine one_ (i := 0) (N := some 9) (bs 23 524271) rfl rfl (one_of HT_.out (by kernel_rfl)) (by decide) (fun K hK => ?_)
            refine Kd.R_lit_step (Kd.int .i64) _ 3 ?hg (N := 9) ?hd (xs := ([] : List Int)) (inner := []) (ok := fun _ => True) (okp := fun _ => True) ?hr ?hp (fun _ hk => hk) trivial (Below.refl _ _) (Nat.le_refl _) (by simp) ?_; (case hd => rfl); (case hg => rfl); (case hr => first | (go_simp; done) | (go_simp; rfl)); (case hp => exact (Reps.none _ _))
            intro v191 w21 ho22 hb hg_ hnew_
            clear hg_ hnew_
            (first | rw [← Ny190.out] at ho22 | (simp only [Int.reduceToNat] at ho22; rw [← Ny190.out] at ho22))
            replace HO192 := Aside0.mk (Kd.R_lower (Kd.R_new' ho22 (Kd.R_lt (HO201.out))) (below_size (HB.out)))
            replace HO201 := Aside0.mk (Kd.R_elder' (HO201.out) (Kd.R_base ho22) hb)
            replace BK188 := Aside0.mk (blk_below (g := gb188) (o := .cells #[.int .i64 0, .int .i64 0, .slice none 0 0] 59 (0, 0)) (by exact BK188.out) hb)
            replace HB := Aside0.mk (below_step (HB.out) hb)
            clear hb ho22
            refine hK.out _ _ ⟨((HB.out.cell (World.block_lt_of_cell? w _ hw197_0)).trans hw197_0), ((HB.out.cell (World.block_lt_of_cell? w _ hw198_0)).trans hw198_0)⟩ (fun hHeld => ?_)
            clear hK K
            refine norm_ (a' := ?_) ?_ ?_
            rotate_left
            ·show Act.put _ (some 9) _ = _
             simp only [Act.put, List.setIfInBounds_toArray, List.set_cons_zero, List.set_cons_succ, i64_w, i32_w]
             rfl
            refine one_ (i := 4) (N := some 13) (bs 23 524287) rfl rfl (one_of HT_.out (by kernel_rfl)) (by decide) (fun K hK => ?_)
            refine Kd.R_append_rows_step (Kd.int .i64) (w0 := w) w.heap.size (by rfl) (.tmp 9) (.tmp 12) 30 3 (.int .i64 0) 8 rfl Try.underlying30 info3 rfl (by decide) (by omega) v191 y190 (l1.take (t189 : Int).toNat) _ _ _ (fun k_ => some k_ ≠ (v200 : Value).ownBlock) (fun _ => False) rfl rfl ?aO ?aR (fun _ _ h => h) (fun _ h => h.elim) ?aF ?aB ?aS ?aL ?_
            (case aR => first | (refine readsRow_len ?_ (show (l1.take (t189 : Int).toNat).length = t189.toNat from (by rw [List.length_take]; have h_ : (t189 : Int) ≤ (l1.length : Int) := of_decide_eq_true ‹_›; omega)); repeat (first | exact (Kd.C_below HR193.out HB.out) | (with_reducible refine Kd.C_alloc ?_ _) | (with_reducible refine Kd.C_drewN ?_ _) | (with_reducible refine Kd.C_drew ?_))) | (repeat (first | exact (Kd.C_below HR193.out HB.out) | (with_reducible refine Kd.C_alloc ?_ _) | (with_reducible refine Kd.C_drewN ?_ _) | (with_reducible refine Kd.C_drew ?_))))
            (case aB => exact (HB.out))
            (case aF => exact (fun k_ hk => Kd.fresh' (Kd.R_lt (HO201.out)) k_ hk))
            (case aO => exact (Kd.R_mono HO192.out (fun _ hk => hk.2)))
            (case aS => exact (below_size (HB.out)))
            (case aL => have := LMc6.out; have hlx_ := (show (l1.take (t189 : Int).toNat).length = t189.toNat from (by rw [List.length_take]; have h_ : (t189 : Int) ≤ (l1.length : Int) := of_decide_eq_true ‹_›; omega)); omega)
            intro v195 w23 ho hb hg hat
            rw [← Ny194.out] at ho
            have n0_ := Aside0.mk (blk_grown (g := gb188) (o := .cells #[.int .i64 0, .int .i64 0, .slice none 0 0] 59 (0, 0)) (by exact BK188.out) hg (Kd.R_ne HO192.out BK188.out (by decide)))
            have n1_ := Aside0.mk (Kd.R_after (ok := (fun _ => True)) (HO201.out) hg hat)
            have n2_ := Aside0.mk (hb)
            have n3_ := Aside0.mk (ho)
            clear BK188
            clear HO201
            clear HB
            clear HO192
            have BK188 := n0_
            have HO201 := n1_
            have HB := n2_
            have HO196 := n3_
            clear n0_ n1_ n2_ n3_
            clear ho hb hg hat
            refine hK.out _ _ ⟨((HB.out.cell (World.block_lt_of_cell? w _ hw197_0)).trans hw197_0), ((HB.out.cell (World.block_lt_of_cell? w _ hw198_0)).trans hw198_0)⟩ (fun hHeld => ?_)
            clear hK K
            refine norm_ (a' := ?_) ?_ ?_
            rotate_left
            ·show Act.put _ (some 13) _ = _
             simp only [Act.put, List.setIfInBounds_toArray, List.set_cons_zero, List.set_cons_succ, i64_w, i32_w]
             rfl
            exact norm_ (by simp only [putAll, Act.put, List.setIfInBounds_toArray, List.set_cons_zero, List.set_cons_succ]) (hCont (v191, v195, v200) _ ⟨hHeld, (HO196.out), (Kd.R_mono HO201.out (fun _ hk => hk.2)), (by exact BK188.out), (HB.out)⟩)
          rintro ⟨v191, v195, v200⟩ w24 ⟨hS_, h0_, h1_, h2_, h3_⟩
          have n0_ : Aside0 (Kd.R (Kd.int .i64) 3 w24 w.heap.size (fun k_ => some k_ ≠ (v200 : Value).ownBlock) v195 y194) := ⟨h0_⟩
          have n1_ : Aside0 (Kd.R (Kd.int .i64) 3 w24 w.heap.size (fun k_ => some k_ ≠ (v195 : Value).ownBlock) v200 y199) := ⟨h1_⟩
          have n2_ : Aside0 (w24.heap[gb188]? = some (.cells #[.int .i64 0, .int .i64 0, .slice none 0 0] 59 (0, 0))) := ⟨h2_⟩
          have n3_ : Aside0 (Below w.heap.size w w24) := ⟨h3_⟩
          clear BK188
          clear HB
          clear h0_ h1_ h2_ h3_
          have HO196 := n0_
          have HO201 := n1_
          have BK188 := n2_
          have HB := n3_
          clear n0_ n1_ n2_ n3_
          have hHeld : w24.cell? (ad197.add (t189).toNat) = some (.int .i64 (rd l1 t189)) ∧ w24.cell? (ad197.add ((ji8)).toNat) = some (.int .i64 (rd l1 (ji8))) := hS_
          refine norm_ (a' := ?_) ?_ ?_
          rotate_left
          ·simp only [putAll, Act.put, List.setIfInBounds_toArray, List.set_cons_zero, List.set_cons_succ]
           rfl
          refine one_ (i := 19) (N := some 28) (bs 23 1048575) rfl rfl (one_of HT_.out (by kernel_rfl)) (by decide) (fun K hK => ?_)
          refine Kd.R_append_rows_step (Kd.int .i64) (w0 := w) w.heap.size (by rfl) (.tmp 23) (.tmp 27) 30 3 (.int .i64 0) 8 rfl Try.underlying30 info3 rfl (by decide) (by omega) v200 y199 (l1.drop ((ji11) : Int).toNat) _ _ _ (fun k_ => some k_ ≠ (v195 : Value).ownBlock) (fun _ => False) rfl rfl ?aO ?aR (fun _ _ h => h) (fun _ h => h.elim) ?aF ?aB ?aS ?aL ?_
          (case aR => first | (refine readsRow_len ?_ (show (l1.drop ((ji11) : Int).toNat).length = (l1.length - (ji11).toNat) from List.length_drop); repeat (first | exact (Kd.C_below HR202.out HB.out) | (with_reducible refine Kd.C_alloc ?_ _) | (with_reducible refine Kd.C_drewN ?_ _) | (with_reducible refine Kd.C_drew ?_))) | (repeat (first | exact (Kd.C_below HR202.out HB.out) | (with_reducible refine Kd.C_alloc ?_ _) | (with_reducible refine Kd.C_drewN ?_ _) | (with_reducible refine Kd.C_drew ?_))))
          (case aB => exact (HB.out))
          (case aF => exact (fun k_ hk => Kd.fresh' (Kd.R_lt (HO196.out)) k_ hk))
          (case aO => exact (HO201.out))
          (case aS => exact (below_size (HB.out)))
          (case aL => have := LMc14.out; have hlx_ := (show (l1.drop ((ji11) : Int).toNat).length = (l1.length - (ji11).toNat) from List.length_drop); omega)
          intro v204 w25 ho hb hg hat
          rw [← Ny203.out] at ho
          have n0_ := Aside0.mk (blk_grown (g := gb188) (o := .cells #[.int .i64 0, .int .i64 0, .slice none 0 0] 59 (0, 0)) (by exact BK188.out) hg (Kd.R_ne HO201.out BK188.out (by decide)))
          have n1_ := Aside0.mk (Kd.R_after (ok := (fun _ => True)) (Kd.R_mono HO196.out (fun _ hk => ⟨trivial, hk⟩)) hg hat)
          have n2_ := Aside0.mk (hb)
          have n3_ := Aside0.mk (ho)
          clear BK188
          clear HO196
          clear HB
          clear HO201
          have BK188 := n0_
          have HO196 := n1_
          have HB := n2_
          have HO205 := n3_
          clear n0_ n1_ n2_ n3_
          clear ho hb hg hat
          obtain ⟨Ao26, co26, eo26⟩ := Kd.R_slice HO205.out
          (first | subst eo26 | (injection eo26 with f1_ f2_ f3_; have f4_ := f1_.symm; have f5_ := f3_.symm; clear f1_ f2_ f3_; subst f4_; subst f5_))
          refine hK.out _ _ ⟨((HB.out.cell (World.block_lt_of_cell? w _ hw197_0)).trans hw197_0), ((HB.out.cell (World.block_lt_of_cell? w _ hw198_0)).trans hw198_0)⟩ (fun hHeld => ?_)
          clear hK K
          refine norm_ (a' := ?_) ?_ ?_
          rotate_left
          ·show Act.put _ (some 28) _ = _
           simp only [Act.put, List.setIfInBounds_toArray, List.set_cons_zero, List.set_cons_succ, i64_w, i32_w]
           rfl
          refine pZ 20 (some 29) (bs 23 2097151) rfl rfl (any_of HT_.out (by kernel_rfl)) ?_
          refine pZ 21 (some 4) (bs 23 4194303) rfl rfl (any_of HT_.out (by kernel_rfl)) ?_
          refine one_ (i := 22) (N := none) (bs 23 8388607) rfl rfl (one_of HT_.out (by kernel_rfl)) (by decide) (fun K hK => ?_)
          have hs27 : w25.cell? ⟨gb188, 0, none⟩ = some (.int .i64 0) := (blk_cell BK188.out 0).trans rfl
          have hfs27 := blk_frozen BK188.out 0
          have hs28 : w25.cell? ⟨gb188, 1, none⟩ = some (.int .i64 0) := (blk_cell BK188.out 1).trans rfl
          have hfs28 := blk_frozen BK188.out 1
          have hs29 : w25.cell? ⟨gb188, 2, none⟩ = some (.slice none 0 0) := (blk_cell BK188.out 2).trans rfl
          have hfs29 := blk_frozen BK188.out 2
          refine skip_ (w1 := ?_) (by rfl) rfl ?_ ?_
          rotate_left
          ·go_simp
           rfl
          refine hK.out _ _ ⟨((cell_far (p := ⟨gb188, _, none⟩) (by first | exact Nat.ne_of_lt (Nat.lt_of_lt_of_le (by have := World.block_lt_of_cell? _ _ hw197_0; first | rwa [add_block] at this | exact this) GW188.out) | (rw [add_block]; exact Nat.ne_of_lt (Nat.lt_of_lt_of_le (by have := World.block_lt_of_cell? _ _ hw197_0; first | rwa [add_block] at this | exact this) GW188.out)) | (show (Addr.add _ _).block ≠ _; rw [add_block]; exact Nat.ne_of_lt (Nat.lt_of_lt_of_le (by have := World.block_lt_of_cell? _ _ hw197_0; first | rwa [add_block] at this | exact this) GW188.out)) | (dsimp only; exact Nat.ne_of_lt (Nat.lt_of_lt_of_le (by have := World.block_lt_of_cell? _ _ hw197_0; first | rwa [add_block] at this | exact this) GW188.out))) _).trans (((cell_far (p := ⟨gb188, _, none⟩) (by first | exact Nat.ne_of_lt (Nat.lt_of_lt_of_le (by have := World.block_lt_of_cell? _ _ hw197_0; first | rwa [add_block] at this | exact this) GW188.out) | (rw [add_block]; exact Nat.ne_of_lt (Nat.lt_of_lt_of_le (by have := World.block_lt_of_cell? _ _ hw197_0; first | rwa [add_block] at this | exact this) GW188.out)) | (show (Addr.add _ _).block ≠ _; rw [add_block]; exact Nat.ne_of_lt (Nat.lt_of_lt_of_le (by have := World.block_lt_of_cell? _ _ hw197_0; first | rwa [add_block] at this | exact this) GW188.out)) | (dsimp only; exact Nat.ne_of_lt (Nat.lt_of_lt_of_le (by have := World.block_lt_of_cell? _ _ hw197_0; first | rwa [add_block] at this | exact this) GW188.out))) _).trans (((cell_far (p := ⟨gb188, _, none⟩) (by first | exact Nat.ne_of_lt (Nat.lt_of_lt_of_le (by have := World.block_lt_of_cell? _ _ hw197_0; first | rwa [add_block] at this | exact this) GW188.out) | (rw [add_block]; exact Nat.ne_of_lt (Nat.lt_of_lt_of_le (by have := World.block_lt_of_cell? _ _ hw197_0; first | rwa [add_block] at this | exact this) GW188.out)) | (show (Addr.add _ _).block ≠ _; rw [add_block]; exact Nat.ne_of_lt (Nat.lt_of_lt_of_le (by have := World.block_lt_of_cell? _ _ hw197_0; first | rwa [add_block] at this | exact this) GW188.out)) | (dsimp only; exact Nat.ne_of_lt (Nat.lt_of_lt_of_le (by have := World.block_lt_of_cell? _ _ hw197_0; first | rwa [add_block] at this | exact this) GW188.out))) _).trans (hHeld.1)))))), ((cell_far (p := ⟨gb188, _, none⟩) (by first | exact Nat.ne_of_lt (Nat.lt_of_lt_of_le (by have := World.block_lt_of_cell? _ _ hw198_0; first | rwa [add_block] at this | exact this) GW188.out) | (rw [add_block]; exact Nat.ne_of_lt (Nat.lt_of_lt_of_le (by have := World.block_lt_of_cell? _ _ hw198_0; first | rwa [add_block] at this | exact this) GW188.out)) | (show (Addr.add _ _).block ≠ _; rw [add_block]; exact Nat.ne_of_lt (Nat.lt_of_lt_of_le (by have := World.block_lt_of_cell? _ _ hw198_0; first | rwa [add_block] at this | exact this) GW188.out)) | (dsimp only; exact Nat.ne_of_lt (Nat.lt_of_lt_of_le (by have := World.block_lt_of_cell? _ _ hw198_0; first | rwa [add_block] at this | exact this) GW188.out))) _).trans (((cell_far (p := ⟨gb188, _, none⟩) (by first | exact Nat.ne_of_lt (Nat.lt_of_lt_of_le (by have := World.block_lt_of_cell? _ _ hw198_0; first | rwa [add_block] at this | exact this) GW188.out) | (rw [add_block]; exact Nat.ne_of_lt (Nat.lt_of_lt_of_le (by have := World.block_lt_of_cell? _ _ hw198_0; first | rwa [add_block] at this | exact this) GW188.out)) | (show (Addr.add _ _).block ≠ _; rw [add_block]; exact Nat.ne_of_lt (Nat.lt_of_lt_of_le (by have := World.block_lt_of_cell? _ _ hw198_0; first | rwa [add_block] at this | exact this) GW188.out)) | (dsimp only; exact Nat.ne_of_lt (Nat.lt_of_lt_of_le (by have := World.block_lt_of_cell? _ _ hw198_0; first | rwa [add_block] at this | exact this) GW188.out))) _).trans (((cell_far (p := ⟨gb188, _, none⟩) (by first | exact Nat.ne_of_lt (Nat.lt_of_lt_of_le (by have := World.block_lt_of_cell? _ _ hw198_0; first | rwa [add_block] at this | exact this) GW188.out) | (rw [add_block]; exact Nat.ne_of_lt (Nat.lt_of_lt_of_le (by have := World.block_lt_of_cell? _ _ hw198_0; first | rwa [add_block] at this | exact this) GW188.out)) | (show (Addr.add _ _).block ≠ _; rw [add_block]; exact Nat.ne_of_lt (Nat.lt_of_lt_of_le (by have := World.block_lt_of_cell? _ _ hw198_0; first | rwa [add_block] at this | exact this) GW188.out)) | (dsimp only; exact Nat.ne_of_lt (Nat.lt_of_lt_of_le (by have := World.block_lt_of_cell? _ _ hw198_0; first | rwa [add_block] at this | exact this) GW188.out))) _).trans (hHeld.2))))))⟩ (fun hHeld => ?_)
          clear hK K
          refine done_ (done_of HT_.out (by kernel_rfl)) ?_
          try go_wp2
          refine bodyPost_ret (results_tc rfl _ _ gb188 59 #[.int .i64 (rd l1 t189), .int .i64 (rd l1 (ji8)), .slice Ao26 y203.length co26] (0, 0) _ rfl (by refine blk_put (cs := #[.int .i64 (rd l1 t189), .int .i64 (rd l1 (ji8)), .slice none 0 0]) ?_ 2 _ rfl; refine blk_put (cs := #[.int .i64 (rd l1 t189), .int .i64 0, .slice none 0 0]) ?_ 1 _ rfl; refine blk_put (cs := #[.int .i64 0, .int .i64 0, .slice none 0 0]) ?_ 0 _ rfl; exact BK188.out) Try.underlying59 rfl (by kernel_rfl)) rfl ?_
          exact ⟨_, _, by first | rfl | (simp [errW_none, errW_some] <;> rfl) | (simp only [← hji8, ← hji11]; first | rfl | (simp [errW_none, errW_some] <;> rfl)) | (simp [*, errW_none, errW_some] <;> rfl), Kd.R_mono (Kd.R_far (p := ⟨gb188, 2, none⟩) (Kd.R_far (p := ⟨gb188, 1, none⟩) (Kd.R_far (p := ⟨gb188, 0, none⟩) (Kd.R_types HO196.out BK188.out (by decide)) (fun _ hk => hk.2) (.int .i64 (rd l1 t189))) (fun _ hk => hk.2) (.int .i64 (rd l1 (ji8)))) (fun _ hk => hk.2) (.slice Ao26 y203.length co26)) (fun _ hk => hk.1.2), Kd.R_mono (Kd.R_far (p := ⟨gb188, 2, none⟩) (Kd.R_far (p := ⟨gb188, 1, none⟩) (Kd.R_far (p := ⟨gb188, 0, none⟩) (Kd.R_types HO205.out BK188.out (by decide)) (fun _ hk => hk.2) (.int .i64 (rd l1 t189))) (fun _ hk => hk.2) (.int .i64 (rd l1 (ji8)))) (fun _ hk => hk.2) (.slice Ao26 y203.length co26)) (fun _ hk => hk.1), by repeat (with_reducible first | exact HB.out | apply below_alloc | apply pw_below_drewN | apply below_drew1 | refine below_set ?_ GE188.out)⟩
         ·rw [if_neg c14] at H
          exact absurd H (by simp)
        ·rw [if_neg c13] at H
         exact absurd H (by simp)
       ·rw [if_neg c12] at H
        exact absurd H (by simp)
      ·rw [if_neg c10] at H
       exact absurd H (by simp)
     ·rw [if_neg c9] at H
      exact absurd H (by simp)
    ·rw [if_neg c7] at H
     exact absurd H (by simp)
   ·rw [if_neg c6] at H
    exact absurd H (by simp)
  ·rw [if_neg c5] at H
   exact absurd H (by simp)
 ·rw [if_neg c4] at H
  exact absurd H (by simp)
def spec_FieldDif.f (a0 : Int) (a1 : Int) : Option (Int) := (spec_FieldOk.f a0).bind fun t206 => (if t206 = true then ((spec_FieldOk.f a1).bind fun t207 => (if t207 = true then (some (Int.tmod (wrap64 ((wrap64 (a0 + 31)) - a1)) 31)) else (some 0))) else (some 0))
set_option maxHeartbeats 8000000 in
set_option maxRecDepth 100000 in
theorem spec_FieldDif.calls (a0 : Int) (a1 : Int) (r : Int) (w : World) (h : spec_FieldDif.f a0 a1 = some r) :
  Calls Try.prog 148 #[.int .i64 a0, .int .i64 a1] w fun e w' => e = .returned (.int .i64 r) ∧ Drawn0 w w' := by
 have H := h
 unfold spec_FieldDif.f at H
 clear h
 replace H := bnd H
 obtain ⟨t206, A3, H⟩ := H
 by_cases c4 : t206 = true
 ·subst c4
  rw [if_pos rfl] at H
  replace H := bnd H
  obtain ⟨t207, A5, H⟩ := H
  by_cases c6 : t207 = true
  ·subst c6
   rw [if_pos rfl] at H
   obtain rfl := Option.some.inj H
   go_enter Try.func148, Try.ntmps148
   go_wp2_with (first | (refine gsD c108x6 (spec_FieldOk.calls a0 true _ A3.out) ?_; intro nd) | (go_at_call 108; (with_reducible refine (spec_FieldOk.calls a1 true _ A5.out).mono ?_); rintro e w' ⟨rfl, ⟨nd, rfl⟩⟩))
   go_ret
   exact ⟨rfl, ⟨_, rfl⟩⟩
  ·replace c6 := Bool.eq_false_iff.mpr c6
   subst c6
   rw [if_neg (show ¬ (false = true) by decide)] at H
   obtain rfl := Option.some.inj H
   go_enter Try.func148, Try.ntmps148
   go_wp2_with (first | (refine gsD c108x6 (spec_FieldOk.calls a0 true _ A3.out) ?_; intro nd) | (go_at_call 108; (with_reducible refine (spec_FieldOk.calls a1 false _ A5.out).mono ?_); rintro e w' ⟨rfl, ⟨nd, rfl⟩⟩))
   go_ret
   exact ⟨rfl, ⟨_, rfl⟩⟩
 ·replace c4 := Bool.eq_false_iff.mpr c4
  subst c4
  rw [if_neg (show ¬ (false = true) by decide)] at H
  obtain rfl := Option.some.inj H
  go_enter Try.func148, Try.ntmps148
  go_wp2_with (first | (refine gsD c108x6 (spec_FieldOk.calls a0 false _ A3.out) ?_; intro nd))
  go_ret
  exact ⟨rfl, ⟨_, rfl⟩⟩
def spec_l1Inv.l0 : Nat → Int → Int → Option (Int)
 | 0, _, _ => none
 | k + 1, x0, x3 => if x3 < 31 then (if (Int.tmod (wrap64 (x0 * x3)) 31) = 1 then (some x3) else (spec_l1Inv.l0 k x0 (wrap64 (x3 + 1)))) else (some 0)
def spec_l1Inv.f (k : Nat) (a0 : Int) : Option (Int) := spec_l1Inv.l0 k a0 1
theorem spec_l1Inv.mono_l : ∀ k, (∀ y0 y1, LeO (spec_l1Inv.l0 k y0 y1) (spec_l1Inv.l0 (k + 1) y0 y1))
 | 0 => fun _ _ r h => by simp [spec_l1Inv.l0] at h
 | k + 1 => by
  have ih0 := spec_l1Inv.mono_l k
  ·intro y0 y1
   unfold spec_l1Inv.l0
   repeat' first
   | exact ih0 _ _
   | exact LeO.none _
   | refine LeO.ite ?_ ?_
   | refine LeO.bind ?_ (fun _ => ?_)
   | exact LeO.refl _
theorem spec_l1Inv.mono : ∀ a0 k, LeO (spec_l1Inv.f k a0) (spec_l1Inv.f (k + 1) a0) := by
 intro a0 k
 have ih0 := spec_l1Inv.mono_l k
 unfold spec_l1Inv.f
 repeat' first
   | exact ih0 _ _
   | exact LeO.none _
   | refine LeO.ite ?_ ?_
   | refine LeO.bind ?_ (fun _ => ?_)
   | exact LeO.refl _
set_option maxHeartbeats 8000000 in
set_option maxRecDepth 100000 in
theorem spec_l1Inv.calls (k : Nat) (a0 : Int) (r : Int) (w : World) (h : spec_l1Inv.f k a0 = some r) :
  Calls Try.prog 159 #[.int .i64 a0] w fun e w' => e = .returned (.int .i64 r) ∧ Drawn0 w w' := by
 have H : (spec_l1Inv.l0 k a0 1) = some r := h
 clear h
 have H' := Aside0.mk H
 clear H
 go_enter Try.func159, Try.ntmps159
 go_wp2
 go_loopg [3] k (fun kq v3 w' => ∃ (x3_1 : Int), v3 = .int .i64 x3_1 ∧ Aside0 (spec_l1Inv.l0 kq a0 x3_1 = some r) ∧ Aside0 (kq ≤ k) ∧ Drawn0 w w')
 case atStart => exact ⟨(1), rfl, H', ⟨Nat.le_refl _⟩, by repeat (first | exact Drawn0.refl _ | apply Drawn0.step)⟩
 case round =>
  clear H'
  try clear c1
  obtain ⟨x3_1, rfl, HA, HK1, ⟨m1, rfl⟩⟩ := hrel
  cases gk with
  | zero => exact absurd HA.out (by simp [spec_l1Inv.l0])
  | succ k1 =>
   have H := HA.out
   clear HA
   simp only [spec_l1Inv.l0] at H
   by_cases c2 : x3_1 < 31
   ·rw [if_pos c2] at H
    have c2b0 : decide (x3_1 < 31) = true := decide_eq_true c2
    clear c2
    by_cases c3 : (Int.tmod (wrap64 (a0 * x3_1)) 31) = 1
    ·rw [if_pos c3] at H
     have c3b0 : ((Int.tmod (wrap64 (a0 * x3_1)) 31) == 1) = true := beq_iff_eq.mpr c3
     have c3b1 : ((Int.tmod (wrap64 (a0 * x3_1)) 31) != 1) = false := bne_eq_false_iff_eq.mpr c3
     clear c3
     obtain rfl := Option.some.inj H
     go_wp2
     go_ret
     exact ⟨rfl, ⟨_, rfl⟩⟩
    ·rw [if_neg c3] at H
     have c3b0 : ((Int.tmod (wrap64 (a0 * x3_1)) 31) == 1) = false := beq_eq_false_iff_ne.mpr c3
     have c3b1 : ((Int.tmod (wrap64 (a0 * x3_1)) 31) != 1) = true := bne_iff_ne.mpr c3
     have H' := Aside0.mk H
     clear H
     go_wp2
     go_roundg k1
     case measure => have := HK1.out; omega
     case rel => exact ⟨(wrap64 (x3_1 + 1)), rfl, H', ⟨by have := HK1.out; omega⟩, ⟨_, rfl⟩⟩
   ·rw [if_neg c2] at H
    have c2b0 : decide (x3_1 < 31) = false := decide_eq_false c2
    clear c2
    obtain rfl := Option.some.inj H
    go_wp2
    go_ret
    exact ⟨rfl, ⟨_, rfl⟩⟩
end Go.Proofs.Ytplbobmllflniaa.Ea
