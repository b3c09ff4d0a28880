import Derived.Test.YtlgbblaidohljaaGreatDoorZ
import Derived.Test.YtlgbblaidohljaaGreatDoorZk0
import Derived.Test.YtlgbblaidohljaaGreatDoorZk1
namespace Go.Proofs.YtlgbblaidohljaaGreatDoor.Zk
open Go.RowKit Go.Proofs.YtlgbblaidohljaaGreatDoorT.PrintWords Go.Proofs.YtlgbblaidohljaaGreatDoorT.PrintLast Go.Proofs.YtlgbblaidohljaaGreatDoorT.PrintMore Go.Proofs.YtlgbblaidohljaaGreatDoor.Z
attribute [local go_sem] max2_int min2_int max_two min_two max_three min_three max_four min_four
set_option linter.unusedVariables false
set_option linter.unusedSimpArgs false
private theorem c69x19 : Ent Tryz.prog 69 := ent Tryz.func69 (by kernel_rfl) rfl
private theorem c38x10 : Ent Tryz.prog 38 := ent Tryz.func38 (by kernel_rfl) rfl
def spec_l12Cut.f (a0 : Int) (l1 : List Int) : Option (List Int × Int × Int × List Int) := (spec_TypeLen.f a0).bind fun t145 => ((some (([] : List Int) : List Int)).bind fun y146 => (if 0 ≤ t145 then (if t145 ≤ (l1.length : Int) then (if y146.length + (l1.take (t145 : Int).toNat).length < 17592186044416 then (if t145 < (l1.length : Int) then (if 0 ≤ (wrap64 (t145 + 1)) then (if (wrap64 (t145 + 1)) < (l1.length : Int) then ((some (([] : List Int) : List Int)).bind fun y155 => (if 0 ≤ (wrap64 (t145 + 2)) then (if (wrap64 (t145 + 2)) ≤ (l1.length : Int) then (if y155.length + (l1.drop ((wrap64 (t145 + 2)) : Int).toNat).length < 17592186044416 then (some ((y146 ++ (l1.take (t145 : Int).toNat)), rd l1 t145, rd l1 (wrap64 (t145 + 1)), (y155 ++ (l1.drop ((wrap64 (t145 + 2)) : Int).toNat)))) else (none)) else (none)) else (none))) else (none)) else (none)) else (none)) else (none)) else (none)) else (none)))
def spec_l12Cut.T2 : Bool × List (List Nat × List Nat) := (true, [([], []), ([], []), ([], []), ([1, 2], [1, 2]), ([0, 3], [0, 3]), ([], []), ([], []), ([5, 6], [5, 6]), ([7], [7]), ([], []), ([], []), ([10], [10]), ([9, 11], [9, 11]), ([12], [12]), ([], []), ([], []), ([], []), ([16], [16]), ([15, 17], [15, 17]), ([14, 18, 4], [14, 18]), ([8, 13, 19], [8, 13, 19]), ([4, 19, 0, 1, 2, 3, 4], [4]), ([20, 21, 0, 1, 2, 3, 4, 5, 6, 7, 8, 9, 10, 11, 12, 13, 14, 15, 16, 17, 18, 19, 20, 21], [20])])
def spec_l12Cut.B2 : List Nat := [0, 0, 0, 6, 15, 0, 0, 96, 224, 0, 0, 1024, 3584, 7680, 0, 0, 0, 65536, 229376, 507935, 1048575, 1032223, 4194303]
theorem spec_l12Cut.tab2 : rtab .any (opsOf Tryz.f79 2) = spec_l12Cut.T2 := by kernel_rfl
theorem spec_l12Cut.bits2 : waitsOk spec_l12Cut.T2.2 spec_l12Cut.B2 = true := by kernel_rfl
set_option maxHeartbeats 8000000 in
set_option maxRecDepth 100000 in
theorem spec_l12Cut.calls (a0 : Int) (A1 : Option Addr) (c1 : Nat) (l1 : List Int) (r1 : List Int) (r2 : Int) (r3 : Int) (r4 : List Int) (w : World) (hr1 : Kd.C (Kd.int .i64) w A1 l1.length l1) (hc1 : l1.length ≤ c1) (h : spec_l12Cut.f a0 l1 = some (r1, r2, r3, r4)) :
  Calls Tryz.prog 79 #[.int .i64 a0, .slice A1 l1.length c1] w fun e w' => ∃ v0_ v3_ : Value, e = .returned (.tuple #[v0_, .agg #[.int .i64 r2, .int .i64 r3, v3_]]) ∧ Kd.R (Kd.int .i64) 3 w' w.heap.size (fun k_ => some k_ ≠ (v3_ : Value).ownBlock) v0_ r1 ∧ Kd.R (Kd.int .i64) 3 w' w.heap.size (fun k_ => some k_ ≠ (v0_ : Value).ownBlock) v3_ r4 ∧ Below w.heap.size w w' := by
 have hu40 := Tryz.underlying40
 have HR1 := Aside0.mk hr1
 have HC1 := Aside0.mk hc1
 clear hr1 hc1
 have HB := Aside0.mk (Below.refl w.heap.size w)
 have H := h
 unfold spec_l12Cut.f at H
 clear h
 replace H := bnd H
 obtain ⟨t504, A3, H⟩ := H
 replace H := bndS H
 obtain ⟨y505, Ny505, H⟩ := H
 by_cases c4 : 0 ≤ t504
 ·rw [if_pos c4] at H
  have c4b0 := eq_true c4
  have c4b1 : decide (0 ≤ t504) = true := decide_eq_true c4
  clear c4
  by_cases c5 : t504 ≤ (l1.length : Int)
  ·rw [if_pos c5] at H
   have c5b0 := eq_true c5
   have c5b1 : decide (t504 ≤ (l1.length : Int)) = true := decide_eq_true c5
   clear c5
   by_cases c6 : y505.length + (l1.take (t504 : Int).toNat).length < 17592186044416
   ·rw [if_pos c6] at H
    have LMc6 := Aside0.mk c6
    clear c6
    obtain ⟨y509, hy509⟩ : ∃ y_ : List Int, y_ = (y505 ++ (l1.take (t504 : Int).toNat)) := ⟨_, rfl⟩
    replace H : (if t504 < (l1.length : Int) then (if 0 ≤ (wrap64 (t504 + 1)) then (if (wrap64 (t504 + 1)) < (l1.length : Int) then ((some (([] : List Int) : List Int)).bind fun y514 => (if 0 ≤ (wrap64 (t504 + 2)) then (if (wrap64 (t504 + 2)) ≤ (l1.length : Int) then (if y514.length + (l1.drop ((wrap64 (t504 + 2)) : Int).toNat).length < 17592186044416 then (some (y509, rd l1 t504, rd l1 (wrap64 (t504 + 1)), (y514 ++ (l1.drop ((wrap64 (t504 + 2)) : Int).toNat)))) else (none)) else (none)) else (none))) else (none)) else (none)) else (none)) = some (r1, r2, r3, r4) := by rw [hy509]; with_reducible exact H
    have Ny509 := Aside0.mk hy509
    clear hy509
    by_cases c7 : t504 < (l1.length : Int)
    ·rw [if_pos c7] at H
     have c7b0 : decide (t504 < (l1.length : Int)) = true := decide_eq_true c7
     clear c7
     obtain ⟨ji8, hji8⟩ : ∃ j_ : Int, (wrap64 (t504 + 1)) = j_ := ⟨_, rfl⟩
     replace H : (if 0 ≤ (ji8) then (if (ji8) < (l1.length : Int) then ((some (([] : List Int) : List Int)).bind fun y514 => (if 0 ≤ (wrap64 (t504 + 2)) then (if (wrap64 (t504 + 2)) ≤ (l1.length : Int) then (if y514.length + (l1.drop ((wrap64 (t504 + 2)) : Int).toNat).length < 17592186044416 then (some (y509, rd l1 t504, rd l1 (ji8), (y514 ++ (l1.drop ((wrap64 (t504 + 2)) : Int).toNat)))) else (none)) else (none)) else (none))) else (none)) else (none)) = some (r1, r2, r3, r4) := by first | (rw [hji8] at H; exact H) | (simp only [hji8] at H ⊢; exact H)
     (try rw [hji8] at A3)
     have hji8w : (IntKind.i64.wrap (t504 + 1)) = ji8 := (i64_w _).trans hji8
     by_cases c9 : 0 ≤ (ji8)
     ·rw [if_pos c9] at H
      have c9b0 : decide (0 ≤ (ji8)) = true := decide_eq_true c9
      clear c9
      by_cases c10 : (ji8) < (l1.length : Int)
      ·rw [if_pos c10] at H
       have c10b0 : decide ((ji8) < (l1.length : Int)) = true := decide_eq_true c10
       clear c10
       replace H := bndS H
       obtain ⟨y514, Ny514, H⟩ := H
       obtain ⟨ji11, hji11⟩ : ∃ j_ : Int, (wrap64 (t504 + 2)) = j_ := ⟨_, rfl⟩
       replace H : (if 0 ≤ (ji11) then (if (ji11) ≤ (l1.length : Int) then (if y514.length + (l1.drop ((ji11) : Int).toNat).length < 17592186044416 then (some (y509, rd l1 t504, rd l1 (ji8), (y514 ++ (l1.drop ((ji11) : Int).toNat)))) else (none)) else (none)) else (none)) = some (r1, r2, r3, r4) := by first | (rw [hji11] at H; exact H) | (simp only [hji11] at H ⊢; exact H)
       (try rw [hji11] at A3)
       have hji11w : (IntKind.i64.wrap (t504 + 2)) = ji11 := (i64_w _).trans hji11
       by_cases c12 : 0 ≤ (ji11)
       ·rw [if_pos c12] at H
        have c12b0 := eq_true c12
        have c12b1 : decide (0 ≤ (ji11)) = true := decide_eq_true c12
        clear c12
        by_cases c13 : (ji11) ≤ (l1.length : Int)
        ·rw [if_pos c13] at H
         have c13b0 := eq_true c13
         have c13b1 : decide ((ji11) ≤ (l1.length : Int)) = true := decide_eq_true c13
         clear c13
         by_cases c14 : y514.length + (l1.drop ((ji11) : Int).toNat).length < 17592186044416
         ·rw [if_pos c14] at H
          have LMc14 := Aside0.mk c14
          clear c14
          obtain ⟨y518, hy518⟩ : ∃ y_ : List Int, y_ = (y514 ++ (l1.drop ((ji11) : Int).toNat)) := ⟨_, rfl⟩
          replace H : (some (y509, rd l1 t504, rd l1 (ji8), y518)) = some (r1, r2, r3, r4) := by rw [hy518]; with_reducible exact H
          have Ny518 := Aside0.mk hy518
          clear hy518
          simp only [Option.some.injEq, Prod.mk.injEq] at H
          obtain ⟨rfl, rfl, rfl, rfl⟩ := H
          go_enter Tryz.func79, Tryz.ntmps79
          try go_wp2_with (first | ((with_reducible refine gate_dst (N := 5) rfl ?_); refine boxZ (N := 5) (cs := #[.int .i64 0, .int .i64 0, .slice none 0 0]) (t := 40) ?_; intro gb503 hg w15 hbox hb; replace BK503 := Aside0.mk (hbox); replace GW503 := gwZ hg; replace GE503 := gwZ hg; replace HB := bnZ hb; clear hb hbox hg) | (refine gsD c69x19 (spec_TypeLen.calls a0 t504 _ A3.out) ?_; intro nd; (try (rw [drewN_self w15]; generalize hq_ : World.drewN w15 _ = w15; have n0_ : Aside0 (w15.heap[gb503]? = some (.cells #[.int .i64 0, .int .i64 0, .slice none 0 0] 40 (0, 0))) := ⟨by rw [← hq_]; exact (by exact BK503.out)⟩; have n1_ : Aside0 (Below w.heap.size w w15) := ⟨by rw [← hq_]; exact bZ⟩; clear BK503 HB hq_; have BK503 := n0_; have HB := n1_; clear n0_ n1_))))
          replace BK503 := Aside0.mk (blk_drew BK503.out)
          replace HB := Aside0.mk (below_drew1 HB.out)
          obtain ⟨i017, hi017, _, hsz17, _⟩ := info_parts info3
          obtain ⟨hcut17, hA17, hC17⟩ := print_take_of (P := Tryz.prog) (Value.int .i64) 0 22 3 .i64 Tryz.underlying22 hi017 hsz17 A1 c1 l1 t504 (of_decide_eq_true ‹_›) (of_decide_eq_true ‹_›) HC1.out
          have HR508 := Aside0.mk (Kd.C_of_reads (h1 := fun _ => rfl) (hA17 _ (Kd.reads_of_C HR1.out)))
          have HC508 := Aside0.mk hC17
          clear hA17 hC17 hi017 hsz17
          have p512 : 0 ≤ (t504 : Int) := of_decide_eq_true ‹_›
          have q512 : t504 < (l1.length : Int) := of_decide_eq_true ‹_›
          obtain ⟨ad512, e512, hx512_0⟩ := Kd.at_int HR1.out t504 p512 q512
          have hw512_0 := hx512_0
          cases e512
          replace hx512_0 := (HB.out.cell (World.block_lt_of_cell? w _ hx512_0)).trans hx512_0
          replace p512 := eq_true p512
          replace q512 := eq_true q512
          have p513 : 0 ≤ ((ji8) : Int) := of_decide_eq_true ‹_›
          have q513 : (ji8) < (l1.length : Int) := of_decide_eq_true ‹_›
          obtain ⟨ad513, e513, hx513_0⟩ := Kd.at_int HR1.out (ji8) p513 q513
          have hw513_0 := hx513_0
          obtain rfl : ad512 = ad513 := (by injection e513)
          replace hx513_0 := (HB.out.cell (World.block_lt_of_cell? w _ hx513_0)).trans hx513_0
          replace p513 := eq_true p513
          replace q513 := eq_true q513
          obtain ⟨i018, hi018, _, hsz18, _⟩ := info_parts info3
          obtain ⟨A18, hcut18, hA18, hC18⟩ := print_drop_of (P := Tryz.prog) (Value.int .i64) 0 22 3 .i64 Tryz.underlying22 hi018 hsz18 (some ad512) c1 l1 (ji11) (of_decide_eq_true ‹_›) (of_decide_eq_true ‹_›) HC1.out
          have HR517 := Aside0.mk (Kd.C_of_reads (h1 := fun _ => rfl) (hA18 _ (Kd.reads_of_C HR1.out)))
          have HC517 := Aside0.mk hC18
          clear hA18 hC18 hi018 hsz18
          refine start_ (n := 23) (S := fun w' => w'.cell? (ad512.add (t504).toNat) = some (.int .i64 (rd l1 t504)) ∧ w'.cell? (ad512.add ((ji8)).toNat) = some (.int .i64 (rd l1 (ji8)))) (ds := []) (bs 23 0) (by kernel_rfl) rfl rfl ⟨((HB.out.cell (World.block_lt_of_cell? w _ hw512_0)).trans hw512_0), ((HB.out.cell (World.block_lt_of_cell? w _ hw513_0)).trans hw513_0)⟩ (fun hHeld => ?_); refine with_tabW spec_l12Cut.tab2 spec_l12Cut.bits2 (fun HT_ HW_ => ?_)
          generalize w15.drew = w16 at BK503 HB HR508 HR517 hx512_0 hx513_0 hHeld ⊢
          refine pZ 1 (some 10) (bs 23 2) rfl rfl (any_of HT_.out (by kernel_rfl)) ?_
          refine pZ 2 (some 11) (bs 23 6) rfl rfl (any_of HT_.out (by kernel_rfl)) ?_
          refine pZ 3 (some 12) (bs 23 14) rfl rfl (any_of HT_.out (by kernel_rfl)) ?_
          refine pZ 5 (some 14) (bs 23 46) rfl rfl (any_of HT_.out (by kernel_rfl)) ?_
          refine pZ 6 (some 15) (bs 23 110) rfl rfl (any_of HT_.out (by kernel_rfl)) ?_
          refine pZ 7 (some 16) (bs 23 238) rfl rfl (any_of HT_.out (by kernel_rfl)) ?_
          refine pZ 9 (some 18) (bs 23 750) rfl rfl (any_of HT_.out (by kernel_rfl)) ?_
          refine pZ 10 (some 19) (bs 23 1774) rfl rfl (any_of HT_.out (by kernel_rfl)) ?_
          refine pZ 11 (some 20) (bs 23 3822) rfl rfl (any_of HT_.out (by kernel_rfl)) ?_
          refine pZ 12 (some 21) (bs 23 7918) rfl rfl (any_of HT_.out (by kernel_rfl)) ?_
          refine pZ 15 (some 24) (bs 23 40686) rfl rfl (any_of HT_.out (by kernel_rfl)) ?_
          refine pZ 16 (some 25) (bs 23 106222) rfl rfl (any_of HT_.out (by kernel_rfl)) ?_
          refine pZ 17 (some 26) (bs 23 237294) rfl rfl (any_of HT_.out (by kernel_rfl)) ?_
          refine pZ 18 (some 27) (bs 23 499438) rfl rfl (any_of HT_.out (by kernel_rfl)) ?_
          refine tZ 8 (some 17) (bs 23 499694) rfl rfl (take_ofW HT_.out HW_.out (by kernel_rfl)) hHeld (by rintro w' ⟨s0, s1⟩; go_simp; with_reducible rfl) ?_
          refine tZ 13 (some 22) (bs 23 507886) rfl rfl (take_ofW HT_.out HW_.out (by kernel_rfl)) hHeld (by rintro w' ⟨s0, s1⟩; go_simp; with_reducible rfl) ?_
          refine join_ (σ := Value × Value × Value) 4 (bs 23 524287) (fun s_ => [(9, s_.1), (13, s_.2.1), (23, s_.2.2)]) (fun s_ w' => (w'.cell? (ad512.add (t504).toNat) = some (.int .i64 (rd l1 t504)) ∧ w'.cell? (ad512.add ((ji8)).toNat) = some (.int .i64 (rd l1 (ji8)))) ∧ (Kd.R (Kd.int .i64) 3 w' w.heap.size (fun k_ => some k_ ≠ (s_.2.2 : Value).ownBlock) s_.2.1 y509) ∧ (Kd.R (Kd.int .i64) 3 w' w.heap.size (fun k_ => some k_ ≠ (s_.2.1 : Value).ownBlock) s_.2.2 y514) ∧ (w'.heap[gb503]? = some (.cells #[.int .i64 0, .int .i64 0, .slice none 0 0] 40 (0, 0))) ∧ (Below w.heap.size w w')) ?_ ?_
          rotate_left
          ·intro hCont
           refine two_ (i := 0) (j := 14) (Ni := some 9) (Nj := some 23) (bs 23 507887) (bs 23 524270) rfl rfl rfl rfl (two_of HT_.out (by kernel_rfl)) (by decide) (by decide) (fun K hK => ?_) (fun K hK => ?_)
           ·skip
            refine Kd.R_lit_step (Kd.int .i64) _ 3 ?hg (N := 9) ?hd (xs := ([] : List Int)) (inner := []) (ok := fun _ => True) (okp := fun _ => True) ?hr ?hp (fun _ hk => hk) trivial (Below.refl _ _) (Nat.le_refl _) (by simp) ?_; (case hd => rfl); (case hg => rfl); (case hr => first | (go_simp; done) | (go_simp; rfl)); (case hp => exact (Reps.none _ _))
            intro v506 w19 ho20 hb hg_ hnew_
            clear hg_ hnew_
            (first | rw [← Ny505.out] at ho20 | (simp only [Int.reduceToNat] at ho20; rw [← Ny505.out] at ho20))
            replace HO507 := Aside0.mk (Kd.R_lower ho20 bsZ)
            replace BK503 := bkZ hb BK503.out
            replace HB := bnZ hb
            clear hb ho20
            refine hK.out _ _ ⟨((HB.out.cell (World.block_lt_of_cell? w _ hw512_0)).trans hw512_0), ((HB.out.cell (World.block_lt_of_cell? w _ hw513_0)).trans hw513_0)⟩ (fun hHeld => ?_)
            clear hK K
            refine norm_ (a' := ?_) ?_ ?_
            rotate_left
            ·show Act.put _ (some 9) _ = _
             simp only [Act.put, List.setIfInBounds_toArray, List.set_cons_zero, List.set_cons_succ, i64_w, i32_w]
             rfl
            refine two_ (i := 4) (j := 14) (Ni := some 13) (Nj := some 23) (bs 23 507903) (bs 23 524271) rfl rfl rfl rfl (two_of HT_.out (by kernel_rfl)) (by decide) (by decide) (fun K hK => ?_) (fun K hK => ?_)
            ·skip
             refine Kd.R_append_rows_step (Kd.int .i64) (w0 := w) w.heap.size (by rfl) (.tmp 9) (.tmp 12) 22 3 (.int .i64 0) 8 rfl Tryz.underlying22 info3 rfl (by decide) (by omega) v506 y505 (l1.take (t504 : Int).toNat) _ _ _ (fun _ => True) (fun _ => False) rfl rfl ?aO ?aR (fun _ _ h => h) (fun _ h => h.elim) ?aF ?aB ?aS ?aL ?_
             (case aR => first | (refine readsRow_len ?_ (show (l1.take (t504 : Int).toNat).length = t504.toNat from (by rw [List.length_take]; have h_ : (t504 : Int) ≤ (l1.length : Int) := of_decide_eq_true ‹_›; omega)); repeat (first | exact (Kd.C_below HR508.out HB.out) | (with_reducible refine Kd.C_alloc ?_ _) | (with_reducible refine Kd.C_drewN ?_ _) | (with_reducible refine Kd.C_drew ?_))) | (repeat (first | exact (Kd.C_below HR508.out HB.out) | (with_reducible refine Kd.C_alloc ?_ _) | (with_reducible refine Kd.C_drewN ?_ _) | (with_reducible refine Kd.C_drew ?_))))
             (case aB => exact bZ)
             (case aF => exact (fun _ _ => trivial))
             (case aO => exact (HO507.out))
             (case aS => exact bsZ)
             (case aL => have := LMc6.out; have hlx_ := (show (l1.take (t504 : Int).toNat).length = t504.toNat from (by rw [List.length_take]; have h_ : (t504 : Int) ≤ (l1.length : Int) := of_decide_eq_true ‹_›; omega)); omega)
             intro v510 w21 ho hb hg hat
             rw [← Ny509.out] at ho
             have n0_ := Aside0.mk (blk_grown (g := gb503) (o := .cells #[.int .i64 0, .int .i64 0, .slice none 0 0] 40 (0, 0)) (by exact BK503.out) hg (Kd.R_ne HO507.out BK503.out (by decide)))
             have n1_ := Aside0.mk (hb)
             have n2_ := Aside0.mk (ho)
             clear BK503
             clear HB
             clear HO507
             have BK503 := n0_
             have HB := n1_
             have HO511 := n2_
             clear n0_ n1_ n2_
             clear ho hb hg hat
             refine hK.out _ _ ⟨((HB.out.cell (World.block_lt_of_cell? w _ hw512_0)).trans hw512_0), ((HB.out.cell (World.block_lt_of_cell? w _ hw513_0)).trans hw513_0)⟩ (fun hHeld => ?_)
             clear hK K
             refine norm_ (a' := ?_) ?_ ?_
             rotate_left
             ·show Act.put _ (some 13) _ = _
              simp only [Act.put, List.setIfInBounds_toArray, List.set_cons_zero, List.set_cons_succ, i64_w, i32_w]
              rfl
             refine one_ (i := 14) (N := some 23) (bs 23 524287) rfl rfl (one_of HT_.out (by kernel_rfl)) (by decide) (fun K hK => ?_)
             refine Kd.R_lit_step (Kd.int .i64) _ 3 ?hg (N := 23) ?hd (xs := ([] : List Int)) (inner := []) (ok := fun _ => True) (okp := fun _ => True) ?hr ?hp (fun _ hk => hk) trivial (Below.refl _ _) (Nat.le_refl _) (by simp) ?_; (case hd => rfl); (case hg => rfl); (case hr => first | (go_simp; done) | (go_simp; rfl)); (case hp => exact (Reps.none _ _))
             intro v515 w22 ho23 hb hg_ hnew_
             clear hg_ hnew_
             (first | rw [← Ny514.out] at ho23 | (simp only [Int.reduceToNat] at ho23; rw [← Ny514.out] at ho23))
             replace HO516 := Aside0.mk (Kd.R_lower (Kd.R_new' ho23 (Kd.R_lt (HO511.out))) bsZ)
             replace HO511 := Aside0.mk (Kd.R_elder' (HO511.out) (Kd.R_base ho23) hb)
             replace BK503 := bkZ hb BK503.out
             replace HB := bnZ hb
             clear hb ho23
             refine hK.out _ _ ⟨((HB.out.cell (World.block_lt_of_cell? w _ hw512_0)).trans hw512_0), ((HB.out.cell (World.block_lt_of_cell? w _ hw513_0)).trans hw513_0)⟩ (fun hHeld => ?_)
             clear hK K
             refine norm_ (a' := ?_) ?_ ?_
             rotate_left
             ·show Act.put _ (some 23) _ = _
              simp only [Act.put, List.setIfInBounds_toArray, List.set_cons_zero, List.set_cons_succ, i64_w, i32_w]
              rfl
             exact norm_ (by simp only [putAll, Act.put, List.setIfInBounds_toArray, List.set_cons_zero, List.set_cons_succ]) (hCont (v506, v510, v515) _ ⟨hHeld, (Kd.R_mono HO511.out (fun _ hk => hk.2)), (Kd.R_mono HO516.out (fun _ hk => hk.2)), (by exact BK503.out), bZ⟩)
            ·skip
             refine Kd.R_lit_step (Kd.int .i64) _ 3 ?hg (N := 23) ?hd (xs := ([] : List Int)) (inner := []) (ok := fun _ => True) (okp := fun _ => True) ?hr ?hp (fun _ hk => hk) trivial (Below.refl _ _) (Nat.le_refl _) (by simp) ?_; (case hd => rfl); (case hg => rfl); (case hr => first | (go_simp; done) | (go_simp; rfl)); (case hp => exact (Reps.none _ _))
             intro v515 w21 ho22 hb hg_ hnew_
             clear hg_ hnew_
             (first | rw [← Ny514.out] at ho22 | (simp only [Int.reduceToNat] at ho22; rw [← Ny514.out] at ho22))
             replace HO516 := Aside0.mk (Kd.R_lower (Kd.R_new' ho22 (Kd.R_lt (HO507.out))) bsZ)
             replace HO507 := Aside0.mk (Kd.R_elder' (HO507.out) (Kd.R_base ho22) hb)
             replace BK503 := bkZ hb BK503.out
             replace HB := bnZ hb
             clear hb ho22
             refine hK.out _ _ ⟨((HB.out.cell (World.block_lt_of_cell? w _ hw512_0)).trans hw512_0), ((HB.out.cell (World.block_lt_of_cell? w _ hw513_0)).trans hw513_0)⟩ (fun hHeld => ?_)
             clear hK K
             refine norm_ (a' := ?_) ?_ ?_
             rotate_left
             ·show Act.put _ (some 23) _ = _
              simp only [Act.put, List.setIfInBounds_toArray, List.set_cons_zero, List.set_cons_succ, i64_w, i32_w]
              rfl
             refine one_ (i := 4) (N := some 13) (bs 23 524287) rfl rfl (one_of HT_.out (by kernel_rfl)) (by decide) (fun K hK => ?_)
             refine Kd.R_append_rows_step (Kd.int .i64) (w0 := w) w.heap.size (by rfl) (.tmp 9) (.tmp 12) 22 3 (.int .i64 0) 8 rfl Tryz.underlying22 info3 rfl (by decide) (by omega) v506 y505 (l1.take (t504 : Int).toNat) _ _ _ (fun k_ => some k_ ≠ (v515 : Value).ownBlock) (fun _ => False) rfl rfl ?aO ?aR (fun _ _ h => h) (fun _ h => h.elim) ?aF ?aB ?aS ?aL ?_
             (case aR => first | (refine readsRow_len ?_ (show (l1.take (t504 : Int).toNat).length = t504.toNat from (by rw [List.length_take]; have h_ : (t504 : Int) ≤ (l1.length : Int) := of_decide_eq_true ‹_›; omega)); repeat (first | exact (Kd.C_below HR508.out HB.out) | (with_reducible refine Kd.C_alloc ?_ _) | (with_reducible refine Kd.C_drewN ?_ _) | (with_reducible refine Kd.C_drew ?_))) | (repeat (first | exact (Kd.C_below HR508.out HB.out) | (with_reducible refine Kd.C_alloc ?_ _) | (with_reducible refine Kd.C_drewN ?_ _) | (with_reducible refine Kd.C_drew ?_))))
             (case aB => exact bZ)
             (case aF => exact (fun k_ hk => Kd.fresh' (Kd.R_lt (HO516.out)) k_ hk))
             (case aO => exact (Kd.R_mono HO507.out (fun _ hk => hk.2)))
             (case aS => exact bsZ)
             (case aL => have := LMc6.out; have hlx_ := (show (l1.take (t504 : Int).toNat).length = t504.toNat from (by rw [List.length_take]; have h_ : (t504 : Int) ≤ (l1.length : Int) := of_decide_eq_true ‹_›; omega)); omega)
             intro v510 w23 ho hb hg hat
             rw [← Ny509.out] at ho
             have n0_ := Aside0.mk (blk_grown (g := gb503) (o := .cells #[.int .i64 0, .int .i64 0, .slice none 0 0] 40 (0, 0)) (by exact BK503.out) hg (Kd.R_ne HO507.out BK503.out (by decide)))
             have n1_ := Aside0.mk (Kd.R_after (ok := (fun _ => True)) (HO516.out) hg hat)
             have n2_ := Aside0.mk (hb)
             have n3_ := Aside0.mk (ho)
             clear BK503
             clear HO516
             clear HB
             clear HO507
             have BK503 := n0_
             have HO516 := n1_
             have HB := n2_
             have HO511 := n3_
             clear n0_ n1_ n2_ n3_
             clear ho hb hg hat
             refine hK.out _ _ ⟨((HB.out.cell (World.block_lt_of_cell? w _ hw512_0)).trans hw512_0), ((HB.out.cell (World.block_lt_of_cell? w _ hw513_0)).trans hw513_0)⟩ (fun hHeld => ?_)
             clear hK K
             refine norm_ (a' := ?_) ?_ ?_
             rotate_left
             ·show Act.put _ (some 13) _ = _
              simp only [Act.put, List.setIfInBounds_toArray, List.set_cons_zero, List.set_cons_succ, i64_w, i32_w]
              rfl
             exact norm_ (by simp only [putAll, Act.put, List.setIfInBounds_toArray, List.set_cons_zero, List.set_cons_succ]) (hCont (v506, v510, v515) _ ⟨hHeld, (HO511.out), (Kd.R_mono HO516.out (fun _ hk => hk.2)), (by exact BK503.out), bZ⟩)
           ·skip
            refine Kd.R_lit_step (Kd.int .i64) _ 3 ?hg (N := 23) ?hd (xs := ([] : List Int)) (inner := []) (ok := fun _ => True) (okp := fun _ => True) ?hr ?hp (fun _ hk => hk) trivial (Below.refl _ _) (Nat.le_refl _) (by simp) ?_; (case hd => rfl); (case hg => rfl); (case hr => first | (go_simp; done) | (go_simp; rfl)); (case hp => exact (Reps.none _ _))
            intro v515 w19 ho20 hb hg_ hnew_
            clear hg_ hnew_
            (first | rw [← Ny514.out] at ho20 | (simp only [Int.reduceToNat] at ho20; rw [← Ny514.out] at ho20))
            replace HO516 := Aside0.mk (Kd.R_lower ho20 bsZ)
            replace BK503 := bkZ hb BK503.out
            replace HB := bnZ hb
            clear hb ho20
            refine hK.out _ _ ⟨((HB.out.cell (World.block_lt_of_cell? w _ hw512_0)).trans hw512_0), ((HB.out.cell (World.block_lt_of_cell? w _ hw513_0)).trans hw513_0)⟩ (fun hHeld => ?_)
            clear hK K
            refine norm_ (a' := ?_) ?_ ?_
            rotate_left
            ·show Act.put _ (some 23) _ = _
             simp only [Act.put, List.setIfInBounds_toArray, List.set_cons_zero, List.set_cons_succ, i64_w, i32_w]
             rfl
            refine one_ (i := 0) (N := some 9) (bs 23 524271) rfl rfl (one_of HT_.out (by kernel_rfl)) (by decide) (fun K hK => ?_)
            refine Kd.R_lit_step (Kd.int .i64) _ 3 ?hg (N := 9) ?hd (xs := ([] : List Int)) (inner := []) (ok := fun _ => True) (okp := fun _ => True) ?hr ?hp (fun _ hk => hk) trivial (Below.refl _ _) (Nat.le_refl _) (by simp) ?_; (case hd => rfl); (case hg => rfl); (case hr => first | (go_simp; done) | (go_simp; rfl)); (case hp => exact (Reps.none _ _))
            intro v506 w21 ho22 hb hg_ hnew_
            clear hg_ hnew_
            (first | rw [← Ny505.out] at ho22 | (simp only [Int.reduceToNat] at ho22; rw [← Ny505.out] at ho22))
            replace HO507 := Aside0.mk (Kd.R_lower (Kd.R_new' ho22 (Kd.R_lt (HO516.out))) bsZ)
            replace HO516 := Aside0.mk (Kd.R_elder' (HO516.out) (Kd.R_base ho22) hb)
            replace BK503 := bkZ hb BK503.out
            replace HB := bnZ hb
            clear hb ho22
            refine hK.out _ _ ⟨((HB.out.cell (World.block_lt_of_cell? w _ hw512_0)).trans hw512_0), ((HB.out.cell (World.block_lt_of_cell? w _ hw513_0)).trans hw513_0)⟩ (fun hHeld => ?_)
            clear hK K
            refine norm_ (a' := ?_) ?_ ?_
            rotate_left
            ·show Act.put _ (some 9) _ = _
             simp only [Act.put, List.setIfInBounds_toArray, List.set_cons_zero, List.set_cons_succ, i64_w, i32_w]
             rfl
            refine one_ (i := 4) (N := some 13) (bs 23 524287) rfl rfl (one_of HT_.out (by kernel_rfl)) (by decide) (fun K hK => ?_)
            refine Kd.R_append_rows_step (Kd.int .i64) (w0 := w) w.heap.size (by rfl) (.tmp 9) (.tmp 12) 22 3 (.int .i64 0) 8 rfl Tryz.underlying22 info3 rfl (by decide) (by omega) v506 y505 (l1.take (t504 : Int).toNat) _ _ _ (fun k_ => some k_ ≠ (v515 : Value).ownBlock) (fun _ => False) rfl rfl ?aO ?aR (fun _ _ h => h) (fun _ h => h.elim) ?aF ?aB ?aS ?aL ?_
            (case aR => first | (refine readsRow_len ?_ (show (l1.take (t504 : Int).toNat).length = t504.toNat from (by rw [List.length_take]; have h_ : (t504 : Int) ≤ (l1.length : Int) := of_decide_eq_true ‹_›; omega)); repeat (first | exact (Kd.C_below HR508.out HB.out) | (with_reducible refine Kd.C_alloc ?_ _) | (with_reducible refine Kd.C_drewN ?_ _) | (with_reducible refine Kd.C_drew ?_))) | (repeat (first | exact (Kd.C_below HR508.out HB.out) | (with_reducible refine Kd.C_alloc ?_ _) | (with_reducible refine Kd.C_drewN ?_ _) | (with_reducible refine Kd.C_drew ?_))))
            (case aB => exact bZ)
            (case aF => exact (fun k_ hk => Kd.fresh' (Kd.R_lt (HO516.out)) k_ hk))
            (case aO => exact (Kd.R_mono HO507.out (fun _ hk => hk.2)))
            (case aS => exact bsZ)
            (case aL => have := LMc6.out; have hlx_ := (show (l1.take (t504 : Int).toNat).length = t504.toNat from (by rw [List.length_take]; have h_ : (t504 : Int) ≤ (l1.length : Int) := of_decide_eq_true ‹_›; omega)); omega)
            intro v510 w23 ho hb hg hat
            rw [← Ny509.out] at ho
            have n0_ := Aside0.mk (blk_grown (g := gb503) (o := .cells #[.int .i64 0, .int .i64 0, .slice none 0 0] 40 (0, 0)) (by exact BK503.out) hg (Kd.R_ne HO507.out BK503.out (by decide)))
            have n1_ := Aside0.mk (Kd.R_after (ok := (fun _ => True)) (HO516.out) hg hat)
            have n2_ := Aside0.mk (hb)
            have n3_ := Aside0.mk (ho)
            clear BK503
            clear HO516
            clear HB
            clear HO507
            have BK503 := n0_
            have HO516 := n1_
            have HB := n2_
            have HO511 := n3_
            clear n0_ n1_ n2_ n3_
            clear ho hb hg hat
            refine hK.out _ _ ⟨((HB.out.cell (World.block_lt_of_cell? w _ hw512_0)).trans hw512_0), ((HB.out.cell (World.block_lt_of_cell? w _ hw513_0)).trans hw513_0)⟩ (fun hHeld => ?_)
            clear hK K
            refine norm_ (a' := ?_) ?_ ?_
            rotate_left
            ·show Act.put _ (some 13) _ = _
             simp only [Act.put, List.setIfInBounds_toArray, List.set_cons_zero, List.set_cons_succ, i64_w, i32_w]
             rfl
            exact norm_ (by simp only [putAll, Act.put, List.setIfInBounds_toArray, List.set_cons_zero, List.set_cons_succ]) (hCont (v506, v510, v515) _ ⟨hHeld, (HO511.out), (Kd.R_mono HO516.out (fun _ hk => hk.2)), (by exact BK503.out), bZ⟩)
          rintro ⟨v506, v510, v515⟩ w24 ⟨hS_, h0_, h1_, h2_, h3_⟩
          have n0_ : Aside0 (Kd.R (Kd.int .i64) 3 w24 w.heap.size (fun k_ => some k_ ≠ (v515 : Value).ownBlock) v510 y509) := ⟨h0_⟩
          have n1_ : Aside0 (Kd.R (Kd.int .i64) 3 w24 w.heap.size (fun k_ => some k_ ≠ (v510 : Value).ownBlock) v515 y514) := ⟨h1_⟩
          have n2_ : Aside0 (w24.heap[gb503]? = some (.cells #[.int .i64 0, .int .i64 0, .slice none 0 0] 40 (0, 0))) := ⟨h2_⟩
          have n3_ : Aside0 (Below w.heap.size w w24) := ⟨h3_⟩
          clear BK503
          clear HB
          clear h0_ h1_ h2_ h3_
          have HO511 := n0_
          have HO516 := n1_
          have BK503 := n2_
          have HB := n3_
          clear n0_ n1_ n2_ n3_
          have hHeld : w24.cell? (ad512.add (t504).toNat) = some (.int .i64 (rd l1 t504)) ∧ w24.cell? (ad512.add ((ji8)).toNat) = some (.int .i64 (rd l1 (ji8))) := hS_
          refine norm_ (a' := ?_) ?_ ?_
          rotate_left
          ·simp only [putAll, Act.put, List.setIfInBounds_toArray, List.set_cons_zero, List.set_cons_succ]
           rfl
          refine one_ (i := 19) (N := some 28) (bs 23 1048575) rfl rfl (one_of HT_.out (by kernel_rfl)) (by decide) (fun K hK => ?_)
          refine Kd.R_append_rows_step (Kd.int .i64) (w0 := w) w.heap.size (by rfl) (.tmp 23) (.tmp 27) 22 3 (.int .i64 0) 8 rfl Tryz.underlying22 info3 rfl (by decide) (by omega) v515 y514 (l1.drop ((ji11) : Int).toNat) _ _ _ (fun k_ => some k_ ≠ (v510 : Value).ownBlock) (fun _ => False) rfl rfl ?aO ?aR (fun _ _ h => h) (fun _ h => h.elim) ?aF ?aB ?aS ?aL ?_
          (case aR => first | (refine readsRow_len ?_ (show (l1.drop ((ji11) : Int).toNat).length = (l1.length - (ji11).toNat) from List.length_drop); repeat (first | exact (Kd.C_below HR517.out HB.out) | (with_reducible refine Kd.C_alloc ?_ _) | (with_reducible refine Kd.C_drewN ?_ _) | (with_reducible refine Kd.C_drew ?_))) | (repeat (first | exact (Kd.C_below HR517.out HB.out) | (with_reducible refine Kd.C_alloc ?_ _) | (with_reducible refine Kd.C_drewN ?_ _) | (with_reducible refine Kd.C_drew ?_))))
          (case aB => exact bZ)
          (case aF => exact (fun k_ hk => Kd.fresh' (Kd.R_lt (HO511.out)) k_ hk))
          (case aO => exact (HO516.out))
          (case aS => exact bsZ)
          (case aL => have := LMc14.out; have hlx_ := (show (l1.drop ((ji11) : Int).toNat).length = (l1.length - (ji11).toNat) from List.length_drop); omega)
          intro v519 w25 ho hb hg hat
          rw [← Ny518.out] at ho
          have n0_ := Aside0.mk (blk_grown (g := gb503) (o := .cells #[.int .i64 0, .int .i64 0, .slice none 0 0] 40 (0, 0)) (by exact BK503.out) hg (Kd.R_ne HO516.out BK503.out (by decide)))
          have n1_ := Aside0.mk (Kd.R_after (ok := (fun _ => True)) (Kd.R_mono HO511.out (fun _ hk => ⟨trivial, hk⟩)) hg hat)
          have n2_ := Aside0.mk (hb)
          have n3_ := Aside0.mk (ho)
          clear BK503
          clear HO511
          clear HB
          clear HO516
          have BK503 := n0_
          have HO511 := n1_
          have HB := n2_
          have HO520 := n3_
          clear n0_ n1_ n2_ n3_
          clear ho hb hg hat
          obtain ⟨Ao26, co26, eo26⟩ := Kd.R_slice HO520.out
          (first | subst eo26 | (injection eo26 with f1_ f2_ f3_; have f4_ := f1_.symm; have f5_ := f3_.symm; clear f1_ f2_ f3_; subst f4_; subst f5_))
          refine hK.out _ _ ⟨((HB.out.cell (World.block_lt_of_cell? w _ hw512_0)).trans hw512_0), ((HB.out.cell (World.block_lt_of_cell? w _ hw513_0)).trans hw513_0)⟩ (fun hHeld => ?_)
          clear hK K
          refine norm_ (a' := ?_) ?_ ?_
          rotate_left
          ·show Act.put _ (some 28) _ = _
           simp only [Act.put, List.setIfInBounds_toArray, List.set_cons_zero, List.set_cons_succ, i64_w, i32_w]
           rfl
          refine pZ 20 (some 29) (bs 23 2097151) rfl rfl (any_of HT_.out (by kernel_rfl)) ?_
          refine pZ 21 (some 4) (bs 23 4194303) rfl rfl (any_of HT_.out (by kernel_rfl)) ?_
          refine one_ (i := 22) (N := none) (bs 23 8388607) rfl rfl (one_of HT_.out (by kernel_rfl)) (by decide) (fun K hK => ?_)
          have hs27 : w25.cell? ⟨gb503, 0, none⟩ = some (.int .i64 0) := (blk_cell BK503.out 0).trans rfl
          have hfs27 := blk_frozen BK503.out 0
          have hs28 : w25.cell? ⟨gb503, 1, none⟩ = some (.int .i64 0) := (blk_cell BK503.out 1).trans rfl
          have hfs28 := blk_frozen BK503.out 1
          have hs29 : w25.cell? ⟨gb503, 2, none⟩ = some (.slice none 0 0) := (blk_cell BK503.out 2).trans rfl
          have hfs29 := blk_frozen BK503.out 2
          refine skip_ (w1 := ?_) (by rfl) rfl ?_ ?_
          rotate_left
          ·go_simp
           rfl
          refine hK.out _ _ ⟨((cell_far (p := ⟨gb503, _, none⟩) (by first | exact Nat.ne_of_lt (Nat.lt_of_lt_of_le (by have := World.block_lt_of_cell? _ _ hw512_0; first | rwa [add_block] at this | exact this) GW503.out) | (rw [add_block]; exact Nat.ne_of_lt (Nat.lt_of_lt_of_le (by have := World.block_lt_of_cell? _ _ hw512_0; first | rwa [add_block] at this | exact this) GW503.out)) | (show (Addr.add _ _).block ≠ _; rw [add_block]; exact Nat.ne_of_lt (Nat.lt_of_lt_of_le (by have := World.block_lt_of_cell? _ _ hw512_0; first | rwa [add_block] at this | exact this) GW503.out)) | (dsimp only; exact Nat.ne_of_lt (Nat.lt_of_lt_of_le (by have := World.block_lt_of_cell? _ _ hw512_0; first | rwa [add_block] at this | exact this) GW503.out))) _).trans (((cell_far (p := ⟨gb503, _, none⟩) (by first | exact Nat.ne_of_lt (Nat.lt_of_lt_of_le (by have := World.block_lt_of_cell? _ _ hw512_0; first | rwa [add_block] at this | exact this) GW503.out) | (rw [add_block]; exact Nat.ne_of_lt (Nat.lt_of_lt_of_le (by have := World.block_lt_of_cell? _ _ hw512_0; first | rwa [add_block] at this | exact this) GW503.out)) | (show (Addr.add _ _).block ≠ _; rw [add_block]; exact Nat.ne_of_lt (Nat.lt_of_lt_of_le (by have := World.block_lt_of_cell? _ _ hw512_0; first | rwa [add_block] at this | exact this) GW503.out)) | (dsimp only; exact Nat.ne_of_lt (Nat.lt_of_lt_of_le (by have := World.block_lt_of_cell? _ _ hw512_0; first | rwa [add_block] at this | exact this) GW503.out))) _).trans (((cell_far (p := ⟨gb503, _, none⟩) (by first | exact Nat.ne_of_lt (Nat.lt_of_lt_of_le (by have := World.block_lt_of_cell? _ _ hw512_0; first | rwa [add_block] at this | exact this) GW503.out) | (rw [add_block]; exact Nat.ne_of_lt (Nat.lt_of_lt_of_le (by have := World.block_lt_of_cell? _ _ hw512_0; first | rwa [add_block] at this | exact this) GW503.out)) | (show (Addr.add _ _).block ≠ _; rw [add_block]; exact Nat.ne_of_lt (Nat.lt_of_lt_of_le (by have := World.block_lt_of_cell? _ _ hw512_0; first | rwa [add_block] at this | exact this) GW503.out)) | (dsimp only; exact Nat.ne_of_lt (Nat.lt_of_lt_of_le (by have := World.block_lt_of_cell? _ _ hw512_0; first | rwa [add_block] at this | exact this) GW503.out))) _).trans (hHeld.1)))))), ((cell_far (p := ⟨gb503, _, none⟩) (by first | exact Nat.ne_of_lt (Nat.lt_of_lt_of_le (by have := World.block_lt_of_cell? _ _ hw513_0; first | rwa [add_block] at this | exact this) GW503.out) | (rw [add_block]; exact Nat.ne_of_lt (Nat.lt_of_lt_of_le (by have := World.block_lt_of_cell? _ _ hw513_0; first | rwa [add_block] at this | exact this) GW503.out)) | (show (Addr.add _ _).block ≠ _; rw [add_block]; exact Nat.ne_of_lt (Nat.lt_of_lt_of_le (by have := World.block_lt_of_cell? _ _ hw513_0; first | rwa [add_block] at this | exact this) GW503.out)) | (dsimp only; exact Nat.ne_of_lt (Nat.lt_of_lt_of_le (by have := World.block_lt_of_cell? _ _ hw513_0; first | rwa [add_block] at this | exact this) GW503.out))) _).trans (((cell_far (p := ⟨gb503, _, none⟩) (by first | exact Nat.ne_of_lt (Nat.lt_of_lt_of_le (by have := World.block_lt_of_cell? _ _ hw513_0; first | rwa [add_block] at this | exact this) GW503.out) | (rw [add_block]; exact Nat.ne_of_lt (Nat.lt_of_lt_of_le (by have := World.block_lt_of_cell? _ _ hw513_0; first | rwa [add_block] at this | exact this) GW503.out)) | (show (Addr.add _ _).block ≠ _; rw [add_block]; exact Nat.ne_of_lt (Nat.lt_of_lt_of_le (by have := World.block_lt_of_cell? _ _ hw513_0; first | rwa [add_block] at this | exact this) GW503.out)) | (dsimp only; exact Nat.ne_of_lt (Nat.lt_of_lt_of_le (by have := World.block_lt_of_cell? _ _ hw513_0; first | rwa [add_block] at this | exact this) GW503.out))) _).trans (((cell_far (p := ⟨gb503, _, none⟩) (by first | exact Nat.ne_of_lt (Nat.lt_of_lt_of_le (by have := World.block_lt_of_cell? _ _ hw513_0; first | rwa [add_block] at this | exact this) GW503.out) | (rw [add_block]; exact Nat.ne_of_lt (Nat.lt_of_lt_of_le (by have := World.block_lt_of_cell? _ _ hw513_0; first | rwa [add_block] at this | exact this) GW503.out)) | (show (Addr.add _ _).block ≠ _; rw [add_block]; exact Nat.ne_of_lt (Nat.lt_of_lt_of_le (by have := World.block_lt_of_cell? _ _ hw513_0; first | rwa [add_block] at this | exact this) GW503.out)) | (dsimp only; exact Nat.ne_of_lt (Nat.lt_of_lt_of_le (by have := World.block_lt_of_cell? _ _ hw513_0; first | rwa [add_block] at this | exact this) GW503.out))) _).trans (hHeld.2))))))⟩ (fun hHeld => ?_)
          clear hK K
          refine done_ (done_of HT_.out (by kernel_rfl)) ?_
          try go_wp2
          refine bodyPost_ret (results_tc rfl _ _ gb503 40 #[.int .i64 (rd l1 t504), .int .i64 (rd l1 (ji8)), .slice Ao26 y518.length co26] (0, 0) _ rfl (by refine blk_put (cs := #[.int .i64 (rd l1 t504), .int .i64 (rd l1 (ji8)), .slice none 0 0]) ?_ 2 _ rfl; refine blk_put (cs := #[.int .i64 (rd l1 t504), .int .i64 0, .slice none 0 0]) ?_ 1 _ rfl; refine blk_put (cs := #[.int .i64 0, .int .i64 0, .slice none 0 0]) ?_ 0 _ rfl; exact BK503.out) Tryz.underlying40 rfl (by kernel_rfl)) rfl ?_
          exact ⟨_, _, by first | rfl | (simp [errW_none, errW_some] <;> rfl) | (simp only [← hji8, ← hji11]; first | rfl | (simp [errW_none, errW_some] <;> rfl)) | (simp [*, errW_none, errW_some] <;> rfl), Kd.R_mono (Kd.R_far (p := ⟨gb503, 2, none⟩) (Kd.R_far (p := ⟨gb503, 1, none⟩) (Kd.R_far (p := ⟨gb503, 0, none⟩) (Kd.R_types HO511.out BK503.out (by decide)) (fun _ hk => hk.2) (.int .i64 (rd l1 t504))) (fun _ hk => hk.2) (.int .i64 (rd l1 (ji8)))) (fun _ hk => hk.2) (.slice Ao26 y518.length co26)) (fun _ hk => hk.1.2), Kd.R_mono (Kd.R_far (p := ⟨gb503, 2, none⟩) (Kd.R_far (p := ⟨gb503, 1, none⟩) (Kd.R_far (p := ⟨gb503, 0, none⟩) (Kd.R_types HO520.out BK503.out (by decide)) (fun _ hk => hk.2) (.int .i64 (rd l1 t504))) (fun _ hk => hk.2) (.int .i64 (rd l1 (ji8)))) (fun _ hk => hk.2) (.slice Ao26 y518.length co26)) (fun _ hk => hk.1), by repeat (with_reducible first | exact HB.out | apply below_alloc | apply pw_below_drewN | apply below_drew1 | refine below_set ?_ GE503.out)⟩
         ·rw [if_neg c14] at H
          exact absurd H (by simp)
        ·rw [if_neg c13] at H
         exact absurd H (by simp)
       ·rw [if_neg c12] at H
        exact absurd H (by simp)
      ·rw [if_neg c10] at H
       exact absurd H (by simp)
     ·rw [if_neg c9] at H
      exact absurd H (by simp)
    ·rw [if_neg c7] at H
     exact absurd H (by simp)
   ·rw [if_neg c6] at H
    exact absurd H (by simp)
  ·rw [if_neg c5] at H
   exact absurd H (by simp)
 ·rw [if_neg c4] at H
  exact absurd H (by simp)
def spec_FieldDif.f (a0 : Int) (a1 : Int) : Option (Int) := (spec_FieldOk.f a0).bind fun t162 => (if t162 = true then ((spec_FieldOk.f a1).bind fun t163 => (if t163 = true then (some (Int.tmod (wrap64 ((wrap64 (a0 + 31)) - a1)) 31)) else (some 0))) else (some 0))
set_option maxHeartbeats 8000000 in
set_option maxRecDepth 100000 in
theorem spec_FieldDif.calls (a0 : Int) (a1 : Int) (r : Int) (w : World) (h : spec_FieldDif.f a0 a1 = some r) :
  Calls Tryz.prog 81 #[.int .i64 a0, .int .i64 a1] w fun e w' => e = .returned (.int .i64 r) ∧ Drawn0 w w' := by
 have H := h
 unfold spec_FieldDif.f at H
 clear h
 replace H := bnd H
 obtain ⟨t296, A3, H⟩ := H
 by_cases c4 : t296 = true
 ·subst c4
  rw [if_pos rfl] at H
  replace H := bnd H
  obtain ⟨t297, A5, H⟩ := H
  by_cases c6 : t297 = true
  ·subst c6
   rw [if_pos rfl] at H
   obtain rfl := Option.some.inj H
   go_enter Tryz.func81, Tryz.ntmps81
   go_wp2_with (first | (refine gsD c38x10 (spec_FieldOk.calls a0 true _ A3.out) ?_; intro nd) | (go_at_call 38; (with_reducible refine (spec_FieldOk.calls a1 true _ A5.out).mono ?_); rintro e w' ⟨rfl, ⟨nd, rfl⟩⟩))
   go_ret
   exact ⟨rfl, ⟨_, rfl⟩⟩
  ·replace c6 := Bool.eq_false_iff.mpr c6
   subst c6
   rw [if_neg (show ¬ (false = true) by decide)] at H
   obtain rfl := Option.some.inj H
   go_enter Tryz.func81, Tryz.ntmps81
   go_wp2_with (first | (refine gsD c38x10 (spec_FieldOk.calls a0 true _ A3.out) ?_; intro nd) | (go_at_call 38; (with_reducible refine (spec_FieldOk.calls a1 false _ A5.out).mono ?_); rintro e w' ⟨rfl, ⟨nd, rfl⟩⟩))
   go_ret
   exact ⟨rfl, ⟨_, rfl⟩⟩
 ·replace c4 := Bool.eq_false_iff.mpr c4
  subst c4
  rw [if_neg (show ¬ (false = true) by decide)] at H
  obtain rfl := Option.some.inj H
  go_enter Tryz.func81, Tryz.ntmps81
  go_wp2_with (first | (refine gsD c38x10 (spec_FieldOk.calls a0 false _ A3.out) ?_; intro nd))
  go_ret
  exact ⟨rfl, ⟨_, rfl⟩⟩
def spec_l1Inv.l0 : Nat → Int → Int → Option (Int)
  | 0, _, _ => none
  | k + 1, x0, x3 => if x3 < 31 then (if (Int.tmod (wrap64 (x0 * x3)) 31) = 1 then (some x3) else (spec_l1Inv.l0 k x0 (wrap64 (x3 + 1)))) else (some 0)
def spec_l1Inv.f (k : Nat) (a0 : Int) : Option (Int) := spec_l1Inv.l0 k a0 1
theorem spec_l1Inv.mono_l : ∀ k, (∀ y0 y1, LeO (spec_l1Inv.l0 k y0 y1) (spec_l1Inv.l0 (k + 1) y0 y1))
 | 0 => fun _ _ r h => by simp [spec_l1Inv.l0] at h
 | k + 1 => by
  have ih0 := spec_l1Inv.mono_l k
  ·intro y0 y1
   unfold spec_l1Inv.l0
   repeat' first
   | exact ih0 _ _
   | exact LeO.none _
   | refine LeO.ite ?_ ?_
   | refine LeO.bind ?_ (fun _ => ?_)
   | exact LeO.refl _
theorem spec_l1Inv.mono : ∀ a0 k, LeO (spec_l1Inv.f k a0) (spec_l1Inv.f (k + 1) a0) := by
 intro a0 k
 have ih0 := spec_l1Inv.mono_l k
 unfold spec_l1Inv.f
 repeat' first
   | exact ih0 _ _
   | exact LeO.none _
   | refine LeO.ite ?_ ?_
   | refine LeO.bind ?_ (fun _ => ?_)
   | exact LeO.refl _
set_option maxHeartbeats 8000000 in
set_option maxRecDepth 100000 in
theorem spec_l1Inv.calls (k : Nat) (a0 : Int) (r : Int) (w : World) (h : spec_l1Inv.f k a0 = some r) :
  Calls Tryz.prog 109 #[.int .i64 a0] w fun e w' => e = .returned (.int .i64 r) ∧ Drawn0 w w' := by
 have H : (spec_l1Inv.l0 k a0 1) = some r := h
 clear h
 have H' := Aside0.mk H
 clear H
 go_enter Tryz.func109, Tryz.ntmps109
 go_wp2
 go_loopg [3] k (fun kq v3 w' => ∃ (x3_1 : Int), v3 = .int .i64 x3_1 ∧ Aside0 (spec_l1Inv.l0 kq a0 x3_1 = some r) ∧ Aside0 (kq ≤ k) ∧ Drawn0 w w')
 case atStart => exact ⟨(1), rfl, H', ⟨Nat.le_refl _⟩, by repeat (first | exact Drawn0.refl _ | apply Drawn0.step)⟩
 case round =>
  clear H'
  try clear c1
  obtain ⟨x3_1, rfl, HA, HK1, ⟨m1, rfl⟩⟩ := hrel
  cases gk with
  | zero => exact absurd HA.out (by simp [spec_l1Inv.l0])
  | succ k1 =>
   have H := HA.out
   clear HA
   simp only [spec_l1Inv.l0] at H
   by_cases c2 : x3_1 < 31
   ·rw [if_pos c2] at H
    have c2b0 : decide (x3_1 < 31) = true := decide_eq_true c2
    clear c2
    by_cases c3 : (Int.tmod (wrap64 (a0 * x3_1)) 31) = 1
    ·rw [if_pos c3] at H
     have c3b0 : ((Int.tmod (wrap64 (a0 * x3_1)) 31) == 1) = true := beq_iff_eq.mpr c3
     have c3b1 : ((Int.tmod (wrap64 (a0 * x3_1)) 31) != 1) = false := bne_eq_false_iff_eq.mpr c3
     clear c3
     obtain rfl := Option.some.inj H
     go_wp2
     go_ret
     exact ⟨rfl, ⟨_, rfl⟩⟩
    ·rw [if_neg c3] at H
     have c3b0 : ((Int.tmod (wrap64 (a0 * x3_1)) 31) == 1) = false := beq_eq_false_iff_ne.mpr c3
     have c3b1 : ((Int.tmod (wrap64 (a0 * x3_1)) 31) != 1) = true := bne_iff_ne.mpr c3
     have H' := Aside0.mk H
     clear H
     go_wp2
     go_roundg k1
     case measure => have := HK1.out; omega
     case rel => exact ⟨(wrap64 (x3_1 + 1)), rfl, H', ⟨by have := HK1.out; omega⟩, ⟨_, rfl⟩⟩
   ·rw [if_neg c2] at H
    have c2b0 : decide (x3_1 < 31) = false := decide_eq_false c2
    clear c2
    obtain rfl := Option.some.inj H
    go_wp2
    go_ret
    exact ⟨rfl, ⟨_, rfl⟩⟩
end Go.Proofs.YtlgbblaidohljaaGreatDoor.Zk
