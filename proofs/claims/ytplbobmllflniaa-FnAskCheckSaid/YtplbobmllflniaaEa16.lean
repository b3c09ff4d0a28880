import Derived.Test.YtplbobmllflniaaZ
import Derived.Test.YtplbobmllflniaaEa0
import Derived.Test.YtplbobmllflniaaEa4
import Derived.Test.YtplbobmllflniaaEa10
import Derived.Test.YtplbobmllflniaaEa11
import Derived.Test.YtplbobmllflniaaEa15
namespace Go.Proofs.Ytplbobmllflniaa.Ea
open Go.RowKit Go.Proofs.YtplbobmllflniaaW.PrintWords Go.Proofs.YtplbobmllflniaaW.PrintLast Go.Proofs.YtplbobmllflniaaW.PrintMore Go.Proofs.Ytplbobmllflniaa.Z
attribute [local go_sem] max2_int min2_int max_two min_two max_three min_three max_four min_four
set_option linter.unusedVariables false
set_option linter.unusedSimpArgs false
theorem c108x16 : Ent Try.prog 108 := ent Try.func108 (by kernel_rfl) rfl
def spec_l12All.f (l0 : List Int) (a1_0 : Int) (a1_1 : Int) (l1_2 : List Int) : Option (List Int) := (some (([] : List Int) : List Int)).bind fun y468 => (if y468.length + l0.length < 17592186044416 then ((some (y468 ++ l0 : List Int)).bind fun y471 => ((some (([a1_0, a1_1] : List Int) : List Int)).bind fun y474 => (if y471.length + y474.length < 17592186044416 then ((some (y471 ++ y474 : List Int)).bind fun y477 => (if y477.length + l1_2.length < 17592186044416 then (some (y477 ++ l1_2)) else (none))) else (none)))) else (none))
def spec_l12All.T1 : Bool × List (List Nat × List Nat) := (true, [([], []), ([], []), ([0, 1], [0, 1]), ([], []), ([3], [3]), ([], []), ([5], [5]), ([4, 6], [4, 6]), ([2, 7, 2], [2, 7]), ([], []), ([9], [9]), ([8, 10, 8], [8, 10]), ([11, 11, 0, 1, 2, 3, 4, 5, 6, 7, 8, 9, 10, 11], [11])])
def spec_l12All.B1 : List Nat := [0, 0, 3, 0, 8, 0, 32, 120, 255, 0, 512, 2047, 4095]
theorem spec_l12All.tab1 : rtab .any (opsOf Try.f164 1) = spec_l12All.T1 := by kernel_rfl
theorem spec_l12All.bits1 : waitsOk spec_l12All.T1.2 spec_l12All.B1 = true := by kernel_rfl
set_option maxHeartbeats 8000000 in
set_option maxRecDepth 100000 in
theorem spec_l12All.calls (A0 : Option Addr) (c0 : Nat) (l0 : List Int) (a1_0 : Int) (a1_1 : Int) (A1_2 : Option Addr) (c1_2 : Nat) (l1_2 : List Int) (r : List Int) (w : World) (hr0 : Kd.C (Kd.int .i64) w A0 l0.length l0) (hc0 : l0.length ≤ c0) (hr1_2 : Kd.C (Kd.int .i64) w A1_2 l1_2.length l1_2) (hc1_2 : l1_2.length ≤ c1_2) (h : spec_l12All.f l0 a1_0 a1_1 l1_2 = some r) :
  Calls Try.prog 164 #[.slice A0 l0.length c0, .agg #[.int .i64 a1_0, .int .i64 a1_1, .slice A1_2 l1_2.length c1_2]] w fun e w' => ∃ v0_ : Value, e = .returned (v0_) ∧ Kd.R (Kd.int .i64) 3 w' w.heap.size (fun _ => True) v0_ r ∧ Below w.heap.size w w' := by
 have hu59 := Try.underlying59
 have HR0 := Aside0.mk hr0
 have HC0 := Aside0.mk hc0
 clear hr0 hc0
 have HR1_2 := Aside0.mk hr1_2
 have HC1_2 := Aside0.mk hc1_2
 clear hr1_2 hc1_2
 have HB := Aside0.mk (Below.refl w.heap.size w)
 have H := h
 unfold spec_l12All.f at H
 clear h
 replace H := bndS H
 obtain ⟨y468, Ny468, H⟩ := H
 by_cases c3 : y468.length + l0.length < 17592186044416
 ·rw [if_pos c3] at H
  have LMc3 := Aside0.mk c3
  clear c3
  replace H := bndS H
  obtain ⟨y471, Ny471, H⟩ := H
  replace H := bndS H
  obtain ⟨y474, Ny474, H⟩ := H
  by_cases c4 : y471.length + y474.length < 17592186044416
  ·rw [if_pos c4] at H
   have LMc4 := Aside0.mk c4
   clear c4
   replace H := bndS H
   obtain ⟨y477, Ny477, H⟩ := H
   by_cases c5 : y477.length + l1_2.length < 17592186044416
   ·rw [if_pos c5] at H
    have LMc5 := Aside0.mk c5
    clear c5
    replace H := bndS H
    obtain ⟨y480, Ny480, H⟩ := H
    obtain rfl := Option.some.inj H
    go_enter Try.func164, Try.ntmps164
    try go_wp2_with (first | ((with_reducible refine gate_dst (N := 3) rfl ?_); refine box_event ?hg (N := 3) ?hd (cs := #[.int .i64 a1_0, .int .i64 a1_1, .slice A1_2 l1_2.length c1_2]) (t := 59) ?hr ?_; (case hd => rfl); (case hg => rfl); (case hr => first | (go_simp; done) | (go_simp; rfl)); intro gb467 hg w6 hbox hb; replace BK467 := Aside0.mk (hbox); replace GW467 := Aside0.mk ((by rw [hg]; exact (below_size (HB.out)) : w.heap.size ≤ gb467)); replace GE467 := Aside0.mk ((by rw [hg]; exact (below_size (HB.out)) : w.heap.size ≤ gb467)); replace HB := Aside0.mk (below_step (HB.out) hb); clear hb hbox hg))
    replace BK467 := Aside0.mk (blk_drew BK467.out)
    replace HB := Aside0.mk (below_drew1 HB.out)
    refine start_ (n := 13) (S := fun w' => w'.cell? ⟨gb467, 0, none⟩ = some (.int .i64 a1_0) ∧ w'.cell? ⟨gb467, 1, none⟩ = some (.int .i64 a1_1) ∧ w'.cell? ⟨gb467, 2, none⟩ = some (.slice A1_2 l1_2.length c1_2)) (ds := []) (bs 13 0) (by kernel_rfl) rfl rfl ⟨(blk_cell BK467.out 0).trans rfl, (blk_cell BK467.out 1).trans rfl, (blk_cell BK467.out 2).trans rfl⟩ (fun hHeld => ?_); refine with_tabW spec_l12All.tab1 spec_l12All.bits1 (fun HT_ HW_ => ?_)
    generalize w6.drew = w7 at BK467 HB hHeld ⊢
    refine pZ 1 (some 6) (bs 13 2) rfl rfl (any_of HT_.out (by kernel_rfl)) ?_
    refine pZ 3 (some 8) (bs 13 10) rfl rfl (any_of HT_.out (by kernel_rfl)) ?_
    refine pZ 5 (some 10) (bs 13 42) rfl rfl (any_of HT_.out (by kernel_rfl)) ?_
    refine pZ 9 (some 14) (bs 13 554) rfl rfl (any_of HT_.out (by kernel_rfl)) ?_
    refine tZ 4 (some 9) (bs 13 570) rfl rfl (take_ofW HT_.out HW_.out (by kernel_rfl)) hHeld (by rintro w' ⟨s0, s1, s2⟩; go_simp; with_reducible rfl) ?_
    refine tZ 6 (some 11) (bs 13 634) rfl rfl (take_ofW HT_.out HW_.out (by kernel_rfl)) hHeld (by rintro w' ⟨s0, s1, s2⟩; go_simp; with_reducible rfl) ?_
    refine tZ 10 (some 15) (bs 13 1658) rfl rfl (take_ofW HT_.out HW_.out (by kernel_rfl)) hHeld (by rintro w' ⟨s0, s1, s2⟩; go_simp; with_reducible rfl) ?_
    refine join_ (σ := Value × Value × Value) 3 (bs 13 1791) (fun s_ => [(5, s_.1), (7, s_.2.1), (12, s_.2.2)]) (fun s_ w' => (w'.cell? ⟨gb467, 0, none⟩ = some (.int .i64 a1_0) ∧ w'.cell? ⟨gb467, 1, none⟩ = some (.int .i64 a1_1) ∧ w'.cell? ⟨gb467, 2, none⟩ = some (.slice A1_2 l1_2.length c1_2)) ∧ (Kd.R (Kd.int .i64) 3 w' w.heap.size (fun k_ => some k_ ≠ (s_.2.2 : Value).ownBlock) s_.2.1 y471) ∧ (Kd.R (Kd.int .i64) 3 w' w.heap.size (fun k_ => some k_ ≠ (s_.2.1 : Value).ownBlock) s_.2.2 y474) ∧ (w'.heap[gb467]? = some (.cells #[.int .i64 a1_0, .int .i64 a1_1, .slice A1_2 l1_2.length c1_2] 59 (0, 0))) ∧ (Below w.heap.size w w')) ?_ ?_
    rotate_left
    ·intro hCont
     refine two_ (i := 0) (j := 7) (Ni := some 5) (Nj := some 12) (bs 13 1659) (bs 13 1786) rfl rfl rfl rfl (two_of HT_.out (by kernel_rfl)) (by decide) (by decide) (fun K hK => ?_) (fun K hK => ?_)
     ·skip
      refine Kd.R_lit_step (Kd.int .i64) _ 3 ?hg (N := 5) ?hd (xs := ([] : List Int)) (inner := []) (ok := fun _ => True) (okp := fun _ => True) ?hr ?hp (fun _ hk => hk) trivial (Below.refl _ _) (Nat.le_refl _) (by simp) ?_; (case hd => rfl); (case hg => rfl); (case hr => first | (go_simp; done) | (go_simp; rfl)); (case hp => exact (Reps.none _ _))
      intro v469 w8 ho9 hb hg_ hnew_
      clear hg_ hnew_
      (first | rw [← Ny468.out] at ho9 | (simp only [Int.reduceToNat] at ho9; rw [← Ny468.out] at ho9))
      replace HO470 := Aside0.mk (Kd.R_lower ho9 (below_size (HB.out)))
      replace BK467 := Aside0.mk (blk_below (g := gb467) (o := .cells #[.int .i64 a1_0, .int .i64 a1_1, .slice A1_2 l1_2.length c1_2] 59 (0, 0)) (by exact BK467.out) hb)
      replace HB := Aside0.mk (below_step (HB.out) hb)
      clear hb ho9
      refine hK.out _ _ ⟨(blk_cell BK467.out 0).trans rfl, (blk_cell BK467.out 1).trans rfl, (blk_cell BK467.out 2).trans rfl⟩ (fun hHeld => ?_)
      clear hK K
      refine norm_ (a' := ?_) ?_ ?_
      rotate_left
      ·show Act.put _ (some 5) _ = _
       simp only [Act.put, List.setIfInBounds_toArray, List.set_cons_zero, List.set_cons_succ, i64_w, i32_w]
       rfl
      refine two_ (i := 2) (j := 7) (Ni := some 7) (Nj := some 12) (bs 13 1663) (bs 13 1787) rfl rfl rfl rfl (two_of HT_.out (by kernel_rfl)) (by decide) (by decide) (fun K hK => ?_) (fun K hK => ?_)
      ·skip
       refine Kd.R_append_rows_step (Kd.int .i64) (w0 := w) w.heap.size (by rfl) (.tmp 5) (.tmp 6) 30 3 (.int .i64 0) 8 rfl Try.underlying30 info3 rfl (by decide) (by omega) v469 y468 l0 _ _ _ (fun _ => True) (fun _ => False) rfl rfl ?aO ?aR (fun _ _ h => h) (fun _ h => h.elim) ?aF ?aB ?aS ?aL ?_
       (case aR => exact (Kd.C_below HR0.out HB.out))
       (case aB => exact (HB.out))
       (case aF => exact (fun _ _ => trivial))
       (case aO => exact (HO470.out))
       (case aS => exact (below_size (HB.out)))
       (case aL => have := LMc3.out; omega)
       intro v472 w10 ho hb hg hat
       rw [← Ny471.out] at ho
       have n0_ := Aside0.mk (blk_grown (g := gb467) (o := .cells #[.int .i64 a1_0, .int .i64 a1_1, .slice A1_2 l1_2.length c1_2] 59 (0, 0)) (by exact BK467.out) hg (Kd.R_ne HO470.out BK467.out (by decide)))
       have n1_ := Aside0.mk (hb)
       have n2_ := Aside0.mk (ho)
       clear BK467
       clear HB
       clear HO470
       have BK467 := n0_
       have HB := n1_
       have HO473 := n2_
       clear n0_ n1_ n2_
       clear ho hb hg hat
       refine hK.out _ _ ⟨(blk_cell BK467.out 0).trans rfl, (blk_cell BK467.out 1).trans rfl, (blk_cell BK467.out 2).trans rfl⟩ (fun hHeld => ?_)
       clear hK K
       refine norm_ (a' := ?_) ?_ ?_
       rotate_left
       ·show Act.put _ (some 7) _ = _
        simp only [Act.put, List.setIfInBounds_toArray, List.set_cons_zero, List.set_cons_succ, i64_w, i32_w]
        rfl
       refine one_ (i := 7) (N := some 12) (bs 13 1791) rfl rfl (one_of HT_.out (by kernel_rfl)) (by decide) (fun K hK => ?_)
       refine Kd.R_lit_step (Kd.int .i64) _ 3 ?hg (N := 12) ?hd (xs := ([a1_0, a1_1] : List Int)) (inner := [.int .i64 a1_0, .int .i64 a1_1]) (ok := fun _ => True) (okp := fun _ => True) ?hr ?hp (fun _ hk => hk) trivial (Below.refl _ _) (Nat.le_refl _) (by simp) ?_; (case hd => rfl); (case hg => rfl); (case hr => first | (go_simp; done) | (go_simp; rfl)); (case hp => exact (Reps.one (show Kd.M (Kd.int .i64) _ _ _ a1_0 [.int .i64 a1_0] from rfl) (Reps.one (show Kd.M (Kd.int .i64) _ _ _ a1_1 [.int .i64 a1_1] from rfl) (Reps.none _ _))))
       intro v475 w11 ho12 hb hg_ hnew_
       clear hg_ hnew_
       (first | rw [← Ny474.out] at ho12 | (simp only [Int.reduceToNat] at ho12; rw [← Ny474.out] at ho12))
       replace HO476 := Aside0.mk (Kd.R_lower (Kd.R_new' ho12 (Kd.R_lt (HO473.out))) (below_size (HB.out)))
       replace HO473 := Aside0.mk (Kd.R_elder' (HO473.out) (Kd.R_base ho12) hb)
       replace BK467 := Aside0.mk (blk_below (g := gb467) (o := .cells #[.int .i64 a1_0, .int .i64 a1_1, .slice A1_2 l1_2.length c1_2] 59 (0, 0)) (by exact BK467.out) hb)
       replace HB := Aside0.mk (below_step (HB.out) hb)
       clear hb ho12
       refine hK.out _ _ ⟨(blk_cell BK467.out 0).trans rfl, (blk_cell BK467.out 1).trans rfl, (blk_cell BK467.out 2).trans rfl⟩ (fun hHeld => ?_)
       clear hK K
       refine norm_ (a' := ?_) ?_ ?_
       rotate_left
       ·show Act.put _ (some 12) _ = _
        simp only [Act.put, List.setIfInBounds_toArray, List.set_cons_zero, List.set_cons_succ, i64_w, i32_w]
        rfl
       exact norm_ (by simp only [putAll, Act.put, List.setIfInBounds_toArray, List.set_cons_zero, List.set_cons_succ]) (hCont (v469, v472, v475) _ ⟨hHeld, (Kd.R_mono HO473.out (fun _ hk => hk.2)), (Kd.R_mono HO476.out (fun _ hk => hk.2)), (by exact BK467.out), (HB.out)⟩)
      ·skip
       refine Kd.R_lit_step (Kd.int .i64) _ 3 ?hg (N := 12) ?hd (xs := ([a1_0, a1_1] : List Int)) (inner := [.int .i64 a1_0, .int .i64 a1_1]) (ok := fun _ => True) (okp := fun _ => True) ?hr ?hp (fun _ hk => hk) trivial (Below.refl _ _) (Nat.le_refl _) (by simp) ?_; (case hd => rfl); (case hg => rfl); (case hr => first | (go_simp; done) | (go_simp; rfl)); (case hp => exact (Reps.one (show Kd.M (Kd.int .i64) _ _ _ a1_0 [.int .i64 a1_0] from rfl) (Reps.one (show Kd.M (Kd.int .i64) _ _ _ a1_1 [.int .i64 a1_1] from rfl) (Reps.none _ _))))
       intro v475 w10 ho11 hb hg_ hnew_
       clear hg_ hnew_
       (first | rw [← Ny474.out] at ho11 | (simp only [Int.reduceToNat] at ho11; rw [← Ny474.out] at ho11))
       replace HO476 := Aside0.mk (Kd.R_lower (Kd.R_new' ho11 (Kd.R_lt (HO470.out))) (below_size (HB.out)))
       replace HO470 := Aside0.mk (Kd.R_elder' (HO470.out) (Kd.R_base ho11) hb)
       replace BK467 := Aside0.mk (blk_below (g := gb467) (o := .cells #[.int .i64 a1_0, .int .i64 a1_1, .slice A1_2 l1_2.length c1_2] 59 (0, 0)) (by exact BK467.out) hb)
       replace HB := Aside0.mk (below_step (HB.out) hb)
       clear hb ho11
       refine hK.out _ _ ⟨(blk_cell BK467.out 0).trans rfl, (blk_cell BK467.out 1).trans rfl, (blk_cell BK467.out 2).trans rfl⟩ (fun hHeld => ?_)
       clear hK K
       refine norm_ (a' := ?_) ?_ ?_
       rotate_left
       ·show Act.put _ (some 12) _ = _
        simp only [Act.put, List.setIfInBounds_toArray, List.set_cons_zero, List.set_cons_succ, i64_w, i32_w]
        rfl
       refine one_ (i := 2) (N := some 7) (bs 13 1791) rfl rfl (one_of HT_.out (by kernel_rfl)) (by decide) (fun K hK => ?_)
       refine Kd.R_append_rows_step (Kd.int .i64) (w0 := w) w.heap.size (by rfl) (.tmp 5) (.tmp 6) 30 3 (.int .i64 0) 8 rfl Try.underlying30 info3 rfl (by decide) (by omega) v469 y468 l0 _ _ _ (fun k_ => some k_ ≠ (v475 : Value).ownBlock) (fun _ => False) rfl rfl ?aO ?aR (fun _ _ h => h) (fun _ h => h.elim) ?aF ?aB ?aS ?aL ?_
       (case aR => exact (Kd.C_below HR0.out HB.out))
       (case aB => exact (HB.out))
       (case aF => exact (fun k_ hk => Kd.fresh' (Kd.R_lt (HO476.out)) k_ hk))
       (case aO => exact (Kd.R_mono HO470.out (fun _ hk => hk.2)))
       (case aS => exact (below_size (HB.out)))
       (case aL => have := LMc3.out; omega)
       intro v472 w12 ho hb hg hat
       rw [← Ny471.out] at ho
       have n0_ := Aside0.mk (blk_grown (g := gb467) (o := .cells #[.int .i64 a1_0, .int .i64 a1_1, .slice A1_2 l1_2.length c1_2] 59 (0, 0)) (by exact BK467.out) hg (Kd.R_ne HO470.out BK467.out (by decide)))
       have n1_ := Aside0.mk (Kd.R_after (ok := (fun _ => True)) (HO476.out) hg hat)
       have n2_ := Aside0.mk (hb)
       have n3_ := Aside0.mk (ho)
       clear BK467
       clear HO476
       clear HB
       clear HO470
       have BK467 := n0_
       have HO476 := n1_
       have HB := n2_
       have HO473 := n3_
       clear n0_ n1_ n2_ n3_
       clear ho hb hg hat
       refine hK.out _ _ ⟨(blk_cell BK467.out 0).trans rfl, (blk_cell BK467.out 1).trans rfl, (blk_cell BK467.out 2).trans rfl⟩ (fun hHeld => ?_)
       clear hK K
       refine norm_ (a' := ?_) ?_ ?_
       rotate_left
       ·show Act.put _ (some 7) _ = _
        simp only [Act.put, List.setIfInBounds_toArray, List.set_cons_zero, List.set_cons_succ, i64_w, i32_w]
        rfl
       exact norm_ (by simp only [putAll, Act.put, List.setIfInBounds_toArray, List.set_cons_zero, List.set_cons_succ]) (hCont (v469, v472, v475) _ ⟨hHeld, (HO473.out), (Kd.R_mono HO476.out (fun _ hk => hk.2)), (by exact BK467.out), (HB.out)⟩)
     ·skip
      refine Kd.R_lit_step (Kd.int .i64) _ 3 ?hg (N := 12) ?hd (xs := ([a1_0, a1_1] : List Int)) (inner := [.int .i64 a1_0, .int .i64 a1_1]) (ok := fun _ => True) (okp := fun _ => True) ?hr ?hp (fun _ hk => hk) trivial (Below.refl _ _) (Nat.le_refl _) (by simp) ?_; (case hd => rfl); (case hg => rfl); (case hr => first | (go_simp; done) | (go_simp; rfl)); (case hp => exact (Reps.one (show Kd.M (Kd.int .i64) _ _ _ a1_0 [.int .i64 a1_0] from rfl) (Reps.one (show Kd.M (Kd.int .i64) _ _ _ a1_1 [.int .i64 a1_1] from rfl) (Reps.none _ _))))
      intro v475 w8 ho9 hb hg_ hnew_
      clear hg_ hnew_
      (first | rw [← Ny474.out] at ho9 | (simp only [Int.reduceToNat] at ho9; rw [← Ny474.out] at ho9))
      replace HO476 := Aside0.mk (Kd.R_lower ho9 (below_size (HB.out)))
      replace BK467 := Aside0.mk (blk_below (g := gb467) (o := .cells #[.int .i64 a1_0, .int .i64 a1_1, .slice A1_2 l1_2.length c1_2] 59 (0, 0)) (by exact BK467.out) hb)
      replace HB := Aside0.mk (below_step (HB.out) hb)
      clear hb ho9
      refine hK.out _ _ ⟨(blk_cell BK467.out 0).trans rfl, (blk_cell BK467.out 1).trans rfl, (blk_cell BK467.out 2).trans rfl⟩ (fun hHeld => ?_)
      clear hK K
      refine norm_ (a' := ?_) ?_ ?_
      rotate_left
      ·show Act.put _ (some 12) _ = _
       simp only [Act.put, List.setIfInBounds_toArray, List.set_cons_zero, List.set_cons_succ, i64_w, i32_w]
       rfl
      refine one_ (i := 0) (N := some 5) (bs 13 1787) rfl rfl (one_of HT_.out (by kernel_rfl)) (by decide) (fun K hK => ?_)
      refine Kd.R_lit_step (Kd.int .i64) _ 3 ?hg (N := 5) ?hd (xs := ([] : List Int)) (inner := []) (ok := fun _ => True) (okp := fun _ => True) ?hr ?hp (fun _ hk => hk) trivial (Below.refl _ _) (Nat.le_refl _) (by simp) ?_; (case hd => rfl); (case hg => rfl); (case hr => first | (go_simp; done) | (go_simp; rfl)); (case hp => exact (Reps.none _ _))
      intro v469 w10 ho11 hb hg_ hnew_
      clear hg_ hnew_
      (first | rw [← Ny468.out] at ho11 | (simp only [Int.reduceToNat] at ho11; rw [← Ny468.out] at ho11))
      replace HO470 := Aside0.mk (Kd.R_lower (Kd.R_new' ho11 (Kd.R_lt (HO476.out))) (below_size (HB.out)))
      replace HO476 := Aside0.mk (Kd.R_elder' (HO476.out) (Kd.R_base ho11) hb)
      replace BK467 := Aside0.mk (blk_below (g := gb467) (o := .cells #[.int .i64 a1_0, .int .i64 a1_1, .slice A1_2 l1_2.length c1_2] 59 (0, 0)) (by exact BK467.out) hb)
      replace HB := Aside0.mk (below_step (HB.out) hb)
      clear hb ho11
      refine hK.out _ _ ⟨(blk_cell BK467.out 0).trans rfl, (blk_cell BK467.out 1).trans rfl, (blk_cell BK467.out 2).trans rfl⟩ (fun hHeld => ?_)
      clear hK K
      refine norm_ (a' := ?_) ?_ ?_
      rotate_left
      ·show Act.put _ (some 5) _ = _
       simp only [Act.put, List.setIfInBounds_toArray, List.set_cons_zero, List.set_cons_succ, i64_w, i32_w]
       rfl
      refine one_ (i := 2) (N := some 7) (bs 13 1791) rfl rfl (one_of HT_.out (by kernel_rfl)) (by decide) (fun K hK => ?_)
      refine Kd.R_append_rows_step (Kd.int .i64) (w0 := w) w.heap.size (by rfl) (.tmp 5) (.tmp 6) 30 3 (.int .i64 0) 8 rfl Try.underlying30 info3 rfl (by decide) (by omega) v469 y468 l0 _ _ _ (fun k_ => some k_ ≠ (v475 : Value).ownBlock) (fun _ => False) rfl rfl ?aO ?aR (fun _ _ h => h) (fun _ h => h.elim) ?aF ?aB ?aS ?aL ?_
      (case aR => exact (Kd.C_below HR0.out HB.out))
      (case aB => exact (HB.out))
      (case aF => exact (fun k_ hk => Kd.fresh' (Kd.R_lt (HO476.out)) k_ hk))
      (case aO => exact (Kd.R_mono HO470.out (fun _ hk => hk.2)))
      (case aS => exact (below_size (HB.out)))
      (case aL => have := LMc3.out; omega)
      intro v472 w12 ho hb hg hat
      rw [← Ny471.out] at ho
      have n0_ := Aside0.mk (blk_grown (g := gb467) (o := .cells #[.int .i64 a1_0, .int .i64 a1_1, .slice A1_2 l1_2.length c1_2] 59 (0, 0)) (by exact BK467.out) hg (Kd.R_ne HO470.out BK467.out (by decide)))
      have n1_ := Aside0.mk (Kd.R_after (ok := (fun _ => True)) (HO476.out) hg hat)
      have n2_ := Aside0.mk (hb)
      have n3_ := Aside0.mk (ho)
      clear BK467
      clear HO476
      clear HB
      clear HO470
      have BK467 := n0_
      have HO476 := n1_
      have HB := n2_
      have HO473 := n3_
      clear n0_ n1_ n2_ n3_
      clear ho hb hg hat
      refine hK.out _ _ ⟨(blk_cell BK467.out 0).trans rfl, (blk_cell BK467.out 1).trans rfl, (blk_cell BK467.out 2).trans rfl⟩ (fun hHeld => ?_)
      clear hK K
      refine norm_ (a' := ?_) ?_ ?_
      rotate_left
      ·show Act.put _ (some 7) _ = _
       simp only [Act.put, List.setIfInBounds_toArray, List.set_cons_zero, List.set_cons_succ, i64_w, i32_w]
       rfl
      exact norm_ (by simp only [putAll, Act.put, List.setIfInBounds_toArray, List.set_cons_zero, List.set_cons_succ]) (hCont (v469, v472, v475) _ ⟨hHeld, (HO473.out), (Kd.R_mono HO476.out (fun _ hk => hk.2)), (by exact BK467.out), (HB.out)⟩)
    rintro ⟨v469, v472, v475⟩ w13 ⟨hS_, h0_, h1_, h2_, h3_⟩
    have n0_ : Aside0 (Kd.R (Kd.int .i64) 3 w13 w.heap.size (fun k_ => some k_ ≠ (v475 : Value).ownBlock) v472 y471) := ⟨h0_⟩
    have n1_ : Aside0 (Kd.R (Kd.int .i64) 3 w13 w.heap.size (fun k_ => some k_ ≠ (v472 : Value).ownBlock) v475 y474) := ⟨h1_⟩
    have n2_ : Aside0 (w13.heap[gb467]? = some (.cells #[.int .i64 a1_0, .int .i64 a1_1, .slice A1_2 l1_2.length c1_2] 59 (0, 0))) := ⟨h2_⟩
    have n3_ : Aside0 (Below w.heap.size w w13) := ⟨h3_⟩
    clear BK467
    clear HB
    clear h0_ h1_ h2_ h3_
    have HO473 := n0_
    have HO476 := n1_
    have BK467 := n2_
    have HB := n3_
    clear n0_ n1_ n2_ n3_
    have hHeld : w13.cell? ⟨gb467, 0, none⟩ = some (.int .i64 a1_0) ∧ w13.cell? ⟨gb467, 1, none⟩ = some (.int .i64 a1_1) ∧ w13.cell? ⟨gb467, 2, none⟩ = some (.slice A1_2 l1_2.length c1_2) := hS_
    obtain ⟨Ao15, co15, eo15⟩ := Kd.R_slice HO476.out
    (first | subst eo15 | (injection eo15 with f1_ f2_ f3_; have f4_ := f1_.symm; have f5_ := f3_.symm; clear f1_ f2_ f3_; subst f4_; subst f5_))
    refine norm_ (a' := ?_) ?_ ?_
    rotate_left
    ·simp only [putAll, Act.put, List.setIfInBounds_toArray, List.set_cons_zero, List.set_cons_succ]
     rfl
    refine one_ (i := 8) (N := some 13) (bs 13 2047) rfl rfl (one_of HT_.out (by kernel_rfl)) (by decide) (fun K hK => ?_)
    refine Kd.R_append_rows_step (Kd.int .i64) (w0 := w) w.heap.size (by rfl) (.tmp 7) (.tmp 12) 30 3 (.int .i64 0) 8 rfl Try.underlying30 info3 rfl (by decide) (by omega) v472 y471 y474 _ _ _ (fun k_ => some k_ ≠ (.slice Ao15 y474.length co15 : Value).ownBlock) (fun _ => False) rfl rfl ?aO ?aR (fun _ _ h => h) (fun _ h => h.elim) ?aF ?aB ?aS ?aL ?_
    (case aR => exact (Kd.R_reads' HO476.out).2.2)
    (case aB => exact (HB.out))
    (case aF => exact (fun k_ hk => Kd.fresh' (Kd.R_lt (HO476.out)) k_ hk))
    (case aO => exact (HO473.out))
    (case aS => exact (below_size (HB.out)))
    (case aL => have := LMc4.out; omega)
    intro v478 w14 ho hb hg hat
    rw [← Ny477.out] at ho
    have n0_ := Aside0.mk (blk_grown (g := gb467) (o := .cells #[.int .i64 a1_0, .int .i64 a1_1, .slice A1_2 l1_2.length c1_2] 59 (0, 0)) (by exact BK467.out) hg (Kd.R_ne HO473.out BK467.out (by decide)))
    have n1_ := Aside0.mk (Kd.R_after (ok := (fun _ => True)) (Kd.R_mono HO476.out (fun _ hk => ⟨trivial, hk⟩)) hg hat)
    have n2_ := Aside0.mk (hb)
    have n3_ := Aside0.mk (ho)
    clear BK467
    clear HO476
    clear HB
    clear HO473
    have BK467 := n0_
    have HO476 := n1_
    have HB := n2_
    have HO479 := n3_
    clear n0_ n1_ n2_ n3_
    clear ho hb hg hat
    refine hK.out _ _ ⟨(blk_cell BK467.out 0).trans rfl, (blk_cell BK467.out 1).trans rfl, (blk_cell BK467.out 2).trans rfl⟩ (fun hHeld => ?_)
    clear hK K
    refine norm_ (a' := ?_) ?_ ?_
    rotate_left
    ·show Act.put _ (some 13) _ = _
     simp only [Act.put, List.setIfInBounds_toArray, List.set_cons_zero, List.set_cons_succ, i64_w, i32_w]
     rfl
    refine one_ (i := 11) (N := some 16) (bs 13 4095) rfl rfl (one_of HT_.out (by kernel_rfl)) (by decide) (fun K hK => ?_)
    refine Kd.R_append_rows_step (Kd.int .i64) (w0 := w) w.heap.size (by rfl) (.tmp 13) (.tmp 15) 30 3 (.int .i64 0) 8 rfl Try.underlying30 info3 rfl (by decide) (by omega) v478 y477 l1_2 _ _ _ (fun k_ => some k_ ≠ (.slice Ao15 y474.length co15 : Value).ownBlock) (fun _ => False) rfl rfl ?aO ?aR (fun _ _ h => h) (fun _ h => h.elim) ?aF ?aB ?aS ?aL ?_
    (case aR => exact (Kd.C_below HR1_2.out HB.out))
    (case aB => exact (HB.out))
    (case aF => exact (fun k_ hk => Kd.fresh' (Kd.R_lt (HO476.out)) k_ hk))
    (case aO => exact (HO479.out))
    (case aS => exact (below_size (HB.out)))
    (case aL => have := LMc5.out; omega)
    intro v481 w16 ho hb hg hat
    rw [← Ny480.out] at ho
    have n0_ := Aside0.mk (blk_grown (g := gb467) (o := .cells #[.int .i64 a1_0, .int .i64 a1_1, .slice A1_2 l1_2.length c1_2] 59 (0, 0)) (by exact BK467.out) hg (Kd.R_ne HO479.out BK467.out (by decide)))
    have n1_ := Aside0.mk (Kd.R_after (ok := (fun _ => True)) (HO476.out) hg hat)
    have n2_ := Aside0.mk (hb)
    have n3_ := Aside0.mk (ho)
    clear BK467
    clear HO476
    clear HB
    clear HO479
    have BK467 := n0_
    have HO476 := n1_
    have HB := n2_
    have HO482 := n3_
    clear n0_ n1_ n2_ n3_
    clear ho hb hg hat
    refine hK.out _ _ ⟨(blk_cell BK467.out 0).trans rfl, (blk_cell BK467.out 1).trans rfl, (blk_cell BK467.out 2).trans rfl⟩ (fun hHeld => ?_)
    clear hK K
    refine norm_ (a' := ?_) ?_ ?_
    rotate_left
    ·show Act.put _ (some 16) _ = _
     simp only [Act.put, List.setIfInBounds_toArray, List.set_cons_zero, List.set_cons_succ, i64_w, i32_w]
     rfl
    refine pZ 12 (some 4) (bs 13 8191) rfl rfl (any_of HT_.out (by kernel_rfl)) ?_
    refine done_ (done_of HT_.out (by kernel_rfl)) ?_
    try go_wp2
    go_ret
    exact ⟨_, rfl, Kd.R_mono HO482.out (fun _ hk => trivial), HB.out⟩
   ·rw [if_neg c5] at H
    exact absurd H (by simp)
  ·rw [if_neg c4] at H
   exact absurd H (by simp)
 ·rw [if_neg c3] at H
  exact absurd H (by simp)
def spec_PolyOk.l0 : Nat → List Int → Int → Option (Bool)
 | 0, _, _ => none
 | k + 1, x0, x3 => if x3 < (x0.length : Int) then (if 0 ≤ x3 then ((spec_FieldOk.f (rd x0 x3)).bind fun t484 => (if t484 = true then (spec_PolyOk.l0 k x0 (wrap64 (x3 + 1))) else (some false))) else (none)) else (some (decide ((x0.length : Int) ≤ 9)))
def spec_PolyOk.f (k : Nat) (l0 : List Int) : Option (Bool) := spec_PolyOk.l0 k l0 0
set_option maxHeartbeats 8000000 in
set_option maxRecDepth 100000 in
theorem spec_PolyOk.calls (k : Nat) (A0 : Option Addr) (c0 : Nat) (l0 : List Int) (r : Bool) (w : World) (hr0 : Kd.C (Kd.int .i64) w A0 l0.length l0) (hc0 : l0.length ≤ c0) (h : spec_PolyOk.f k l0 = some r) :
  Calls Try.prog 174 #[.slice A0 l0.length c0] w fun e w' => e = .returned (.bool r) ∧ Drawn0 w w' := by
 have HR0 := Aside0.mk hr0
 have HC0 := Aside0.mk hc0
 clear hr0 hc0
 have H : (spec_PolyOk.l0 k l0 0) = some r := h
 clear h
 have H' := Aside0.mk H
 clear H
 go_enter Try.func174, Try.ntmps174
 go_wp2
 go_loopg [3] k (fun kq v3 w' => ∃ (x3_1 : Int), v3 = .int .i64 x3_1 ∧ Aside0 (spec_PolyOk.l0 kq l0 x3_1 = some r) ∧ Aside0 (kq ≤ k) ∧ Drawn0 w w')
 case atStart => exact ⟨(0), rfl, H', ⟨Nat.le_refl _⟩, by repeat (first | exact Drawn0.refl _ | apply Drawn0.step)⟩
 case round =>
  clear H'
  try clear c1
  obtain ⟨x3_1, rfl, HA, HK1, ⟨m1, rfl⟩⟩ := hrel
  cases gk with
  | zero => exact absurd HA.out (by simp [spec_PolyOk.l0])
  | succ k1 =>
   have H := HA.out
   clear HA
   simp only [spec_PolyOk.l0] at H
   by_cases c2 : x3_1 < (l0.length : Int)
   ·rw [if_pos c2] at H
    have c2b0 : decide (x3_1 < (l0.length : Int)) = true := decide_eq_true c2
    clear c2
    by_cases c3 : 0 ≤ x3_1
    ·rw [if_pos c3] at H
     have c3b0 : decide (0 ≤ x3_1) = true := decide_eq_true c3
     clear c3
     replace H := bnd H
     obtain ⟨t484, A4, H⟩ := H
     by_cases c5 : t484 = true
     ·subst c5
      rw [if_pos rfl] at H
      have H' := Aside0.mk H
      clear H
      have p483 : 0 ≤ (x3_1 : Int) := of_decide_eq_true ‹_›
      have q483 : x3_1 < (l0.length : Int) := of_decide_eq_true ‹_›
      obtain ⟨ad483, e483, hx483_0⟩ := Kd.at_int HR0.out x3_1 p483 q483
      cases e483
      replace p483 := eq_true p483
      replace q483 := eq_true q483
      go_wp2_with (first | (refine gsD c108x16 (spec_FieldOk.calls (rd l0 x3_1) true _ A4.out) ?_; intro nd))
      go_roundg k1
      case measure => have := HK1.out; omega
      case rel => exact ⟨(wrap64 (x3_1 + 1)), rfl, H', ⟨by have := HK1.out; omega⟩, ⟨_, rfl⟩⟩
     ·replace c5 := Bool.eq_false_iff.mpr c5
      subst c5
      rw [if_neg (show ¬ (false = true) by decide)] at H
      obtain rfl := Option.some.inj H
      have p483 : 0 ≤ (x3_1 : Int) := of_decide_eq_true ‹_›
      have q483 : x3_1 < (l0.length : Int) := of_decide_eq_true ‹_›
      obtain ⟨ad483, e483, hx483_0⟩ := Kd.at_int HR0.out x3_1 p483 q483
      cases e483
      replace p483 := eq_true p483
      replace q483 := eq_true q483
      go_wp2_with (first | (refine gsD c108x16 (spec_FieldOk.calls (rd l0 x3_1) false _ A4.out) ?_; intro nd))
      go_ret
      exact ⟨rfl, ⟨_, rfl⟩⟩
    ·rw [if_neg c3] at H
     exact absurd H (by simp)
   ·rw [if_neg c2] at H
    have c2b0 : decide (x3_1 < (l0.length : Int)) = false := decide_eq_false c2
    clear c2
    obtain rfl := Option.some.inj H
    go_wp2
    go_ret
    exact ⟨rfl, ⟨_, rfl⟩⟩
def spec_l12Form.f (k : Nat) (a0 : Int) (a1_0 : Int) (a1_1 : Int) (l1_2 : List Int) : Option (Bool) := (spec_l11Kind.f a0).bind fun t486 => (if t486 = true then ((spec_FieldOk.f a1_0).bind fun t487 => (if t487 = true then ((spec_FieldOk.f a1_1).bind fun t488 => (if t488 = true then ((spec_PolyOk.f k l1_2).bind fun t489 => (if t489 = true then ((spec_TypeLen.f a0).bind fun t490 => (some ((l1_2.length : Int) == (wrap64 ((wrap64 (2 * t490)) + 1))))) else (some false))) else (some false))) else (some false))) else (some false))
set_option maxHeartbeats 8000000 in
set_option maxRecDepth 100000 in
theorem spec_l12Form.calls (k : Nat) (a0 : Int) (a1_0 : Int) (a1_1 : Int) (A1_2 : Option Addr) (c1_2 : Nat) (l1_2 : List Int) (r : Bool) (w : World) (hr1_2 : Kd.C (Kd.int .i64) w A1_2 l1_2.length l1_2) (hc1_2 : l1_2.length ≤ c1_2) (h : spec_l12Form.f k a0 a1_0 a1_1 l1_2 = some r) :
  Calls Try.prog 169 #[.int .i64 a0, .agg #[.int .i64 a1_0, .int .i64 a1_1, .slice A1_2 l1_2.length c1_2]] w fun e w' => e = .returned (.bool r) ∧ Below w.heap.size w w' := by
 have hu59 := Try.underlying59
 have HR1_2 := Aside0.mk hr1_2
 have HC1_2 := Aside0.mk hc1_2
 clear hr1_2 hc1_2
 have HB := Aside0.mk (Below.refl w.heap.size w)
 have H := h
 unfold spec_l12Form.f at H
 clear h
 replace H := bnd H
 obtain ⟨t486, A3, H⟩ := H
 by_cases c4 : t486 = true
 ·subst c4
  rw [if_pos rfl] at H
  replace H := bnd H
  obtain ⟨t487, A5, H⟩ := H
  by_cases c6 : t487 = true
  ·subst c6
   rw [if_pos rfl] at H
   replace H := bnd H
   obtain ⟨t488, A7, H⟩ := H
   by_cases c8 : t488 = true
   ·subst c8
    rw [if_pos rfl] at H
    replace H := bnd H
    obtain ⟨t489, A9, H⟩ := H
    by_cases c10 : t489 = true
    ·subst c10
     rw [if_pos rfl] at H
     replace H := bnd H
     obtain ⟨t490, A11, H⟩ := H
     obtain rfl := Option.some.inj H
     go_enter Try.func169, Try.ntmps169
     go_wp2_with (first | ((with_reducible refine gate_dst (N := 3) rfl ?_); (try (refine gate_guard (by rfl) ?_; dsimp only)); refine box_event ?hg (N := 3) ?hd (cs := #[.int .i64 a1_0, .int .i64 a1_1, .slice A1_2 l1_2.length c1_2]) (t := 59) ?hr ?_; (case hd => rfl); (case hg => rfl); (case hr => first | (go_simp; done) | (go_simp; rfl)); intro gb485 hg w12 hbox hb; replace BK485 := Aside0.mk (hbox); replace GW485 := Aside0.mk ((by rw [hg]; exact (below_size (HB.out)) : w.heap.size ≤ gb485)); replace GE485 := Aside0.mk ((by rw [hg]; exact (below_size (HB.out)) : w.heap.size ≤ gb485)); replace HB := Aside0.mk (below_step (HB.out) hb); clear hb hbox hg) | (go_at_call 85; (with_reducible refine (spec_l11Kind.calls a0 true _ A3.out).mono ?_); rintro e w' ⟨rfl, ⟨nd, rfl⟩⟩; (try first | exact ⟨rfl, _, World.drewN_drewN _ _ _⟩ | exact ⟨rfl, _, Eq.trans (World.drewN_drewN _ _ _) (congrArg (World.drewN _) (Nat.add_assoc _ _ _))⟩); have hcz13_0 : w12.cell? ⟨gb485, 0, none⟩ = some (.int .i64 a1_0) := (blk_cell BK485.out 0).trans rfl; have hcz13_1 : w12.cell? ⟨gb485, 1, none⟩ = some (.int .i64 a1_1) := (blk_cell BK485.out 1).trans rfl; have hcz13_2 : w12.cell? ⟨gb485, 2, none⟩ = some (.slice A1_2 l1_2.length c1_2) := (blk_cell BK485.out 2).trans rfl; have hfz13_0 := blk_frozen BK485.out 0; have hfz13_1 := blk_frozen BK485.out 1; have hfz13_2 := blk_frozen BK485.out 2) | (go_at_call 108; (with_reducible refine (spec_FieldOk.calls a1_0 true _ A5.out).mono ?_); rintro e w' ⟨rfl, ⟨nd, rfl⟩⟩; (try first | exact ⟨rfl, _, World.drewN_drewN _ _ _⟩ | exact ⟨rfl, _, Eq.trans (World.drewN_drewN _ _ _) (congrArg (World.drewN _) (Nat.add_assoc _ _ _))⟩)) | (go_at_call 108; (with_reducible refine (spec_FieldOk.calls a1_1 true _ A7.out).mono ?_); rintro e w' ⟨rfl, ⟨nd, rfl⟩⟩; (try first | exact ⟨rfl, _, World.drewN_drewN _ _ _⟩ | exact ⟨rfl, _, Eq.trans (World.drewN_drewN _ _ _) (congrArg (World.drewN _) (Nat.add_assoc _ _ _))⟩)) | (go_at_call 174; (with_reducible refine (spec_PolyOk.calls k _ _ l1_2 true _ ?side1 ?side2 A9.out).mono ?_); (case side1 => repeat (first | exact (Kd.C_below HR1_2.out (HB.out)) | (with_reducible refine Kd.C_alloc ?_ _) | (with_reducible refine Kd.C_drewN ?_ _) | (with_reducible refine Kd.C_drew ?_))); (case side2 => exact HC1_2.out); rintro e w' ⟨rfl, ⟨nd, rfl⟩⟩; (try first | exact ⟨rfl, _, World.drewN_drewN _ _ _⟩ | exact ⟨rfl, _, Eq.trans (World.drewN_drewN _ _ _) (congrArg (World.drewN _) (Nat.add_assoc _ _ _))⟩)) | (go_at_call 86; (with_reducible refine (spec_TypeLen.calls a0 t490 _ A11.out).mono ?_); rintro e w' ⟨rfl, ⟨nd, rfl⟩⟩; (try first | exact ⟨rfl, _, World.drewN_drewN _ _ _⟩ | exact ⟨rfl, _, Eq.trans (World.drewN_drewN _ _ _) (congrArg (World.drewN _) (Nat.add_assoc _ _ _))⟩)))
     have hcz13_0 : w12.cell? ⟨gb485, 0, none⟩ = some (.int .i64 a1_0) := (blk_cell BK485.out 0).trans rfl
     have hcz13_1 : w12.cell? ⟨gb485, 1, none⟩ = some (.int .i64 a1_1) := (blk_cell BK485.out 1).trans rfl
     have hcz13_2 : w12.cell? ⟨gb485, 2, none⟩ = some (.slice A1_2 l1_2.length c1_2) := (blk_cell BK485.out 2).trans rfl
     have hfz13_0 := blk_frozen BK485.out 0
     have hfz13_1 := blk_frozen BK485.out 1
     have hfz13_2 := blk_frozen BK485.out 2
     repeat (go_quiet (first | ((with_reducible refine gate_dst (N := 3) rfl ?_); (try (refine gate_guard (by rfl) ?_; dsimp only)); refine box_event ?hg (N := 3) ?hd (cs := #[.int .i64 a1_0, .int .i64 a1_1, .slice A1_2 l1_2.length c1_2]) (t := 59) ?hr ?_; (case hd => rfl); (case hg => rfl); (case hr => first | (go_simp; done) | (go_simp; rfl)); intro gb485 hg w12 hbox hb; have n0_ := Aside0.mk (below_step (HB.out) hb); have n1_ := Aside0.mk (hbox); have n2_ := Aside0.mk ((by rw [hg]; exact (below_size (HB.out)) : w.heap.size ≤ gb485)); have n3_ := Aside0.mk ((by rw [hg]; exact (below_size (HB.out)) : w.heap.size ≤ gb485)); clear HB; have HB := n0_; have BK485 := n1_; have GW485 := n2_; have GE485 := n3_; clear n0_ n1_ n2_ n3_; clear hb hbox hg) | (go_at_call 85; (with_reducible refine (spec_l11Kind.calls a0 true _ A3.out).mono ?_); rintro e w' ⟨rfl, ⟨nd, rfl⟩⟩; (try first | exact ⟨rfl, _, World.drewN_drewN _ _ _⟩ | exact ⟨rfl, _, Eq.trans (World.drewN_drewN _ _ _) (congrArg (World.drewN _) (Nat.add_assoc _ _ _))⟩)) | (go_at_call 108; (with_reducible refine (spec_FieldOk.calls a1_0 true _ A5.out).mono ?_); rintro e w' ⟨rfl, ⟨nd, rfl⟩⟩; (try first | exact ⟨rfl, _, World.drewN_drewN _ _ _⟩ | exact ⟨rfl, _, Eq.trans (World.drewN_drewN _ _ _) (congrArg (World.drewN _) (Nat.add_assoc _ _ _))⟩)) | (go_at_call 108; (with_reducible refine (spec_FieldOk.calls a1_1 true _ A7.out).mono ?_); rintro e w' ⟨rfl, ⟨nd, rfl⟩⟩; (try first | exact ⟨rfl, _, World.drewN_drewN _ _ _⟩ | exact ⟨rfl, _, Eq.trans (World.drewN_drewN _ _ _) (congrArg (World.drewN _) (Nat.add_assoc _ _ _))⟩)) | (go_at_call 174; (with_reducible refine (spec_PolyOk.calls k _ _ l1_2 true _ ?side1 ?side2 A9.out).mono ?_); (case side1 => repeat (first | exact (Kd.C_below HR1_2.out (HB.out)) | (with_reducible refine Kd.C_alloc ?_ _) | (with_reducible refine Kd.C_drewN ?_ _) | (with_reducible refine Kd.C_drew ?_))); (case side2 => exact HC1_2.out); rintro e w' ⟨rfl, ⟨nd, rfl⟩⟩; (try first | exact ⟨rfl, _, World.drewN_drewN _ _ _⟩ | exact ⟨rfl, _, Eq.trans (World.drewN_drewN _ _ _) (congrArg (World.drewN _) (Nat.add_assoc _ _ _))⟩)) | (go_at_call 86; (with_reducible refine (spec_TypeLen.calls a0 t490 _ A11.out).mono ?_); rintro e w' ⟨rfl, ⟨nd, rfl⟩⟩; (try first | exact ⟨rfl, _, World.drewN_drewN _ _ _⟩ | exact ⟨rfl, _, Eq.trans (World.drewN_drewN _ _ _) (congrArg (World.drewN _) (Nat.add_assoc _ _ _))⟩))); try go_wp2_with (first | ((with_reducible refine gate_dst (N := 3) rfl ?_); (try (refine gate_guard (by rfl) ?_; dsimp only)); refine box_event ?hg (N := 3) ?hd (cs := #[.int .i64 a1_0, .int .i64 a1_1, .slice A1_2 l1_2.length c1_2]) (t := 59) ?hr ?_; (case hd => rfl); (case hg => rfl); (case hr => first | (go_simp; done) | (go_simp; rfl)); intro gb485 hg w12 hbox hb; replace BK485 := Aside0.mk (hbox); replace GW485 := Aside0.mk ((by rw [hg]; exact (below_size (HB.out)) : w.heap.size ≤ gb485)); replace GE485 := Aside0.mk ((by rw [hg]; exact (below_size (HB.out)) : w.heap.size ≤ gb485)); replace HB := Aside0.mk (below_step (HB.out) hb); clear hb hbox hg) | (go_at_call 85; (with_reducible refine (spec_l11Kind.calls a0 true _ A3.out).mono ?_); rintro e w' ⟨rfl, ⟨nd, rfl⟩⟩; (try first | exact ⟨rfl, _, World.drewN_drewN _ _ _⟩ | exact ⟨rfl, _, Eq.trans (World.drewN_drewN _ _ _) (congrArg (World.drewN _) (Nat.add_assoc _ _ _))⟩)) | (go_at_call 108; (with_reducible refine (spec_FieldOk.calls a1_0 true _ A5.out).mono ?_); rintro e w' ⟨rfl, ⟨nd, rfl⟩⟩; (try first | exact ⟨rfl, _, World.drewN_drewN _ _ _⟩ | exact ⟨rfl, _, Eq.trans (World.drewN_drewN _ _ _) (congrArg (World.drewN _) (Nat.add_assoc _ _ _))⟩)) | (go_at_call 108; (with_reducible refine (spec_FieldOk.calls a1_1 true _ A7.out).mono ?_); rintro e w' ⟨rfl, ⟨nd, rfl⟩⟩; (try first | exact ⟨rfl, _, World.drewN_drewN _ _ _⟩ | exact ⟨rfl, _, Eq.trans (World.drewN_drewN _ _ _) (congrArg (World.drewN _) (Nat.add_assoc _ _ _))⟩)) | (go_at_call 174; (with_reducible refine (spec_PolyOk.calls k _ _ l1_2 true _ ?side1 ?side2 A9.out).mono ?_); (case side1 => repeat (first | exact (Kd.C_below HR1_2.out (HB.out)) | (with_reducible refine Kd.C_alloc ?_ _) | (with_reducible refine Kd.C_drewN ?_ _) | (with_reducible refine Kd.C_drew ?_))); (case side2 => exact HC1_2.out); rintro e w' ⟨rfl, ⟨nd, rfl⟩⟩; (try first | exact ⟨rfl, _, World.drewN_drewN _ _ _⟩ | exact ⟨rfl, _, Eq.trans (World.drewN_drewN _ _ _) (congrArg (World.drewN _) (Nat.add_assoc _ _ _))⟩)) | (go_at_call 86; (with_reducible refine (spec_TypeLen.calls a0 t490 _ A11.out).mono ?_); rintro e w' ⟨rfl, ⟨nd, rfl⟩⟩; (try first | exact ⟨rfl, _, World.drewN_drewN _ _ _⟩ | exact ⟨rfl, _, Eq.trans (World.drewN_drewN _ _ _) (congrArg (World.drewN _) (Nat.add_assoc _ _ _))⟩))))
     go_ret
     exact ⟨by first | with_reducible rfl | (simp only [i64_w]; rfl) | rfl | (simp [errW_none, errW_some] <;> rfl) | (simp [*, errW_none, errW_some] <;> rfl), by repeat (with_reducible first | exact HB.out | apply below_alloc | apply pw_below_drewN | apply below_drew1 | refine below_set ?_ GE485.out)⟩
    ·replace c10 := Bool.eq_false_iff.mpr c10
     subst c10
     rw [if_neg (show ¬ (false = true) by decide)] at H
     obtain rfl := Option.some.inj H
     go_enter Try.func169, Try.ntmps169
     go_wp2_with (first | ((with_reducible refine gate_dst (N := 3) rfl ?_); (try (refine gate_guard (by rfl) ?_; dsimp only)); refine box_event ?hg (N := 3) ?hd (cs := #[.int .i64 a1_0, .int .i64 a1_1, .slice A1_2 l1_2.length c1_2]) (t := 59) ?hr ?_; (case hd => rfl); (case hg => rfl); (case hr => first | (go_simp; done) | (go_simp; rfl)); intro gb485 hg w14 hbox hb; replace BK485 := Aside0.mk (hbox); replace GW485 := Aside0.mk ((by rw [hg]; exact (below_size (HB.out)) : w.heap.size ≤ gb485)); replace GE485 := Aside0.mk ((by rw [hg]; exact (below_size (HB.out)) : w.heap.size ≤ gb485)); replace HB := Aside0.mk (below_step (HB.out) hb); clear hb hbox hg) | (go_at_call 85; (with_reducible refine (spec_l11Kind.calls a0 true _ A3.out).mono ?_); rintro e w' ⟨rfl, ⟨nd, rfl⟩⟩; (try first | exact ⟨rfl, _, World.drewN_drewN _ _ _⟩ | exact ⟨rfl, _, Eq.trans (World.drewN_drewN _ _ _) (congrArg (World.drewN _) (Nat.add_assoc _ _ _))⟩); have hcz15_0 : w14.cell? ⟨gb485, 0, none⟩ = some (.int .i64 a1_0) := (blk_cell BK485.out 0).trans rfl; have hcz15_1 : w14.cell? ⟨gb485, 1, none⟩ = some (.int .i64 a1_1) := (blk_cell BK485.out 1).trans rfl; have hcz15_2 : w14.cell? ⟨gb485, 2, none⟩ = some (.slice A1_2 l1_2.length c1_2) := (blk_cell BK485.out 2).trans rfl; have hfz15_0 := blk_frozen BK485.out 0; have hfz15_1 := blk_frozen BK485.out 1; have hfz15_2 := blk_frozen BK485.out 2) | (go_at_call 108; (with_reducible refine (spec_FieldOk.calls a1_0 true _ A5.out).mono ?_); rintro e w' ⟨rfl, ⟨nd, rfl⟩⟩; (try first | exact ⟨rfl, _, World.drewN_drewN _ _ _⟩ | exact ⟨rfl, _, Eq.trans (World.drewN_drewN _ _ _) (congrArg (World.drewN _) (Nat.add_assoc _ _ _))⟩)) | (go_at_call 108; (with_reducible refine (spec_FieldOk.calls a1_1 true _ A7.out).mono ?_); rintro e w' ⟨rfl, ⟨nd, rfl⟩⟩; (try first | exact ⟨rfl, _, World.drewN_drewN _ _ _⟩ | exact ⟨rfl, _, Eq.trans (World.drewN_drewN _ _ _) (congrArg (World.drewN _) (Nat.add_assoc _ _ _))⟩)) | (go_at_call 174; (with_reducible refine (spec_PolyOk.calls k _ _ l1_2 false _ ?side1 ?side2 A9.out).mono ?_); (case side1 => repeat (first | exact (Kd.C_below HR1_2.out (HB.out)) | (with_reducible refine Kd.C_alloc ?_ _) | (with_reducible refine Kd.C_drewN ?_ _) | (with_reducible refine Kd.C_drew ?_))); (case side2 => exact HC1_2.out); rintro e w' ⟨rfl, ⟨nd, rfl⟩⟩; (try first | exact ⟨rfl, _, World.drewN_drewN _ _ _⟩ | exact ⟨rfl, _, Eq.trans (World.drewN_drewN _ _ _) (congrArg (World.drewN _) (Nat.add_assoc _ _ _))⟩)))
     have hcz15_0 : w14.cell? ⟨gb485, 0, none⟩ = some (.int .i64 a1_0) := (blk_cell BK485.out 0).trans rfl
     have hcz15_1 : w14.cell? ⟨gb485, 1, none⟩ = some (.int .i64 a1_1) := (blk_cell BK485.out 1).trans rfl
     have hcz15_2 : w14.cell? ⟨gb485, 2, none⟩ = some (.slice A1_2 l1_2.length c1_2) := (blk_cell BK485.out 2).trans rfl
     have hfz15_0 := blk_frozen BK485.out 0
     have hfz15_1 := blk_frozen BK485.out 1
     have hfz15_2 := blk_frozen BK485.out 2
     repeat (go_quiet (first | ((with_reducible refine gate_dst (N := 3) rfl ?_); (try (refine gate_guard (by rfl) ?_; dsimp only)); refine box_event ?hg (N := 3) ?hd (cs := #[.int .i64 a1_0, .int .i64 a1_1, .slice A1_2 l1_2.length c1_2]) (t := 59) ?hr ?_; (case hd => rfl); (case hg => rfl); (case hr => first | (go_simp; done) | (go_simp; rfl)); intro gb485 hg w14 hbox hb; have n0_ := Aside0.mk (below_step (HB.out) hb); have n1_ := Aside0.mk (hbox); have n2_ := Aside0.mk ((by rw [hg]; exact (below_size (HB.out)) : w.heap.size ≤ gb485)); have n3_ := Aside0.mk ((by rw [hg]; exact (below_size (HB.out)) : w.heap.size ≤ gb485)); clear HB; have HB := n0_; have BK485 := n1_; have GW485 := n2_; have GE485 := n3_; clear n0_ n1_ n2_ n3_; clear hb hbox hg) | (go_at_call 85; (with_reducible refine (spec_l11Kind.calls a0 true _ A3.out).mono ?_); rintro e w' ⟨rfl, ⟨nd, rfl⟩⟩; (try first | exact ⟨rfl, _, World.drewN_drewN _ _ _⟩ | exact ⟨rfl, _, Eq.trans (World.drewN_drewN _ _ _) (congrArg (World.drewN _) (Nat.add_assoc _ _ _))⟩)) | (go_at_call 108; (with_reducible refine (spec_FieldOk.calls a1_0 true _ A5.out).mono ?_); rintro e w' ⟨rfl, ⟨nd, rfl⟩⟩; (try first | exact ⟨rfl, _, World.drewN_drewN _ _ _⟩ | exact ⟨rfl, _, Eq.trans (World.drewN_drewN _ _ _) (congrArg (World.drewN _) (Nat.add_assoc _ _ _))⟩)) | (go_at_call 108; (with_reducible refine (spec_FieldOk.calls a1_1 true _ A7.out).mono ?_); rintro e w' ⟨rfl, ⟨nd, rfl⟩⟩; (try first | exact ⟨rfl, _, World.drewN_drewN _ _ _⟩ | exact ⟨rfl, _, Eq.trans (World.drewN_drewN _ _ _) (congrArg (World.drewN _) (Nat.add_assoc _ _ _))⟩)) | (go_at_call 174; (with_reducible refine (spec_PolyOk.calls k _ _ l1_2 false _ ?side1 ?side2 A9.out).mono ?_); (case side1 => repeat (first | exact (Kd.C_below HR1_2.out (HB.out)) | (with_reducible refine Kd.C_alloc ?_ _) | (with_reducible refine Kd.C_drewN ?_ _) | (with_reducible refine Kd.C_drew ?_))); (case side2 => exact HC1_2.out); rintro e w' ⟨rfl, ⟨nd, rfl⟩⟩; (try first | exact ⟨rfl, _, World.drewN_drewN _ _ _⟩ | exact ⟨rfl, _, Eq.trans (World.drewN_drewN _ _ _) (congrArg (World.drewN _) (Nat.add_assoc _ _ _))⟩))); try go_wp2_with (first | ((with_reducible refine gate_dst (N := 3) rfl ?_); (try (refine gate_guard (by rfl) ?_; dsimp only)); refine box_event ?hg (N := 3) ?hd (cs := #[.int .i64 a1_0, .int .i64 a1_1, .slice A1_2 l1_2.length c1_2]) (t := 59) ?hr ?_; (case hd => rfl); (case hg => rfl); (case hr => first | (go_simp; done) | (go_simp; rfl)); intro gb485 hg w14 hbox hb; replace BK485 := Aside0.mk (hbox); replace GW485 := Aside0.mk ((by rw [hg]; exact (below_size (HB.out)) : w.heap.size ≤ gb485)); replace GE485 := Aside0.mk ((by rw [hg]; exact (below_size (HB.out)) : w.heap.size ≤ gb485)); replace HB := Aside0.mk (below_step (HB.out) hb); clear hb hbox hg) | (go_at_call 85; (with_reducible refine (spec_l11Kind.calls a0 true _ A3.out).mono ?_); rintro e w' ⟨rfl, ⟨nd, rfl⟩⟩; (try first | exact ⟨rfl, _, World.drewN_drewN _ _ _⟩ | exact ⟨rfl, _, Eq.trans (World.drewN_drewN _ _ _) (congrArg (World.drewN _) (Nat.add_assoc _ _ _))⟩)) | (go_at_call 108; (with_reducible refine (spec_FieldOk.calls a1_0 true _ A5.out).mono ?_); rintro e w' ⟨rfl, ⟨nd, rfl⟩⟩; (try first | exact ⟨rfl, _, World.drewN_drewN _ _ _⟩ | exact ⟨rfl, _, Eq.trans (World.drewN_drewN _ _ _) (congrArg (World.drewN _) (Nat.add_assoc _ _ _))⟩)) | (go_at_call 108; (with_reducible refine (spec_FieldOk.calls a1_1 true _ A7.out).mono ?_); rintro e w' ⟨rfl, ⟨nd, rfl⟩⟩; (try first | exact ⟨rfl, _, World.drewN_drewN _ _ _⟩ | exact ⟨rfl, _, Eq.trans (World.drewN_drewN _ _ _) (congrArg (World.drewN _) (Nat.add_assoc _ _ _))⟩)) | (go_at_call 174; (with_reducible refine (spec_PolyOk.calls k _ _ l1_2 false _ ?side1 ?side2 A9.out).mono ?_); (case side1 => repeat (first | exact (Kd.C_below HR1_2.out (HB.out)) | (with_reducible refine Kd.C_alloc ?_ _) | (with_reducible refine Kd.C_drewN ?_ _) | (with_reducible refine Kd.C_drew ?_))); (case side2 => exact HC1_2.out); rintro e w' ⟨rfl, ⟨nd, rfl⟩⟩; (try first | exact ⟨rfl, _, World.drewN_drewN _ _ _⟩ | exact ⟨rfl, _, Eq.trans (World.drewN_drewN _ _ _) (congrArg (World.drewN _) (Nat.add_assoc _ _ _))⟩))))
     go_ret
     exact ⟨by first | with_reducible rfl | (simp only [i64_w]; rfl) | rfl | (simp [errW_none, errW_some] <;> rfl) | (simp [*, errW_none, errW_some] <;> rfl), by repeat (with_reducible first | exact HB.out | apply below_alloc | apply pw_below_drewN | apply below_drew1 | refine below_set ?_ GE485.out)⟩
   ·replace c8 := Bool.eq_false_iff.mpr c8
    subst c8
    rw [if_neg (show ¬ (false = true) by decide)] at H
    obtain rfl := Option.some.inj H
    go_enter Try.func169, Try.ntmps169
    go_wp2_with (first | ((with_reducible refine gate_dst (N := 3) rfl ?_); (try (refine gate_guard (by rfl) ?_; dsimp only)); refine box_event ?hg (N := 3) ?hd (cs := #[.int .i64 a1_0, .int .i64 a1_1, .slice A1_2 l1_2.length c1_2]) (t := 59) ?hr ?_; (case hd => rfl); (case hg => rfl); (case hr => first | (go_simp; done) | (go_simp; rfl)); intro gb485 hg w16 hbox hb; replace BK485 := Aside0.mk (hbox); replace GW485 := Aside0.mk ((by rw [hg]; exact (below_size (HB.out)) : w.heap.size ≤ gb485)); replace GE485 := Aside0.mk ((by rw [hg]; exact (below_size (HB.out)) : w.heap.size ≤ gb485)); replace HB := Aside0.mk (below_step (HB.out) hb); clear hb hbox hg) | (go_at_call 85; (with_reducible refine (spec_l11Kind.calls a0 true _ A3.out).mono ?_); rintro e w' ⟨rfl, ⟨nd, rfl⟩⟩; (try first | exact ⟨rfl, _, World.drewN_drewN _ _ _⟩ | exact ⟨rfl, _, Eq.trans (World.drewN_drewN _ _ _) (congrArg (World.drewN _) (Nat.add_assoc _ _ _))⟩); have hcz17_0 : w16.cell? ⟨gb485, 0, none⟩ = some (.int .i64 a1_0) := (blk_cell BK485.out 0).trans rfl; have hcz17_1 : w16.cell? ⟨gb485, 1, none⟩ = some (.int .i64 a1_1) := (blk_cell BK485.out 1).trans rfl; have hcz17_2 : w16.cell? ⟨gb485, 2, none⟩ = some (.slice A1_2 l1_2.length c1_2) := (blk_cell BK485.out 2).trans rfl; have hfz17_0 := blk_frozen BK485.out 0; have hfz17_1 := blk_frozen BK485.out 1; have hfz17_2 := blk_frozen BK485.out 2) | (go_at_call 108; (with_reducible refine (spec_FieldOk.calls a1_0 true _ A5.out).mono ?_); rintro e w' ⟨rfl, ⟨nd, rfl⟩⟩; (try first | exact ⟨rfl, _, World.drewN_drewN _ _ _⟩ | exact ⟨rfl, _, Eq.trans (World.drewN_drewN _ _ _) (congrArg (World.drewN _) (Nat.add_assoc _ _ _))⟩)) | (go_at_call 108; (with_reducible refine (spec_FieldOk.calls a1_1 false _ A7.out).mono ?_); rintro e w' ⟨rfl, ⟨nd, rfl⟩⟩; (try first | exact ⟨rfl, _, World.drewN_drewN _ _ _⟩ | exact ⟨rfl, _, Eq.trans (World.drewN_drewN _ _ _) (congrArg (World.drewN _) (Nat.add_assoc _ _ _))⟩)))
    have hcz17_0 : w16.cell? ⟨gb485, 0, none⟩ = some (.int .i64 a1_0) := (blk_cell BK485.out 0).trans rfl
    have hcz17_1 : w16.cell? ⟨gb485, 1, none⟩ = some (.int .i64 a1_1) := (blk_cell BK485.out 1).trans rfl
    have hcz17_2 : w16.cell? ⟨gb485, 2, none⟩ = some (.slice A1_2 l1_2.length c1_2) := (blk_cell BK485.out 2).trans rfl
    have hfz17_0 := blk_frozen BK485.out 0
    have hfz17_1 := blk_frozen BK485.out 1
    have hfz17_2 := blk_frozen BK485.out 2
    repeat (go_quiet (first | ((with_reducible refine gate_dst (N := 3) rfl ?_); (try (refine gate_guard (by rfl) ?_; dsimp only)); refine box_event ?hg (N := 3) ?hd (cs := #[.int .i64 a1_0, .int .i64 a1_1, .slice A1_2 l1_2.length c1_2]) (t := 59) ?hr ?_; (case hd => rfl); (case hg => rfl); (case hr => first | (go_simp; done) | (go_simp; rfl)); intro gb485 hg w16 hbox hb; have n0_ := Aside0.mk (below_step (HB.out) hb); have n1_ := Aside0.mk (hbox); have n2_ := Aside0.mk ((by rw [hg]; exact (below_size (HB.out)) : w.heap.size ≤ gb485)); have n3_ := Aside0.mk ((by rw [hg]; exact (below_size (HB.out)) : w.heap.size ≤ gb485)); clear HB; have HB := n0_; have BK485 := n1_; have GW485 := n2_; have GE485 := n3_; clear n0_ n1_ n2_ n3_; clear hb hbox hg) | (go_at_call 85; (with_reducible refine (spec_l11Kind.calls a0 true _ A3.out).mono ?_); rintro e w' ⟨rfl, ⟨nd, rfl⟩⟩; (try first | exact ⟨rfl, _, World.drewN_drewN _ _ _⟩ | exact ⟨rfl, _, Eq.trans (World.drewN_drewN _ _ _) (congrArg (World.drewN _) (Nat.add_assoc _ _ _))⟩)) | (go_at_call 108; (with_reducible refine (spec_FieldOk.calls a1_0 true _ A5.out).mono ?_); rintro e w' ⟨rfl, ⟨nd, rfl⟩⟩; (try first | exact ⟨rfl, _, World.drewN_drewN _ _ _⟩ | exact ⟨rfl, _, Eq.trans (World.drewN_drewN _ _ _) (congrArg (World.drewN _) (Nat.add_assoc _ _ _))⟩)) | (go_at_call 108; (with_reducible refine (spec_FieldOk.calls a1_1 false _ A7.out).mono ?_); rintro e w' ⟨rfl, ⟨nd, rfl⟩⟩; (try first | exact ⟨rfl, _, World.drewN_drewN _ _ _⟩ | exact ⟨rfl, _, Eq.trans (World.drewN_drewN _ _ _) (congrArg (World.drewN _) (Nat.add_assoc _ _ _))⟩))); try go_wp2_with (first | ((with_reducible refine gate_dst (N := 3) rfl ?_); (try (refine gate_guard (by rfl) ?_; dsimp only)); refine box_event ?hg (N := 3) ?hd (cs := #[.int .i64 a1_0, .int .i64 a1_1, .slice A1_2 l1_2.length c1_2]) (t := 59) ?hr ?_; (case hd => rfl); (case hg => rfl); (case hr => first | (go_simp; done) | (go_simp; rfl)); intro gb485 hg w16 hbox hb; replace BK485 := Aside0.mk (hbox); replace GW485 := Aside0.mk ((by rw [hg]; exact (below_size (HB.out)) : w.heap.size ≤ gb485)); replace GE485 := Aside0.mk ((by rw [hg]; exact (below_size (HB.out)) : w.heap.size ≤ gb485)); replace HB := Aside0.mk (below_step (HB.out) hb); clear hb hbox hg) | (go_at_call 85; (with_reducible refine (spec_l11Kind.calls a0 true _ A3.out).mono ?_); rintro e w' ⟨rfl, ⟨nd, rfl⟩⟩; (try first | exact ⟨rfl, _, World.drewN_drewN _ _ _⟩ | exact ⟨rfl, _, Eq.trans (World.drewN_drewN _ _ _) (congrArg (World.drewN _) (Nat.add_assoc _ _ _))⟩)) | (go_at_call 108; (with_reducible refine (spec_FieldOk.calls a1_0 true _ A5.out).mono ?_); rintro e w' ⟨rfl, ⟨nd, rfl⟩⟩; (try first | exact ⟨rfl, _, World.drewN_drewN _ _ _⟩ | exact ⟨rfl, _, Eq.trans (World.drewN_drewN _ _ _) (congrArg (World.drewN _) (Nat.add_assoc _ _ _))⟩)) | (go_at_call 108; (with_reducible refine (spec_FieldOk.calls a1_1 false _ A7.out).mono ?_); rintro e w' ⟨rfl, ⟨nd, rfl⟩⟩; (try first | exact ⟨rfl, _, World.drewN_drewN _ _ _⟩ | exact ⟨rfl, _, Eq.trans (World.drewN_drewN _ _ _) (congrArg (World.drewN _) (Nat.add_assoc _ _ _))⟩))))
    go_ret
    exact ⟨by first | with_reducible rfl | (simp only [i64_w]; rfl) | rfl | (simp [errW_none, errW_some] <;> rfl) | (simp [*, errW_none, errW_some] <;> rfl), by repeat (with_reducible first | exact HB.out | apply below_alloc | apply pw_below_drewN | apply below_drew1 | refine below_set ?_ GE485.out)⟩
  ·replace c6 := Bool.eq_false_iff.mpr c6
   subst c6
   rw [if_neg (show ¬ (false = true) by decide)] at H
   obtain rfl := Option.some.inj H
   go_enter Try.func169, Try.ntmps169
   go_wp2_with (first | ((with_reducible refine gate_dst (N := 3) rfl ?_); (try (refine gate_guard (by rfl) ?_; dsimp only)); refine box_event ?hg (N := 3) ?hd (cs := #[.int .i64 a1_0, .int .i64 a1_1, .slice A1_2 l1_2.length c1_2]) (t := 59) ?hr ?_; (case hd => rfl); (case hg => rfl); (case hr => first | (go_simp; done) | (go_simp; rfl)); intro gb485 hg w18 hbox hb; replace BK485 := Aside0.mk (hbox); replace GW485 := Aside0.mk ((by rw [hg]; exact (below_size (HB.out)) : w.heap.size ≤ gb485)); replace GE485 := Aside0.mk ((by rw [hg]; exact (below_size (HB.out)) : w.heap.size ≤ gb485)); replace HB := Aside0.mk (below_step (HB.out) hb); clear hb hbox hg) | (go_at_call 85; (with_reducible refine (spec_l11Kind.calls a0 true _ A3.out).mono ?_); rintro e w' ⟨rfl, ⟨nd, rfl⟩⟩; (try first | exact ⟨rfl, _, World.drewN_drewN _ _ _⟩ | exact ⟨rfl, _, Eq.trans (World.drewN_drewN _ _ _) (congrArg (World.drewN _) (Nat.add_assoc _ _ _))⟩); have hcz19_0 : w18.cell? ⟨gb485, 0, none⟩ = some (.int .i64 a1_0) := (blk_cell BK485.out 0).trans rfl; have hcz19_1 : w18.cell? ⟨gb485, 1, none⟩ = some (.int .i64 a1_1) := (blk_cell BK485.out 1).trans rfl; have hcz19_2 : w18.cell? ⟨gb485, 2, none⟩ = some (.slice A1_2 l1_2.length c1_2) := (blk_cell BK485.out 2).trans rfl; have hfz19_0 := blk_frozen BK485.out 0; have hfz19_1 := blk_frozen BK485.out 1; have hfz19_2 := blk_frozen BK485.out 2) | (go_at_call 108; (with_reducible refine (spec_FieldOk.calls a1_0 false _ A5.out).mono ?_); rintro e w' ⟨rfl, ⟨nd, rfl⟩⟩; (try first | exact ⟨rfl, _, World.drewN_drewN _ _ _⟩ | exact ⟨rfl, _, Eq.trans (World.drewN_drewN _ _ _) (congrArg (World.drewN _) (Nat.add_assoc _ _ _))⟩)))
   have hcz19_0 : w18.cell? ⟨gb485, 0, none⟩ = some (.int .i64 a1_0) := (blk_cell BK485.out 0).trans rfl
   have hcz19_1 : w18.cell? ⟨gb485, 1, none⟩ = some (.int .i64 a1_1) := (blk_cell BK485.out 1).trans rfl
   have hcz19_2 : w18.cell? ⟨gb485, 2, none⟩ = some (.slice A1_2 l1_2.length c1_2) := (blk_cell BK485.out 2).trans rfl
   have hfz19_0 := blk_frozen BK485.out 0
   have hfz19_1 := blk_frozen BK485.out 1
   have hfz19_2 := blk_frozen BK485.out 2
   repeat (go_quiet (first | ((with_reducible refine gate_dst (N := 3) rfl ?_); (try (refine gate_guard (by rfl) ?_; dsimp only)); refine box_event ?hg (N := 3) ?hd (cs := #[.int .i64 a1_0, .int .i64 a1_1, .slice A1_2 l1_2.length c1_2]) (t := 59) ?hr ?_; (case hd => rfl); (case hg => rfl); (case hr => first | (go_simp; done) | (go_simp; rfl)); intro gb485 hg w18 hbox hb; have n0_ := Aside0.mk (below_step (HB.out) hb); have n1_ := Aside0.mk (hbox); have n2_ := Aside0.mk ((by rw [hg]; exact (below_size (HB.out)) : w.heap.size ≤ gb485)); have n3_ := Aside0.mk ((by rw [hg]; exact (below_size (HB.out)) : w.heap.size ≤ gb485)); clear HB; have HB := n0_; have BK485 := n1_; have GW485 := n2_; have GE485 := n3_; clear n0_ n1_ n2_ n3_; clear hb hbox hg) | (go_at_call 85; (with_reducible refine (spec_l11Kind.calls a0 true _ A3.out).mono ?_); rintro e w' ⟨rfl, ⟨nd, rfl⟩⟩; (try first | exact ⟨rfl, _, World.drewN_drewN _ _ _⟩ | exact ⟨rfl, _, Eq.trans (World.drewN_drewN _ _ _) (congrArg (World.drewN _) (Nat.add_assoc _ _ _))⟩)) | (go_at_call 108; (with_reducible refine (spec_FieldOk.calls a1_0 false _ A5.out).mono ?_); rintro e w' ⟨rfl, ⟨nd, rfl⟩⟩; (try first | exact ⟨rfl, _, World.drewN_drewN _ _ _⟩ | exact ⟨rfl, _, Eq.trans (World.drewN_drewN _ _ _) (congrArg (World.drewN _) (Nat.add_assoc _ _ _))⟩))); try go_wp2_with (first | ((with_reducible refine gate_dst (N := 3) rfl ?_); (try (refine gate_guard (by rfl) ?_; dsimp only)); refine box_event ?hg (N := 3) ?hd (cs := #[.int .i64 a1_0, .int .i64 a1_1, .slice A1_2 l1_2.length c1_2]) (t := 59) ?hr ?_; (case hd => rfl); (case hg => rfl); (case hr => first | (go_simp; done) | (go_simp; rfl)); intro gb485 hg w18 hbox hb; replace BK485 := Aside0.mk (hbox); replace GW485 := Aside0.mk ((by rw [hg]; exact (below_size (HB.out)) : w.heap.size ≤ gb485)); replace GE485 := Aside0.mk ((by rw [hg]; exact (below_size (HB.out)) : w.heap.size ≤ gb485)); replace HB := Aside0.mk (below_step (HB.out) hb); clear hb hbox hg) | (go_at_call 85; (with_reducible refine (spec_l11Kind.calls a0 true _ A3.out).mono ?_); rintro e w' ⟨rfl, ⟨nd, rfl⟩⟩; (try first | exact ⟨rfl, _, World.drewN_drewN _ _ _⟩ | exact ⟨rfl, _, Eq.trans (World.drewN_drewN _ _ _) (congrArg (World.drewN _) (Nat.add_assoc _ _ _))⟩)) | (go_at_call 108; (with_reducible refine (spec_FieldOk.calls a1_0 false _ A5.out).mono ?_); rintro e w' ⟨rfl, ⟨nd, rfl⟩⟩; (try first | exact ⟨rfl, _, World.drewN_drewN _ _ _⟩ | exact ⟨rfl, _, Eq.trans (World.drewN_drewN _ _ _) (congrArg (World.drewN _) (Nat.add_assoc _ _ _))⟩))))
   go_ret
   exact ⟨by first | with_reducible rfl | (simp only [i64_w]; rfl) | rfl | (simp [errW_none, errW_some] <;> rfl) | (simp [*, errW_none, errW_some] <;> rfl), by repeat (with_reducible first | exact HB.out | apply below_alloc | apply pw_below_drewN | apply below_drew1 | refine below_set ?_ GE485.out)⟩
 ·replace c4 := Bool.eq_false_iff.mpr c4
  subst c4
  rw [if_neg (show ¬ (false = true) by decide)] at H
  obtain rfl := Option.some.inj H
  go_enter Try.func169, Try.ntmps169
  go_wp2_with (first | ((with_reducible refine gate_dst (N := 3) rfl ?_); (try (refine gate_guard (by rfl) ?_; dsimp only)); refine box_event ?hg (N := 3) ?hd (cs := #[.int .i64 a1_0, .int .i64 a1_1, .slice A1_2 l1_2.length c1_2]) (t := 59) ?hr ?_; (case hd => rfl); (case hg => rfl); (case hr => first | (go_simp; done) | (go_simp; rfl)); intro gb485 hg w20 hbox hb; replace BK485 := Aside0.mk (hbox); replace GW485 := Aside0.mk ((by rw [hg]; exact (below_size (HB.out)) : w.heap.size ≤ gb485)); replace GE485 := Aside0.mk ((by rw [hg]; exact (below_size (HB.out)) : w.heap.size ≤ gb485)); replace HB := Aside0.mk (below_step (HB.out) hb); clear hb hbox hg) | (go_at_call 85; (with_reducible refine (spec_l11Kind.calls a0 false _ A3.out).mono ?_); rintro e w' ⟨rfl, ⟨nd, rfl⟩⟩; (try first | exact ⟨rfl, _, World.drewN_drewN _ _ _⟩ | exact ⟨rfl, _, Eq.trans (World.drewN_drewN _ _ _) (congrArg (World.drewN _) (Nat.add_assoc _ _ _))⟩)))
  repeat (go_quiet (first | ((with_reducible refine gate_dst (N := 3) rfl ?_); (try (refine gate_guard (by rfl) ?_; dsimp only)); refine box_event ?hg (N := 3) ?hd (cs := #[.int .i64 a1_0, .int .i64 a1_1, .slice A1_2 l1_2.length c1_2]) (t := 59) ?hr ?_; (case hd => rfl); (case hg => rfl); (case hr => first | (go_simp; done) | (go_simp; rfl)); intro gb485 hg w20 hbox hb; have n0_ := Aside0.mk (below_step (HB.out) hb); have n1_ := Aside0.mk (hbox); have n2_ := Aside0.mk ((by rw [hg]; exact (below_size (HB.out)) : w.heap.size ≤ gb485)); have n3_ := Aside0.mk ((by rw [hg]; exact (below_size (HB.out)) : w.heap.size ≤ gb485)); clear HB; have HB := n0_; have BK485 := n1_; have GW485 := n2_; have GE485 := n3_; clear n0_ n1_ n2_ n3_; clear hb hbox hg) | (go_at_call 85; (with_reducible refine (spec_l11Kind.calls a0 false _ A3.out).mono ?_); rintro e w' ⟨rfl, ⟨nd, rfl⟩⟩; (try first | exact ⟨rfl, _, World.drewN_drewN _ _ _⟩ | exact ⟨rfl, _, Eq.trans (World.drewN_drewN _ _ _) (congrArg (World.drewN _) (Nat.add_assoc _ _ _))⟩))); try go_wp2_with (first | ((with_reducible refine gate_dst (N := 3) rfl ?_); (try (refine gate_guard (by rfl) ?_; dsimp only)); refine box_event ?hg (N := 3) ?hd (cs := #[.int .i64 a1_0, .int .i64 a1_1, .slice A1_2 l1_2.length c1_2]) (t := 59) ?hr ?_; (case hd => rfl); (case hg => rfl); (case hr => first | (go_simp; done) | (go_simp; rfl)); intro gb485 hg w20 hbox hb; replace BK485 := Aside0.mk (hbox); replace GW485 := Aside0.mk ((by rw [hg]; exact (below_size (HB.out)) : w.heap.size ≤ gb485)); replace GE485 := Aside0.mk ((by rw [hg]; exact (below_size (HB.out)) : w.heap.size ≤ gb485)); replace HB := Aside0.mk (below_step (HB.out) hb); clear hb hbox hg) | (go_at_call 85; (with_reducible refine (spec_l11Kind.calls a0 false _ A3.out).mono ?_); rintro e w' ⟨rfl, ⟨nd, rfl⟩⟩; (try first | exact ⟨rfl, _, World.drewN_drewN _ _ _⟩ | exact ⟨rfl, _, Eq.trans (World.drewN_drewN _ _ _) (congrArg (World.drewN _) (Nat.add_assoc _ _ _))⟩))))
  go_ret
  exact ⟨by first | with_reducible rfl | (simp only [i64_w]; rfl) | rfl | (simp [errW_none, errW_some] <;> rfl) | (simp [*, errW_none, errW_some] <;> rfl), by repeat (with_reducible first | exact HB.out | apply below_alloc | apply pw_below_drewN | apply below_drew1 | refine below_set ?_ GE485.out)⟩
def spec_ProofAll.f (k : Nat) (a0 : Int) (l1 : List Int) (a2_0 : Int) (a2_1 : Int) (l2_2 : List Int) : Option (List Int × Bool) := (spec_l12Form.f k a0 a2_0 a2_1 l2_2).bind fun t492 => (if t492 = true then ((spec_l11Vec.f k a0 l1).bind fun t493 => (if t493 = true then ((spec_l12All.f l1 a2_0 a2_1 l2_2).bind fun t494 => (some (t494, true))) else (some ((([] : List Int)), false)))) else (some ((([] : List Int)), false)))
set_option maxHeartbeats 8000000 in
set_option maxRecDepth 100000 in
theorem spec_ProofAll.calls (k : Nat) (a0 : Int) (A1 : Option Addr) (c1 : Nat) (l1 : List Int) (a2_0 : Int) (a2_1 : Int) (A2_2 : Option Addr) (c2_2 : Nat) (l2_2 : List Int) (r1 : List Int) (r2 : Bool) (w : World) (hr1 : Kd.C (Kd.int .i64) w A1 l1.length l1) (hc1 : l1.length ≤ c1) (hr2_2 : Kd.C (Kd.int .i64) w A2_2 l2_2.length l2_2) (hc2_2 : l2_2.length ≤ c2_2) (h : spec_ProofAll.f k a0 l1 a2_0 a2_1 l2_2 = some (r1, r2)) :
  Calls Try.prog 154 #[.int .i64 a0, .slice A1 l1.length c1, .agg #[.int .i64 a2_0, .int .i64 a2_1, .slice A2_2 l2_2.length c2_2]] w fun e w' => ∃ v0_ : Value, e = .returned (.tuple #[v0_, .bool r2]) ∧ Kd.R (Kd.int .i64) 3 w' w.heap.size (fun _ => True) v0_ r1 ∧ Below w.heap.size w w' := by
 have hu59 := Try.underlying59
 have HR1 := Aside0.mk hr1
 have HC1 := Aside0.mk hc1
 clear hr1 hc1
 have HR2_2 := Aside0.mk hr2_2
 have HC2_2 := Aside0.mk hc2_2
 clear hr2_2 hc2_2
 have HB := Aside0.mk (Below.refl w.heap.size w)
 have H := h
 unfold spec_ProofAll.f at H
 clear h
 replace H := bnd H
 obtain ⟨t492, A4, H⟩ := H
 by_cases c5 : t492 = true
 ·subst c5
  rw [if_pos rfl] at H
  replace H := bnd H
  obtain ⟨t493, A6, H⟩ := H
  by_cases c7 : t493 = true
  ·subst c7
   rw [if_pos rfl] at H
   replace H := bnd H
   obtain ⟨t494, A8, H⟩ := H
   simp only [Option.some.injEq, Prod.mk.injEq] at H
   obtain ⟨rfl, rfl⟩ := H
   go_enter Try.func154, Try.ntmps154
   go_wp2_with (first | ((with_reducible refine gate_dst (N := 5) rfl ?_); refine box_event ?hg (N := 5) ?hd (cs := #[.int .i64 a2_0, .int .i64 a2_1, .slice A2_2 l2_2.length c2_2]) (t := 59) ?hr ?_; (case hd => rfl); (case hg => rfl); (case hr => first | (go_simp; done) | (go_simp; rfl)); intro gb491 hg w9 hbox hb; replace BK491 := Aside0.mk (hbox); replace GW491 := Aside0.mk ((by rw [hg]; exact (below_size (by repeat (with_reducible first | exact HB.out | apply below_alloc | apply pw_below_drewN | apply below_drew1))) : w.heap.size ≤ gb491)); replace GE491 := Aside0.mk ((by rw [hg]; exact (below_size (by repeat (with_reducible first | exact HB.out | apply below_alloc | apply pw_below_drewN | apply below_drew1))) : w.heap.size ≤ gb491)); replace HB := Aside0.mk (below_step (by repeat (with_reducible first | exact HB.out | apply below_alloc | apply pw_below_drewN | apply below_drew1)) hb); clear hb hbox hg; have hcz10_0 : w9.cell? ⟨gb491, 0, none⟩ = some (.int .i64 a2_0) := (blk_cell BK491.out 0).trans rfl; have hcz10_1 : w9.cell? ⟨gb491, 1, none⟩ = some (.int .i64 a2_1) := (blk_cell BK491.out 1).trans rfl; have hcz10_2 : w9.cell? ⟨gb491, 2, none⟩ = some (.slice A2_2 l2_2.length c2_2) := (blk_cell BK491.out 2).trans rfl; have hfz10_0 := blk_frozen BK491.out 0; have hfz10_1 := blk_frozen BK491.out 1; have hfz10_2 := blk_frozen BK491.out 2) | ((with_reducible refine gate_callee (f := 169) rfl ?_); refine goesL_ (some 10) rfl rfl Try.func169 (by kernel_rfl) rfl #[.int .i64 a0, .agg #[.int .i64 a2_0, .int .i64 a2_1, .slice A2_2 l2_2.length c2_2]] rfl (by (try simp only [List.map_toArray, List.map_cons, List.map_nil]); first | done | rfl | (simp only [List.length_drop, List.length_take]; rfl)) ?_; (with_reducible refine (spec_l12Form.calls k a0 a2_0 a2_1 _ _ l2_2 true _ ?side1 ?side2 A4.out).mono ?_); (case side1 => repeat (first | exact (Kd.C_below HR2_2.out HB.out) | (with_reducible refine Kd.C_alloc ?_ _) | (with_reducible refine Kd.C_drewN ?_ _) | (with_reducible refine Kd.C_drew ?_))); (case side2 => exact HC2_2.out); rintro e w11 ⟨rfl, hb⟩; refine ⟨_, rfl, ?_⟩; replace BK491 := Aside0.mk (blk_below (g := gb491) (o := .cells #[.int .i64 a2_0, .int .i64 a2_1, .slice A2_2 l2_2.length c2_2] 59 (0, 0)) (by exact BK491.out) hb); replace HB := Aside0.mk (below_step (by repeat (with_reducible first | exact HB.out | apply below_alloc | apply pw_below_drewN | apply below_drew1 | refine below_set ?_ GE491.out)) hb); clear hb) | (go_at_call 104; (with_reducible refine (spec_l11Vec.calls k a0 _ _ l1 true _ ?side1 ?side2 A6.out).mono ?_); (case side1 => repeat (first | exact (Kd.C_below HR1.out HB.out) | (with_reducible refine Kd.C_alloc ?_ _) | (with_reducible refine Kd.C_drewN ?_ _) | (with_reducible refine Kd.C_drew ?_))); (case side2 => exact HC1.out); rintro e w' ⟨rfl, ⟨nd, rfl⟩⟩; have hcz12_0 : w11.cell? ⟨gb491, 0, none⟩ = some (.int .i64 a2_0) := (blk_cell BK491.out 0).trans rfl; have hcz12_1 : w11.cell? ⟨gb491, 1, none⟩ = some (.int .i64 a2_1) := (blk_cell BK491.out 1).trans rfl; have hcz12_2 : w11.cell? ⟨gb491, 2, none⟩ = some (.slice A2_2 l2_2.length c2_2) := (blk_cell BK491.out 2).trans rfl; have hfz12_0 := blk_frozen BK491.out 0; have hfz12_1 := blk_frozen BK491.out 1; have hfz12_2 := blk_frozen BK491.out 2) | ((with_reducible refine gate_callee (f := 164) rfl ?_); refine goesL_ (some 21) rfl rfl Try.func164 (by kernel_rfl) rfl #[.slice A1 l1.length c1, .agg #[.int .i64 a2_0, .int .i64 a2_1, .slice A2_2 l2_2.length c2_2]] rfl (by (try simp only [List.map_toArray, List.map_cons, List.map_nil]); first | done | rfl | (simp only [List.length_drop, List.length_take]; rfl)) ?_; (with_reducible refine (spec_l12All.calls _ _ l1 a2_0 a2_1 _ _ l2_2 t494 _ ?side1 ?side2 ?side3 ?side4 A8.out).mono ?_); (case side1 => repeat (first | exact (Kd.C_below HR1.out (by repeat (with_reducible first | exact HB.out | apply below_alloc | apply pw_below_drewN | apply below_drew1 | refine below_set ?_ GE491.out))) | (with_reducible refine Kd.C_alloc ?_ _) | (with_reducible refine Kd.C_drewN ?_ _) | (with_reducible refine Kd.C_drew ?_))); (case side2 => exact HC1.out); (case side3 => repeat (first | exact (Kd.C_below HR2_2.out (by repeat (with_reducible first | exact HB.out | apply below_alloc | apply pw_below_drewN | apply below_drew1 | refine below_set ?_ GE491.out))) | (with_reducible refine Kd.C_alloc ?_ _) | (with_reducible refine Kd.C_drewN ?_ _) | (with_reducible refine Kd.C_drew ?_))); (case side4 => exact HC2_2.out); rintro e w13 ⟨v495, rfl, ho0, hb⟩; refine ⟨_, rfl, ?_⟩; replace HO496 := Aside0.mk (Kd.R_lower ho0 (below_size (by repeat (with_reducible first | exact HB.out | apply below_alloc | apply pw_below_drewN | apply below_drew1 | refine below_set ?_ GE491.out)))); replace BK491 := Aside0.mk (blk_below (g := gb491) (o := .cells #[.int .i64 a2_0, .int .i64 a2_1, .slice A2_2 l2_2.length c2_2] 59 (0, 0)) (by exact BK491.out) hb); replace HB := Aside0.mk (below_step (by repeat (with_reducible first | exact HB.out | apply below_alloc | apply pw_below_drewN | apply below_drew1 | refine below_set ?_ GE491.out)) hb); clear hb ho0))
   go_ret2
   exact ⟨_, by simp [*, errW_none, errW_some] <;> rfl, HO496.out, by repeat (with_reducible first | exact HB.out | apply below_alloc | apply pw_below_drewN | apply below_drew1 | refine below_set ?_ GE491.out)⟩
  ·replace c7 := Bool.eq_false_iff.mpr c7
   subst c7
   rw [if_neg (show ¬ (false = true) by decide)] at H
   obtain ⟨y497, hy497⟩ : ∃ y_ : List Int, y_ = (([] : List Int)) := ⟨_, rfl⟩
   rw [← hy497] at H
   have Ny497 := Aside0.mk hy497
   clear hy497
   simp only [Option.some.injEq, Prod.mk.injEq] at H
   obtain ⟨rfl, rfl⟩ := H
   go_enter Try.func154, Try.ntmps154
   go_wp2_with (first | ((with_reducible refine gate_dst (N := 5) rfl ?_); refine box_event ?hg (N := 5) ?hd (cs := #[.int .i64 a2_0, .int .i64 a2_1, .slice A2_2 l2_2.length c2_2]) (t := 59) ?hr ?_; (case hd => rfl); (case hg => rfl); (case hr => first | (go_simp; done) | (go_simp; rfl)); intro gb491 hg w14 hbox hb; replace BK491 := Aside0.mk (hbox); replace GW491 := Aside0.mk ((by rw [hg]; exact (below_size (HB.out)) : w.heap.size ≤ gb491)); replace GE491 := Aside0.mk ((by rw [hg]; exact (below_size (by repeat (with_reducible first | exact HB.out | apply below_alloc | apply pw_below_drewN | apply below_drew1))) : w.heap.size ≤ gb491)); replace HB := Aside0.mk (below_step (by repeat (with_reducible first | exact HB.out | apply below_alloc | apply pw_below_drewN | apply below_drew1)) hb); clear hb hbox hg; have hcz15_0 : w14.cell? ⟨gb491, 0, none⟩ = some (.int .i64 a2_0) := (blk_cell BK491.out 0).trans rfl; have hcz15_1 : w14.cell? ⟨gb491, 1, none⟩ = some (.int .i64 a2_1) := (blk_cell BK491.out 1).trans rfl; have hcz15_2 : w14.cell? ⟨gb491, 2, none⟩ = some (.slice A2_2 l2_2.length c2_2) := (blk_cell BK491.out 2).trans rfl; have hfz15_0 := blk_frozen BK491.out 0; have hfz15_1 := blk_frozen BK491.out 1; have hfz15_2 := blk_frozen BK491.out 2) | ((with_reducible refine gate_callee (f := 169) rfl ?_); refine goesL_ (some 10) rfl rfl Try.func169 (by kernel_rfl) rfl #[.int .i64 a0, .agg #[.int .i64 a2_0, .int .i64 a2_1, .slice A2_2 l2_2.length c2_2]] rfl (by (try simp only [List.map_toArray, List.map_cons, List.map_nil]); first | done | rfl | (simp only [List.length_drop, List.length_take]; rfl)) ?_; (with_reducible refine (spec_l12Form.calls k a0 a2_0 a2_1 _ _ l2_2 true _ ?side1 ?side2 A4.out).mono ?_); (case side1 => repeat (first | exact (Kd.C_below HR2_2.out HB.out) | (with_reducible refine Kd.C_alloc ?_ _) | (with_reducible refine Kd.C_drewN ?_ _) | (with_reducible refine Kd.C_drew ?_))); (case side2 => exact HC2_2.out); rintro e w16 ⟨rfl, hb⟩; refine ⟨_, rfl, ?_⟩; replace BK491 := Aside0.mk (blk_below (g := gb491) (o := .cells #[.int .i64 a2_0, .int .i64 a2_1, .slice A2_2 l2_2.length c2_2] 59 (0, 0)) (by exact BK491.out) hb); replace HB := Aside0.mk (below_step (by repeat (with_reducible first | exact HB.out | apply below_alloc | apply pw_below_drewN | apply below_drew1 | refine below_set ?_ GE491.out)) hb); clear hb) | (go_at_call 104; (with_reducible refine (spec_l11Vec.calls k a0 _ _ l1 false _ ?side1 ?side2 A6.out).mono ?_); (case side1 => repeat (first | exact (Kd.C_below HR1.out HB.out) | (with_reducible refine Kd.C_alloc ?_ _) | (with_reducible refine Kd.C_drewN ?_ _) | (with_reducible refine Kd.C_drew ?_))); (case side2 => exact HC1.out); rintro e w' ⟨rfl, ⟨nd, rfl⟩⟩) | ((with_reducible refine gate_dst (N := 18) rfl ?_); refine Kd.R_lit (Kd.int .i64) _ 3 ?hg (N := 18) ?hd (xs := ([] : List Int)) (inner := []) (ok := fun _ => True) (okp := fun _ => True) ?hr ?hp (fun _ hk => hk) trivial (Below.refl _ _) (Nat.le_refl _) (by simp) ?_; (case hd => rfl); (case hg => rfl); (case hr => first | (go_simp; done) | (go_simp; rfl)); (case hp => exact (Reps.none _ _)); intro v498 w17 ho18 hb hg_ hnew_; clear hg_ hnew_; (first | rw [← Ny497.out] at ho18 | (simp only [Int.reduceToNat] at ho18; rw [← Ny497.out] at ho18)); replace HO499 := Aside0.mk (Kd.R_lower ho18 (below_size (by repeat (with_reducible first | exact HB.out | apply below_alloc | apply pw_below_drewN | apply below_drew1 | refine below_set ?_ GE491.out)))); replace BK491 := Aside0.mk (blk_below (g := gb491) (o := .cells #[.int .i64 a2_0, .int .i64 a2_1, .slice A2_2 l2_2.length c2_2] 59 (0, 0)) (by exact BK491.out) hb); replace HB := Aside0.mk (below_step (by repeat (with_reducible first | exact HB.out | apply below_alloc | apply pw_below_drewN | apply below_drew1 | refine below_set ?_ GE491.out)) hb); clear hb ho18))
   go_ret2
   exact ⟨_, by simp [*, errW_none, errW_some] <;> rfl, HO499.out, by repeat (with_reducible first | exact HB.out | apply below_alloc | apply pw_below_drewN | apply below_drew1 | refine below_set ?_ GE491.out)⟩
 ·replace c5 := Bool.eq_false_iff.mpr c5
  subst c5
  rw [if_neg (show ¬ (false = true) by decide)] at H
  obtain ⟨y500, hy500⟩ : ∃ y_ : List Int, y_ = (([] : List Int)) := ⟨_, rfl⟩
  rw [← hy500] at H
  have Ny500 := Aside0.mk hy500
  clear hy500
  simp only [Option.some.injEq, Prod.mk.injEq] at H
  obtain ⟨rfl, rfl⟩ := H
  go_enter Try.func154, Try.ntmps154
  go_wp2_with (first | ((with_reducible refine gate_dst (N := 5) rfl ?_); refine box_event ?hg (N := 5) ?hd (cs := #[.int .i64 a2_0, .int .i64 a2_1, .slice A2_2 l2_2.length c2_2]) (t := 59) ?hr ?_; (case hd => rfl); (case hg => rfl); (case hr => first | (go_simp; done) | (go_simp; rfl)); intro gb491 hg w19 hbox hb; replace BK491 := Aside0.mk (hbox); replace GW491 := Aside0.mk ((by rw [hg]; exact (below_size (by repeat (with_reducible first | exact HB.out | apply below_alloc | apply pw_below_drewN | apply below_drew1))) : w.heap.size ≤ gb491)); replace GE491 := Aside0.mk ((by rw [hg]; exact (below_size (by repeat (with_reducible first | exact HB.out | apply below_alloc | apply pw_below_drewN | apply below_drew1))) : w.heap.size ≤ gb491)); replace HB := Aside0.mk (below_step (by repeat (with_reducible first | exact HB.out | apply below_alloc | apply pw_below_drewN | apply below_drew1)) hb); clear hb hbox hg; have hcz20_0 : w19.cell? ⟨gb491, 0, none⟩ = some (.int .i64 a2_0) := (blk_cell BK491.out 0).trans rfl; have hcz20_1 : w19.cell? ⟨gb491, 1, none⟩ = some (.int .i64 a2_1) := (blk_cell BK491.out 1).trans rfl; have hcz20_2 : w19.cell? ⟨gb491, 2, none⟩ = some (.slice A2_2 l2_2.length c2_2) := (blk_cell BK491.out 2).trans rfl; have hfz20_0 := blk_frozen BK491.out 0; have hfz20_1 := blk_frozen BK491.out 1; have hfz20_2 := blk_frozen BK491.out 2) | ((with_reducible refine gate_callee (f := 169) rfl ?_); refine goesL_ (some 10) rfl rfl Try.func169 (by kernel_rfl) rfl #[.int .i64 a0, .agg #[.int .i64 a2_0, .int .i64 a2_1, .slice A2_2 l2_2.length c2_2]] rfl (by (try simp only [List.map_toArray, List.map_cons, List.map_nil]); first | done | rfl | (simp only [List.length_drop, List.length_take]; rfl)) ?_; (with_reducible refine (spec_l12Form.calls k a0 a2_0 a2_1 _ _ l2_2 false _ ?side1 ?side2 A4.out).mono ?_); (case side1 => repeat (first | exact (Kd.C_below HR2_2.out HB.out) | (with_reducible refine Kd.C_alloc ?_ _) | (with_reducible refine Kd.C_drewN ?_ _) | (with_reducible refine Kd.C_drew ?_))); (case side2 => exact HC2_2.out); rintro e w21 ⟨rfl, hb⟩; refine ⟨_, rfl, ?_⟩; replace BK491 := Aside0.mk (blk_below (g := gb491) (o := .cells #[.int .i64 a2_0, .int .i64 a2_1, .slice A2_2 l2_2.length c2_2] 59 (0, 0)) (by exact BK491.out) hb); replace HB := Aside0.mk (below_step (by repeat (with_reducible first | exact HB.out | apply below_alloc | apply pw_below_drewN | apply below_drew1 | refine below_set ?_ GE491.out)) hb); clear hb) | ((with_reducible refine gate_dst (N := 18) rfl ?_); refine Kd.R_lit (Kd.int .i64) _ 3 ?hg (N := 18) ?hd (xs := ([] : List Int)) (inner := []) (ok := fun _ => True) (okp := fun _ => True) ?hr ?hp (fun _ hk => hk) trivial (Below.refl _ _) (Nat.le_refl _) (by simp) ?_; (case hd => rfl); (case hg => rfl); (case hr => first | (go_simp; done) | (go_simp; rfl)); (case hp => exact (Reps.none _ _)); intro v501 w22 ho23 hb hg_ hnew_; clear hg_ hnew_; (first | rw [← Ny500.out] at ho23 | (simp only [Int.reduceToNat] at ho23; rw [← Ny500.out] at ho23)); replace HO502 := Aside0.mk (Kd.R_lower ho23 (below_size (by repeat (with_reducible first | exact HB.out | apply below_alloc | apply pw_below_drewN | apply below_drew1 | refine below_set ?_ GE491.out)))); replace BK491 := Aside0.mk (blk_below (g := gb491) (o := .cells #[.int .i64 a2_0, .int .i64 a2_1, .slice A2_2 l2_2.length c2_2] 59 (0, 0)) (by exact BK491.out) hb); replace HB := Aside0.mk (below_step (by repeat (with_reducible first | exact HB.out | apply below_alloc | apply pw_below_drewN | apply below_drew1 | refine below_set ?_ GE491.out)) hb); clear hb ho23))
  go_ret2
  exact ⟨_, by simp [*, errW_none, errW_some] <;> rfl, HO502.out, by repeat (with_reducible first | exact HB.out | apply below_alloc | apply pw_below_drewN | apply below_drew1 | refine below_set ?_ GE491.out)⟩
def spec_l91All.f (k : Nat) (s0_0 : List Int) (s0_1 : Int) : Option (Int × List Int × Int) := (spec_l91Proof.f k s0_0 s0_1).bind fun bt503 => ((spec_ProofAll.f k bt503.1 bt503.2.1 bt503.2.2.1 bt503.2.2.2.1 bt503.2.2.2.2.1).bind fun bt514 => (if bt514.2 = true then ((spec_l6Rd_pick.f k s0_0 bt503.2.2.2.2.2 30).bind fun bt518 => (if bt518.1 = 0 then ((spec_l91List.f k s0_0 bt518.2 15).bind fun bt520 => (some (bt503.1, bt520.1, bt520.2))) else (some (bt503.1, bt514.1, bt518.2)))) else ((spec_l91List.f k s0_0 bt503.2.2.2.2.2 15).bind fun bt524 => (some (bt503.1, bt524.1, bt524.2)))))
set_option maxHeartbeats 8000000 in
set_option maxRecDepth 100000 in
theorem spec_l91All.calls (k : Nat) (g : Nat) (s0_0 : List Int) (s0_1 : Int) (r1 : Int) (r2 : List Int) (r3 : Int) (w0 w : World) (hI : IsS118 w0 w g s0_0 s0_1) (hB : Below w0.heap.size w0 w) (h : spec_l91All.f k s0_0 s0_1 = some (r1, r2, r3)) :
  Calls Try.prog 124 #[.pointer (some ⟨g, 0, none⟩)] w fun e w' => ∃ v1_ : Value, e = .returned (.tuple #[.int .i64 r1, v1_]) ∧ Kd.R (Kd.int .i64) 3 w' w.heap.size (fun _ => True) v1_ r2 ∧ IsS118 w0 w' g s0_0 r3 ∧ Below w0.heap.size w0 w' ∧ KeepBut w w' g none := by
 have hu59 := Try.underlying59
 have HI0 := Aside0.mk hI
 have HK := Aside0.mk (KeepBut.refl w g none)
 have HL := Aside0.mk hB.size
 clear hI
 have HW0 := Aside0.mk hB.size
 have HB := Aside0.mk hB
 clear hB
 have H := h
 unfold spec_l91All.f at H
 clear h
 replace H := bnd H
 obtain ⟨⟨t503, t504, t507, t508, t509, t512⟩, A2, H⟩ := H
 dsimp only at H
 replace H := bnd H
 obtain ⟨⟨t514, t517⟩, A3, H⟩ := H
 dsimp only at H
 by_cases c4 : t517 = true
 ·subst c4
  rw [if_pos rfl] at H
  replace H := bnd H
  obtain ⟨⟨t518, t519⟩, A5, H⟩ := H
  dsimp only at H
  by_cases c6 : t518 = 0
  ·rw [if_pos c6] at H
   have c6b0 : (t518 == 0) = true := beq_iff_eq.mpr c6
   have c6b1 : (t518 != 0) = false := bne_eq_false_iff_eq.mpr c6
   clear c6
   replace H := bnd H
   obtain ⟨⟨t520, t523⟩, A7, H⟩ := H
   dsimp only at H
   simp only [Option.some.injEq, Prod.mk.injEq] at H
   obtain ⟨rfl, rfl, rfl⟩ := H
   go_enter Try.func124, Try.ntmps124
   go_wp2_with (first | ((with_reducible refine gate_callee (f := 153) rfl ?_); refine goesL_ (some 11) rfl rfl Try.func153 (by kernel_rfl) rfl #[.pointer (some ⟨g, 0, none⟩)] rfl (by (try simp only [List.map_toArray, List.map_cons, List.map_nil]); first | done | rfl | (simp only [List.length_drop, List.length_take]; rfl)) ?_; (with_reducible refine (spec_l91Proof.calls k g s0_0 s0_1 t503 t504 t507 t508 t509 t512 w0 _ ?side1 ?side2 A2.out).mono ?_); (case side1 => repeat (with_reducible first | exact HI0.out | apply IsS118.alloc | apply IsS118.drewN | apply IsS118.drew | apply IsS118.set_1)); (case side2 => repeat (with_reducible first | exact HB.out | apply below_alloc | apply pw_below_drewN | apply below_drew1 | refine below_set ?_ (IsS118.ge HI0.out))); rintro e w8 ⟨v505, v510, rfl, ho0, ho1, hi, hb, hk⟩; refine ⟨_, rfl, ?_⟩; replace HO506 := Aside0.mk (Kd.R_lower ho0 (keep_size (w := w) (g := g) (row := none) (by repeat (with_reducible first | exact HK.out | apply KeepBut.set_ | apply keep_drewN | apply keep_drew | apply keep_alloc)))); replace HO511 := Aside0.mk (Kd.Q_lower ho1 (keep_size (w := w) (g := g) (row := none) (by repeat (with_reducible first | exact HK.out | apply KeepBut.set_ | apply keep_drewN | apply keep_drew | apply keep_alloc)))); replace HK := Aside0.mk (KeepBut.trans (by repeat (with_reducible first | exact HK.out | apply KeepBut.set_ | apply keep_drewN | apply keep_drew | apply keep_alloc)) hk (.inl rfl)); replace HB := Aside0.mk (hb); replace HI0 := Aside0.mk (hi); clear hb hk hi ho0 ho1) | ((with_reducible refine gate_dst (N := 6) rfl ?_); refine box_event ?hg (N := 6) ?hd (cs := #[.int .i64 0, .int .i64 0, .slice none 0 0]) (t := 59) ?hr ?_; (case hd => rfl); (case hg => rfl); (case hr => first | (go_simp; done) | (go_simp; rfl)); intro gb513 hg w9 hbox hb; replace HO506 := Aside0.mk (Kd.R_below (HO506.out) hb); replace HO511 := Aside0.mk (Kd.Q_below (HO511.out) hb); replace HB := Aside0.mk (below_step (by repeat (with_reducible first | exact HB.out | apply below_alloc | apply pw_below_drewN | apply below_drew1 | refine below_set ?_ (IsS118.ge HI0.out))) hb); replace BK513 := Aside0.mk (hbox); replace GW513 := Aside0.mk ((by rw [hg]; exact (keep_size (w := w) (g := g) (row := none) (by repeat (with_reducible first | exact HK.out | apply KeepBut.set_ | apply keep_drewN | apply keep_drew | apply keep_alloc))) : w.heap.size ≤ gb513)); replace GE513 := Aside0.mk ((Nat.le_trans HW0.out (by rw [hg]; exact (keep_size (w := w) (g := g) (row := none) (by repeat (with_reducible first | exact HK.out | apply KeepBut.set_ | apply keep_drewN | apply keep_drew | apply keep_alloc))) : w.heap.size ≤ gb513) : w0.heap.size ≤ gb513)); replace HK := Aside0.mk (KeepBut.trans (by repeat (with_reducible first | exact HK.out | apply KeepBut.set_ | apply keep_drewN | apply keep_drew | apply keep_alloc)) (KeepBut.of_below hb g none) (.inl rfl)); replace NB0_513 := Aside0.mk ((by rw [hg]; exact Nat.ne_of_lt (IsS118.lt (show IsS118 w0 _ g s0_0 t512 from by repeat (with_reducible first | exact HI0.out | apply IsS118.alloc | apply IsS118.drewN | apply IsS118.drew | apply IsS118.set_1))) : g ≠ gb513)); replace NB513_0 := Aside0.mk ((by rw [hg]; exact Nat.ne_of_gt (IsS118.lt (show IsS118 w0 _ g s0_0 t512 from by repeat (with_reducible first | exact HI0.out | apply IsS118.alloc | apply IsS118.drewN | apply IsS118.drew | apply IsS118.set_1))) : gb513 ≠ g)); replace HI0 := Aside0.mk (IsS118.below (by repeat (with_reducible first | exact HI0.out | apply IsS118.alloc | apply IsS118.drewN | apply IsS118.drew | apply IsS118.set_1)) hb); clear hb hbox hg; have hnb10 := NB513_0.out; have hnc10 := NB0_513.out; have hcz11_0 : w9.cell? ⟨gb513, 0, none⟩ = some (.int .i64 0) := (blk_cell BK513.out 0).trans rfl; have hcz11_1 : w9.cell? ⟨gb513, 1, none⟩ = some (.int .i64 0) := (blk_cell BK513.out 1).trans rfl; have hcz11_2 : w9.cell? ⟨gb513, 2, none⟩ = some (.slice none 0 0) := (blk_cell BK513.out 2).trans rfl; have hfz11_0 := blk_frozen BK513.out 0; have hfz11_1 := blk_frozen BK513.out 1; have hfz11_2 := blk_frozen BK513.out 2; obtain ⟨Ao12, co12, eo12, _⟩ := Kd.Q_slice HO511.out; subst eo12; obtain ⟨Ao13, co13, eo13⟩ := Kd.R_slice HO506.out; subst eo13) | ((with_reducible refine gate_callee (f := 154) rfl ?_); refine goesL_ (some 19) rfl rfl Try.func154 (by kernel_rfl) rfl #[.int .i64 t503, .slice Ao13 t504.length co13, .agg #[.int .i64 t507, .int .i64 t508, .slice Ao12 t509.length co12]] rfl (by (try simp only [List.map_toArray, List.map_cons, List.map_nil]); first | done | rfl | (simp only [List.length_drop, List.length_take]; rfl)) ?_; (with_reducible refine (spec_ProofAll.calls k t503 _ _ t504 t507 t508 _ _ t509 t514 true _ ?side1 ?side2 ?side3 ?side4 A3.out).mono ?_); (case side1 => refine (Kd.R_reads' (e := 3) (base := w.heap.size) (ok := fun k_ => some k_ ≠ (.slice Ao12 t509.length co12 : Value).ownBlock) (n := t504.length) (c := co13) ?_).2.2; exact ((Kd.R_mono (Kd.R_far (p := ⟨gb513, 2, none⟩) (Kd.R_far (p := ⟨gb513, 1, none⟩) (Kd.R_far (p := ⟨gb513, 0, none⟩) (Kd.R_types HO506.out BK513.out (by decide)) (fun _ hk => hk.2) (.int .i64 t507)) (fun _ hk => hk.2) (.int .i64 t508)) (fun _ hk => hk.2) (.slice Ao12 t509.length co12)) (fun _ h_ => h_.1)))); (case side2 => exact (Kd.R_reads' HO506.out).2.1); (case side3 => refine (Kd.Q_reads' (e := 3) (base := w.heap.size) (ok := fun k_ => some k_ ≠ (.slice Ao13 t504.length co13 : Value).ownBlock) (n := t509.length) (c := co12) ?_).2.2; exact ((Kd.Q_mono (Kd.Q_far (p := ⟨gb513, 2, none⟩) (Kd.Q_far (p := ⟨gb513, 1, none⟩) (Kd.Q_far (p := ⟨gb513, 0, none⟩) (Kd.Q_types HO511.out BK513.out (by decide)) (fun _ hk => hk.2) (.int .i64 t507)) (fun _ hk => hk.2) (.int .i64 t508)) (fun _ hk => hk.2) (.slice Ao12 t509.length co12)) (fun _ h_ => h_.1)))); (case side4 => exact (Kd.Q_reads' HO511.out).2.1); rintro e w14 ⟨v515, rfl, ho0, hb⟩; refine ⟨_, rfl, ?_⟩; replace HO516 := Aside0.mk (Kd.R_lower (Kd.R_new' (Kd.R_new' ho0 (Kd.R_lt ((Kd.R_mono (Kd.R_far (p := ⟨gb513, 2, none⟩) (Kd.R_far (p := ⟨gb513, 1, none⟩) (Kd.R_far (p := ⟨gb513, 0, none⟩) (Kd.R_types HO506.out BK513.out (by decide)) (fun _ hk => hk.2) (.int .i64 t507)) (fun _ hk => hk.2) (.int .i64 t508)) (fun _ hk => hk.2) (.slice Ao12 t509.length co12)) (fun _ h_ => h_.1))))) (Kd.Q_lt ((Kd.Q_mono (Kd.Q_far (p := ⟨gb513, 2, none⟩) (Kd.Q_far (p := ⟨gb513, 1, none⟩) (Kd.Q_far (p := ⟨gb513, 0, none⟩) (Kd.Q_types HO511.out BK513.out (by decide)) (fun _ hk => hk.2) (.int .i64 t507)) (fun _ hk => hk.2) (.int .i64 t508)) (fun _ hk => hk.2) (.slice Ao12 t509.length co12)) (fun _ h_ => h_.1))))) (keep_size (w := w) (g := g) (row := none) (by repeat (with_reducible first | exact HK.out | apply KeepBut.set_ | apply keep_drewN | apply keep_drew | apply keep_alloc | refine keep_far ?_ GW513.out _)))); replace HO506 := Aside0.mk (Kd.R_elder' ((Kd.R_mono (Kd.R_far (p := ⟨gb513, 2, none⟩) (Kd.R_far (p := ⟨gb513, 1, none⟩) (Kd.R_far (p := ⟨gb513, 0, none⟩) (Kd.R_types HO506.out BK513.out (by decide)) (fun _ hk => hk.2) (.int .i64 t507)) (fun _ hk => hk.2) (.int .i64 t508)) (fun _ hk => hk.2) (.slice Ao12 t509.length co12)) (fun _ h_ => h_.1))) (Kd.R_base ho0) hb); replace HO511 := Aside0.mk (Kd.Q_elder' ((Kd.Q_mono (Kd.Q_far (p := ⟨gb513, 2, none⟩) (Kd.Q_far (p := ⟨gb513, 1, none⟩) (Kd.Q_far (p := ⟨gb513, 0, none⟩) (Kd.Q_types HO511.out BK513.out (by decide)) (fun _ hk => hk.2) (.int .i64 t507)) (fun _ hk => hk.2) (.int .i64 t508)) (fun _ hk => hk.2) (.slice Ao12 t509.length co12)) (fun _ h_ => h_.1))) (Kd.R_base ho0) hb); replace BK513 := Aside0.mk (blk_below (g := gb513) (o := .cells #[.int .i64 t507, .int .i64 t508, .slice Ao12 t509.length co12] 59 (0, 0)) (by refine blk_put (cs := #[.int .i64 t507, .int .i64 t508, .slice none 0 0]) ?_ 2 _ rfl; refine blk_put (cs := #[.int .i64 t507, .int .i64 0, .slice none 0 0]) ?_ 1 _ rfl; refine blk_put (cs := #[.int .i64 0, .int .i64 0, .slice none 0 0]) ?_ 0 _ rfl; exact BK513.out) hb); replace HK := Aside0.mk (KeepBut.trans (by repeat (with_reducible first | exact HK.out | apply KeepBut.set_ | apply keep_drewN | apply keep_drew | apply keep_alloc | refine keep_far ?_ GW513.out _)) (KeepBut.of_below hb g none) (.inl rfl)); replace HB := Aside0.mk (below_step (by repeat (with_reducible first | exact HB.out | apply below_alloc | apply pw_below_drewN | apply below_drew1 | refine below_set ?_ (IsS118.ge HI0.out) | refine below_set ?_ GE513.out)) hb); replace HI0 := Aside0.mk (IsS118.below (show IsS118 w0 (((w9.setCell ⟨gb513, 0, none⟩ (.int .i64 t507)).setCell ⟨gb513, 1, none⟩ (.int .i64 t508)).setCell ⟨gb513, 2, none⟩ (.slice Ao12 t509.length co12)) g s0_0 t512 from by repeat (with_reducible first | exact HI0.out | apply IsS118.alloc | apply IsS118.drewN | apply IsS118.drew | apply IsS118.set_1 | refine IsS118.far ?_ NB0_513.out _)) hb); clear hb ho0) | (go_at_call 91; (with_reducible refine (spec_l6Rd_pick.calls k g s0_0 t512 30 t518 t519 w0 _ ?side1 ?side2 A5.out).mono ?_); (case side1 => repeat (with_reducible first | exact HI0.out | apply IsS118.alloc | apply IsS118.drewN | apply IsS118.drew | apply IsS118.set_1 | refine IsS118.far ?_ NB0_513.out _)); (case side2 => repeat (with_reducible first | exact HB.out | apply below_alloc | apply pw_below_drewN | apply below_drew1 | refine below_set ?_ (IsS118.ge HI0.out) | refine below_set ?_ GE513.out)); rintro e w15 ⟨rfl, hi, hb, hk⟩; replace HO506 := Aside0.mk (Kd.R_mono (Kd.R_keep (IsS118.apart (show IsS118 w0 _ g s0_0 t512 from by repeat (with_reducible first | exact HI0.out | apply IsS118.alloc | apply IsS118.drewN | apply IsS118.drew | apply IsS118.set_1 | refine IsS118.far ?_ NB0_513.out _)) (HO506.out) (by decide)) hk (fun _ h => h.2)) (fun _ h => h.1)); replace HO511 := Aside0.mk (Kd.Q_mono (Kd.Q_keep (IsS118.apartQ (show IsS118 w0 _ g s0_0 t512 from by repeat (with_reducible first | exact HI0.out | apply IsS118.alloc | apply IsS118.drewN | apply IsS118.drew | apply IsS118.set_1 | refine IsS118.far ?_ NB0_513.out _)) (HO511.out) (by decide)) hk (fun _ h => h.2)) (fun _ h => h.1)); replace BK513 := Aside0.mk (KeepBut.blk hk (g' := gb513) (o := .cells #[.int .i64 t507, .int .i64 t508, .slice Ao12 t509.length co12] 59 (0, 0)) (by exact BK513.out) NB513_0.out (by simp)); replace HO516 := Aside0.mk (Kd.R_mono (Kd.R_keep (IsS118.apart (show IsS118 w0 _ g s0_0 t512 from by repeat (with_reducible first | exact HI0.out | apply IsS118.alloc | apply IsS118.drewN | apply IsS118.drew | apply IsS118.set_1 | refine IsS118.far ?_ NB0_513.out _)) (HO516.out) (by decide)) hk (fun _ h => h.2)) (fun _ h => h.1)); replace HK := Aside0.mk (KeepBut.trans (by repeat (with_reducible first | exact HK.out | apply KeepBut.set_ | apply keep_drewN | apply keep_drew | apply keep_alloc | refine keep_far ?_ GW513.out _)) hk (.inl rfl)); replace HB := Aside0.mk (hb); replace HI0 := Aside0.mk (hi); clear hb hk hi) | ((with_reducible refine gate_callee (f := 144) rfl ?_); refine goesL_ (some 31) rfl rfl Try.func144 (by kernel_rfl) rfl #[.pointer (some ⟨g, 0, none⟩), .int .i64 15] rfl (by (try simp only [List.map_toArray, List.map_cons, List.map_nil]); first | done | rfl | (simp only [List.length_drop, List.length_take]; rfl)) ?_; (with_reducible refine (spec_l91List.calls k g s0_0 t519 15 t520 t523 w0 _ ?side1 ?side2 A7.out).mono ?_); (case side1 => repeat (with_reducible first | exact HI0.out | apply IsS118.alloc | apply IsS118.drewN | apply IsS118.drew | apply IsS118.set_1 | refine IsS118.far ?_ NB0_513.out _)); (case side2 => repeat (with_reducible first | exact HB.out | apply below_alloc | apply pw_below_drewN | apply below_drew1 | refine below_set ?_ (IsS118.ge HI0.out) | refine below_set ?_ GE513.out)); rintro e w16 ⟨v521, rfl, ho0, hi, hb, hk⟩; refine ⟨_, rfl, ?_⟩; replace BK513 := Aside0.mk (KeepBut.blk hk (g' := gb513) (o := .cells #[.int .i64 t507, .int .i64 t508, .slice Ao12 t509.length co12] 59 (0, 0)) (by exact BK513.out) NB513_0.out (by simp)); replace HO522 := Aside0.mk (Kd.R_lower (Kd.R_new' (Kd.R_new' (Kd.R_new' ho0 (Kd.R_lt (HO506.out))) (Kd.Q_lt (HO511.out))) (Kd.R_lt (HO516.out))) (keep_size (w := w) (g := g) (row := none) (by repeat (with_reducible first | exact HK.out | apply KeepBut.set_ | apply keep_drewN | apply keep_drew | apply keep_alloc | refine keep_far ?_ GW513.out _)))); replace HO506 := Aside0.mk (Kd.R_mono (Kd.R_told (Kd.R_oldK (IsS118.apart (show IsS118 w0 _ g s0_0 t519 from by repeat (with_reducible first | exact HI0.out | apply IsS118.alloc | apply IsS118.drewN | apply IsS118.drew | apply IsS118.set_1 | refine IsS118.far ?_ NB0_513.out _)) (HO506.out) (by decide)) hk) (Kd.R_base ho0)) (fun _ h_ => h_.1)); replace HO511 := Aside0.mk (Kd.Q_mono (Kd.Q_told (Kd.Q_oldK (IsS118.apartQ (show IsS118 w0 _ g s0_0 t519 from by repeat (with_reducible first | exact HI0.out | apply IsS118.alloc | apply IsS118.drewN | apply IsS118.drew | apply IsS118.set_1 | refine IsS118.far ?_ NB0_513.out _)) (HO511.out) (by decide)) hk) (Kd.R_base ho0)) (fun _ h_ => h_.1)); replace HO516 := Aside0.mk (Kd.R_mono (Kd.R_told (Kd.R_oldK (IsS118.apart (show IsS118 w0 _ g s0_0 t519 from by repeat (with_reducible first | exact HI0.out | apply IsS118.alloc | apply IsS118.drewN | apply IsS118.drew | apply IsS118.set_1 | refine IsS118.far ?_ NB0_513.out _)) (HO516.out) (by decide)) hk) (Kd.R_base ho0)) (fun _ h_ => h_.1)); replace HK := Aside0.mk (KeepBut.trans (by repeat (with_reducible first | exact HK.out | apply KeepBut.set_ | apply keep_drewN | apply keep_drew | apply keep_alloc | refine keep_far ?_ GW513.out _)) hk (.inl rfl)); replace HB := Aside0.mk (hb); replace HI0 := Aside0.mk (hi); clear hb hk hi ho0))
   go_ret2
   exact ⟨_, by simp [*, errW_none, errW_some] <;> rfl, Kd.R_mono HO522.out (fun _ hk => trivial), by repeat (with_reducible first | exact HI0.out | apply IsS118.alloc | apply IsS118.drewN | apply IsS118.drew | apply IsS118.set_1 | refine IsS118.far ?_ NB0_513.out _), by repeat (with_reducible first | exact HB.out | apply below_alloc | apply pw_below_drewN | apply below_drew1 | refine below_set ?_ (IsS118.ge HI0.out) | refine below_set ?_ GE513.out), by repeat (with_reducible first | exact HK.out | apply KeepBut.set_ | apply keep_drewN | apply keep_drew | apply keep_alloc | refine keep_far ?_ GW513.out _)⟩
  ·rw [if_neg c6] at H
   have c6b0 : (t518 == 0) = false := beq_eq_false_iff_ne.mpr c6
   have c6b1 : (t518 != 0) = true := bne_iff_ne.mpr c6
   simp only [Option.some.injEq, Prod.mk.injEq] at H
   obtain ⟨rfl, rfl, rfl⟩ := H
   go_enter Try.func124, Try.ntmps124
   go_wp2_with (first | ((with_reducible refine gate_callee (f := 153) rfl ?_); refine goesL_ (some 11) rfl rfl Try.func153 (by kernel_rfl) rfl #[.pointer (some ⟨g, 0, none⟩)] rfl (by (try simp only [List.map_toArray, List.map_cons, List.map_nil]); first | done | rfl | (simp only [List.length_drop, List.length_take]; rfl)) ?_; (with_reducible refine (spec_l91Proof.calls k g s0_0 s0_1 t503 t504 t507 t508 t509 t512 w0 _ ?side1 ?side2 A2.out).mono ?_); (case side1 => repeat (with_reducible first | exact HI0.out | apply IsS118.alloc | apply IsS118.drewN | apply IsS118.drew | apply IsS118.set_1)); (case side2 => repeat (with_reducible first | exact HB.out | apply below_alloc | apply pw_below_drewN | apply below_drew1 | refine below_set ?_ (IsS118.ge HI0.out))); rintro e w17 ⟨v505, v510, rfl, ho0, ho1, hi, hb, hk⟩; refine ⟨_, rfl, ?_⟩; replace HO506 := Aside0.mk (Kd.R_lower ho0 (keep_size (w := w) (g := g) (row := none) (by repeat (with_reducible first | exact HK.out | apply KeepBut.set_ | apply keep_drewN | apply keep_drew | apply keep_alloc)))); replace HO511 := Aside0.mk (Kd.Q_lower ho1 (keep_size (w := w) (g := g) (row := none) (by repeat (with_reducible first | exact HK.out | apply KeepBut.set_ | apply keep_drewN | apply keep_drew | apply keep_alloc)))); replace HK := Aside0.mk (KeepBut.trans (by repeat (with_reducible first | exact HK.out | apply KeepBut.set_ | apply keep_drewN | apply keep_drew | apply keep_alloc)) hk (.inl rfl)); replace HB := Aside0.mk (hb); replace HI0 := Aside0.mk (hi); clear hb hk hi ho0 ho1) | ((with_reducible refine gate_dst (N := 6) rfl ?_); refine box_event ?hg (N := 6) ?hd (cs := #[.int .i64 0, .int .i64 0, .slice none 0 0]) (t := 59) ?hr ?_; (case hd => rfl); (case hg => rfl); (case hr => first | (go_simp; done) | (go_simp; rfl)); intro gb513 hg w18 hbox hb; replace HO506 := Aside0.mk (Kd.R_below (HO506.out) hb); replace HO511 := Aside0.mk (Kd.Q_below (HO511.out) hb); replace HB := Aside0.mk (below_step (by repeat (with_reducible first | exact HB.out | apply below_alloc | apply pw_below_drewN | apply below_drew1 | refine below_set ?_ (IsS118.ge HI0.out))) hb); replace BK513 := Aside0.mk (hbox); replace GW513 := Aside0.mk ((by rw [hg]; exact (keep_size (w := w) (g := g) (row := none) (by repeat (with_reducible first | exact HK.out | apply KeepBut.set_ | apply keep_drewN | apply keep_drew | apply keep_alloc))) : w.heap.size ≤ gb513)); replace GE513 := Aside0.mk ((Nat.le_trans HW0.out (by rw [hg]; exact (keep_size (w := w) (g := g) (row := none) (by repeat (with_reducible first | exact HK.out | apply KeepBut.set_ | apply keep_drewN | apply keep_drew | apply keep_alloc))) : w.heap.size ≤ gb513) : w0.heap.size ≤ gb513)); replace HK := Aside0.mk (KeepBut.trans (by repeat (with_reducible first | exact HK.out | apply KeepBut.set_ | apply keep_drewN | apply keep_drew | apply keep_alloc)) (KeepBut.of_below hb g none) (.inl rfl)); replace NB0_513 := Aside0.mk ((by rw [hg]; exact Nat.ne_of_lt (IsS118.lt (show IsS118 w0 _ g s0_0 t512 from by repeat (with_reducible first | exact HI0.out | apply IsS118.alloc | apply IsS118.drewN | apply IsS118.drew | apply IsS118.set_1))) : g ≠ gb513)); replace NB513_0 := Aside0.mk ((by rw [hg]; exact Nat.ne_of_gt (IsS118.lt (show IsS118 w0 _ g s0_0 t512 from by repeat (with_reducible first | exact HI0.out | apply IsS118.alloc | apply IsS118.drewN | apply IsS118.drew | apply IsS118.set_1))) : gb513 ≠ g)); replace HI0 := Aside0.mk (IsS118.below (by repeat (with_reducible first | exact HI0.out | apply IsS118.alloc | apply IsS118.drewN | apply IsS118.drew | apply IsS118.set_1)) hb); clear hb hbox hg; have hnb19 := NB513_0.out; have hnc19 := NB0_513.out; have hcz20_0 : w18.cell? ⟨gb513, 0, none⟩ = some (.int .i64 0) := (blk_cell BK513.out 0).trans rfl; have hcz20_1 : w18.cell? ⟨gb513, 1, none⟩ = some (.int .i64 0) := (blk_cell BK513.out 1).trans rfl; have hcz20_2 : w18.cell? ⟨gb513, 2, none⟩ = some (.slice none 0 0) := (blk_cell BK513.out 2).trans rfl; have hfz20_0 := blk_frozen BK513.out 0; have hfz20_1 := blk_frozen BK513.out 1; have hfz20_2 := blk_frozen BK513.out 2; obtain ⟨Ao21, co21, eo21, _⟩ := Kd.Q_slice HO511.out; subst eo21; obtain ⟨Ao22, co22, eo22⟩ := Kd.R_slice HO506.out; subst eo22) | ((with_reducible refine gate_callee (f := 154) rfl ?_); refine goesL_ (some 19) rfl rfl Try.func154 (by kernel_rfl) rfl #[.int .i64 t503, .slice Ao22 t504.length co22, .agg #[.int .i64 t507, .int .i64 t508, .slice Ao21 t509.length co21]] rfl (by (try simp only [List.map_toArray, List.map_cons, List.map_nil]); first | done | rfl | (simp only [List.length_drop, List.length_take]; rfl)) ?_; (with_reducible refine (spec_ProofAll.calls k t503 _ _ t504 t507 t508 _ _ t509 t514 true _ ?side1 ?side2 ?side3 ?side4 A3.out).mono ?_); (case side1 => refine (Kd.R_reads' (e := 3) (base := w.heap.size) (ok := fun k_ => some k_ ≠ (.slice Ao21 t509.length co21 : Value).ownBlock) (n := t504.length) (c := co22) ?_).2.2; exact ((Kd.R_mono (Kd.R_far (p := ⟨gb513, 2, none⟩) (Kd.R_far (p := ⟨gb513, 1, none⟩) (Kd.R_far (p := ⟨gb513, 0, none⟩) (Kd.R_types HO506.out BK513.out (by decide)) (fun _ hk => hk.2) (.int .i64 t507)) (fun _ hk => hk.2) (.int .i64 t508)) (fun _ hk => hk.2) (.slice Ao21 t509.length co21)) (fun _ h_ => h_.1)))); (case side2 => exact (Kd.R_reads' HO506.out).2.1); (case side3 => refine (Kd.Q_reads' (e := 3) (base := w.heap.size) (ok := fun k_ => some k_ ≠ (.slice Ao22 t504.length co22 : Value).ownBlock) (n := t509.length) (c := co21) ?_).2.2; exact ((Kd.Q_mono (Kd.Q_far (p := ⟨gb513, 2, none⟩) (Kd.Q_far (p := ⟨gb513, 1, none⟩) (Kd.Q_far (p := ⟨gb513, 0, none⟩) (Kd.Q_types HO511.out BK513.out (by decide)) (fun _ hk => hk.2) (.int .i64 t507)) (fun _ hk => hk.2) (.int .i64 t508)) (fun _ hk => hk.2) (.slice Ao21 t509.length co21)) (fun _ h_ => h_.1)))); (case side4 => exact (Kd.Q_reads' HO511.out).2.1); rintro e w23 ⟨v515, rfl, ho0, hb⟩; refine ⟨_, rfl, ?_⟩; replace HO516 := Aside0.mk (Kd.R_lower (Kd.R_new' (Kd.R_new' ho0 (Kd.R_lt ((Kd.R_mono (Kd.R_far (p := ⟨gb513, 2, none⟩) (Kd.R_far (p := ⟨gb513, 1, none⟩) (Kd.R_far (p := ⟨gb513, 0, none⟩) (Kd.R_types HO506.out BK513.out (by decide)) (fun _ hk => hk.2) (.int .i64 t507)) (fun _ hk => hk.2) (.int .i64 t508)) (fun _ hk => hk.2) (.slice Ao21 t509.length co21)) (fun _ h_ => h_.1))))) (Kd.Q_lt ((Kd.Q_mono (Kd.Q_far (p := ⟨gb513, 2, none⟩) (Kd.Q_far (p := ⟨gb513, 1, none⟩) (Kd.Q_far (p := ⟨gb513, 0, none⟩) (Kd.Q_types HO511.out BK513.out (by decide)) (fun _ hk => hk.2) (.int .i64 t507)) (fun _ hk => hk.2) (.int .i64 t508)) (fun _ hk => hk.2) (.slice Ao21 t509.length co21)) (fun _ h_ => h_.1))))) (keep_size (w := w) (g := g) (row := none) (by repeat (with_reducible first | exact HK.out | apply KeepBut.set_ | apply keep_drewN | apply keep_drew | apply keep_alloc | refine keep_far ?_ GW513.out _)))); replace HO506 := Aside0.mk (Kd.R_elder' ((Kd.R_mono (Kd.R_far (p := ⟨gb513, 2, none⟩) (Kd.R_far (p := ⟨gb513, 1, none⟩) (Kd.R_far (p := ⟨gb513, 0, none⟩) (Kd.R_types HO506.out BK513.out (by decide)) (fun _ hk => hk.2) (.int .i64 t507)) (fun _ hk => hk.2) (.int .i64 t508)) (fun _ hk => hk.2) (.slice Ao21 t509.length co21)) (fun _ h_ => h_.1))) (Kd.R_base ho0) hb); replace HO511 := Aside0.mk (Kd.Q_elder' ((Kd.Q_mono (Kd.Q_far (p := ⟨gb513, 2, none⟩) (Kd.Q_far (p := ⟨gb513, 1, none⟩) (Kd.Q_far (p := ⟨gb513, 0, none⟩) (Kd.Q_types HO511.out BK513.out (by decide)) (fun _ hk => hk.2) (.int .i64 t507)) (fun _ hk => hk.2) (.int .i64 t508)) (fun _ hk => hk.2) (.slice Ao21 t509.length co21)) (fun _ h_ => h_.1))) (Kd.R_base ho0) hb); replace BK513 := Aside0.mk (blk_below (g := gb513) (o := .cells #[.int .i64 t507, .int .i64 t508, .slice Ao21 t509.length co21] 59 (0, 0)) (by refine blk_put (cs := #[.int .i64 t507, .int .i64 t508, .slice none 0 0]) ?_ 2 _ rfl; refine blk_put (cs := #[.int .i64 t507, .int .i64 0, .slice none 0 0]) ?_ 1 _ rfl; refine blk_put (cs := #[.int .i64 0, .int .i64 0, .slice none 0 0]) ?_ 0 _ rfl; exact BK513.out) hb); replace HK := Aside0.mk (KeepBut.trans (by repeat (with_reducible first | exact HK.out | apply KeepBut.set_ | apply keep_drewN | apply keep_drew | apply keep_alloc | refine keep_far ?_ GW513.out _)) (KeepBut.of_below hb g none) (.inl rfl)); replace HB := Aside0.mk (below_step (by repeat (with_reducible first | exact HB.out | apply below_alloc | apply pw_below_drewN | apply below_drew1 | refine below_set ?_ (IsS118.ge HI0.out) | refine below_set ?_ GE513.out)) hb); replace HI0 := Aside0.mk (IsS118.below (show IsS118 w0 (((w18.setCell ⟨gb513, 0, none⟩ (.int .i64 t507)).setCell ⟨gb513, 1, none⟩ (.int .i64 t508)).setCell ⟨gb513, 2, none⟩ (.slice Ao21 t509.length co21)) g s0_0 t512 from by repeat (with_reducible first | exact HI0.out | apply IsS118.alloc | apply IsS118.drewN | apply IsS118.drew | apply IsS118.set_1 | refine IsS118.far ?_ NB0_513.out _)) hb); clear hb ho0) | (go_at_call 91; (with_reducible refine (spec_l6Rd_pick.calls k g s0_0 t512 30 t518 t519 w0 _ ?side1 ?side2 A5.out).mono ?_); (case side1 => repeat (with_reducible first | exact HI0.out | apply IsS118.alloc | apply IsS118.drewN | apply IsS118.drew | apply IsS118.set_1 | refine IsS118.far ?_ NB0_513.out _)); (case side2 => repeat (with_reducible first | exact HB.out | apply below_alloc | apply pw_below_drewN | apply below_drew1 | refine below_set ?_ (IsS118.ge HI0.out) | refine below_set ?_ GE513.out)); rintro e w24 ⟨rfl, hi, hb, hk⟩; replace HO506 := Aside0.mk (Kd.R_mono (Kd.R_keep (IsS118.apart (show IsS118 w0 _ g s0_0 t512 from by repeat (with_reducible first | exact HI0.out | apply IsS118.alloc | apply IsS118.drewN | apply IsS118.drew | apply IsS118.set_1 | refine IsS118.far ?_ NB0_513.out _)) (HO506.out) (by decide)) hk (fun _ h => h.2)) (fun _ h => h.1)); replace HO511 := Aside0.mk (Kd.Q_mono (Kd.Q_keep (IsS118.apartQ (show IsS118 w0 _ g s0_0 t512 from by repeat (with_reducible first | exact HI0.out | apply IsS118.alloc | apply IsS118.drewN | apply IsS118.drew | apply IsS118.set_1 | refine IsS118.far ?_ NB0_513.out _)) (HO511.out) (by decide)) hk (fun _ h => h.2)) (fun _ h => h.1)); replace BK513 := Aside0.mk (KeepBut.blk hk (g' := gb513) (o := .cells #[.int .i64 t507, .int .i64 t508, .slice Ao21 t509.length co21] 59 (0, 0)) (by exact BK513.out) NB513_0.out (by simp)); replace HO516 := Aside0.mk (Kd.R_mono (Kd.R_keep (IsS118.apart (show IsS118 w0 _ g s0_0 t512 from by repeat (with_reducible first | exact HI0.out | apply IsS118.alloc | apply IsS118.drewN | apply IsS118.drew | apply IsS118.set_1 | refine IsS118.far ?_ NB0_513.out _)) (HO516.out) (by decide)) hk (fun _ h => h.2)) (fun _ h => h.1)); replace HK := Aside0.mk (KeepBut.trans (by repeat (with_reducible first | exact HK.out | apply KeepBut.set_ | apply keep_drewN | apply keep_drew | apply keep_alloc | refine keep_far ?_ GW513.out _)) hk (.inl rfl)); replace HB := Aside0.mk (hb); replace HI0 := Aside0.mk (hi); clear hb hk hi))
   go_ret2
   exact ⟨_, by simp [*, errW_none, errW_some] <;> rfl, Kd.R_mono HO516.out (fun _ hk => trivial), by repeat (with_reducible first | exact HI0.out | apply IsS118.alloc | apply IsS118.drewN | apply IsS118.drew | apply IsS118.set_1 | refine IsS118.far ?_ NB0_513.out _), by repeat (with_reducible first | exact HB.out | apply below_alloc | apply pw_below_drewN | apply below_drew1 | refine below_set ?_ (IsS118.ge HI0.out) | refine below_set ?_ GE513.out), by repeat (with_reducible first | exact HK.out | apply KeepBut.set_ | apply keep_drewN | apply keep_drew | apply keep_alloc | refine keep_far ?_ GW513.out _)⟩
 ·replace c4 := Bool.eq_false_iff.mpr c4
  subst c4
  rw [if_neg (show ¬ (false = true) by decide)] at H
  replace H := bnd H
  obtain ⟨⟨t524, t527⟩, A25, H⟩ := H
  dsimp only at H
  simp only [Option.some.injEq, Prod.mk.injEq] at H
  obtain ⟨rfl, rfl, rfl⟩ := H
  go_enter Try.func124, Try.ntmps124
  go_wp2_with (first | ((with_reducible refine gate_callee (f := 153) rfl ?_); refine goesL_ (some 11) rfl rfl Try.func153 (by kernel_rfl) rfl #[.pointer (some ⟨g, 0, none⟩)] rfl (by (try simp only [List.map_toArray, List.map_cons, List.map_nil]); first | done | rfl | (simp only [List.length_drop, List.length_take]; rfl)) ?_; (with_reducible refine (spec_l91Proof.calls k g s0_0 s0_1 t503 t504 t507 t508 t509 t512 w0 _ ?side1 ?side2 A2.out).mono ?_); (case side1 => repeat (with_reducible first | exact HI0.out | apply IsS118.alloc | apply IsS118.drewN | apply IsS118.drew | apply IsS118.set_1)); (case side2 => repeat (with_reducible first | exact HB.out | apply below_alloc | apply pw_below_drewN | apply below_drew1 | refine below_set ?_ (IsS118.ge HI0.out))); rintro e w26 ⟨v505, v510, rfl, ho0, ho1, hi, hb, hk⟩; refine ⟨_, rfl, ?_⟩; replace HO506 := Aside0.mk (Kd.R_lower ho0 (keep_size HK.out)); replace HO511 := Aside0.mk (Kd.Q_lower ho1 (keep_size HK.out)); replace HK := Aside0.mk (KeepBut.trans (HK.out) hk (.inl rfl)); replace HB := Aside0.mk (hb); replace HI0 := Aside0.mk (hi); clear hb hk hi ho0 ho1) | ((with_reducible refine gate_dst (N := 6) rfl ?_); refine box_event ?hg (N := 6) ?hd (cs := #[.int .i64 0, .int .i64 0, .slice none 0 0]) (t := 59) ?hr ?_; (case hd => rfl); (case hg => rfl); (case hr => first | (go_simp; done) | (go_simp; rfl)); intro gb513 hg w27 hbox hb; replace HO506 := Aside0.mk (Kd.R_below (HO506.out) hb); replace HO511 := Aside0.mk (Kd.Q_below (HO511.out) hb); replace HB := Aside0.mk (below_step (HB.out) hb); replace BK513 := Aside0.mk (hbox); replace GW513 := Aside0.mk ((by rw [hg]; exact (keep_size HK.out) : w.heap.size ≤ gb513)); replace GE513 := Aside0.mk ((Nat.le_trans HW0.out (by rw [hg]; exact (keep_size HK.out) : w.heap.size ≤ gb513) : w0.heap.size ≤ gb513)); replace HK := Aside0.mk (KeepBut.trans (HK.out) (KeepBut.of_below hb g none) (.inl rfl)); replace NB0_513 := Aside0.mk ((by rw [hg]; exact Nat.ne_of_lt (IsS118.lt (show IsS118 w0 _ g s0_0 t512 from by repeat (with_reducible first | exact HI0.out | apply IsS118.alloc | apply IsS118.drewN | apply IsS118.drew | apply IsS118.set_1))) : g ≠ gb513)); replace NB513_0 := Aside0.mk ((by rw [hg]; exact Nat.ne_of_gt (IsS118.lt (show IsS118 w0 _ g s0_0 t512 from by repeat (with_reducible first | exact HI0.out | apply IsS118.alloc | apply IsS118.drewN | apply IsS118.drew | apply IsS118.set_1))) : gb513 ≠ g)); replace HI0 := Aside0.mk (IsS118.below (by repeat (with_reducible first | exact HI0.out | apply IsS118.alloc | apply IsS118.drewN | apply IsS118.drew | apply IsS118.set_1)) hb); clear hb hbox hg; have hnb28 := NB513_0.out; have hnc28 := NB0_513.out; have hcz29_0 : w27.cell? ⟨gb513, 0, none⟩ = some (.int .i64 0) := (blk_cell BK513.out 0).trans rfl; have hcz29_1 : w27.cell? ⟨gb513, 1, none⟩ = some (.int .i64 0) := (blk_cell BK513.out 1).trans rfl; have hcz29_2 : w27.cell? ⟨gb513, 2, none⟩ = some (.slice none 0 0) := (blk_cell BK513.out 2).trans rfl; have hfz29_0 := blk_frozen BK513.out 0; have hfz29_1 := blk_frozen BK513.out 1; have hfz29_2 := blk_frozen BK513.out 2; obtain ⟨Ao30, co30, eo30, _⟩ := Kd.Q_slice HO511.out; subst eo30; obtain ⟨Ao31, co31, eo31⟩ := Kd.R_slice HO506.out; subst eo31) | ((with_reducible refine gate_callee (f := 154) rfl ?_); refine goesL_ (some 19) rfl rfl Try.func154 (by kernel_rfl) rfl #[.int .i64 t503, .slice Ao31 t504.length co31, .agg #[.int .i64 t507, .int .i64 t508, .slice Ao30 t509.length co30]] rfl (by (try simp only [List.map_toArray, List.map_cons, List.map_nil]); first | done | rfl | (simp only [List.length_drop, List.length_take]; rfl)) ?_; (with_reducible refine (spec_ProofAll.calls k t503 _ _ t504 t507 t508 _ _ t509 t514 false _ ?side1 ?side2 ?side3 ?side4 A3.out).mono ?_); (case side1 => refine (Kd.R_reads' (e := 3) (base := w.heap.size) (ok := fun k_ => some k_ ≠ (.slice Ao30 t509.length co30 : Value).ownBlock) (n := t504.length) (c := co31) ?_).2.2; exact ((Kd.R_mono (Kd.R_far (p := ⟨gb513, 2, none⟩) (Kd.R_far (p := ⟨gb513, 1, none⟩) (Kd.R_far (p := ⟨gb513, 0, none⟩) (Kd.R_types HO506.out BK513.out (by decide)) (fun _ hk => hk.2) (.int .i64 t507)) (fun _ hk => hk.2) (.int .i64 t508)) (fun _ hk => hk.2) (.slice Ao30 t509.length co30)) (fun _ h_ => h_.1)))); (case side2 => exact (Kd.R_reads' HO506.out).2.1); (case side3 => refine (Kd.Q_reads' (e := 3) (base := w.heap.size) (ok := fun k_ => some k_ ≠ (.slice Ao31 t504.length co31 : Value).ownBlock) (n := t509.length) (c := co30) ?_).2.2; exact ((Kd.Q_mono (Kd.Q_far (p := ⟨gb513, 2, none⟩) (Kd.Q_far (p := ⟨gb513, 1, none⟩) (Kd.Q_far (p := ⟨gb513, 0, none⟩) (Kd.Q_types HO511.out BK513.out (by decide)) (fun _ hk => hk.2) (.int .i64 t507)) (fun _ hk => hk.2) (.int .i64 t508)) (fun _ hk => hk.2) (.slice Ao30 t509.length co30)) (fun _ h_ => h_.1)))); (case side4 => exact (Kd.Q_reads' HO511.out).2.1); rintro e w32 ⟨v515, rfl, ho0, hb⟩; refine ⟨_, rfl, ?_⟩; replace HO516 := Aside0.mk (Kd.R_lower (Kd.R_new' (Kd.R_new' ho0 (Kd.R_lt ((Kd.R_mono (Kd.R_far (p := ⟨gb513, 2, none⟩) (Kd.R_far (p := ⟨gb513, 1, none⟩) (Kd.R_far (p := ⟨gb513, 0, none⟩) (Kd.R_types HO506.out BK513.out (by decide)) (fun _ hk => hk.2) (.int .i64 t507)) (fun _ hk => hk.2) (.int .i64 t508)) (fun _ hk => hk.2) (.slice Ao30 t509.length co30)) (fun _ h_ => h_.1))))) (Kd.Q_lt ((Kd.Q_mono (Kd.Q_far (p := ⟨gb513, 2, none⟩) (Kd.Q_far (p := ⟨gb513, 1, none⟩) (Kd.Q_far (p := ⟨gb513, 0, none⟩) (Kd.Q_types HO511.out BK513.out (by decide)) (fun _ hk => hk.2) (.int .i64 t507)) (fun _ hk => hk.2) (.int .i64 t508)) (fun _ hk => hk.2) (.slice Ao30 t509.length co30)) (fun _ h_ => h_.1))))) (keep_size (w := w) (g := g) (row := none) (by repeat (with_reducible first | exact HK.out | apply KeepBut.set_ | apply keep_drewN | apply keep_drew | apply keep_alloc | refine keep_far ?_ GW513.out _)))); replace HO506 := Aside0.mk (Kd.R_elder' ((Kd.R_mono (Kd.R_far (p := ⟨gb513, 2, none⟩) (Kd.R_far (p := ⟨gb513, 1, none⟩) (Kd.R_far (p := ⟨gb513, 0, none⟩) (Kd.R_types HO506.out BK513.out (by decide)) (fun _ hk => hk.2) (.int .i64 t507)) (fun _ hk => hk.2) (.int .i64 t508)) (fun _ hk => hk.2) (.slice Ao30 t509.length co30)) (fun _ h_ => h_.1))) (Kd.R_base ho0) hb); replace HO511 := Aside0.mk (Kd.Q_elder' ((Kd.Q_mono (Kd.Q_far (p := ⟨gb513, 2, none⟩) (Kd.Q_far (p := ⟨gb513, 1, none⟩) (Kd.Q_far (p := ⟨gb513, 0, none⟩) (Kd.Q_types HO511.out BK513.out (by decide)) (fun _ hk => hk.2) (.int .i64 t507)) (fun _ hk => hk.2) (.int .i64 t508)) (fun _ hk => hk.2) (.slice Ao30 t509.length co30)) (fun _ h_ => h_.1))) (Kd.R_base ho0) hb); replace BK513 := Aside0.mk (blk_below (g := gb513) (o := .cells #[.int .i64 t507, .int .i64 t508, .slice Ao30 t509.length co30] 59 (0, 0)) (by refine blk_put (cs := #[.int .i64 t507, .int .i64 t508, .slice none 0 0]) ?_ 2 _ rfl; refine blk_put (cs := #[.int .i64 t507, .int .i64 0, .slice none 0 0]) ?_ 1 _ rfl; refine blk_put (cs := #[.int .i64 0, .int .i64 0, .slice none 0 0]) ?_ 0 _ rfl; exact BK513.out) hb); replace HK := Aside0.mk (KeepBut.trans (by repeat (with_reducible first | exact HK.out | apply KeepBut.set_ | apply keep_drewN | apply keep_drew | apply keep_alloc | refine keep_far ?_ GW513.out _)) (KeepBut.of_below hb g none) (.inl rfl)); replace HB := Aside0.mk (below_step (by repeat (with_reducible first | exact HB.out | apply below_alloc | apply pw_below_drewN | apply below_drew1 | refine below_set ?_ (IsS118.ge HI0.out) | refine below_set ?_ GE513.out)) hb); replace HI0 := Aside0.mk (IsS118.below (show IsS118 w0 (((w27.setCell ⟨gb513, 0, none⟩ (.int .i64 t507)).setCell ⟨gb513, 1, none⟩ (.int .i64 t508)).setCell ⟨gb513, 2, none⟩ (.slice Ao30 t509.length co30)) g s0_0 t512 from by repeat (with_reducible first | exact HI0.out | apply IsS118.alloc | apply IsS118.drewN | apply IsS118.drew | apply IsS118.set_1 | refine IsS118.far ?_ NB0_513.out _)) hb); clear hb ho0) | ((with_reducible refine gate_callee (f := 144) rfl ?_); refine goesL_ (some 31) rfl rfl Try.func144 (by kernel_rfl) rfl #[.pointer (some ⟨g, 0, none⟩), .int .i64 15] rfl (by (try simp only [List.map_toArray, List.map_cons, List.map_nil]); first | done | rfl | (simp only [List.length_drop, List.length_take]; rfl)) ?_; (with_reducible refine (spec_l91List.calls k g s0_0 t512 15 t524 t527 w0 _ ?side1 ?side2 A25.out).mono ?_); (case side1 => repeat (with_reducible first | exact HI0.out | apply IsS118.alloc | apply IsS118.drewN | apply IsS118.drew | apply IsS118.set_1 | refine IsS118.far ?_ NB0_513.out _)); (case side2 => repeat (with_reducible first | exact HB.out | apply below_alloc | apply pw_below_drewN | apply below_drew1 | refine below_set ?_ (IsS118.ge HI0.out) | refine below_set ?_ GE513.out)); rintro e w33 ⟨v525, rfl, ho0, hi, hb, hk⟩; refine ⟨_, rfl, ?_⟩; replace BK513 := Aside0.mk (KeepBut.blk hk (g' := gb513) (o := .cells #[.int .i64 t507, .int .i64 t508, .slice Ao30 t509.length co30] 59 (0, 0)) (by exact BK513.out) NB513_0.out (by simp)); replace HO526 := Aside0.mk (Kd.R_lower (Kd.R_new' (Kd.R_new' (Kd.R_new' ho0 (Kd.R_lt (HO506.out))) (Kd.Q_lt (HO511.out))) (Kd.R_lt (HO516.out))) (keep_size (w := w) (g := g) (row := none) (by repeat (with_reducible first | exact HK.out | apply KeepBut.set_ | apply keep_drewN | apply keep_drew | apply keep_alloc | refine keep_far ?_ GW513.out _)))); replace HO506 := Aside0.mk (Kd.R_mono (Kd.R_told (Kd.R_oldK (IsS118.apart (show IsS118 w0 _ g s0_0 t512 from by repeat (with_reducible first | exact HI0.out | apply IsS118.alloc | apply IsS118.drewN | apply IsS118.drew | apply IsS118.set_1 | refine IsS118.far ?_ NB0_513.out _)) (HO506.out) (by decide)) hk) (Kd.R_base ho0)) (fun _ h_ => h_.1)); replace HO511 := Aside0.mk (Kd.Q_mono (Kd.Q_told (Kd.Q_oldK (IsS118.apartQ (show IsS118 w0 _ g s0_0 t512 from by repeat (with_reducible first | exact HI0.out | apply IsS118.alloc | apply IsS118.drewN | apply IsS118.drew | apply IsS118.set_1 | refine IsS118.far ?_ NB0_513.out _)) (HO511.out) (by decide)) hk) (Kd.R_base ho0)) (fun _ h_ => h_.1)); replace HO516 := Aside0.mk (Kd.R_mono (Kd.R_told (Kd.R_oldK (IsS118.apart (show IsS118 w0 _ g s0_0 t512 from by repeat (with_reducible first | exact HI0.out | apply IsS118.alloc | apply IsS118.drewN | apply IsS118.drew | apply IsS118.set_1 | refine IsS118.far ?_ NB0_513.out _)) (HO516.out) (by decide)) hk) (Kd.R_base ho0)) (fun _ h_ => h_.1)); replace HK := Aside0.mk (KeepBut.trans (by repeat (with_reducible first | exact HK.out | apply KeepBut.set_ | apply keep_drewN | apply keep_drew | apply keep_alloc | refine keep_far ?_ GW513.out _)) hk (.inl rfl)); replace HB := Aside0.mk (hb); replace HI0 := Aside0.mk (hi); clear hb hk hi ho0))
  go_ret2
  exact ⟨_, by simp [*, errW_none, errW_some] <;> rfl, Kd.R_mono HO526.out (fun _ hk => trivial), by repeat (with_reducible first | exact HI0.out | apply IsS118.alloc | apply IsS118.drewN | apply IsS118.drew | apply IsS118.set_1 | refine IsS118.far ?_ NB0_513.out _), by repeat (with_reducible first | exact HB.out | apply below_alloc | apply pw_below_drewN | apply below_drew1 | refine below_set ?_ (IsS118.ge HI0.out) | refine below_set ?_ GE513.out), by repeat (with_reducible first | exact HK.out | apply KeepBut.set_ | apply keep_drewN | apply keep_drew | apply keep_alloc | refine keep_far ?_ GW513.out _)⟩
end Go.Proofs.Ytplbobmllflniaa.Ea
