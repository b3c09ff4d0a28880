import Derived.Test.YtlgbblaidohljaaGreatDoorZ
import Derived.Test.YtlgbblaidohljaaGreatDoorZc0
import Derived.Test.YtlgbblaidohljaaGreatDoorZc1
namespace Go.Proofs.YtlgbblaidohljaaGreatDoor.Zc
open Go.RowKit Go.Proofs.YtlgbblaidohljaaGreatDoorU.PrintWords Go.Proofs.YtlgbblaidohljaaGreatDoorU.PrintLast Go.Proofs.YtlgbblaidohljaaGreatDoorU.PrintMore Go.Proofs.YtlgbblaidohljaaGreatDoor.Z
attribute [local go_sem] max2_int min2_int max_two min_two max_three min_three max_four min_four
set_option linter.unusedVariables false
set_option linter.unusedSimpArgs false
theorem c29x2 : Ent Tryz.prog 29 := ent Tryz.func29 (by kernel_rfl) rfl
theorem c52x2 : Ent Tryz.prog 52 := ent Tryz.func52 (by kernel_rfl) rfl
theorem c95x2 : Ent Tryz.prog 95 := ent Tryz.func95 (by kernel_rfl) rfl
def impl_cut.f (a0 : Int) (l1 : List Int) : Option (List Int × Int × Int × List Int) := (impl_TypeLen.f a0).bind fun t107 => (if 0 ≤ t107 then (if t107 ≤ (l1.length : Int) then ((slices_Clone_int_int.f (l1.take (t107 : Int).toNat)).bind fun t109 => ((slices_Clip_int_int.f t109).bind fun t112 => (if t107 < (l1.length : Int) then (if 0 ≤ (wrap64 (t107 + 1)) then (if (wrap64 (t107 + 1)) < (l1.length : Int) then (if 0 ≤ (wrap64 (t107 + 2)) then (if (wrap64 (t107 + 2)) ≤ (l1.length : Int) then ((slices_Clone_int_int.f (l1.drop ((wrap64 (t107 + 2)) : Int).toNat)).bind fun t118 => ((slices_Clip_int_int.f t118).bind fun t121 => (some (t112, rd l1 t107, rd l1 (wrap64 (t107 + 1)), t121)))) else (none)) else (none)) else (none)) else (none)) else (none)))) else (none)) else (none))
def impl_cut.T2 : Bool × List (List Nat × List Nat) := (true, [([], []), ([], []), ([0, 1], [0, 1]), ([2], [2]), ([3, 3], [3]), ([], []), ([], []), ([5, 6], [5, 6]), ([7], [7]), ([], []), ([], []), ([10], [10]), ([9, 11], [9, 11]), ([12], [12]), ([], []), ([], []), ([15], [15]), ([14, 16], [14, 16]), ([17, 4], [17]), ([18, 18], [18]), ([8, 13, 19], [8, 13, 19]), ([4, 19, 0, 1, 2, 3, 4], [4]), ([20, 21, 0, 1, 2, 3, 4, 5, 6, 7, 8, 9, 10, 11, 12, 13, 14, 15, 16, 17, 18, 19, 20, 21], [20])])
def impl_cut.B2 : List Nat := [0, 0, 3, 7, 15, 0, 0, 96, 224, 0, 0, 1024, 3584, 7680, 0, 0, 32768, 114688, 245791, 507935, 1048575, 1032223, 4194303]
theorem impl_cut.tab2 : rtab .any (opsOf Tryz.f64 2) = impl_cut.T2 := by kernel_rfl
theorem impl_cut.bits2 : waitsOk impl_cut.T2.2 impl_cut.B2 = true := by kernel_rfl
set_option maxHeartbeats 8000000 in
set_option maxRecDepth 100000 in
theorem impl_cut.calls (a0 : Int) (A1 : Option Addr) (c1 : Nat) (l1 : List Int) (r1 : List Int) (r2 : Int) (r3 : Int) (r4 : List Int) (w : World) (hr1 : Kd.C (Kd.int .i64) w A1 l1.length l1) (hc1 : l1.length ≤ c1) (h : impl_cut.f a0 l1 = some (r1, r2, r3, r4)) :
  Calls Tryz.prog 64 #[.int .i64 a0, .slice A1 l1.length c1] w fun e w' => ∃ v0_ v3_ : Value, e = .returned (.tuple #[v0_, .agg #[.int .i64 r2, .int .i64 r3, v3_]]) ∧ Kd.V (Kd.int .i64) 3 w' w.heap.size (fun k_ => (w.heap.size ≤ k_)) v0_ r1 ∧ Kd.V (Kd.int .i64) 3 w' w.heap.size (fun k_ => (w.heap.size ≤ k_)) v3_ r4 ∧ Below w.heap.size w w' := by
 have hu40 := Tryz.underlying40
 have HR1 := Aside0.mk hr1
 have HC1 := Aside0.mk hc1
 clear hr1 hc1
 have HB := Aside0.mk (Below.refl w.heap.size w)
 have H := h
 unfold impl_cut.f at H
 clear h
 replace H := bnd H
 obtain ⟨t107, A3, H⟩ := H
 by_cases c4 : 0 ≤ t107
 ·rw [if_pos c4] at H
  have c4b0 := eq_true c4
  have c4b1 : decide (0 ≤ t107) = true := decide_eq_true c4
  clear c4
  by_cases c5 : t107 ≤ (l1.length : Int)
  ·rw [if_pos c5] at H
   have c5b0 := eq_true c5
   have c5b1 : decide (t107 ≤ (l1.length : Int)) = true := decide_eq_true c5
   clear c5
   replace H := bnd H
   obtain ⟨t109, A6, H⟩ := H
   replace H := bnd H
   obtain ⟨t112, A7, H⟩ := H
   by_cases c8 : t107 < (l1.length : Int)
   ·rw [if_pos c8] at H
    have c8b0 : decide (t107 < (l1.length : Int)) = true := decide_eq_true c8
    clear c8
    obtain ⟨ji9, hji9⟩ : ∃ j_ : Int, (wrap64 (t107 + 1)) = j_ := ⟨_, rfl⟩
    replace H : (if 0 ≤ (ji9) then (if (ji9) < (l1.length : Int) then (if 0 ≤ (wrap64 (t107 + 2)) then (if (wrap64 (t107 + 2)) ≤ (l1.length : Int) then ((slices_Clone_int_int.f (l1.drop ((wrap64 (t107 + 2)) : Int).toNat)).bind fun t118 => ((slices_Clip_int_int.f t118).bind fun t121 => (some (t112, rd l1 t107, rd l1 (ji9), t121)))) else (none)) else (none)) else (none)) else (none)) = some (r1, r2, r3, r4) := by first | (rw [hji9] at H; exact H) | (simp only [hji9] at H ⊢; exact H)
    (try rw [hji9] at A3)
    (try rw [hji9] at A6)
    (try rw [hji9] at A7)
    have hji9w : (IntKind.i64.wrap (t107 + 1)) = ji9 := (i64_w _).trans hji9
    by_cases c10 : 0 ≤ (ji9)
    ·rw [if_pos c10] at H
     have c10b0 : decide (0 ≤ (ji9)) = true := decide_eq_true c10
     clear c10
     by_cases c11 : (ji9) < (l1.length : Int)
     ·rw [if_pos c11] at H
      have c11b0 : decide ((ji9) < (l1.length : Int)) = true := decide_eq_true c11
      clear c11
      obtain ⟨ji12, hji12⟩ : ∃ j_ : Int, (wrap64 (t107 + 2)) = j_ := ⟨_, rfl⟩
      replace H : (if 0 ≤ (ji12) then (if (ji12) ≤ (l1.length : Int) then ((slices_Clone_int_int.f (l1.drop ((ji12) : Int).toNat)).bind fun t118 => ((slices_Clip_int_int.f t118).bind fun t121 => (some (t112, rd l1 t107, rd l1 (ji9), t121)))) else (none)) else (none)) = some (r1, r2, r3, r4) := by first | (rw [hji12] at H; exact H) | (simp only [hji12] at H ⊢; exact H)
      (try rw [hji12] at A3)
      (try rw [hji12] at A6)
      (try rw [hji12] at A7)
      have hji12w : (IntKind.i64.wrap (t107 + 2)) = ji12 := (i64_w _).trans hji12
      by_cases c13 : 0 ≤ (ji12)
      ·rw [if_pos c13] at H
       have c13b0 := eq_true c13
       have c13b1 : decide (0 ≤ (ji12)) = true := decide_eq_true c13
       clear c13
       by_cases c14 : (ji12) ≤ (l1.length : Int)
       ·rw [if_pos c14] at H
        have c14b0 := eq_true c14
        have c14b1 : decide ((ji12) ≤ (l1.length : Int)) = true := decide_eq_true c14
        clear c14
        replace H := bnd H
        obtain ⟨t118, A15, H⟩ := H
        replace H := bnd H
        obtain ⟨t121, A16, H⟩ := H
        simp only [Option.some.injEq, Prod.mk.injEq] at H
        obtain ⟨rfl, rfl, rfl, rfl⟩ := H
        go_enter Tryz.func64, Tryz.ntmps64
        try go_wp2_with (first | ((with_reducible refine gate_dst (N := 5) rfl ?_); refine box_event ?hg (N := 5) ?hd (cs := #[.int .i64 0, .int .i64 0, .slice none 0 0]) (t := 40) ?hr ?_; (case hd => rfl); (case hg => rfl); (case hr => first | (go_simp; done) | (go_simp; rfl)); intro gb106 hg w17 hbox hb; replace BK106 := Aside0.mk (hbox); replace GW106 := Aside0.mk ((by rw [hg]; exact (below_size (by repeat (with_reducible first | exact HB.out | apply below_alloc | apply pw_below_drewN | apply below_drew1))) : w.heap.size ≤ gb106)); replace GE106 := Aside0.mk ((by rw [hg]; exact (below_size (by repeat (with_reducible first | exact HB.out | apply below_alloc | apply pw_below_drewN | apply below_drew1))) : w.heap.size ≤ gb106)); replace HB := Aside0.mk (below_step (by repeat (with_reducible first | exact HB.out | apply below_alloc | apply pw_below_drewN | apply below_drew1)) hb); clear hb hbox hg) | (refine gsC c29x2 (impl_TypeLen.calls a0 t107 _ A3.out) ?_; rintro e w18 ⟨rfl, hb⟩; refine ⟨_, rfl, ?_⟩; replace BK106 := Aside0.mk (blk_below (g := gb106) (o := .cells #[.int .i64 0, .int .i64 0, .slice none 0 0] 40 (0, 0)) (by exact BK106.out) hb); replace HB := Aside0.mk (below_step (by repeat (with_reducible first | exact HB.out | apply below_alloc | apply pw_below_drewN | apply below_drew1 | refine below_set ?_ GE106.out)) hb); clear hb))
        replace BK106 := Aside0.mk (blk_drew BK106.out)
        replace HB := Aside0.mk (below_drew1 HB.out)
        obtain ⟨i020, hi020, _, hsz20, _⟩ := info_parts info3
        obtain ⟨hcut20, hA20, hC20⟩ := print_take_of (P := Tryz.prog) (Value.int .i64) 0 22 3 .i64 Tryz.underlying22 hi020 hsz20 A1 c1 l1 t107 (of_decide_eq_true ‹_›) (of_decide_eq_true ‹_›) HC1.out
        have HR108 := Aside0.mk (Kd.C_of_reads (h1 := fun _ => rfl) (hA20 _ (Kd.reads_of_C HR1.out)))
        have HC108 := Aside0.mk hC20
        clear hA20 hC20 hi020 hsz20
        have p115 : 0 ≤ (t107 : Int) := of_decide_eq_true ‹_›
        have q115 : t107 < (l1.length : Int) := of_decide_eq_true ‹_›
        obtain ⟨ad115, e115, hx115_0⟩ := Kd.at_int HR1.out t107 p115 q115
        have hw115_0 := hx115_0
        cases e115
        replace hx115_0 := (HB.out.cell (World.block_lt_of_cell? w _ hx115_0)).trans hx115_0
        replace p115 := eq_true p115
        replace q115 := eq_true q115
        have p116 : 0 ≤ ((ji9) : Int) := of_decide_eq_true ‹_›
        have q116 : (ji9) < (l1.length : Int) := of_decide_eq_true ‹_›
        obtain ⟨ad116, e116, hx116_0⟩ := Kd.at_int HR1.out (ji9) p116 q116
        have hw116_0 := hx116_0
        obtain rfl : ad115 = ad116 := (by injection e116)
        replace hx116_0 := (HB.out.cell (World.block_lt_of_cell? w _ hx116_0)).trans hx116_0
        replace p116 := eq_true p116
        replace q116 := eq_true q116
        obtain ⟨i021, hi021, _, hsz21, _⟩ := info_parts info3
        obtain ⟨A21, hcut21, hA21, hC21⟩ := print_drop_of (P := Tryz.prog) (Value.int .i64) 0 22 3 .i64 Tryz.underlying22 hi021 hsz21 (some ad115) c1 l1 (ji12) (of_decide_eq_true ‹_›) (of_decide_eq_true ‹_›) HC1.out
        have HR117 := Aside0.mk (Kd.C_of_reads (h1 := fun _ => rfl) (hA21 _ (Kd.reads_of_C HR1.out)))
        have HC117 := Aside0.mk hC21
        clear hA21 hC21 hi021 hsz21
        refine start_ (n := 23) (S := fun w' => w'.cell? (ad115.add (t107).toNat) = some (.int .i64 (rd l1 t107)) ∧ w'.cell? (ad115.add ((ji9)).toNat) = some (.int .i64 (rd l1 (ji9)))) (ds := []) (bs 23 0) (by kernel_rfl) rfl rfl ⟨((HB.out.cell (World.block_lt_of_cell? w _ hw115_0)).trans hw115_0), ((HB.out.cell (World.block_lt_of_cell? w _ hw116_0)).trans hw116_0)⟩ (fun hHeld => ?_); refine with_tabW impl_cut.tab2 impl_cut.bits2 (fun HT_ HW_ => ?_)
        generalize w18.drew = w19 at BK106 HB HR108 HR117 hx115_0 hx116_0 hHeld ⊢
        refine pZ 0 (some 9) (bs 23 1) rfl rfl (any_of HT_.out (by kernel_rfl)) ?_
        refine pZ 1 (some 10) (bs 23 3) rfl rfl (any_of HT_.out (by kernel_rfl)) ?_
        refine pZ 2 (some 11) (bs 23 7) rfl rfl (any_of HT_.out (by kernel_rfl)) ?_
        refine pZ 5 (some 14) (bs 23 39) rfl rfl (any_of HT_.out (by kernel_rfl)) ?_
        refine pZ 6 (some 15) (bs 23 103) rfl rfl (any_of HT_.out (by kernel_rfl)) ?_
        refine pZ 7 (some 16) (bs 23 231) rfl rfl (any_of HT_.out (by kernel_rfl)) ?_
        refine pZ 9 (some 18) (bs 23 743) rfl rfl (any_of HT_.out (by kernel_rfl)) ?_
        refine pZ 10 (some 19) (bs 23 1767) rfl rfl (any_of HT_.out (by kernel_rfl)) ?_
        refine pZ 11 (some 20) (bs 23 3815) rfl rfl (any_of HT_.out (by kernel_rfl)) ?_
        refine pZ 12 (some 21) (bs 23 7911) rfl rfl (any_of HT_.out (by kernel_rfl)) ?_
        refine pZ 14 (some 23) (bs 23 24295) rfl rfl (any_of HT_.out (by kernel_rfl)) ?_
        refine pZ 15 (some 24) (bs 23 57063) rfl rfl (any_of HT_.out (by kernel_rfl)) ?_
        refine pZ 16 (some 25) (bs 23 122599) rfl rfl (any_of HT_.out (by kernel_rfl)) ?_
        refine pZ 17 (some 26) (bs 23 253671) rfl rfl (any_of HT_.out (by kernel_rfl)) ?_
        refine tZ 8 (some 17) (bs 23 253927) rfl rfl (take_ofW HT_.out HW_.out (by kernel_rfl)) hHeld (by rintro w' ⟨s0, s1⟩; go_simp; with_reducible rfl) ?_
        refine tZ 13 (some 22) (bs 23 262119) rfl rfl (take_ofW HT_.out HW_.out (by kernel_rfl)) hHeld (by rintro w' ⟨s0, s1⟩; go_simp; with_reducible rfl) ?_
        refine one_ (i := 3) (N := some 12) (bs 23 262127) rfl rfl (one_of HT_.out (by kernel_rfl)) (by decide) (fun K hK => ?_)
        refine goes_ Tryz.func100 (by kernel_rfl) rfl #[.slice (some ad115) (l1.take (t107 : Int).toNat).length c1] (by rfl) rfl rfl (by (try simp only [List.map_toArray, List.map_cons, List.map_nil]); first | done | (rw [show (l1.take (t107 : Int).toNat).length = t107.toNat from (by rw [List.length_take]; have h_ : (t107 : Int) ≤ (l1.length : Int) := of_decide_eq_true ‹_›; omega)] <;> rfl) | rfl | (simp only [List.length_drop, List.length_take]; rfl)) ?_
        with_reducible refine (slices_Clone_int_int.calls _ _ (l1.take (t107 : Int).toNat) t109 _ ?side1 ?side2 A6.out).mono ?_
        (case side1 => exact (Kd.C_below HR108.out HB.out))
        (case side2 => exact HC108.out)
        rintro e w22 ⟨v110, rfl, ho0, hb⟩
        refine ⟨_, rfl, ?_⟩
        replace HO111 := Aside0.mk (Kd.R_lower (Kd.R_newM (M := fun k_ => (w.heap.size ≤ k_)) ho0 (below_size (by repeat (with_reducible first | exact HB.out | apply below_alloc | apply pw_below_drewN | apply below_drew1 | refine below_set ?_ GE106.out))) (fun k_ h_ => h_)) (below_size (by repeat (with_reducible first | exact HB.out | apply below_alloc | apply pw_below_drewN | apply below_drew1 | refine below_set ?_ GE106.out))))
        replace BK106 := Aside0.mk (blk_below (g := gb106) (o := .cells #[.int .i64 0, .int .i64 0, .slice none 0 0] 40 (0, 0)) (by exact BK106.out) hb)
        replace HB := Aside0.mk (below_step (by repeat (with_reducible first | exact HB.out | apply below_alloc | apply pw_below_drewN | apply below_drew1 | refine below_set ?_ GE106.out)) hb)
        (try clear hb)
        (try clear hb2)
        (try clear hk)
        (try clear hi)
        (try clear ho0)
        obtain ⟨Ao23, co23, eo23⟩ := Kd.R_slice HO111.out
        (first | subst eo23 | (injection eo23 with f1_ f2_ f3_; have f4_ := f1_.symm; have f5_ := f3_.symm; clear f1_ f2_ f3_; subst f4_; subst f5_))
        refine hK.out _ _ ⟨((HB.out.cell (World.block_lt_of_cell? w _ hw115_0)).trans hw115_0), ((HB.out.cell (World.block_lt_of_cell? w _ hw116_0)).trans hw116_0)⟩ (fun hHeld => ?_)
        clear hK K
        refine norm_ (a' := ?_) ?_ ?_
        rotate_left
        ·show Act.put _ (some 12) _ = _
         simp only [Act.put, List.setIfInBounds_toArray, List.set_cons_zero, List.set_cons_succ, i64_w, i32_w]
         rfl
        refine one_ (i := 4) (N := some 13) (bs 23 262143) rfl rfl (one_of HT_.out (by kernel_rfl)) (by decide) (fun K hK => ?_)
        refine goes_ Tryz.func62 (by kernel_rfl) rfl #[.slice Ao23 t109.length co23] (by rfl) rfl rfl (by (try simp only [List.map_toArray, List.map_cons, List.map_nil]); first | done | rfl | (simp only [List.length_drop, List.length_take]; rfl)) ?_
        with_reducible refine (slices_Clip_int_int.calls (fun k_ => some k_ = (.slice Ao23 t109.length co23 : Value).ownBlock) _ _ t109 t112 _ ?side1 A7.out).mono ?_
        (case side1 => exact Kd.R_V (Kd.R_tight rfl (Kd.R_types (HO111.out) BK106.out (by decide))))
        rintro e w24 ⟨v113, rfl, ho0, hb⟩
        refine ⟨_, rfl, ?_⟩
        replace HO114 := Aside0.mk (Kd.V_lower (Kd.V_mono (ok' := fun k_ => (w.heap.size ≤ k_) ∧ k_ ≠ gb106) ho0 (fun k_ hk_ => ⟨Or.elim hk_ (fun hs_ => ((Kd.R_types (HO111.out) BK106.out (by decide)).1 k_ hs_.symm).1.1) (fun hn_ => (Nat.le_trans (below_size (by repeat (with_reducible first | exact HB.out | apply below_alloc | apply pw_below_drewN | apply below_drew1 | refine below_set ?_ GE106.out))) hn_)), Or.elim hk_ (fun hs_ => ((Kd.R_types (HO111.out) BK106.out (by decide)).1 k_ hs_.symm).2) (fun hn_ => (Kd.freshB (g := gb106) (o := .cells #[.int .i64 0, .int .i64 0, .slice none 0 0] 40 (0, 0)) (by exact BK106.out) k_ hn_))⟩)) (below_size (by repeat (with_reducible first | exact HB.out | apply below_alloc | apply pw_below_drewN | apply below_drew1 | refine below_set ?_ GE106.out))))
        replace HO111 := Aside0.mk (Kd.R_below (HO111.out) hb)
        replace BK106 := Aside0.mk (blk_below (g := gb106) (o := .cells #[.int .i64 0, .int .i64 0, .slice none 0 0] 40 (0, 0)) (by exact BK106.out) hb)
        replace HB := Aside0.mk (below_step (by repeat (with_reducible first | exact HB.out | apply below_alloc | apply pw_below_drewN | apply below_drew1 | refine below_set ?_ GE106.out)) hb)
        (try clear hb)
        (try clear hb2)
        (try clear hk)
        (try clear hi)
        (try clear ho0)
        refine hK.out _ _ ⟨((HB.out.cell (World.block_lt_of_cell? w _ hw115_0)).trans hw115_0), ((HB.out.cell (World.block_lt_of_cell? w _ hw116_0)).trans hw116_0)⟩ (fun hHeld => ?_)
        clear hK K
        refine norm_ (a' := ?_) ?_ ?_
        rotate_left
        ·show Act.put _ (some 13) _ = _
         simp only [Act.put, List.setIfInBounds_toArray, List.set_cons_zero, List.set_cons_succ, i64_w, i32_w]
         rfl
        refine one_ (i := 18) (N := some 27) (bs 23 524287) rfl rfl (one_of HT_.out (by kernel_rfl)) (by decide) (fun K hK => ?_)
        refine goes_ Tryz.func100 (by kernel_rfl) rfl #[.slice A21 (l1.drop ((ji12) : Int).toNat).length (c1 - (ji12).toNat)] (by rfl) rfl rfl (by (try simp only [List.map_toArray, List.map_cons, List.map_nil]); first | done | (rw [show (l1.drop ((ji12) : Int).toNat).length = (l1.length - (ji12).toNat) from List.length_drop] <;> rfl) | (simp only [hji12]; rfl) | rfl | (simp only [List.length_drop, List.length_take]; rfl)) ?_
        with_reducible refine (slices_Clone_int_int.calls _ _ (l1.drop ((ji12) : Int).toNat) t118 _ ?side1 ?side2 A15.out).mono ?_
        (case side1 => exact (Kd.C_below HR117.out HB.out))
        (case side2 => exact HC117.out)
        rintro e w25 ⟨v119, rfl, ho0, hb⟩
        refine ⟨_, rfl, ?_⟩
        replace HO114 := Aside0.mk (Kd.V_elder' (by (with_reducible repeat (first | apply Kd.V_alloc | apply Kd.V_drewN | apply Kd.V_drew)); exact HO114.out) (Kd.R_base ho0) hb)
        replace HO120 := Aside0.mk (Kd.R_lower (Kd.R_new' (Kd.R_newM (M := fun k_ => (w.heap.size ≤ k_)) ho0 (below_size (by repeat (with_reducible first | exact HB.out | apply below_alloc | apply pw_below_drewN | apply below_drew1 | refine below_set ?_ GE106.out))) (fun k_ h_ => h_)) (Kd.R_lt (HO111.out))) (below_size (by repeat (with_reducible first | exact HB.out | apply below_alloc | apply pw_below_drewN | apply below_drew1 | refine below_set ?_ GE106.out))))
        replace HO111 := Aside0.mk (Kd.R_elder' (HO111.out) (Kd.R_base ho0) hb)
        replace BK106 := Aside0.mk (blk_below (g := gb106) (o := .cells #[.int .i64 0, .int .i64 0, .slice none 0 0] 40 (0, 0)) (by exact BK106.out) hb)
        replace HB := Aside0.mk (below_step (by repeat (with_reducible first | exact HB.out | apply below_alloc | apply pw_below_drewN | apply below_drew1 | refine below_set ?_ GE106.out)) hb)
        (try clear hb)
        (try clear hb2)
        (try clear hk)
        (try clear hi)
        (try clear ho0)
        obtain ⟨Ao26, co26, eo26⟩ := Kd.R_slice HO120.out
        (first | subst eo26 | (injection eo26 with f1_ f2_ f3_; have f4_ := f1_.symm; have f5_ := f3_.symm; clear f1_ f2_ f3_; subst f4_; subst f5_))
        refine hK.out _ _ ⟨((HB.out.cell (World.block_lt_of_cell? w _ hw115_0)).trans hw115_0), ((HB.out.cell (World.block_lt_of_cell? w _ hw116_0)).trans hw116_0)⟩ (fun hHeld => ?_)
        clear hK K
        refine norm_ (a' := ?_) ?_ ?_
        rotate_left
        ·show Act.put _ (some 27) _ = _
         simp only [Act.put, List.setIfInBounds_toArray, List.set_cons_zero, List.set_cons_succ, i64_w, i32_w]
         rfl
        refine one_ (i := 19) (N := some 28) (bs 23 1048575) rfl rfl (one_of HT_.out (by kernel_rfl)) (by decide) (fun K hK => ?_)
        refine goes_ Tryz.func62 (by kernel_rfl) rfl #[.slice Ao26 t118.length co26] (by rfl) rfl rfl (by (try simp only [List.map_toArray, List.map_cons, List.map_nil]); first | done | rfl | (simp only [List.length_drop, List.length_take]; rfl)) ?_
        with_reducible refine (slices_Clip_int_int.calls (fun k_ => some k_ = (.slice Ao26 t118.length co26 : Value).ownBlock) _ _ t118 t121 _ ?side1 A16.out).mono ?_
        (case side1 => exact Kd.R_V (Kd.R_tight rfl (Kd.R_types (HO120.out) BK106.out (by decide))))
        rintro e w27 ⟨v122, rfl, ho0, hb⟩
        refine ⟨_, rfl, ?_⟩
        replace HO114 := Aside0.mk (Kd.V_below (by (with_reducible repeat (first | apply Kd.V_alloc | apply Kd.V_drewN | apply Kd.V_drew)); exact HO114.out) hb)
        replace HO123 := Aside0.mk (Kd.V_lower (Kd.V_mono (ok' := fun k_ => (w.heap.size ≤ k_) ∧ some k_ ≠ (.slice Ao23 t109.length co23 : Value).ownBlock ∧ k_ ≠ gb106) ho0 (fun k_ hk_ => ⟨Or.elim hk_ (fun hs_ => ((Kd.R_types (HO120.out) BK106.out (by decide)).1 k_ hs_.symm).1.1.1) (fun hn_ => (Nat.le_trans (below_size (by repeat (with_reducible first | exact HB.out | apply below_alloc | apply pw_below_drewN | apply below_drew1 | refine below_set ?_ GE106.out))) hn_)), Or.elim hk_ (fun hs_ => ((Kd.R_types (HO120.out) BK106.out (by decide)).1 k_ hs_.symm).1.2) (fun hn_ => (Kd.fresh' (Kd.R_lt (HO111.out)) k_ hn_)), Or.elim hk_ (fun hs_ => ((Kd.R_types (HO120.out) BK106.out (by decide)).1 k_ hs_.symm).2) (fun hn_ => (Kd.freshB (g := gb106) (o := .cells #[.int .i64 0, .int .i64 0, .slice none 0 0] 40 (0, 0)) (by exact BK106.out) k_ hn_))⟩)) (below_size (by repeat (with_reducible first | exact HB.out | apply below_alloc | apply pw_below_drewN | apply below_drew1 | refine below_set ?_ GE106.out))))
        replace HO111 := Aside0.mk (Kd.R_below (HO111.out) hb)
        replace HO120 := Aside0.mk (Kd.R_below (HO120.out) hb)
        replace BK106 := Aside0.mk (blk_below (g := gb106) (o := .cells #[.int .i64 0, .int .i64 0, .slice none 0 0] 40 (0, 0)) (by exact BK106.out) hb)
        replace HB := Aside0.mk (below_step (by repeat (with_reducible first | exact HB.out | apply below_alloc | apply pw_below_drewN | apply below_drew1 | refine below_set ?_ GE106.out)) hb)
        (try clear hb)
        (try clear hb2)
        (try clear hk)
        (try clear hi)
        (try clear ho0)
        obtain ⟨Ao28, co28, eo28⟩ := Kd.V_slice HO123.out
        (first | subst eo28 | (injection eo28 with f1_ f2_ f3_; have f4_ := f1_.symm; have f5_ := f3_.symm; clear f1_ f2_ f3_; subst f4_; subst f5_))
        refine hK.out _ _ ⟨((HB.out.cell (World.block_lt_of_cell? w _ hw115_0)).trans hw115_0), ((HB.out.cell (World.block_lt_of_cell? w _ hw116_0)).trans hw116_0)⟩ (fun hHeld => ?_)
        clear hK K
        refine norm_ (a' := ?_) ?_ ?_
        rotate_left
        ·show Act.put _ (some 28) _ = _
         simp only [Act.put, List.setIfInBounds_toArray, List.set_cons_zero, List.set_cons_succ, i64_w, i32_w]
         rfl
        refine pZ 20 (some 29) (bs 23 2097151) rfl rfl (any_of HT_.out (by kernel_rfl)) ?_
        refine pZ 21 (some 4) (bs 23 4194303) rfl rfl (any_of HT_.out (by kernel_rfl)) ?_
        refine one_ (i := 22) (N := none) (bs 23 8388607) rfl rfl (one_of HT_.out (by kernel_rfl)) (by decide) (fun K hK => ?_)
        have hs29 : w27.cell? ⟨gb106, 0, none⟩ = some (.int .i64 0) := (blk_cell BK106.out 0).trans rfl
        have hfs29 := blk_frozen BK106.out 0
        have hs30 : w27.cell? ⟨gb106, 1, none⟩ = some (.int .i64 0) := (blk_cell BK106.out 1).trans rfl
        have hfs30 := blk_frozen BK106.out 1
        have hs31 : w27.cell? ⟨gb106, 2, none⟩ = some (.slice none 0 0) := (blk_cell BK106.out 2).trans rfl
        have hfs31 := blk_frozen BK106.out 2
        refine skip_ (w1 := ?_) (by rfl) rfl ?_ ?_
        rotate_left
        ·go_simp
         rfl
        refine hK.out _ _ ⟨((cell_far (p := ⟨gb106, _, none⟩) (by first | exact Nat.ne_of_lt (Nat.lt_of_lt_of_le (by have := World.block_lt_of_cell? _ _ hw115_0; first | rwa [add_block] at this | exact this) GW106.out) | (rw [add_block]; exact Nat.ne_of_lt (Nat.lt_of_lt_of_le (by have := World.block_lt_of_cell? _ _ hw115_0; first | rwa [add_block] at this | exact this) GW106.out)) | (show (Addr.add _ _).block ≠ _; rw [add_block]; exact Nat.ne_of_lt (Nat.lt_of_lt_of_le (by have := World.block_lt_of_cell? _ _ hw115_0; first | rwa [add_block] at this | exact this) GW106.out)) | (dsimp only; exact Nat.ne_of_lt (Nat.lt_of_lt_of_le (by have := World.block_lt_of_cell? _ _ hw115_0; first | rwa [add_block] at this | exact this) GW106.out))) _).trans (((cell_far (p := ⟨gb106, _, none⟩) (by first | exact Nat.ne_of_lt (Nat.lt_of_lt_of_le (by have := World.block_lt_of_cell? _ _ hw115_0; first | rwa [add_block] at this | exact this) GW106.out) | (rw [add_block]; exact Nat.ne_of_lt (Nat.lt_of_lt_of_le (by have := World.block_lt_of_cell? _ _ hw115_0; first | rwa [add_block] at this | exact this) GW106.out)) | (show (Addr.add _ _).block ≠ _; rw [add_block]; exact Nat.ne_of_lt (Nat.lt_of_lt_of_le (by have := World.block_lt_of_cell? _ _ hw115_0; first | rwa [add_block] at this | exact this) GW106.out)) | (dsimp only; exact Nat.ne_of_lt (Nat.lt_of_lt_of_le (by have := World.block_lt_of_cell? _ _ hw115_0; first | rwa [add_block] at this | exact this) GW106.out))) _).trans (((cell_far (p := ⟨gb106, _, none⟩) (by first | exact Nat.ne_of_lt (Nat.lt_of_lt_of_le (by have := World.block_lt_of_cell? _ _ hw115_0; first | rwa [add_block] at this | exact this) GW106.out) | (rw [add_block]; exact Nat.ne_of_lt (Nat.lt_of_lt_of_le (by have := World.block_lt_of_cell? _ _ hw115_0; first | rwa [add_block] at this | exact this) GW106.out)) | (show (Addr.add _ _).block ≠ _; rw [add_block]; exact Nat.ne_of_lt (Nat.lt_of_lt_of_le (by have := World.block_lt_of_cell? _ _ hw115_0; first | rwa [add_block] at this | exact this) GW106.out)) | (dsimp only; exact Nat.ne_of_lt (Nat.lt_of_lt_of_le (by have := World.block_lt_of_cell? _ _ hw115_0; first | rwa [add_block] at this | exact this) GW106.out))) _).trans (hHeld.1)))))), ((cell_far (p := ⟨gb106, _, none⟩) (by first | exact Nat.ne_of_lt (Nat.lt_of_lt_of_le (by have := World.block_lt_of_cell? _ _ hw116_0; first | rwa [add_block] at this | exact this) GW106.out) | (rw [add_block]; exact Nat.ne_of_lt (Nat.lt_of_lt_of_le (by have := World.block_lt_of_cell? _ _ hw116_0; first | rwa [add_block] at this | exact this) GW106.out)) | (show (Addr.add _ _).block ≠ _; rw [add_block]; exact Nat.ne_of_lt (Nat.lt_of_lt_of_le (by have := World.block_lt_of_cell? _ _ hw116_0; first | rwa [add_block] at this | exact this) GW106.out)) | (dsimp only; exact Nat.ne_of_lt (Nat.lt_of_lt_of_le (by have := World.block_lt_of_cell? _ _ hw116_0; first | rwa [add_block] at this | exact this) GW106.out))) _).trans (((cell_far (p := ⟨gb106, _, none⟩) (by first | exact Nat.ne_of_lt (Nat.lt_of_lt_of_le (by have := World.block_lt_of_cell? _ _ hw116_0; first | rwa [add_block] at this | exact this) GW106.out) | (rw [add_block]; exact Nat.ne_of_lt (Nat.lt_of_lt_of_le (by have := World.block_lt_of_cell? _ _ hw116_0; first | rwa [add_block] at this | exact this) GW106.out)) | (show (Addr.add _ _).block ≠ _; rw [add_block]; exact Nat.ne_of_lt (Nat.lt_of_lt_of_le (by have := World.block_lt_of_cell? _ _ hw116_0; first | rwa [add_block] at this | exact this) GW106.out)) | (dsimp only; exact Nat.ne_of_lt (Nat.lt_of_lt_of_le (by have := World.block_lt_of_cell? _ _ hw116_0; first | rwa [add_block] at this | exact this) GW106.out))) _).trans (((cell_far (p := ⟨gb106, _, none⟩) (by first | exact Nat.ne_of_lt (Nat.lt_of_lt_of_le (by have := World.block_lt_of_cell? _ _ hw116_0; first | rwa [add_block] at this | exact this) GW106.out) | (rw [add_block]; exact Nat.ne_of_lt (Nat.lt_of_lt_of_le (by have := World.block_lt_of_cell? _ _ hw116_0; first | rwa [add_block] at this | exact this) GW106.out)) | (show (Addr.add _ _).block ≠ _; rw [add_block]; exact Nat.ne_of_lt (Nat.lt_of_lt_of_le (by have := World.block_lt_of_cell? _ _ hw116_0; first | rwa [add_block] at this | exact this) GW106.out)) | (dsimp only; exact Nat.ne_of_lt (Nat.lt_of_lt_of_le (by have := World.block_lt_of_cell? _ _ hw116_0; first | rwa [add_block] at this | exact this) GW106.out))) _).trans (hHeld.2))))))⟩ (fun hHeld => ?_)
        clear hK K
        refine done_ (done_of HT_.out (by kernel_rfl)) ?_
        try go_wp2
        refine bodyPost_ret (results_tc rfl _ _ gb106 40 #[.int .i64 (rd l1 t107), .int .i64 (rd l1 (ji9)), .slice Ao28 t121.length co28] (0, 0) _ rfl (by refine blk_put (cs := #[.int .i64 (rd l1 t107), .int .i64 (rd l1 (ji9)), .slice none 0 0]) ?_ 2 _ rfl; refine blk_put (cs := #[.int .i64 (rd l1 t107), .int .i64 0, .slice none 0 0]) ?_ 1 _ rfl; refine blk_put (cs := #[.int .i64 0, .int .i64 0, .slice none 0 0]) ?_ 0 _ rfl; exact BK106.out) Tryz.underlying40 rfl (by kernel_rfl)) rfl ?_
        exact ⟨_, _, by first | rfl | (simp [errW_none, errW_some] <;> rfl) | (simp only [← hji9, ← hji12]; first | rfl | (simp [errW_none, errW_some] <;> rfl)) | (simp [*, errW_none, errW_some] <;> rfl), by (with_reducible repeat (first | apply Kd.V_alloc | apply Kd.V_drewN | apply Kd.V_drew)); exact Kd.V_mono (Kd.V_far (p := ⟨gb106, 2, none⟩) (Kd.V_far (p := ⟨gb106, 1, none⟩) (Kd.V_far (p := ⟨gb106, 0, none⟩) (Kd.V_mono HO114.out (fun k_ hk => (⟨hk, hk.1.2⟩ : _ ∧ k_ ≠ gb106))) (fun _ hk => hk.2) (.int .i64 (rd l1 t107))) (fun _ hk => hk.2) (.int .i64 (rd l1 (ji9)))) (fun _ hk => hk.2) (.slice Ao28 t121.length co28)) (fun _ hk => hk.1.1.1), by (with_reducible repeat (first | apply Kd.V_alloc | apply Kd.V_drewN | apply Kd.V_drew)); exact Kd.V_mono (Kd.V_far (p := ⟨gb106, 2, none⟩) (Kd.V_far (p := ⟨gb106, 1, none⟩) (Kd.V_far (p := ⟨gb106, 0, none⟩) (Kd.V_mono HO123.out (fun k_ hk => (⟨hk, hk.2.2⟩ : _ ∧ k_ ≠ gb106))) (fun _ hk => hk.2) (.int .i64 (rd l1 t107))) (fun _ hk => hk.2) (.int .i64 (rd l1 (ji9)))) (fun _ hk => hk.2) (.slice Ao28 t121.length co28)) (fun _ hk => hk.1.1), by repeat (with_reducible first | exact HB.out | apply below_alloc | apply pw_below_drewN | apply below_drew1 | refine below_set ?_ GE106.out)⟩
       ·rw [if_neg c14] at H
        exact absurd H (by simp)
      ·rw [if_neg c13] at H
       exact absurd H (by simp)
     ·rw [if_neg c11] at H
      exact absurd H (by simp)
    ·rw [if_neg c10] at H
     exact absurd H (by simp)
   ·rw [if_neg c8] at H
    exact absurd H (by simp)
  ·rw [if_neg c5] at H
   exact absurd H (by simp)
 ·rw [if_neg c4] at H
  exact absurd H (by simp)
def impl_ProofCut.f (a0 : Int) (l1 : List Int) : Option (List Int × Int × Int × List Int × Bool) := (impl_ProofLen.f a0).bind fun t125 => ((impl_sized.f a0 l1 t125).bind fun t126 => (if t126 = true then ((impl_cut.f a0 l1).bind fun bt127 => (some (bt127.1, bt127.2.1, bt127.2.2.1, bt127.2.2.2, true))) else (some (([] : List Int), 0, 0, ([] : List Int), false))))
set_option maxHeartbeats 8000000 in
set_option maxRecDepth 100000 in
theorem impl_ProofCut.calls (a0 : Int) (A1 : Option Addr) (c1 : Nat) (l1 : List Int) (r1 : List Int) (r2 : Int) (r3 : Int) (r4 : List Int) (r5 : Bool) (w : World) (hr1 : Kd.C (Kd.int .i64) w A1 l1.length l1) (hc1 : l1.length ≤ c1) (h : impl_ProofCut.f a0 l1 = some (r1, r2, r3, r4, r5)) :
  Calls Tryz.prog 23 #[.int .i64 a0, .slice A1 l1.length c1] w fun e w' => ∃ v0_ v3_ : Value, e = .returned (.tuple #[v0_, .agg #[.int .i64 r2, .int .i64 r3, v3_], .bool r5]) ∧ Kd.V (Kd.int .i64) 3 w' w.heap.size (fun k_ => (w.heap.size ≤ k_)) v0_ r1 ∧ Kd.V (Kd.int .i64) 3 w' w.heap.size (fun k_ => (w.heap.size ≤ k_)) v3_ r4 ∧ Below w.heap.size w w' := by
 have hu40 := Tryz.underlying40
 have HR1 := Aside0.mk hr1
 have HC1 := Aside0.mk hc1
 clear hr1 hc1
 have HB := Aside0.mk (Below.refl w.heap.size w)
 have H := h
 unfold impl_ProofCut.f at H
 clear h
 replace H := bnd H
 obtain ⟨t125, A3, H⟩ := H
 replace H := bnd H
 obtain ⟨t126, A4, H⟩ := H
 by_cases c5 : t126 = true
 ·subst c5
  rw [if_pos rfl] at H
  replace H := bnd H
  obtain ⟨⟨t127, t130, t131, t132⟩, A6, H⟩ := H
  dsimp only at H
  simp only [Option.some.injEq, Prod.mk.injEq] at H
  obtain ⟨rfl, rfl, rfl, rfl, rfl⟩ := H
  go_enter Tryz.func23, Tryz.ntmps23
  try go_wp2_with (first | ((with_reducible refine gate_dst (N := 5) rfl ?_); refine box_event ?hg (N := 5) ?hd (cs := #[.int .i64 0, .int .i64 0, .slice none 0 0]) (t := 40) ?hr ?_; (case hd => rfl); (case hg => rfl); (case hr => first | (go_simp; done) | (go_simp; rfl)); intro gb124 hg w7 hbox hb; replace BK124 := Aside0.mk (hbox); replace GW124 := Aside0.mk ((by rw [hg]; exact (below_size (by repeat (with_reducible first | exact HB.out | apply below_alloc | apply pw_below_drewN | apply below_drew1))) : w.heap.size ≤ gb124)); replace GE124 := Aside0.mk ((by rw [hg]; exact (below_size (by repeat (with_reducible first | exact HB.out | apply below_alloc | apply pw_below_drewN | apply below_drew1))) : w.heap.size ≤ gb124)); replace HB := Aside0.mk (below_step (by repeat (with_reducible first | exact HB.out | apply below_alloc | apply pw_below_drewN | apply below_drew1)) hb); clear hb hbox hg) | (refine gsC c52x2 (impl_ProofLen.calls a0 t125 _ A3.out) ?_; rintro e w8 ⟨rfl, hb⟩; refine ⟨_, rfl, ?_⟩; replace BK124 := Aside0.mk (blk_below (g := gb124) (o := .cells #[.int .i64 0, .int .i64 0, .slice none 0 0] 40 (0, 0)) (by exact BK124.out) hb); replace HB := Aside0.mk (below_step (by repeat (with_reducible first | exact HB.out | apply below_alloc | apply pw_below_drewN | apply below_drew1 | refine below_set ?_ GE124.out)) hb); clear hb) | ((with_reducible refine gate_callee (f := 51) rfl ?_); refine goesL_ (some 13) rfl rfl Tryz.func51 (by kernel_rfl) rfl #[.int .i64 a0, .slice A1 l1.length c1, .int .i64 t125] rfl (by (try simp only [List.map_toArray, List.map_cons, List.map_nil]); first | done | rfl | (simp only [List.length_drop, List.length_take]; rfl)) ?_; (with_reducible refine (impl_sized.calls a0 _ _ l1 t125 true _ ?side1 ?side2 A4.out).mono ?_); (case side1 => exact (Kd.C_below HR1.out HB.out)); (case side2 => exact HC1.out); rintro e w' ⟨rfl, ⟨nd, rfl⟩⟩; refine ⟨_, rfl, ?_⟩; (try (rw [drewN_self w8]; generalize hq_ : World.drewN w8 _ = w8; have n0_ : Aside0 (w8.heap[gb124]? = some (.cells #[.int .i64 0, .int .i64 0, .slice none 0 0] 40 (0, 0))) := ⟨by rw [← hq_]; exact (by exact BK124.out)⟩; have n1_ : Aside0 (Below w.heap.size w w8) := ⟨by rw [← hq_]; exact (by repeat (with_reducible first | exact HB.out | apply below_alloc | apply pw_below_drewN | apply below_drew1 | refine below_set ?_ GE124.out))⟩; clear BK124 HB hq_; have BK124 := n0_; have HB := n1_; clear n0_ n1_))) | ((with_reducible refine gate_callee (f := 64) rfl ?_); refine goesL_ (some 19) rfl rfl Tryz.func64 (by kernel_rfl) rfl #[.int .i64 a0, .slice A1 l1.length c1] rfl (by (try simp only [List.map_toArray, List.map_cons, List.map_nil]); first | done | rfl | (simp only [List.length_drop, List.length_take]; rfl)) ?_; (with_reducible refine (impl_cut.calls a0 _ _ l1 t127 t130 t131 t132 _ ?side1 ?side2 A6.out).mono ?_); (case side1 => exact (Kd.C_below HR1.out HB.out)); (case side2 => exact HC1.out); rintro e w9 ⟨v128, v133, rfl, ho0, ho1, hb⟩; refine ⟨_, rfl, ?_⟩; replace HO129 := Aside0.mk (Kd.V_lower (Kd.V_mono (ok' := fun k_ => (w.heap.size ≤ k_) ∧ k_ ≠ gb124) ho0 (fun k_ hk_ => ⟨(Nat.le_trans (below_size (by repeat (with_reducible first | exact HB.out | apply below_alloc | apply pw_below_drewN | apply below_drew1 | refine below_set ?_ GE124.out))) hk_), (Kd.freshB (g := gb124) (o := .cells #[.int .i64 0, .int .i64 0, .slice none 0 0] 40 (0, 0)) (by exact BK124.out) k_ hk_)⟩)) (below_size (by repeat (with_reducible first | exact HB.out | apply below_alloc | apply pw_below_drewN | apply below_drew1 | refine below_set ?_ GE124.out)))); replace HO134 := Aside0.mk (Kd.V_lower (Kd.V_mono (ok' := fun k_ => (w.heap.size ≤ k_) ∧ k_ ≠ gb124) ho1 (fun k_ hk_ => ⟨(Nat.le_trans (below_size (by repeat (with_reducible first | exact HB.out | apply below_alloc | apply pw_below_drewN | apply below_drew1 | refine below_set ?_ GE124.out))) hk_), (Kd.freshB (g := gb124) (o := .cells #[.int .i64 0, .int .i64 0, .slice none 0 0] 40 (0, 0)) (by exact BK124.out) k_ hk_)⟩)) (below_size (by repeat (with_reducible first | exact HB.out | apply below_alloc | apply pw_below_drewN | apply below_drew1 | refine below_set ?_ GE124.out)))); replace BK124 := Aside0.mk (blk_below (g := gb124) (o := .cells #[.int .i64 0, .int .i64 0, .slice none 0 0] 40 (0, 0)) (by exact BK124.out) hb); replace HB := Aside0.mk (below_step (by repeat (with_reducible first | exact HB.out | apply below_alloc | apply pw_below_drewN | apply below_drew1 | refine below_set ?_ GE124.out)) hb); clear hb ho0 ho1) | ((with_reducible refine gate_dst (N := 8) rfl ?_); refine box_event ?hg (N := 8) ?hd (cs := #[.int .i64 0, .int .i64 0, .slice none 0 0]) (t := 40) ?hr ?_; (case hd => rfl); (case hg => rfl); (case hr => first | (go_simp; done) | (go_simp; rfl)); intro gb135 hg w10 hbox hb; replace HO129 := Aside0.mk (Kd.V_below (Kd.V_elderB (by (with_reducible repeat (first | apply Kd.V_alloc | apply Kd.V_drewN | apply Kd.V_drew)); exact HO129.out) gb135 (Nat.le_of_eq hg.symm)) hb); replace HO134 := Aside0.mk (Kd.V_below (Kd.V_elderB (by (with_reducible repeat (first | apply Kd.V_alloc | apply Kd.V_drewN | apply Kd.V_drew)); exact HO134.out) gb135 (Nat.le_of_eq hg.symm)) hb); replace BK135 := Aside0.mk (hbox); replace GW135 := Aside0.mk ((by rw [hg]; exact (below_size (by repeat (with_reducible first | exact HB.out | apply below_alloc | apply pw_below_drewN | apply below_drew1 | refine below_set ?_ GE124.out))) : w.heap.size ≤ gb135)); replace GE135 := Aside0.mk ((by rw [hg]; exact (below_size (by repeat (with_reducible first | exact HB.out | apply below_alloc | apply pw_below_drewN | apply below_drew1 | refine below_set ?_ GE124.out))) : w.heap.size ≤ gb135)); replace HB := Aside0.mk (below_step (by repeat (with_reducible first | exact HB.out | apply below_alloc | apply pw_below_drewN | apply below_drew1 | refine below_set ?_ GE124.out)) hb); replace NB124_135 := Aside0.mk ((by rw [hg]; exact Nat.ne_of_lt (blk_lt (g := gb124) (o := .cells #[.int .i64 0, .int .i64 0, .slice none 0 0] 40 (0, 0)) (by exact BK124.out)) : gb124 ≠ gb135)); replace NB135_124 := Aside0.mk ((by rw [hg]; exact Nat.ne_of_gt (blk_lt (g := gb124) (o := .cells #[.int .i64 0, .int .i64 0, .slice none 0 0] 40 (0, 0)) (by exact BK124.out)) : gb135 ≠ gb124)); replace BK124 := Aside0.mk (blk_below (g := gb124) (o := .cells #[.int .i64 0, .int .i64 0, .slice none 0 0] 40 (0, 0)) (by exact BK124.out) hb); clear hb hbox hg; have hnb11 := NB135_124.out; have hnc11 := NB124_135.out; have hcz12_0 : w10.cell? ⟨gb135, 0, none⟩ = some (.int .i64 0) := (blk_cell BK135.out 0).trans rfl; have hcz12_1 : w10.cell? ⟨gb135, 1, none⟩ = some (.int .i64 0) := (blk_cell BK135.out 1).trans rfl; have hcz12_2 : w10.cell? ⟨gb135, 2, none⟩ = some (.slice none 0 0) := (blk_cell BK135.out 2).trans rfl; have hfz12_0 := blk_frozen BK135.out 0; have hfz12_1 := blk_frozen BK135.out 1; have hfz12_2 := blk_frozen BK135.out 2; obtain ⟨Ao13, co13, eo13⟩ := Kd.V_slice HO134.out; subst eo13))
  replace HO129 : Aside0 (Kd.V (Kd.int .i64) 3 (((w10.setCell ⟨gb135, 0, none⟩ (.int .i64 t130)).setCell ⟨gb135, 1, none⟩ (.int .i64 t131)).setCell ⟨gb135, 2, none⟩ (.slice Ao13 t132.length co13)) w.heap.size (fun k_ => (w.heap.size ≤ k_) ∧ k_ ≠ gb124 ∧ k_ ≠ gb135) v128 t127) := ⟨by (with_reducible repeat (first | apply Kd.V_alloc | apply Kd.V_drewN | apply Kd.V_drew)); exact Kd.V_mono (Kd.V_far (p := ⟨gb135, 2, none⟩) (Kd.V_far (p := ⟨gb135, 1, none⟩) (Kd.V_far (p := ⟨gb135, 0, none⟩) (Kd.V_mono HO129.out (fun k_ hk => (⟨hk, hk.2⟩ : _ ∧ k_ ≠ gb135))) (fun _ hk => hk.2) (.int .i64 t130)) (fun _ hk => hk.2) (.int .i64 t131)) (fun _ hk => hk.2) (.slice Ao13 t132.length co13)) (fun _ hk => ⟨hk.1.1.1, ⟨hk.1.1.2, hk.1.2⟩⟩)⟩
  replace HO134 : Aside0 (Kd.V (Kd.int .i64) 3 (((w10.setCell ⟨gb135, 0, none⟩ (.int .i64 t130)).setCell ⟨gb135, 1, none⟩ (.int .i64 t131)).setCell ⟨gb135, 2, none⟩ (.slice Ao13 t132.length co13)) w.heap.size (fun k_ => (w.heap.size ≤ k_) ∧ k_ ≠ gb124 ∧ k_ ≠ gb135) (.slice Ao13 t132.length co13) t132) := ⟨by (with_reducible repeat (first | apply Kd.V_alloc | apply Kd.V_drewN | apply Kd.V_drew)); exact Kd.V_mono (Kd.V_far (p := ⟨gb135, 2, none⟩) (Kd.V_far (p := ⟨gb135, 1, none⟩) (Kd.V_far (p := ⟨gb135, 0, none⟩) (Kd.V_mono HO134.out (fun k_ hk => (⟨hk, hk.2⟩ : _ ∧ k_ ≠ gb135))) (fun _ hk => hk.2) (.int .i64 t130)) (fun _ hk => hk.2) (.int .i64 t131)) (fun _ hk => hk.2) (.slice Ao13 t132.length co13)) (fun _ hk => ⟨hk.1.1.1, ⟨hk.1.1.2, hk.1.2⟩⟩)⟩
  replace BK124 : Aside0 ((((w10.setCell ⟨gb135, 0, none⟩ (.int .i64 t130)).setCell ⟨gb135, 1, none⟩ (.int .i64 t131)).setCell ⟨gb135, 2, none⟩ (.slice Ao13 t132.length co13)).heap[gb124]? = some (.cells #[.int .i64 0, .int .i64 0, .slice none 0 0] 40 (0, 0))) := ⟨by refine blk_far ?_ NB124_135.out _; refine blk_far ?_ NB124_135.out _; refine blk_far ?_ NB124_135.out _; exact BK124.out⟩
  replace BK135 : Aside0 ((((w10.setCell ⟨gb135, 0, none⟩ (.int .i64 t130)).setCell ⟨gb135, 1, none⟩ (.int .i64 t131)).setCell ⟨gb135, 2, none⟩ (.slice Ao13 t132.length co13)).heap[gb135]? = some (.cells #[.int .i64 t130, .int .i64 t131, .slice Ao13 t132.length co13] 40 (0, 0))) := ⟨by refine blk_put (cs := #[.int .i64 t130, .int .i64 t131, .slice none 0 0]) ?_ 2 _ rfl; refine blk_put (cs := #[.int .i64 t130, .int .i64 0, .slice none 0 0]) ?_ 1 _ rfl; refine blk_put (cs := #[.int .i64 0, .int .i64 0, .slice none 0 0]) ?_ 0 _ rfl; exact BK135.out⟩
  replace HB : Aside0 (Below w.heap.size w (((w10.setCell ⟨gb135, 0, none⟩ (.int .i64 t130)).setCell ⟨gb135, 1, none⟩ (.int .i64 t131)).setCell ⟨gb135, 2, none⟩ (.slice Ao13 t132.length co13))) := ⟨by repeat (with_reducible first | exact HB.out | apply below_alloc | apply pw_below_drewN | apply below_drew1 | refine below_set ?_ GE124.out | refine below_set ?_ GE135.out)⟩
  generalize (((w10.setCell ⟨gb135, 0, none⟩ (.int .i64 t130)).setCell ⟨gb135, 1, none⟩ (.int .i64 t131)).setCell ⟨gb135, 2, none⟩ (.slice Ao13 t132.length co13)) = w14 at HO129 HO134 BK124 BK135 HB ⊢
  replace HO129 := Aside0.mk (Kd.V_drew HO129.out)
  replace HO134 := Aside0.mk (Kd.V_drew HO134.out)
  replace BK124 := Aside0.mk (blk_drew BK124.out)
  replace BK135 := Aside0.mk (blk_drew BK135.out)
  replace HB := Aside0.mk (below_drew1 HB.out)
  refine start_ (n := 5) (S := fun w' => w'.cell? ⟨gb135, 0, none⟩ = some (.int .i64 t130) ∧ w'.cell? ⟨gb135, 1, none⟩ = some (.int .i64 t131) ∧ w'.cell? ⟨gb135, 2, none⟩ = some (.slice Ao13 t132.length co13)) (ds := []) (bs 5 0) (by kernel_rfl) rfl rfl ⟨(blk_cell BK135.out 0).trans rfl, (blk_cell BK135.out 1).trans rfl, (blk_cell BK135.out 2).trans rfl⟩ (fun hHeld => ?_)
  generalize w14.drew = w15 at HO129 HO134 BK124 BK135 HB hHeld ⊢
  refine pZ 0 (some 22) (bs 5 1) rfl rfl (by kernel_rfl) ?_
  refine pZ 2 (some 4) (bs 5 5) rfl rfl (by kernel_rfl) ?_
  refine tZ 1 (some 23) (bs 5 7) rfl rfl (by kernel_rfl) hHeld (by rintro w' ⟨s0, s1, s2⟩; go_simp; with_reducible rfl) ?_
  refine one_ (i := 3) (N := none) (bs 5 15) rfl rfl (by kernel_rfl) (by decide) (fun K hK => ?_)
  have hs16 : w15.cell? ⟨gb124, 0, none⟩ = some (.int .i64 0) := (blk_cell BK124.out 0).trans rfl
  have hfs16 := blk_frozen BK124.out 0
  have hns16_1 := NB135_124.out
  have hms16_1 := NB124_135.out
  have hs17 : w15.cell? ⟨gb124, 1, none⟩ = some (.int .i64 0) := (blk_cell BK124.out 1).trans rfl
  have hfs17 := blk_frozen BK124.out 1
  have hns17_1 := NB135_124.out
  have hms17_1 := NB124_135.out
  have hs18 : w15.cell? ⟨gb124, 2, none⟩ = some (.slice none 0 0) := (blk_cell BK124.out 2).trans rfl
  have hfs18 := blk_frozen BK124.out 2
  have hns18_1 := NB135_124.out
  have hms18_1 := NB124_135.out
  refine skip_ (w1 := ?_) (by rfl) rfl ?_ ?_
  rotate_left
  ·go_simp
   rfl
  refine hK.out _ _ ⟨((cell_far (p := ⟨gb124, _, none⟩) NB135_124.out _).trans (((cell_far (p := ⟨gb124, _, none⟩) NB135_124.out _).trans (((cell_far (p := ⟨gb124, _, none⟩) NB135_124.out _).trans (hHeld.1)))))), ((cell_far (p := ⟨gb124, _, none⟩) NB135_124.out _).trans (((cell_far (p := ⟨gb124, _, none⟩) NB135_124.out _).trans (((cell_far (p := ⟨gb124, _, none⟩) NB135_124.out _).trans (hHeld.2.1)))))), ((cell_far (p := ⟨gb124, _, none⟩) NB135_124.out _).trans (((cell_far (p := ⟨gb124, _, none⟩) NB135_124.out _).trans (((cell_far (p := ⟨gb124, _, none⟩) NB135_124.out _).trans (hHeld.2.2))))))⟩ (fun hHeld => ?_)
  clear hK K
  refine pZ 4 (some 6) (bs 5 31) rfl rfl (by kernel_rfl) ?_
  refine done_ (by kernel_rfl) ?_
  try go_wp2
  refine bodyPost_ret (results_list (rs := [.tmp 4, .cell 5 40, .tmp 6]) rfl (by simp) (.tmp (.cell gb124 40 #[.int .i64 t130, .int .i64 t131, .slice Ao13 t132.length co13] (0, 0) _ rfl (by refine blk_put (cs := #[.int .i64 t130, .int .i64 t131, .slice none 0 0]) ?_ 2 _ rfl; refine blk_put (cs := #[.int .i64 t130, .int .i64 0, .slice none 0 0]) ?_ 1 _ rfl; refine blk_put (cs := #[.int .i64 0, .int .i64 0, .slice none 0 0]) ?_ 0 _ rfl; exact BK124.out) Tryz.underlying40 rfl (by kernel_rfl) (.tmp .nil)))) rfl ?_
  exact ⟨_, _, rfl, by (with_reducible repeat (first | apply Kd.V_alloc | apply Kd.V_drewN | apply Kd.V_drew)); exact Kd.V_mono (Kd.V_far (p := ⟨gb124, 2, none⟩) (Kd.V_far (p := ⟨gb124, 1, none⟩) (Kd.V_far (p := ⟨gb124, 0, none⟩) (Kd.V_mono HO129.out (fun k_ hk => (⟨hk, hk.2.1⟩ : _ ∧ k_ ≠ gb124))) (fun _ hk => hk.2) (.int .i64 t130)) (fun _ hk => hk.2) (.int .i64 t131)) (fun _ hk => hk.2) (.slice Ao13 t132.length co13)) (fun _ hk => hk.1.1), by (with_reducible repeat (first | apply Kd.V_alloc | apply Kd.V_drewN | apply Kd.V_drew)); exact Kd.V_mono (Kd.V_far (p := ⟨gb124, 2, none⟩) (Kd.V_far (p := ⟨gb124, 1, none⟩) (Kd.V_far (p := ⟨gb124, 0, none⟩) (Kd.V_mono HO134.out (fun k_ hk => (⟨hk, hk.2.1⟩ : _ ∧ k_ ≠ gb124))) (fun _ hk => hk.2) (.int .i64 t130)) (fun _ hk => hk.2) (.int .i64 t131)) (fun _ hk => hk.2) (.slice Ao13 t132.length co13)) (fun _ hk => hk.1.1), by repeat (with_reducible first | exact HB.out | apply below_alloc | apply pw_below_drewN | apply below_drew1 | refine below_set ?_ GE124.out | refine below_set ?_ GE135.out)⟩
 ·replace c5 := Bool.eq_false_iff.mpr c5
  subst c5
  rw [if_neg (show ¬ (false = true) by decide)] at H
  simp only [Option.some.injEq, Prod.mk.injEq] at H
  obtain ⟨rfl, rfl, rfl, rfl, rfl⟩ := H
  go_enter Tryz.func23, Tryz.ntmps23
  go_wp2_with (first | ((with_reducible refine gate_dst (N := 5) rfl ?_); refine box_event ?hg (N := 5) ?hd (cs := #[.int .i64 0, .int .i64 0, .slice none 0 0]) (t := 40) ?hr ?_; (case hd => rfl); (case hg => rfl); (case hr => first | (go_simp; done) | (go_simp; rfl)); intro gb124 hg w19 hbox hb; replace BK124 := Aside0.mk (hbox); replace GW124 := Aside0.mk ((by rw [hg]; exact (below_size (by repeat (with_reducible first | exact HB.out | apply below_alloc | apply pw_below_drewN | apply below_drew1))) : w.heap.size ≤ gb124)); replace GE124 := Aside0.mk ((by rw [hg]; exact (below_size (by repeat (with_reducible first | exact HB.out | apply below_alloc | apply pw_below_drewN | apply below_drew1))) : w.heap.size ≤ gb124)); replace HB := Aside0.mk (below_step (by repeat (with_reducible first | exact HB.out | apply below_alloc | apply pw_below_drewN | apply below_drew1)) hb); clear hb hbox hg) | (refine gsC c52x2 (impl_ProofLen.calls a0 t125 _ A3.out) ?_; rintro e w20 ⟨rfl, hb⟩; refine ⟨_, rfl, ?_⟩; replace BK124 := Aside0.mk (blk_below (g := gb124) (o := .cells #[.int .i64 0, .int .i64 0, .slice none 0 0] 40 (0, 0)) (by exact BK124.out) hb); replace HB := Aside0.mk (below_step (by repeat (with_reducible first | exact HB.out | apply below_alloc | apply pw_below_drewN | apply below_drew1 | refine below_set ?_ GE124.out)) hb); clear hb) | ((with_reducible refine gate_callee (f := 51) rfl ?_); refine goesL_ (some 13) rfl rfl Tryz.func51 (by kernel_rfl) rfl #[.int .i64 a0, .slice A1 l1.length c1, .int .i64 t125] rfl (by (try simp only [List.map_toArray, List.map_cons, List.map_nil]); first | done | rfl | (simp only [List.length_drop, List.length_take]; rfl)) ?_; (with_reducible refine (impl_sized.calls a0 _ _ l1 t125 false _ ?side1 ?side2 A4.out).mono ?_); (case side1 => exact (Kd.C_below HR1.out HB.out)); (case side2 => exact HC1.out); rintro e w' ⟨rfl, ⟨nd, rfl⟩⟩; refine ⟨_, rfl, ?_⟩; (try (rw [drewN_self w20]; generalize hq_ : World.drewN w20 _ = w20; have n0_ : Aside0 (w20.heap[gb124]? = some (.cells #[.int .i64 0, .int .i64 0, .slice none 0 0] 40 (0, 0))) := ⟨by rw [← hq_]; exact (by exact BK124.out)⟩; have n1_ : Aside0 (Below w.heap.size w w20) := ⟨by rw [← hq_]; exact (by repeat (with_reducible first | exact HB.out | apply below_alloc | apply pw_below_drewN | apply below_drew1 | refine below_set ?_ GE124.out))⟩; clear BK124 HB hq_; have BK124 := n0_; have HB := n1_; clear n0_ n1_)); have hcz21_0 : w20.cell? ⟨gb124, 0, none⟩ = some (.int .i64 0) := (blk_cell BK124.out 0).trans rfl; have hcz21_1 : w20.cell? ⟨gb124, 1, none⟩ = some (.int .i64 0) := (blk_cell BK124.out 1).trans rfl; have hcz21_2 : w20.cell? ⟨gb124, 2, none⟩ = some (.slice none 0 0) := (blk_cell BK124.out 2).trans rfl; have hfz21_0 := blk_frozen BK124.out 0; have hfz21_1 := blk_frozen BK124.out 1; have hfz21_2 := blk_frozen BK124.out 2))
  refine bodyPost_ret (results_list (rs := [.tmp 4, .cell 5 40, .tmp 6]) rfl (by simp) (.tmp (.cell gb124 40 #[.int .i64 0, .int .i64 0, .slice none 0 0] (0, 0) _ rfl (by refine blk_put (cs := #[.int .i64 0, .int .i64 0, .slice none 0 0]) ?_ 2 _ rfl; refine blk_put (cs := #[.int .i64 0, .int .i64 0, .slice none 0 0]) ?_ 1 _ rfl; refine blk_put (cs := #[.int .i64 0, .int .i64 0, .slice none 0 0]) ?_ 0 _ rfl; exact BK124.out) Tryz.underlying40 rfl (by kernel_rfl) (.tmp .nil)))) rfl ?_
  exact ⟨_, _, rfl, Kd.V_nil _ _ _ _ _, Kd.V_nil _ _ _ _ _, by repeat (with_reducible first | exact HB.out | apply below_alloc | apply pw_below_drewN | apply below_drew1 | refine below_set ?_ GE124.out)⟩
def impl_elementOf.f (a0 : Int) : Option (Int) := some (Int.tmod (wrap64 ((Int.tmod a0 31) + 31)) 31)
set_option maxHeartbeats 8000000 in
set_option maxRecDepth 100000 in
theorem impl_elementOf.calls (a0 : Int) (r : Int) (w : World) (h : impl_elementOf.f a0 = some r) :
  Calls Tryz.prog 95 #[.int .i64 a0] w fun e w' => e = .returned (.int .i64 r) ∧ Drawn0 w w' := by
 have H : (some (Int.tmod (wrap64 ((Int.tmod a0 31) + 31)) 31)) = some r := h
 clear h
 obtain rfl := Option.some.inj H
 go_enter Tryz.func95, Tryz.ntmps95
 go_wp2
 go_ret
 exact ⟨rfl, by repeat (first | exact Drawn0.refl _ | apply Drawn0.step)⟩
def impl_element_times.f (a0 : Int) (a1 : Int) : Option (Int) := (impl_elementOf.f (wrap64 (a0 * a1))).bind fun t136 => (some t136)
set_option maxHeartbeats 8000000 in
set_option maxRecDepth 100000 in
theorem impl_element_times.calls (a0 : Int) (a1 : Int) (r : Int) (w : World) (h : impl_element_times.f a0 a1 = some r) :
  Calls Tryz.prog 67 #[.int .i64 a0, .int .i64 a1] w fun e w' => e = .returned (.int .i64 r) ∧ Drawn0 w w' := by
 have H : ((impl_elementOf.f (wrap64 (a0 * a1))).bind fun t136 => (some t136)) = some r := h
 clear h
 replace H := bnd H
 obtain ⟨t136, A3, H⟩ := H
 obtain rfl := Option.some.inj H
 go_enter Tryz.func67, Tryz.ntmps67
 go_wp2_with (first | (refine gsD c95x2 (impl_elementOf.calls (wrap64 (a0 * a1)) t136 _ A3.out) ?_; intro nd))
 go_ret
 exact ⟨rfl, ⟨_, rfl⟩⟩
def impl_element_plus.f (a0 : Int) (a1 : Int) : Option (Int) := (impl_elementOf.f (wrap64 (a0 + a1))).bind fun t137 => (some t137)
set_option maxHeartbeats 8000000 in
set_option maxRecDepth 100000 in
theorem impl_element_plus.calls (a0 : Int) (a1 : Int) (r : Int) (w : World) (h : impl_element_plus.f a0 a1 = some r) :
  Calls Tryz.prog 70 #[.int .i64 a0, .int .i64 a1] w fun e w' => e = .returned (.int .i64 r) ∧ Drawn0 w w' := by
 have H : ((impl_elementOf.f (wrap64 (a0 + a1))).bind fun t137 => (some t137)) = some r := h
 clear h
 replace H := bnd H
 obtain ⟨t137, A3, H⟩ := H
 obtain rfl := Option.some.inj H
 go_enter Tryz.func70, Tryz.ntmps70
 go_wp2_with (first | (refine gsD c95x2 (impl_elementOf.calls (wrap64 (a0 + a1)) t137 _ A3.out) ?_; intro nd))
 go_ret
 exact ⟨rfl, ⟨_, rfl⟩⟩
def impl_element_minus.f (a0 : Int) (a1 : Int) : Option (Int) := (impl_elementOf.f (wrap64 (a0 - a1))).bind fun t138 => (some t138)
set_option maxHeartbeats 8000000 in
set_option maxRecDepth 100000 in
theorem impl_element_minus.calls (a0 : Int) (a1 : Int) (r : Int) (w : World) (h : impl_element_minus.f a0 a1 = some r) :
  Calls Tryz.prog 93 #[.int .i64 a0, .int .i64 a1] w fun e w' => e = .returned (.int .i64 r) ∧ Drawn0 w w' := by
 have H : ((impl_elementOf.f (wrap64 (a0 - a1))).bind fun t138 => (some t138)) = some r := h
 clear h
 replace H := bnd H
 obtain ⟨t138, A3, H⟩ := H
 obtain rfl := Option.some.inj H
 go_enter Tryz.func93, Tryz.ntmps93
 go_wp2_with (first | (refine gsD c95x2 (impl_elementOf.calls (wrap64 (a0 - a1)) t138 _ A3.out) ?_; intro nd))
 go_ret
 exact ⟨rfl, ⟨_, rfl⟩⟩
def impl_element_inverse.l0 : Nat → Int → Int → Int → Int → Option (Int)
 | 0, _, _, _, _ => none
 | k + 1, x3, x4, x5, x6 => if x4 = 0 then ((impl_elementOf.f x5).bind fun t139 => (some t139)) else (impl_element_inverse.l0 k x4 (wrap64 (x3 - (wrap64 ((wrap64 (Int.tdiv x3 x4)) * x4)))) x6 (wrap64 (x5 - (wrap64 ((wrap64 (Int.tdiv x3 x4)) * x6)))))
def impl_element_inverse.f (k : Nat) (a0 : Int) : Option (Int) := impl_element_inverse.l0 k 31 a0 0 1
end Go.Proofs.YtlgbblaidohljaaGreatDoor.Zc
