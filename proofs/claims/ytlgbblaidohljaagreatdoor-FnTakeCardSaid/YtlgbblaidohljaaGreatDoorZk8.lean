import Derived.Test.YtlgbblaidohljaaGreatDoorZ
import Derived.Test.YtlgbblaidohljaaGreatDoorZk0
import Derived.Test.YtlgbblaidohljaaGreatDoorZk6
import Derived.Test.YtlgbblaidohljaaGreatDoorZk7
namespace Go.Proofs.YtlgbblaidohljaaGreatDoor.Zk
open Go.RowKit Go.Proofs.YtlgbblaidohljaaGreatDoorT.PrintWords Go.Proofs.YtlgbblaidohljaaGreatDoorT.PrintLast Go.Proofs.YtlgbblaidohljaaGreatDoorT.PrintMore Go.Proofs.YtlgbblaidohljaaGreatDoor.Z
attribute [local go_sem] max2_int min2_int max_two min_two max_three min_three max_four min_four
set_option linter.unusedVariables false
set_option linter.unusedSimpArgs false
private theorem c29x2 : Ent Tryz.prog 29 := ent Tryz.func29 (by kernel_rfl) rfl
private theorem c67x15 : Ent Tryz.prog 67 := ent Tryz.func67 (by kernel_rfl) rfl
private theorem c70x15 : Ent Tryz.prog 70 := ent Tryz.func70 (by kernel_rfl) rfl
def impl_cut.f (a0 : Int) (l1 : List Int) : Option (List Int × Int × Int × List Int) := (impl_TypeLen.f a0).bind fun t255 => (if 0 ≤ t255 then (if t255 ≤ (l1.length : Int) then ((slices_Clone_int_int.f (l1.take (t255 : Int).toNat)).bind fun t257 => ((slices_Clip_int_int.f t257).bind fun t260 => (if t255 < (l1.length : Int) then (if 0 ≤ (wrap64 (t255 + 1)) then (if (wrap64 (t255 + 1)) < (l1.length : Int) then (if 0 ≤ (wrap64 (t255 + 2)) then (if (wrap64 (t255 + 2)) ≤ (l1.length : Int) then ((slices_Clone_int_int.f (l1.drop ((wrap64 (t255 + 2)) : Int).toNat)).bind fun t266 => ((slices_Clip_int_int.f t266).bind fun t269 => (some (t260, rd l1 t255, rd l1 (wrap64 (t255 + 1)), t269)))) else (none)) else (none)) else (none)) else (none)) else (none)))) else (none)) else (none))
def impl_cut.T2 : Bool × List (List Nat × List Nat) := (true, [([], []), ([], []), ([0, 1], [0, 1]), ([2], [2]), ([3, 3], [3]), ([], []), ([], []), ([5, 6], [5, 6]), ([7], [7]), ([], []), ([], []), ([10], [10]), ([9, 11], [9, 11]), ([12], [12]), ([], []), ([], []), ([15], [15]), ([14, 16], [14, 16]), ([17, 4], [17]), ([18, 18], [18]), ([8, 13, 19], [8, 13, 19]), ([4, 19, 0, 1, 2, 3, 4], [4]), ([20, 21, 0, 1, 2, 3, 4, 5, 6, 7, 8, 9, 10, 11, 12, 13, 14, 15, 16, 17, 18, 19, 20, 21], [20])])
def impl_cut.B2 : List Nat := [0, 0, 3, 7, 15, 0, 0, 96, 224, 0, 0, 1024, 3584, 7680, 0, 0, 32768, 114688, 245791, 507935, 1048575, 1032223, 4194303]
theorem impl_cut.tab2 : rtab .any (opsOf Tryz.f64 2) = impl_cut.T2 := by kernel_rfl
theorem impl_cut.bits2 : waitsOk impl_cut.T2.2 impl_cut.B2 = true := by kernel_rfl
set_option maxHeartbeats 8000000 in
set_option maxRecDepth 100000 in
theorem impl_cut.calls (a0 : Int) (A1 : Option Addr) (c1 : Nat) (l1 : List Int) (r1 : List Int) (r2 : Int) (r3 : Int) (r4 : List Int) (w : World) (hr1 : Kd.C (Kd.int .i64) w A1 l1.length l1) (hc1 : l1.length ≤ c1) (h : impl_cut.f a0 l1 = some (r1, r2, r3, r4)) :
  Calls Tryz.prog 64 #[.int .i64 a0, .slice A1 l1.length c1] w fun e w' => ∃ v0_ v3_ : Value, e = .returned (.tuple #[v0_, .agg #[.int .i64 r2, .int .i64 r3, v3_]]) ∧ Kd.V (Kd.int .i64) 3 w' w.heap.size (fun k_ => (w.heap.size ≤ k_)) v0_ r1 ∧ Kd.V (Kd.int .i64) 3 w' w.heap.size (fun k_ => (w.heap.size ≤ k_)) v3_ r4 ∧ Below w.heap.size w w' := by
 have hu40 := Tryz.underlying40
 have HR1 := Aside0.mk hr1
 have HC1 := Aside0.mk hc1
 clear hr1 hc1
 have HB := Aside0.mk (Below.refl w.heap.size w)
 have H := h
 unfold impl_cut.f at H
 clear h
 replace H := bnd H
 obtain ⟨t107, A3, H⟩ := H
 by_cases c4 : 0 ≤ t107
 ·rw [if_pos c4] at H
  have c4b0 := eq_true c4
  have c4b1 : decide (0 ≤ t107) = true := decide_eq_true c4
  clear c4
  by_cases c5 : t107 ≤ (l1.length : Int)
  ·rw [if_pos c5] at H
   have c5b0 := eq_true c5
   have c5b1 : decide (t107 ≤ (l1.length : Int)) = true := decide_eq_true c5
   clear c5
   replace H := bnd H
   obtain ⟨t109, A6, H⟩ := H
   replace H := bnd H
   obtain ⟨t112, A7, H⟩ := H
   by_cases c8 : t107 < (l1.length : Int)
   ·rw [if_pos c8] at H
    have c8b0 : decide (t107 < (l1.length : Int)) = true := decide_eq_true c8
    clear c8
    obtain ⟨ji9, hji9⟩ : ∃ j_ : Int, (wrap64 (t107 + 1)) = j_ := ⟨_, rfl⟩
    replace H : (if 0 ≤ (ji9) then (if (ji9) < (l1.length : Int) then (if 0 ≤ (wrap64 (t107 + 2)) then (if (wrap64 (t107 + 2)) ≤ (l1.length : Int) then ((slices_Clone_int_int.f (l1.drop ((wrap64 (t107 + 2)) : Int).toNat)).bind fun t118 => ((slices_Clip_int_int.f t118).bind fun t121 => (some (t112, rd l1 t107, rd l1 (ji9), t121)))) else (none)) else (none)) else (none)) else (none)) = some (r1, r2, r3, r4) := by first | (rw [hji9] at H; exact H) | (simp only [hji9] at H ⊢; exact H)
    (try rw [hji9] at A3)
    (try rw [hji9] at A6)
    (try rw [hji9] at A7)
    have hji9w : (IntKind.i64.wrap (t107 + 1)) = ji9 := (i64_w _).trans hji9
    by_cases c10 : 0 ≤ (ji9)
    ·rw [if_pos c10] at H
     have c10b0 : decide (0 ≤ (ji9)) = true := decide_eq_true c10
     clear c10
     by_cases c11 : (ji9) < (l1.length : Int)
     ·rw [if_pos c11] at H
      have c11b0 : decide ((ji9) < (l1.length : Int)) = true := decide_eq_true c11
      clear c11
      obtain ⟨ji12, hji12⟩ : ∃ j_ : Int, (wrap64 (t107 + 2)) = j_ := ⟨_, rfl⟩
      replace H : (if 0 ≤ (ji12) then (if (ji12) ≤ (l1.length : Int) then ((slices_Clone_int_int.f (l1.drop ((ji12) : Int).toNat)).bind fun t118 => ((slices_Clip_int_int.f t118).bind fun t121 => (some (t112, rd l1 t107, rd l1 (ji9), t121)))) else (none)) else (none)) = some (r1, r2, r3, r4) := by first | (rw [hji12] at H; exact H) | (simp only [hji12] at H ⊢; exact H)
      (try rw [hji12] at A3)
      (try rw [hji12] at A6)
      (try rw [hji12] at A7)
      have hji12w : (IntKind.i64.wrap (t107 + 2)) = ji12 := (i64_w _).trans hji12
      by_cases c13 : 0 ≤ (ji12)
      ·rw [if_pos c13] at H
       have c13b0 := eq_true c13
       have c13b1 : decide (0 ≤ (ji12)) = true := decide_eq_true c13
       clear c13
       by_cases c14 : (ji12) ≤ (l1.length : Int)
       ·rw [if_pos c14] at H
        have c14b0 := eq_true c14
        have c14b1 : decide ((ji12) ≤ (l1.length : Int)) = true := decide_eq_true c14
        clear c14
        replace H := bnd H
        obtain ⟨t118, A15, H⟩ := H
        replace H := bnd H
        obtain ⟨t121, A16, H⟩ := H
        simp only [Option.some.injEq, Prod.mk.injEq] at H
        obtain ⟨rfl, rfl, rfl, rfl⟩ := H
        go_enter Tryz.func64, Tryz.ntmps64
        try go_wp2_with (first | ((with_reducible refine gate_dst (N := 5) rfl ?_); refine boxZ (N := 5) (cs := #[.int .i64 0, .int .i64 0, .slice none 0 0]) (t := 40) ?_; intro gb106 hg w17 hbox hb; replace BK106 := Aside0.mk (hbox); replace GW106 := gwZ hg; replace GE106 := gwZ hg; replace HB := bnZ hb; clear hb hbox hg) | (refine gsC c29x2 (impl_TypeLen.calls a0 t107 _ A3.out) ?_; rintro e w18 ⟨rfl, hb⟩; refine ⟨_, rfl, ?_⟩; replace BK106 := bkZ hb BK106.out; replace HB := bnZ hb; clear hb))
        replace BK106 := Aside0.mk (blk_drew BK106.out)
        replace HB := Aside0.mk (below_drew1 HB.out)
        obtain ⟨i020, hi020, _, hsz20, _⟩ := info_parts info3
        obtain ⟨hcut20, hA20, hC20⟩ := print_take_of (P := Tryz.prog) (Value.int .i64) 0 22 3 .i64 Tryz.underlying22 hi020 hsz20 A1 c1 l1 t107 (of_decide_eq_true ‹_›) (of_decide_eq_true ‹_›) HC1.out
        have HR108 := Aside0.mk (Kd.C_of_reads (h1 := fun _ => rfl) (hA20 _ (Kd.reads_of_C HR1.out)))
        have HC108 := Aside0.mk hC20
        clear hA20 hC20 hi020 hsz20
        have p115 : 0 ≤ (t107 : Int) := of_decide_eq_true ‹_›
        have q115 : t107 < (l1.length : Int) := of_decide_eq_true ‹_›
        obtain ⟨ad115, e115, hx115_0⟩ := Kd.at_int HR1.out t107 p115 q115
        have hw115_0 := hx115_0
        cases e115
        replace hx115_0 := (HB.out.cell (World.block_lt_of_cell? w _ hx115_0)).trans hx115_0
        replace p115 := eq_true p115
        replace q115 := eq_true q115
        have p116 : 0 ≤ ((ji9) : Int) := of_decide_eq_true ‹_›
        have q116 : (ji9) < (l1.length : Int) := of_decide_eq_true ‹_›
        obtain ⟨ad116, e116, hx116_0⟩ := Kd.at_int HR1.out (ji9) p116 q116
        have hw116_0 := hx116_0
        obtain rfl : ad115 = ad116 := (by injection e116)
        replace hx116_0 := (HB.out.cell (World.block_lt_of_cell? w _ hx116_0)).trans hx116_0
        replace p116 := eq_true p116
        replace q116 := eq_true q116
        obtain ⟨i021, hi021, _, hsz21, _⟩ := info_parts info3
        obtain ⟨A21, hcut21, hA21, hC21⟩ := print_drop_of (P := Tryz.prog) (Value.int .i64) 0 22 3 .i64 Tryz.underlying22 hi021 hsz21 (some ad115) c1 l1 (ji12) (of_decide_eq_true ‹_›) (of_decide_eq_true ‹_›) HC1.out
        have HR117 := Aside0.mk (Kd.C_of_reads (h1 := fun _ => rfl) (hA21 _ (Kd.reads_of_C HR1.out)))
        have HC117 := Aside0.mk hC21
        clear hA21 hC21 hi021 hsz21
        refine start_ (n := 23) (S := fun w' => w'.cell? (ad115.add (t107).toNat) = some (.int .i64 (rd l1 t107)) ∧ w'.cell? (ad115.add ((ji9)).toNat) = some (.int .i64 (rd l1 (ji9)))) (ds := []) (bs 23 0) (by kernel_rfl) rfl rfl ⟨((HB.out.cell (World.block_lt_of_cell? w _ hw115_0)).trans hw115_0), ((HB.out.cell (World.block_lt_of_cell? w _ hw116_0)).trans hw116_0)⟩ (fun hHeld => ?_); refine with_tabW impl_cut.tab2 impl_cut.bits2 (fun HT_ HW_ => ?_)
        generalize w18.drew = w19 at BK106 HB HR108 HR117 hx115_0 hx116_0 hHeld ⊢
        refine pZ 0 (some 9) (bs 23 1) rfl rfl (any_of HT_.out (by kernel_rfl)) ?_
        refine pZ 1 (some 10) (bs 23 3) rfl rfl (any_of HT_.out (by kernel_rfl)) ?_
        refine pZ 2 (some 11) (bs 23 7) rfl rfl (any_of HT_.out (by kernel_rfl)) ?_
        refine pZ 5 (some 14) (bs 23 39) rfl rfl (any_of HT_.out (by kernel_rfl)) ?_
        refine pZ 6 (some 15) (bs 23 103) rfl rfl (any_of HT_.out (by kernel_rfl)) ?_
        refine pZ 7 (some 16) (bs 23 231) rfl rfl (any_of HT_.out (by kernel_rfl)) ?_
        refine pZ 9 (some 18) (bs 23 743) rfl rfl (any_of HT_.out (by kernel_rfl)) ?_
        refine pZ 10 (some 19) (bs 23 1767) rfl rfl (any_of HT_.out (by kernel_rfl)) ?_
        refine pZ 11 (some 20) (bs 23 3815) rfl rfl (any_of HT_.out (by kernel_rfl)) ?_
        refine pZ 12 (some 21) (bs 23 7911) rfl rfl (any_of HT_.out (by kernel_rfl)) ?_
        refine pZ 14 (some 23) (bs 23 24295) rfl rfl (any_of HT_.out (by kernel_rfl)) ?_
        refine pZ 15 (some 24) (bs 23 57063) rfl rfl (any_of HT_.out (by kernel_rfl)) ?_
        refine pZ 16 (some 25) (bs 23 122599) rfl rfl (any_of HT_.out (by kernel_rfl)) ?_
        refine pZ 17 (some 26) (bs 23 253671) rfl rfl (any_of HT_.out (by kernel_rfl)) ?_
        refine tZ 8 (some 17) (bs 23 253927) rfl rfl (take_ofW HT_.out HW_.out (by kernel_rfl)) hHeld (by rintro w' ⟨s0, s1⟩; go_simp; with_reducible rfl) ?_
        refine tZ 13 (some 22) (bs 23 262119) rfl rfl (take_ofW HT_.out HW_.out (by kernel_rfl)) hHeld (by rintro w' ⟨s0, s1⟩; go_simp; with_reducible rfl) ?_
        refine one_ (i := 3) (N := some 12) (bs 23 262127) rfl rfl (one_of HT_.out (by kernel_rfl)) (by decide) (fun K hK => ?_)
        refine goes_ Tryz.func100 (by kernel_rfl) rfl #[.slice (some ad115) (l1.take (t107 : Int).toNat).length c1] (by rfl) rfl rfl (by (try simp only [List.map_toArray, List.map_cons, List.map_nil]); first | done | (rw [show (l1.take (t107 : Int).toNat).length = t107.toNat from (by rw [List.length_take]; have h_ : (t107 : Int) ≤ (l1.length : Int) := of_decide_eq_true ‹_›; omega)] <;> rfl) | rfl | (simp only [List.length_drop, List.length_take]; rfl)) ?_
        with_reducible refine (slices_Clone_int_int.calls _ _ (l1.take (t107 : Int).toNat) t109 _ ?side1 ?side2 A6.out).mono ?_
        (case side1 => exact (Kd.C_below HR108.out HB.out))
        (case side2 => exact HC108.out)
        rintro e w22 ⟨v110, rfl, ho0, hb⟩
        refine ⟨_, rfl, ?_⟩
        replace HO111 := Aside0.mk (Kd.R_lower (Kd.R_newM (M := fun k_ => (w.heap.size ≤ k_)) ho0 bsZ (fun k_ h_ => h_)) bsZ)
        replace BK106 := bkZ hb BK106.out
        replace HB := bnZ hb
        (try clear hb)
        (try clear hb2)
        (try clear hk)
        (try clear hi)
        (try clear ho0)
        obtain ⟨Ao23, co23, eo23⟩ := Kd.R_slice HO111.out
        (first | subst eo23 | (injection eo23 with f1_ f2_ f3_; have f4_ := f1_.symm; have f5_ := f3_.symm; clear f1_ f2_ f3_; subst f4_; subst f5_))
        refine hK.out _ _ ⟨((HB.out.cell (World.block_lt_of_cell? w _ hw115_0)).trans hw115_0), ((HB.out.cell (World.block_lt_of_cell? w _ hw116_0)).trans hw116_0)⟩ (fun hHeld => ?_)
        clear hK K
        refine norm_ (a' := ?_) ?_ ?_
        rotate_left
        ·show Act.put _ (some 12) _ = _
         simp only [Act.put, List.setIfInBounds_toArray, List.set_cons_zero, List.set_cons_succ, i64_w, i32_w]
         rfl
        refine one_ (i := 4) (N := some 13) (bs 23 262143) rfl rfl (one_of HT_.out (by kernel_rfl)) (by decide) (fun K hK => ?_)
        refine goes_ Tryz.func62 (by kernel_rfl) rfl #[.slice Ao23 t109.length co23] (by rfl) rfl rfl (by (try simp only [List.map_toArray, List.map_cons, List.map_nil]); first | done | rfl | (simp only [List.length_drop, List.length_take]; rfl)) ?_
        with_reducible refine (slices_Clip_int_int.calls (fun k_ => some k_ = (.slice Ao23 t109.length co23 : Value).ownBlock) _ _ t109 t112 _ ?side1 A7.out).mono ?_
        (case side1 => exact Kd.R_V (Kd.R_tight rfl (Kd.R_types (HO111.out) BK106.out (by decide))))
        rintro e w24 ⟨v113, rfl, ho0, hb⟩
        refine ⟨_, rfl, ?_⟩
        replace HO114 := Aside0.mk (Kd.V_lower (Kd.V_mono (ok' := fun k_ => (w.heap.size ≤ k_) ∧ k_ ≠ gb106) ho0 (fun k_ hk_ => ⟨Or.elim hk_ (fun hs_ => ((Kd.R_types (HO111.out) BK106.out (by decide)).1 k_ hs_.symm).1.1) (fun hn_ => (Nat.le_trans bsZ hn_)), Or.elim hk_ (fun hs_ => ((Kd.R_types (HO111.out) BK106.out (by decide)).1 k_ hs_.symm).2) (fun hn_ => (Kd.freshB (g := gb106) (o := .cells #[.int .i64 0, .int .i64 0, .slice none 0 0] 40 (0, 0)) (by exact BK106.out) k_ hn_))⟩)) bsZ)
        replace HO111 := Aside0.mk (Kd.R_below (HO111.out) hb)
        replace BK106 := bkZ hb BK106.out
        replace HB := bnZ hb
        (try clear hb)
        (try clear hb2)
        (try clear hk)
        (try clear hi)
        (try clear ho0)
        refine hK.out _ _ ⟨((HB.out.cell (World.block_lt_of_cell? w _ hw115_0)).trans hw115_0), ((HB.out.cell (World.block_lt_of_cell? w _ hw116_0)).trans hw116_0)⟩ (fun hHeld => ?_)
        clear hK K
        refine norm_ (a' := ?_) ?_ ?_
        rotate_left
        ·show Act.put _ (some 13) _ = _
         simp only [Act.put, List.setIfInBounds_toArray, List.set_cons_zero, List.set_cons_succ, i64_w, i32_w]
         rfl
        refine one_ (i := 18) (N := some 27) (bs 23 524287) rfl rfl (one_of HT_.out (by kernel_rfl)) (by decide) (fun K hK => ?_)
        refine goes_ Tryz.func100 (by kernel_rfl) rfl #[.slice A21 (l1.drop ((ji12) : Int).toNat).length (c1 - (ji12).toNat)] (by rfl) rfl rfl (by (try simp only [List.map_toArray, List.map_cons, List.map_nil]); first | done | (rw [show (l1.drop ((ji12) : Int).toNat).length = (l1.length - (ji12).toNat) from List.length_drop] <;> rfl) | (simp only [hji12]; rfl) | rfl | (simp only [List.length_drop, List.length_take]; rfl)) ?_
        with_reducible refine (slices_Clone_int_int.calls _ _ (l1.drop ((ji12) : Int).toNat) t118 _ ?side1 ?side2 A15.out).mono ?_
        (case side1 => exact (Kd.C_below HR117.out HB.out))
        (case side2 => exact HC117.out)
        rintro e w25 ⟨v119, rfl, ho0, hb⟩
        refine ⟨_, rfl, ?_⟩
        replace HO114 := Aside0.mk (Kd.V_elder' (by (with_reducible repeat (first | apply Kd.V_alloc | apply Kd.V_drewN | apply Kd.V_drew)); exact HO114.out) (Kd.R_base ho0) hb)
        replace HO120 := Aside0.mk (Kd.R_lower (Kd.R_new' (Kd.R_newM (M := fun k_ => (w.heap.size ≤ k_)) ho0 bsZ (fun k_ h_ => h_)) (Kd.R_lt (HO111.out))) bsZ)
        replace HO111 := Aside0.mk (Kd.R_elder' (HO111.out) (Kd.R_base ho0) hb)
        replace BK106 := bkZ hb BK106.out
        replace HB := bnZ hb
        (try clear hb)
        (try clear hb2)
        (try clear hk)
        (try clear hi)
        (try clear ho0)
        obtain ⟨Ao26, co26, eo26⟩ := Kd.R_slice HO120.out
        (first | subst eo26 | (injection eo26 with f1_ f2_ f3_; have f4_ := f1_.symm; have f5_ := f3_.symm; clear f1_ f2_ f3_; subst f4_; subst f5_))
        refine hK.out _ _ ⟨((HB.out.cell (World.block_lt_of_cell? w _ hw115_0)).trans hw115_0), ((HB.out.cell (World.block_lt_of_cell? w _ hw116_0)).trans hw116_0)⟩ (fun hHeld => ?_)
        clear hK K
        refine norm_ (a' := ?_) ?_ ?_
        rotate_left
        ·show Act.put _ (some 27) _ = _
         simp only [Act.put, List.setIfInBounds_toArray, List.set_cons_zero, List.set_cons_succ, i64_w, i32_w]
         rfl
        refine one_ (i := 19) (N := some 28) (bs 23 1048575) rfl rfl (one_of HT_.out (by kernel_rfl)) (by decide) (fun K hK => ?_)
        refine goes_ Tryz.func62 (by kernel_rfl) rfl #[.slice Ao26 t118.length co26] (by rfl) rfl rfl (by (try simp only [List.map_toArray, List.map_cons, List.map_nil]); first | done | rfl | (simp only [List.length_drop, List.length_take]; rfl)) ?_
        with_reducible refine (slices_Clip_int_int.calls (fun k_ => some k_ = (.slice Ao26 t118.length co26 : Value).ownBlock) _ _ t118 t121 _ ?side1 A16.out).mono ?_
        (case side1 => exact Kd.R_V (Kd.R_tight rfl (Kd.R_types (HO120.out) BK106.out (by decide))))
        rintro e w27 ⟨v122, rfl, ho0, hb⟩
        refine ⟨_, rfl, ?_⟩
        replace HO114 := Aside0.mk (Kd.V_below (by (with_reducible repeat (first | apply Kd.V_alloc | apply Kd.V_drewN | apply Kd.V_drew)); exact HO114.out) hb)
        replace HO123 := Aside0.mk (Kd.V_lower (Kd.V_mono (ok' := fun k_ => (w.heap.size ≤ k_) ∧ some k_ ≠ (.slice Ao23 t109.length co23 : Value).ownBlock ∧ k_ ≠ gb106) ho0 (fun k_ hk_ => ⟨Or.elim hk_ (fun hs_ => ((Kd.R_types (HO120.out) BK106.out (by decide)).1 k_ hs_.symm).1.1.1) (fun hn_ => (Nat.le_trans bsZ hn_)), Or.elim hk_ (fun hs_ => ((Kd.R_types (HO120.out) BK106.out (by decide)).1 k_ hs_.symm).1.2) (fun hn_ => (Kd.fresh' (Kd.R_lt (HO111.out)) k_ hn_)), Or.elim hk_ (fun hs_ => ((Kd.R_types (HO120.out) BK106.out (by decide)).1 k_ hs_.symm).2) (fun hn_ => (Kd.freshB (g := gb106) (o := .cells #[.int .i64 0, .int .i64 0, .slice none 0 0] 40 (0, 0)) (by exact BK106.out) k_ hn_))⟩)) bsZ)
        replace HO111 := Aside0.mk (Kd.R_below (HO111.out) hb)
        replace HO120 := Aside0.mk (Kd.R_below (HO120.out) hb)
        replace BK106 := bkZ hb BK106.out
        replace HB := bnZ hb
        (try clear hb)
        (try clear hb2)
        (try clear hk)
        (try clear hi)
        (try clear ho0)
        obtain ⟨Ao28, co28, eo28⟩ := Kd.V_slice HO123.out
        (first | subst eo28 | (injection eo28 with f1_ f2_ f3_; have f4_ := f1_.symm; have f5_ := f3_.symm; clear f1_ f2_ f3_; subst f4_; subst f5_))
        refine hK.out _ _ ⟨((HB.out.cell (World.block_lt_of_cell? w _ hw115_0)).trans hw115_0), ((HB.out.cell (World.block_lt_of_cell? w _ hw116_0)).trans hw116_0)⟩ (fun hHeld => ?_)
        clear hK K
        refine norm_ (a' := ?_) ?_ ?_
        rotate_left
        ·show Act.put _ (some 28) _ = _
         simp only [Act.put, List.setIfInBounds_toArray, List.set_cons_zero, List.set_cons_succ, i64_w, i32_w]
         rfl
        refine pZ 20 (some 29) (bs 23 2097151) rfl rfl (any_of HT_.out (by kernel_rfl)) ?_
        refine pZ 21 (some 4) (bs 23 4194303) rfl rfl (any_of HT_.out (by kernel_rfl)) ?_
        refine one_ (i := 22) (N := none) (bs 23 8388607) rfl rfl (one_of HT_.out (by kernel_rfl)) (by decide) (fun K hK => ?_)
        have hs29 : w27.cell? ⟨gb106, 0, none⟩ = some (.int .i64 0) := (blk_cell BK106.out 0).trans rfl
        have hfs29 := blk_frozen BK106.out 0
        have hs30 : w27.cell? ⟨gb106, 1, none⟩ = some (.int .i64 0) := (blk_cell BK106.out 1).trans rfl
        have hfs30 := blk_frozen BK106.out 1
        have hs31 : w27.cell? ⟨gb106, 2, none⟩ = some (.slice none 0 0) := (blk_cell BK106.out 2).trans rfl
        have hfs31 := blk_frozen BK106.out 2
        refine skip_ (w1 := ?_) (by rfl) rfl ?_ ?_
        rotate_left
        ·go_simp
         rfl
        refine hK.out _ _ ⟨((cell_far (p := ⟨gb106, _, none⟩) (by first | exact Nat.ne_of_lt (Nat.lt_of_lt_of_le (by have := World.block_lt_of_cell? _ _ hw115_0; first | rwa [add_block] at this | exact this) GW106.out) | (rw [add_block]; exact Nat.ne_of_lt (Nat.lt_of_lt_of_le (by have := World.block_lt_of_cell? _ _ hw115_0; first | rwa [add_block] at this | exact this) GW106.out)) | (show (Addr.add _ _).block ≠ _; rw [add_block]; exact Nat.ne_of_lt (Nat.lt_of_lt_of_le (by have := World.block_lt_of_cell? _ _ hw115_0; first | rwa [add_block] at this | exact this) GW106.out)) | (dsimp only; exact Nat.ne_of_lt (Nat.lt_of_lt_of_le (by have := World.block_lt_of_cell? _ _ hw115_0; first | rwa [add_block] at this | exact this) GW106.out))) _).trans (((cell_far (p := ⟨gb106, _, none⟩) (by first | exact Nat.ne_of_lt (Nat.lt_of_lt_of_le (by have := World.block_lt_of_cell? _ _ hw115_0; first | rwa [add_block] at this | exact this) GW106.out) | (rw [add_block]; exact Nat.ne_of_lt (Nat.lt_of_lt_of_le (by have := World.block_lt_of_cell? _ _ hw115_0; first | rwa [add_block] at this | exact this) GW106.out)) | (show (Addr.add _ _).block ≠ _; rw [add_block]; exact Nat.ne_of_lt (Nat.lt_of_lt_of_le (by have := World.block_lt_of_cell? _ _ hw115_0; first | rwa [add_block] at this | exact this) GW106.out)) | (dsimp only; exact Nat.ne_of_lt (Nat.lt_of_lt_of_le (by have := World.block_lt_of_cell? _ _ hw115_0; first | rwa [add_block] at this | exact this) GW106.out))) _).trans (((cell_far (p := ⟨gb106, _, none⟩) (by first | exact Nat.ne_of_lt (Nat.lt_of_lt_of_le (by have := World.block_lt_of_cell? _ _ hw115_0; first | rwa [add_block] at this | exact this) GW106.out) | (rw [add_block]; exact Nat.ne_of_lt (Nat.lt_of_lt_of_le (by have := World.block_lt_of_cell? _ _ hw115_0; first | rwa [add_block] at this | exact this) GW106.out)) | (show (Addr.add _ _).block ≠ _; rw [add_block]; exact Nat.ne_of_lt (Nat.lt_of_lt_of_le (by have := World.block_lt_of_cell? _ _ hw115_0; first | rwa [add_block] at this | exact this) GW106.out)) | (dsimp only; exact Nat.ne_of_lt (Nat.lt_of_lt_of_le (by have := World.block_lt_of_cell? _ _ hw115_0; first | rwa [add_block] at this | exact this) GW106.out))) _).trans (hHeld.1)))))), ((cell_far (p := ⟨gb106, _, none⟩) (by first | exact Nat.ne_of_lt (Nat.lt_of_lt_of_le (by have := World.block_lt_of_cell? _ _ hw116_0; first | rwa [add_block] at this | exact this) GW106.out) | (rw [add_block]; exact Nat.ne_of_lt (Nat.lt_of_lt_of_le (by have := World.block_lt_of_cell? _ _ hw116_0; first | rwa [add_block] at this | exact this) GW106.out)) | (show (Addr.add _ _).block ≠ _; rw [add_block]; exact Nat.ne_of_lt (Nat.lt_of_lt_of_le (by have := World.block_lt_of_cell? _ _ hw116_0; first | rwa [add_block] at this | exact this) GW106.out)) | (dsimp only; exact Nat.ne_of_lt (Nat.lt_of_lt_of_le (by have := World.block_lt_of_cell? _ _ hw116_0; first | rwa [add_block] at this | exact this) GW106.out))) _).trans (((cell_far (p := ⟨gb106, _, none⟩) (by first | exact Nat.ne_of_lt (Nat.lt_of_lt_of_le (by have := World.block_lt_of_cell? _ _ hw116_0; first | rwa [add_block] at this | exact this) GW106.out) | (rw [add_block]; exact Nat.ne_of_lt (Nat.lt_of_lt_of_le (by have := World.block_lt_of_cell? _ _ hw116_0; first | rwa [add_block] at this | exact this) GW106.out)) | (show (Addr.add _ _).block ≠ _; rw [add_block]; exact Nat.ne_of_lt (Nat.lt_of_lt_of_le (by have := World.block_lt_of_cell? _ _ hw116_0; first | rwa [add_block] at this | exact this) GW106.out)) | (dsimp only; exact Nat.ne_of_lt (Nat.lt_of_lt_of_le (by have := World.block_lt_of_cell? _ _ hw116_0; first | rwa [add_block] at this | exact this) GW106.out))) _).trans (((cell_far (p := ⟨gb106, _, none⟩) (by first | exact Nat.ne_of_lt (Nat.lt_of_lt_of_le (by have := World.block_lt_of_cell? _ _ hw116_0; first | rwa [add_block] at this | exact this) GW106.out) | (rw [add_block]; exact Nat.ne_of_lt (Nat.lt_of_lt_of_le (by have := World.block_lt_of_cell? _ _ hw116_0; first | rwa [add_block] at this | exact this) GW106.out)) | (show (Addr.add _ _).block ≠ _; rw [add_block]; exact Nat.ne_of_lt (Nat.lt_of_lt_of_le (by have := World.block_lt_of_cell? _ _ hw116_0; first | rwa [add_block] at this | exact this) GW106.out)) | (dsimp only; exact Nat.ne_of_lt (Nat.lt_of_lt_of_le (by have := World.block_lt_of_cell? _ _ hw116_0; first | rwa [add_block] at this | exact this) GW106.out))) _).trans (hHeld.2))))))⟩ (fun hHeld => ?_)
        clear hK K
        refine done_ (done_of HT_.out (by kernel_rfl)) ?_
        try go_wp2
        refine bodyPost_ret (results_tc rfl _ _ gb106 40 #[.int .i64 (rd l1 t107), .int .i64 (rd l1 (ji9)), .slice Ao28 t121.length co28] (0, 0) _ rfl (by refine blk_put (cs := #[.int .i64 (rd l1 t107), .int .i64 (rd l1 (ji9)), .slice none 0 0]) ?_ 2 _ rfl; refine blk_put (cs := #[.int .i64 (rd l1 t107), .int .i64 0, .slice none 0 0]) ?_ 1 _ rfl; refine blk_put (cs := #[.int .i64 0, .int .i64 0, .slice none 0 0]) ?_ 0 _ rfl; exact BK106.out) Tryz.underlying40 rfl (by kernel_rfl)) rfl ?_
        exact ⟨_, _, by first | rfl | (simp [errW_none, errW_some] <;> rfl) | (simp only [← hji9, ← hji12]; first | rfl | (simp [errW_none, errW_some] <;> rfl)) | (simp [*, errW_none, errW_some] <;> rfl), by (with_reducible repeat (first | apply Kd.V_alloc | apply Kd.V_drewN | apply Kd.V_drew)); exact Kd.V_mono (Kd.V_far (p := ⟨gb106, 2, none⟩) (Kd.V_far (p := ⟨gb106, 1, none⟩) (Kd.V_far (p := ⟨gb106, 0, none⟩) (Kd.V_mono HO114.out (fun k_ hk => (⟨hk, hk.1.2⟩ : _ ∧ k_ ≠ gb106))) (fun _ hk => hk.2) (.int .i64 (rd l1 t107))) (fun _ hk => hk.2) (.int .i64 (rd l1 (ji9)))) (fun _ hk => hk.2) (.slice Ao28 t121.length co28)) (fun _ hk => hk.1.1.1), by (with_reducible repeat (first | apply Kd.V_alloc | apply Kd.V_drewN | apply Kd.V_drew)); exact Kd.V_mono (Kd.V_far (p := ⟨gb106, 2, none⟩) (Kd.V_far (p := ⟨gb106, 1, none⟩) (Kd.V_far (p := ⟨gb106, 0, none⟩) (Kd.V_mono HO123.out (fun k_ hk => (⟨hk, hk.2.2⟩ : _ ∧ k_ ≠ gb106))) (fun _ hk => hk.2) (.int .i64 (rd l1 t107))) (fun _ hk => hk.2) (.int .i64 (rd l1 (ji9)))) (fun _ hk => hk.2) (.slice Ao28 t121.length co28)) (fun _ hk => hk.1.1), by repeat (with_reducible first | exact HB.out | apply below_alloc | apply pw_below_drewN | apply below_drew1 | refine below_set ?_ GE106.out)⟩
       ·rw [if_neg c14] at H
        exact absurd H (by simp)
      ·rw [if_neg c13] at H
       exact absurd H (by simp)
     ·rw [if_neg c11] at H
      exact absurd H (by simp)
    ·rw [if_neg c10] at H
     exact absurd H (by simp)
   ·rw [if_neg c8] at H
    exact absurd H (by simp)
  ·rw [if_neg c5] at H
   exact absurd H (by simp)
 ·rw [if_neg c4] at H
  exact absurd H (by simp)
section
open Go.Shelf
attribute [local go_sem] Oper.semAt_some
def bwUpto {α : Type} (f : Nat → α) (k : Nat) : List α := (List.range k).map f
theorem bwUpto_succ {α : Type} (f : Nat → α) (k : Nat) : bwUpto f (k + 1) = bwUpto f k ++ [f k] := by simp [bwUpto, List.range_succ]
theorem bwUpto_length {α : Type} (f : Nat → α) (k : Nat) : (bwUpto f k).length = k := by simp [bwUpto]
def bwAt (zs : List Int) (j : Nat) : Int × Int := ((zs.length : Int) - 1 - (j : Int), rd zs ((zs.length : Int) - 1 - (j : Int)))
def BwInts (n₀ : Nat) (W : World) (sv : Value) (zs : List Int) : Prop :=
 ∃ A c, sv = .slice A zs.length c ∧ (0 < zs.length → ∃ ad : Addr, A = some ad ∧ ad.block < n₀ ∧ ∀ j, j < zs.length → W.cell? (ad.add j) = some (.int .i64 (rd zs j)))
theorem add_blk (a : Addr) (j : Nat) : (a.add j).block = a.block := by unfold Addr.add; split <;> rfl
theorem BwInts.below {n₀ : Nat} {A B : World} (h : Below n₀ A B) {sv : Value} {zs : List Int} : BwInts n₀ A sv zs → BwInts n₀ B sv zs
 | ⟨a, c, e, hc⟩ => ⟨a, c, e, fun hp => by
   obtain ⟨ad, e2, hb, hcs⟩ := hc hp
   exact ⟨ad, e2, hb, fun j hj => (h.cell (by rw [add_blk]; exact hb)).trans (hcs j hj)⟩⟩
def Kq (n₀ Bs : Nat) (A B : World) : Prop := Below n₀ A B ∧ B.heap[Bs]? = A.heap[Bs]?
theorem Kq.refl (n₀ Bs : Nat) (A : World) : Kq n₀ Bs A A := ⟨Below.refl _ _, rfl⟩
theorem Kq.trans {n₀ Bs : Nat} {A B C : World} (h : Kq n₀ Bs A B) (k : Kq n₀ Bs B C) : Kq n₀ Bs A C := ⟨h.1.trans k.1, k.2.trans h.2⟩
theorem Kq.box {n₀ Bs : Nat} {A B : World} (h : Kq n₀ Bs A B) {v : Value} {t : TypeId} (hb : A.heap[Bs]? = some (.cells #[v] t (0, 0))) : B.cell? ⟨Bs, 0, none⟩ = some v := blk_cell (h.2.trans hb) 0
theorem kq_b {n₀ Bs : Nat} {w : World} (hn : n₀ ≤ w.heap.size) (hB : Bs < w.heap.size) (W : World) (l : Nat) (o o' : Obj) (hl : w.heap.size ≤ l) (h : W.heap[l]? = some o) (hc : o.isCells = false) (hw : o.isWalk = false) : Kq n₀ Bs W (W.putObj l o') :=
 ⟨belowK_b hn W l o o' hl h hc hw, (belowK_b (n₀ := Bs + 1) (w := w) (by omega) W l o o' hl h hc hw).block Bs (by omega)⟩
set_option maxRecDepth 100000 in
set_option maxHeartbeats 2000000 in
theorem backward1_in (F : Fence) (n : Nat) (h8 : F.fn 131) (hro : F.round = none) (hn : 1 ≤ n) (l Bs n₀ : Nat) (A : Option Addr) (cap : Nat) (zs : List Int) (hreach : zs.length ≤ 17592186044416) (J Jx : List (Int × Int) → World → Prop)
  (hY : ∀ pre x W, J pre W → pre.length < zs.length → YieldAt F (n - 1) Tryz.prog l #[.int .i64 x.1, .int .i64 x.2] W fun e W' =>
   (e = .returned (.bool true) ∧ J (pre ++ [x]) W' ∧ Kq n₀ Bs W W') ∨ (e = .returned (.bool false) ∧ Jx (pre ++ [x]) W'))
  (W : World) (hBs : W.heap[Bs]? = some (.cells #[.slice A zs.length cap] 22 (0, 0))) (hI : BwInts n₀ W (.slice A zs.length cap) zs) (h0 : J [] W) :
  CallsIn F n Tryz.prog 131 #[.func (.yield l) #[] #[], .pointer (some ⟨Bs, 0, none⟩)] W fun e W' => (∃ v, e = .returned v) ∧
   ((∃ ys, ys = bwUpto (bwAt zs) zs.length ∧ J ys W') ∨ (∃ pre, (∃ k, k ≤ zs.length ∧ pre = bwUpto (bwAt zs) k) ∧ Jx pre W')) := by
 refine callsIn_of_wp Tryz.func131 rfl h8 ?_ hro
 simp only [Tryz.ntmps131, List.size_toArray, List.length_cons, List.length_nil, Nat.reduceAdd, Nat.reduceSub, Array.replicate_succ, Array.replicate_zero, List.push_toArray, List.append_toArray, List.nil_append, List.cons_append]
 have hb0 := (Kq.refl n₀ Bs W).box hBs
 gi_wp2
 gi_loopw [3] (fun i wr => ∃ k : Nat, k ≤ zs.length ∧ i = .int .i64 ((zs.length : Int) - 1 - k) ∧ J (bwUpto (bwAt zs) k) wr ∧ Kq n₀ Bs W wr)
  (fun i _ => (intOf i + 1).toNat)
 case atStart => exact ⟨0, Nat.zero_le _, by simp, h0, Kq.refl _ _ _⟩
 case round =>
  obtain ⟨k, hk, rfl, hJs, hnx⟩ := hrel
  have hbx := hnx.box hBs
  by_cases hlt : k < zs.length
  ·obtain ⟨A', c', e1, hc⟩ := hI.below hnx.1
   injection e1 with e1 _ e3
   subst e1
   obtain ⟨ad, rfl, hb, hcs⟩ := hc (by omega)
   have hg : (0 : Int) ≤ (zs.length : Int) - 1 - (k : Int) := by omega
   have hg2 : (zs.length : Int) - 1 - (k : Int) < (zs.length : Int) := by omega
   have ei : ((zs.length - 1 - k : Nat) : Int) = (zs.length : Int) - 1 - (k : Int) := by omega
   have hcx := hcs (zs.length - 1 - k) (by omega)
   rw [ei] at hcx
   obtain ⟨fn, tmps, assign, body, hy, hR⟩ := hY _ (bwAt zs k) wr hJs (by rw [bwUpto_length]; exact hlt)
   dsimp only [bwAt] at hy
   clear hcs hc ei
   have HI := Aside0.mk hI
   have HBS := Aside0.mk hBs
   clear hI hBs e3 hb0
   gi_wp2
   refine hR.mono ?_
   rintro e W3 (⟨rfl, hJ3, hk3⟩ | ⟨rfl, hJx3⟩)
   ·gi_wp2
    go_roundw
    case rel => exact ⟨k + 1, by omega, by (congr 1; omega), by rw [bwUpto_succ]; exact hJ3, hnx.trans hk3⟩
    case measure => simp [intOf]; omega
   ·gi_wp2
    refine bodyPost_ret (results_none rfl _ _ _) rfl ?_
    exact ⟨⟨_, rfl⟩, .inr ⟨_, ⟨k + 1, by omega, (bwUpto_succ _ _).symm⟩, hJx3⟩⟩
  ·obtain rfl : k = zs.length := by omega
   have hg : ¬ (0 : Int) ≤ (zs.length : Int) - 1 - (zs.length : Int) := by omega
   gi_wp2
   go_end0
   exact ⟨⟨_, rfl⟩, .inl hJs⟩
theorem backward_in (F : Fence) (n : Nat) (h6 : F.fn 115) (hro : F.round = none) (a : Option Addr) (len cap : Nat) (w : World) :
  CallsIn F n Tryz.prog 115 #[.slice a len cap] w fun e w' => e = .returned (.func (.func 131) #[] #[.pointer (some ⟨w.heap.size, 0, none⟩)]) ∧ w' = w.alloc (.cells #[.slice a len cap] 22) := by
 refine callsIn_of_wp Tryz.func115 rfl h6 ?_ hro
 simp only [Tryz.ntmps115, List.size_toArray, List.length_cons, List.length_nil, Nat.reduceAdd, Nat.reduceSub, Array.replicate_succ, Array.replicate_zero, List.push_toArray, List.append_toArray, List.nil_append, List.cons_append]
 gi_wp2
 go_ret
 exact ⟨rfl, rfl⟩
theorem backward_stops (F : Fence) (n : Nat) (h8 : F.fn 131) (hro : F.round = none) (hn : 1 ≤ n) (Bs n₀ : Nat) (A : Option Addr) (cap : Nat) (zs : List Int) (hreach : zs.length ≤ 17592186044416) (w : World) (hBs : Bs < w.heap.size) (hn₀ : n₀ ≤ w.heap.size)
  (hc : w.heap[Bs]? = some (.cells #[.slice A zs.length cap] 22 (0, 0))) (hI : BwInts n₀ w (.slice A zs.length cap) zs) :
  SeqStopsK F n Tryz.prog 131 #[.pointer (some ⟨Bs, 0, none⟩)] (fun x : Int × Int => #[Value.int .i64 x.1, Value.int .i64 x.2]) (Kq n₀ Bs) (fun ys => ys = bwUpto (bwAt zs) zs.length)
   (fun pre => ∃ k, k ≤ zs.length ∧ pre = bwUpto (bwAt zs) k) zs.length w := fun l J Jx W hW _ _ hY h0 =>
 backward1_in F n h8 hro hn l Bs n₀ A cap zs hreach J Jx hY W ((hW.block Bs hBs).trans hc) (hI.below (hW.mono hn₀)) h0
def hStep (x : Int) (acc : Int) (c : Int) : Int := ((impl_element_times.f acc x).bind fun t => impl_element_plus.f t c).getD 0
theorem times_tot (a b : Int) : ∃ r, impl_element_times.f a b = some r := by unfold impl_element_times.f impl_elementOf.f; exact ⟨_, rfl⟩
theorem plus_tot (a b : Int) : ∃ r, impl_element_plus.f a b = some r := by unfold impl_element_plus.f impl_elementOf.f; exact ⟨_, rfl⟩
def bwFold (x : Int) (pre : List (Int × Int)) : Int := pre.foldl (fun acc c => hStep x acc c.2) 0
theorem bwFold_snoc (x : Int) (pre : List (Int × Int)) (c : Int × Int) : bwFold x (pre ++ [c]) = hStep x (bwFold x pre) c.2 := by simp [bwFold]
set_option maxRecDepth 100000 in
set_option maxHeartbeats 4000000 in
theorem value_in (A : Option Addr) (cap : Nat) (zs : List Int) (x : Int) (hreach : zs.length ≤ 17592186044416) (w : World) (hI : BwInts w.heap.size w (.slice A zs.length cap) zs) :
  CallsIn Fence.wide 3 Tryz.prog 89 #[.slice A zs.length cap, .int .i64 x] w fun e W' => e = .returned (.int .i64 (bwFold x (bwUpto (bwAt zs) zs.length))) ∧ Below w.heap.size w W' := by
 have hro : Fence.wide.round = none := rfl
 have h1 : 1 ≤ 3 := by omega
 refine callsIn_of_wp_marks Tryz.func89 rfl trivial ?_ hro
 simp only [Tryz.ntmps89, List.size_toArray, List.length_cons, List.length_nil, Nat.reduceAdd, Nat.reduceSub, Array.replicate_succ, Array.replicate_zero, List.push_toArray, List.append_toArray, List.nil_append, List.cons_append]
 gi_wp2_with (refine ⟨trivial, ?_⟩; gi_at_call 115; refine (backward_in Fence.wide (3 - 1) trivial hro _ _ _ _).mono ?_; rintro e w' ⟨rfl, rfl⟩)
 have bX := Boxed.new w 67 (.int .i64 x)
 have bO := Boxed.new (w.alloc (.cells #[.int .i64 x] 67)) 67 (.int .i64 0)
 have bN := Boxed.new ((w.alloc (.cells #[.int .i64 x] 67)).alloc (.cells #[.int .i64 0] 67)) 22 (.slice A zs.length cap)
 simp only [World.size_alloc] at bO bN
 have hB0 : Below w.heap.size w (((w.alloc (.cells #[.int .i64 x] 67)).alloc (.cells #[.int .i64 0] 67)).alloc (.cells #[.slice A zs.length cap] 22)) := (((Below.refl _ w).alloc (Nat.le_refl _) _).alloc (by simp) _).alloc (by simp; omega) _
 have hblk : (((w.alloc (.cells #[.int .i64 x] 67)).alloc (.cells #[.int .i64 0] 67)).alloc (.cells #[.slice A zs.length cap] 22)).heap[w.heap.size + 2]? = some (.cells #[.slice A zs.length cap] 22 (0, 0)) := by
  have := blk_new ((w.alloc (.cells #[.int .i64 x] 67)).alloc (.cells #[.int .i64 0] 67)) (.cells #[.slice A zs.length cap] 22)
  simpa using this
 have hKB : ∀ (W : World) (l : Nat) (o o' : Obj), (((w.alloc (.cells #[.int .i64 x] 67)).alloc (.cells #[.int .i64 0] 67)).alloc (.cells #[.slice A zs.length cap] 22)).heap.size ≤ l → W.heap[l]? = some o → o.isCells = false → o.isWalk = false → Kq w.heap.size (w.heap.size + 2) W (W.putObj l o') :=
  kq_b (by simp <;> omega) (by simp <;> omega)
 refine wpIn_rangeFunc_ownG hro h1 (gf := 131) (lb := #[.pointer (some ⟨w.heap.size + 2, 0, none⟩)]) rfl trivial (enters_of Tryz.func131 (by kernel_rfl) rfl)
  (backward_stops Fence.wide (3 - 1) trivial hro (by omega) (w.heap.size + 2) w.heap.size A cap zs hreach _ (by simp <;> omega) (by simp <;> omega) hblk (hI.below hB0)) Kq.trans hKB (Below.refl _ _) (fun _ => rfl)
  (fun pre W => ((W.cell? ⟨w.heap.size, 0, none⟩ = some (.int .i64 x) ∧ W.frozen? ⟨w.heap.size, 0, none⟩ = false) ∧ (W.cell? ⟨w.heap.size + 1, 0, none⟩ = some (.int .i64 (bwFold x pre)) ∧ W.frozen? ⟨w.heap.size + 1, 0, none⟩ = false)) ∧ Below w.heap.size w W)
  (fun _ _ _ => False)
  (OwnFrom.and (Own.from (fun s A B row hs hg hr => ⟨⟨cell_kept hs.1.1 hg hr, (frozen_kept hs.1.1 hg hr).trans hs.1.2⟩, cell_kept hs.2.1 hg hr, (frozen_kept hs.2.1 hg hr).trans hs.2.2⟩) _) (ownFrom_below (Nat.le_refl _) (by simp; omega)))
  (fun _ _ _ _ _ hs _ _ => hs)
  ⟨⟨⟨((bX.alloc _).alloc _).cell, ((bX.alloc _).alloc _).frozen⟩, (bO.alloc _).cell, (bO.alloc _).frozen⟩, hB0⟩
  (fun y => { tmps := #[.slice A zs.length cap, .int .i64 x, undef, .pointer (some ⟨w.heap.size, 0, none⟩), .int .i64 0, .pointer (some ⟨w.heap.size + 1, 0, none⟩), undef, .int .i64 y.2, .slice A zs.length cap, .func (.func 131) #[] #[.pointer (some ⟨w.heap.size + 2, 0, none⟩)], .int .i64 y.1, .int .i64 y.2, undef, undef, undef, undef, undef, undef], defers := [] }) ?assign ?body ?done ?stop
 case assign =>
  intro l y W K hK
  gi_wp2
  exact hK
 case body =>
  rintro l pre y W ⟨⟨⟨hx, hxf⟩, hc, hf⟩, hB⟩ _
  obtain ⟨t, ht⟩ := times_tot (bwFold x pre) x
  obtain ⟨u, hu⟩ := plus_tot t y.2
  have hst : bwFold x (pre ++ [y]) = u := by rw [bwFold_snoc, hStep, ht, Option.bind_some, hu]; rfl
  gi_wp2_with (first | (refine ⟨trivial, ?_⟩; gi_at_call 67; refine (CallsIn.inRound l (callsIn_wide.2 (impl_element_times.calls _ _ _ _ ht))).mono ?_; rintro e w' ⟨rfl, ⟨nd0, rfl⟩⟩) | (refine ⟨trivial, ?_⟩; gi_at_call 70; refine (CallsIn.inRound l (callsIn_wide.2 (impl_element_plus.calls _ _ _ _ hu))).mono ?_; rintro e w' ⟨rfl, ⟨nd, rfl⟩⟩))
  have hk : KeepsOthers W (W.drewN (nd0 + nd)) := ⟨Nat.le_refl _, fun _ _ h _ => h⟩
  have hbel : Below w.heap.size W ((W.drewN (nd0 + nd)).setCell ⟨w.heap.size + 1, 0, none⟩ (.int .i64 u)) := (pw_below_drewN (Below.refl _ W) _).setCell (p := ⟨w.heap.size + 1, 0, none⟩) (by simp) _
  refine ⟨(hk.trans (KeepsOthers.setCell _ _ _)).from _, ⟨hbel, Below.heap_setCell _ _ _ _ (by simp)⟩, ⟨⟨?_, ?_⟩, ?_, ?_⟩, hB.trans hbel⟩
  ·exact Eq.trans (World.cell?_setCell_other _ _ _ _ (by intro e; injection e with e; omega)) hx
  ·rw [World.frozen?_setCell]; exact hxf
  ·rw [hst]; exact World.cell?_setCell_same' _ _ _ (by rw [show (W.drewN (nd0 + nd)).cell? ⟨w.heap.size + 1, 0, none⟩ = _ from hc]; rfl)
  ·rw [World.frozen?_setCell]; exact hf
 case done =>
  rintro D ys W hD rfl ⟨⟨_, hc, _⟩, hB⟩ hK
  gi_wp2
  refine ⟨by simp, .inl ⟨_, _, rfl, run_takeDeferred hK, ?_⟩⟩
  exact ⟨_, results_tmp rfl _ _ _, rfl, hB.trans (belowK_b (w := w) (Nat.le_refl _) W D _ _ (by simp at hD; omega) hK rfl rfl)⟩
 case stop =>
  rintro D c pre W _ _ h _
  exact h.elim
def impl_value.f (l0 : List Int) (a1 : Int) : Option Int := if l0.length ≤ 17592186044416 then some (bwFold a1 (bwUpto (bwAt l0) l0.length)) else none
theorem bwInts_of {w : World} {A : Option Addr} {c : Nat} {l : List Int} (h : Kd.C (Kd.int .i64) w A l.length l) : BwInts w.heap.size w (.slice A l.length c) l := by
 refine ⟨A, c, rfl, fun hp => ?_⟩
 obtain ⟨ad, rfl, hx⟩ := Kd.at_int h 0 (by omega) (by omega)
 refine ⟨ad, rfl, ?_, fun j hj => ?_⟩
 ·have := World.block_lt_of_cell? w _ hx
  rwa [add_blk] at this
 ·obtain ⟨ad2, e2, hx2⟩ := Kd.at_int h j (by omega) (by omega)
  cases e2
  simpa using hx2
theorem impl_value.calls (A0 : Option Addr) (c0 : Nat) (l0 : List Int) (a1 : Int) (r : Int) (w : World) (hr0 : Kd.C (Kd.int .i64) w A0 l0.length l0) (hc0 : l0.length ≤ c0) (h : impl_value.f l0 a1 = some r) :
  Calls Tryz.prog 89 #[.slice A0 l0.length c0, .int .i64 a1] w fun e w' => e = .returned (.int .i64 r) ∧ Below w.heap.size w w' := by
 unfold impl_value.f at h
 by_cases hl : l0.length ≤ 17592186044416
 ·rw [if_pos hl] at h
  obtain rfl := Option.some.inj h
  exact callsIn_wide.1 (value_in A0 c0 l0 a1 hl w (bwInts_of hr0))
 ·rw [if_neg hl] at h; cases h
end
def impl_element_power.l0 : Nat → Int → Int → Int → Int → Option (Int)
  | 0, _, _, _, _ => none
  | k + 1, x0, x5, x6, x7 => if x7 < x6 then ((impl_element_times.f x5 x0).bind fun t272 => (impl_element_power.l0 k x0 t272 x6 (wrap64 (x7 + 1)))) else (some x5)
def impl_element_power.f (k : Nat) (a0 : Int) (a1 : Int) : Option (Int) := impl_element_power.l0 k a0 1 a1 0
set_option maxHeartbeats 8000000 in
set_option maxRecDepth 100000 in
theorem impl_element_power.calls (k : Nat) (a0 : Int) (a1 : Int) (r : Int) (w : World) (h : impl_element_power.f k a0 a1 = some r) :
  Calls Tryz.prog 90 #[.int .i64 a0, .int .i64 a1] w fun e w' => e = .returned (.int .i64 r) ∧ Drawn0 w w' := by
 have H : (impl_element_power.l0 k a0 1 a1 0) = some r := h
 clear h
 have H' := Aside0.mk H
 clear H
 go_enter Tryz.func90, Tryz.ntmps90
 go_wp2
 go_loopg [5, 7] k (fun kq v5 v7 w' => ∃ (x5_1 : Int) (x7_1 : Int), v5 = .int .i64 x5_1 ∧ v7 = .int .i64 x7_1 ∧ Aside0 (impl_element_power.l0 kq a0 x5_1 a1 x7_1 = some r) ∧ Aside0 (kq ≤ k) ∧ Drawn0 w w')
 case atStart => exact ⟨(1), (0), rfl, rfl, H', ⟨Nat.le_refl _⟩, by repeat (first | exact Drawn0.refl _ | apply Drawn0.step)⟩
 case round =>
  clear H'
  try clear p2
  obtain ⟨x5_1, x7_1, rfl, rfl, HA, HK1, ⟨m1, rfl⟩⟩ := hrel
  cases gk with
  | zero => exact absurd HA.out (by simp [impl_element_power.l0])
  | succ k1 =>
   have H := HA.out
   clear HA
   simp only [impl_element_power.l0] at H
   by_cases c3 : x7_1 < a1
   ·rw [if_pos c3] at H
    have c3b0 : decide (x7_1 < a1) = true := decide_eq_true c3
    clear c3
    replace H := bnd H
    obtain ⟨t471, A4, H⟩ := H
    have H' := Aside0.mk H
    clear H
    go_wp2_with (first | (refine gsD c67x15 (impl_element_times.calls x5_1 a0 t471 _ A4.out) ?_; intro nd))
    go_roundg k1
    case measure => have := HK1.out; omega
    case rel => exact ⟨(t471), (wrap64 (x7_1 + 1)), rfl, rfl, H', ⟨by have := HK1.out; omega⟩, ⟨_, rfl⟩⟩
   ·rw [if_neg c3] at H
    have c3b0 : decide (x7_1 < a1) = false := decide_eq_false c3
    clear c3
    obtain rfl := Option.some.inj H
    go_wp2
    go_ret
    exact ⟨rfl, ⟨_, rfl⟩⟩
def impl_oneHot.f (a0 : Int) : Option Bool := some (decide (a0 = 2))
theorem oneHot_ta0 (w : World) : (Instr.typeAssert .nilIface 69 104 true).run Tryz.prog w = .ok (.tuple #[.agg #[], .bool false]) w := by kernel_rfl
theorem oneHot_ta1 (w : World) : (Instr.typeAssert (.iface 103 (.agg #[])) 69 104 true).run Tryz.prog w = .ok (.tuple #[.agg #[], .bool false]) w := by kernel_rfl
theorem oneHot_ta2 (w : World) : (Instr.typeAssert (.iface 104 (.agg #[])) 69 104 true).run Tryz.prog w = .ok (.tuple #[.agg #[], .bool true]) w := by kernel_rfl
theorem oneHot_ta3 (w : World) : (Instr.typeAssert (.iface 105 (.agg #[])) 69 104 true).run Tryz.prog w = .ok (.tuple #[.agg #[], .bool false]) w := by kernel_rfl
set_option maxRecDepth 100000 in
theorem impl_oneHot.calls (a0 : Int) (r : Bool) (w : World) (h : impl_oneHot.f a0 = some r) :
  Calls Tryz.prog 91 #[.int .i64 a0] w fun e w' => e = .returned (.bool r) ∧ Drawn0 w w' := by
 obtain rfl := Option.some.inj h
 clear h
 have t0 := oneHot_ta0
 have t1 := oneHot_ta1
 have t2 := oneHot_ta2
 have t3 := oneHot_ta3
 by_cases h1 : a0 = 1
 ·subst h1
  rw [show decide ((1 : Int) = 2) = false from rfl]
  go_enter Tryz.func91, Tryz.ntmps91
  go_wp2_with (first | (go_at_call 54; refine (measureOf.c1 _).mono ?_; rintro e w' ⟨rfl, rfl⟩))
  go_ret
  exact ⟨rfl, Drawn0.refl _⟩
 by_cases h2 : a0 = 2
 ·subst h2
  rw [show decide ((2 : Int) = 2) = true from rfl]
  go_enter Tryz.func91, Tryz.ntmps91
  go_wp2_with (first | (go_at_call 54; refine (measureOf.c2 _).mono ?_; rintro e w' ⟨rfl, rfl⟩))
  go_ret
  exact ⟨rfl, Drawn0.refl _⟩
 by_cases h3 : a0 = 3
 ·subst h3
  rw [show decide ((3 : Int) = 2) = false from rfl]
  go_enter Tryz.func91, Tryz.ntmps91
  go_wp2_with (first | (go_at_call 54; refine (measureOf.c3 _).mono ?_; rintro e w' ⟨rfl, rfl⟩))
  go_ret
  exact ⟨rfl, Drawn0.refl _⟩
 ·rw [show decide (a0 = 2) = false by simp [h2]]
  go_enter Tryz.func91, Tryz.ntmps91
  go_wp2_with (first | (go_at_call 54; refine (measureOf.c0 a0 _ h1 h2 h3).mono ?_; rintro e w' ⟨rfl, rfl⟩))
  go_ret
  exact ⟨rfl, Drawn0.refl _⟩
def impl_total.l0 : Nat → Int → List Int → Int → Int → Option (Int)
  | 0, _, _, _, _ => none
  | k + 1, x3, x6, x7, x8 => if x8 < x7 then (if 0 ≤ x8 then (if x8 < (x6.length : Int) then ((impl_element_plus.f x3 (rd x6 x8)).bind fun t274 => (impl_total.l0 k t274 x6 x7 (wrap64 (x8 + 1)))) else (none)) else (none)) else (some x3)
def impl_total.f (k : Nat) (l0 : List Int) : Option (Int) := impl_total.l0 k 0 l0 (l0.length : Int) 0
set_option maxHeartbeats 8000000 in
set_option maxRecDepth 100000 in
theorem impl_total.calls (k : Nat) (A0 : Option Addr) (c0 : Nat) (l0 : List Int) (r : Int) (w : World) (hr0 : Kd.C (Kd.int .i64) w A0 l0.length l0) (hc0 : l0.length ≤ c0) (h : impl_total.f k l0 = some r) :
  Calls Tryz.prog 92 #[.slice A0 l0.length c0] w fun e w' => e = .returned (.int .i64 r) ∧ Drawn0 w w' := by
 have HR0 := Aside0.mk hr0
 have HC0 := Aside0.mk hc0
 clear hr0 hc0
 have H : (impl_total.l0 k 0 l0 (l0.length : Int) 0) = some r := h
 clear h
 have H' := Aside0.mk H
 clear H
 go_enter Tryz.func92, Tryz.ntmps92
 go_wp2
 go_loopg [3, 8] k (fun kq v3 v8 w' => ∃ (x3_1 : Int) (x8_1 : Int), v3 = .int .i64 x3_1 ∧ v8 = .int .i64 x8_1 ∧ Aside0 (impl_total.l0 kq x3_1 l0 (l0.length : Int) x8_1 = some r) ∧ Aside0 (kq ≤ k) ∧ Drawn0 w w')
 case atStart => exact ⟨(0), (0), rfl, rfl, H', ⟨Nat.le_refl _⟩, by repeat (first | exact Drawn0.refl _ | apply Drawn0.step)⟩
 case round =>
  clear H'
  obtain ⟨x3_1, x8_1, rfl, rfl, HA, HK1, ⟨m1, rfl⟩⟩ := hrel
  cases gk with
  | zero => exact absurd HA.out (by simp [impl_total.l0])
  | succ k1 =>
   have H := HA.out
   clear HA
   simp only [impl_total.l0] at H
   by_cases c2 : x8_1 < (l0.length : Int)
   ·rw [if_pos c2] at H
    have c2b0 : decide (x8_1 < (l0.length : Int)) = true := decide_eq_true c2
    clear c2
    by_cases c3 : 0 ≤ x8_1
    ·rw [if_pos c3] at H
     have c3b0 : decide (0 ≤ x8_1) = true := decide_eq_true c3
     clear c3
     by_cases c4 : x8_1 < (l0.length : Int)
     ·rw [if_pos c4] at H
      have c4b0 : decide (x8_1 < (l0.length : Int)) = true := decide_eq_true c4
      clear c4
      replace H := bnd H
      obtain ⟨t473, A5, H⟩ := H
      have H' := Aside0.mk H
      clear H
      have p472 : 0 ≤ (x8_1 : Int) := of_decide_eq_true ‹_›
      have q472 : x8_1 < (l0.length : Int) := of_decide_eq_true ‹_›
      obtain ⟨ad472, e472, hx472_0⟩ := Kd.at_int HR0.out x8_1 p472 q472
      cases e472
      replace p472 := eq_true p472
      replace q472 := eq_true q472
      go_wp2_with (first | (refine gsD c70x15 (impl_element_plus.calls x3_1 (rd l0 x8_1) t473 _ A5.out) ?_; intro nd))
      go_roundg k1
      case measure => have := HK1.out; omega
      case rel => exact ⟨(t473), (wrap64 (x8_1 + 1)), rfl, rfl, H', ⟨by have := HK1.out; omega⟩, ⟨_, rfl⟩⟩
     ·rw [if_neg c4] at H
      exact absurd H (by simp)
    ·rw [if_neg c3] at H
     exact absurd H (by simp)
   ·rw [if_neg c2] at H
    have c2b0 : decide (x8_1 < (l0.length : Int)) = false := decide_eq_false c2
    clear c2
    obtain rfl := Option.some.inj H
    go_wp2
    go_ret
    exact ⟨rfl, ⟨_, rfl⟩⟩
end Go.Proofs.YtlgbblaidohljaaGreatDoor.Zk
