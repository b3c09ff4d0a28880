import Derived.Test.YtlgbblaidohljaaGreatDoorZ
import Derived.Test.YtlgbblaidohljaaGreatDoorZk0
import Derived.Test.YtlgbblaidohljaaGreatDoorZk6
import Derived.Test.YtlgbblaidohljaaGreatDoorZk7
import Derived.Test.YtlgbblaidohljaaGreatDoorZk9
namespace Go.Proofs.YtlgbblaidohljaaGreatDoor.Zk
open Go.RowKit Go.Proofs.YtlgbblaidohljaaGreatDoorT.PrintWords Go.Proofs.YtlgbblaidohljaaGreatDoorT.PrintLast Go.Proofs.YtlgbblaidohljaaGreatDoorT.PrintMore Go.Proofs.YtlgbblaidohljaaGreatDoor.Z
attribute [local go_sem] max2_int min2_int max_two min_two max_three min_three max_four min_four
set_option linter.unusedVariables false
set_option linter.unusedSimpArgs false
def impl_Part_check.f (a0_0 : Int) (a0_1 : Int) (a0_2 : Int) (l0_3 : List Int) : Option (Bool) := (impl_idOk.f a0_0).bind fun t284 => (if t284 = true then ((impl_within.f a0_2 1 2).bind fun t285 => (if t285 = true then ((impl_ProofLen.f a0_1).bind fun t286 => ((impl_sized.f a0_1 l0_3 t286).bind fun t287 => (if t287 = true then (some true) else (some false)))) else (some false))) else (some false))
def impl_Part_check.T1 : Bool × List (List Nat × List Nat) := (true, [([], []), ([0], [0]), ([1], [1]), ([2], [2]), ([3, 2], [3]), ([4], [4]), ([5, 4], [4, 5]), ([6, 4, 4], [4, 6]), ([7, 4], [4, 7]), ([4, 8], [4, 8]), ([9, 7], [9]), ([10], [10]), ([11, 10], [10, 11]), ([10], [10]), ([13, 10], [10, 13]), ([10], [10]), ([15, 10], [10, 15]), ([16, 10, 10], [10, 16]), ([12, 14, 17, 17, 10], [10, 12, 14, 17]), ([18, 10], [10, 18]), ([10, 19], [10, 19])])
def impl_Part_check.B1 : List Nat := [0, 1, 3, 7, 15, 31, 63, 127, 255, 511, 1023, 2047, 4095, 2047, 10239, 2047, 34815, 100351, 262143, 524287, 1048575]
theorem impl_Part_check.tab1 : rtab .any (opsOf Tryz.f105 1) = impl_Part_check.T1 := by kernel_rfl
theorem impl_Part_check.bits1 : waitsOk impl_Part_check.T1.2 impl_Part_check.B1 = true := by kernel_rfl
def ChkRes (r : Bool) (e : Ending) : Prop := match r with | true => e = .returned .nilIface | false => ∃ p, e = .returned (.iface 121 (.pointer (some p)))
set_option maxHeartbeats 8000000 in
set_option maxRecDepth 100000 in
theorem impl_Part_check.calls (a0_0 : Int) (a0_1 : Int) (a0_2 : Int) (A0_3 : Option Addr) (c0_3 : Nat) (l0_3 : List Int) (r : Bool) (w : World) (hr0_3 : Kd.C (Kd.int .i64) w A0_3 l0_3.length l0_3) (hc0_3 : l0_3.length ≤ c0_3) (h : impl_Part_check.f a0_0 a0_1 a0_2 l0_3 = some r) :
  Calls Tryz.prog 105 #[.agg #[.int .i64 a0_0, .int .i64 a0_1, .int .i64 a0_2, .slice A0_3 l0_3.length c0_3]] w fun e w' => ChkRes r e ∧ Below w.heap.size w w' := by
 have hu27 := Tryz.underlying27
 have HR0_3 := Aside0.mk hr0_3
 have HC0_3 := Aside0.mk hc0_3
 clear hr0_3 hc0_3
 have HB := Aside0.mk (Below.refl w.heap.size w)
 have H := h
 unfold impl_Part_check.f at H
 clear h
 replace H := bnd H
 obtain ⟨t284, A2, H⟩ := H
 go_enter Tryz.func105, Tryz.ntmps105
 by_cases c3 : t284 = true
 ·subst c3
  rw [if_pos rfl] at H
  replace H := bnd H
  obtain ⟨t285, A4, H⟩ := H
  by_cases c5 : t285 = true
  ·subst c5
   rw [if_pos rfl] at H
   replace H := bnd H
   obtain ⟨t286, A6, H⟩ := H
   replace H := bnd H
   obtain ⟨t287, A7, H⟩ := H
   try go_wp2_with (first | ((with_reducible refine gate_dst (N := 1) rfl ?_); refine boxZ (N := 1) (cs := #[.int .i64 a0_0, .int .i64 a0_1, .int .i64 a0_2, .slice A0_3 l0_3.length c0_3]) (t := 27) ?_; intro gb283 hg w9 hbox hb; replace BK283 := Aside0.mk (hbox); replace GW283 := gwZ hg; replace GE283 := gwZ hg; replace HB := bnZ hb; clear hb hbox hg))
   replace BK283 := Aside0.mk (blk_drew BK283.out)
   replace HB := Aside0.mk (below_drew1 HB.out)
   refine start_ (n := 21) (S := fun w' => w'.cell? ⟨gb283, 0, none⟩ = some (.int .i64 a0_0) ∧ w'.cell? ⟨gb283, 1, none⟩ = some (.int .i64 a0_1) ∧ w'.cell? ⟨gb283, 2, none⟩ = some (.int .i64 a0_2) ∧ w'.cell? ⟨gb283, 3, none⟩ = some (.slice A0_3 l0_3.length c0_3)) (ds := []) (bs 21 0) (by kernel_rfl) rfl rfl ⟨(blk_cell BK283.out 0).trans rfl, (blk_cell BK283.out 1).trans rfl, (blk_cell BK283.out 2).trans rfl, (blk_cell BK283.out 3).trans rfl⟩ (fun hHeld => ?_); refine with_tabW impl_Part_check.tab1 impl_Part_check.bits1 (fun HT_ HW_ => ?_)
   generalize w9.drew = w10 at BK283 HB hHeld ⊢
   refine pZ 0 (some 3) (bs 21 1) rfl rfl (any_of HT_.out (by kernel_rfl)) ?_
   refine tZ 1 (some 4) (bs 21 3) rfl rfl (take_ofW HT_.out HW_.out (by kernel_rfl)) hHeld (by rintro w' ⟨s0, s1, s2, s3⟩; go_simp; with_reducible rfl) ?_
   refine one_ (i := 2) (N := some 5) (bs 21 7) rfl rfl (one_of HT_.out (by kernel_rfl)) (by decide) (fun K hK => ?_)
   refine goes_ Tryz.func127 (by kernel_rfl) rfl #[.int .i64 a0_0] (by rfl) rfl rfl (by (try simp only [List.map_toArray, List.map_cons, List.map_nil]); first | done | rfl | (simp only [List.length_drop, List.length_take]; rfl)) ?_
   with_reducible refine (impl_idOk.calls a0_0 true _ A2.out).mono ?_
   rintro e w' ⟨rfl, ⟨nd, rfl⟩⟩
   refine ⟨_, rfl, ?_⟩
   refine hK.out _ _ ⟨(blk_cell BK283.out 0).trans rfl, (blk_cell BK283.out 1).trans rfl, (blk_cell BK283.out 2).trans rfl, (blk_cell BK283.out 3).trans rfl⟩ (fun hHeld => ?_)
   clear hK K
   refine norm_ (a' := ?_) ?_ ?_
   rotate_left
   ·show Act.put _ (some 5) _ = _
    simp only [Act.put, List.setIfInBounds_toArray, List.set_cons_zero, List.set_cons_succ, i64_w, i32_w]
    rfl
   refine pZ 3 (some 6) (bs 21 15) rfl rfl (any_of HT_.out (by kernel_rfl)) ?_
   refine pZ 4 (some 7) (bs 21 31) rfl rfl (any_of HT_.out (by kernel_rfl)) ?_
   refine pZ 5 (some 8) (bs 21 63) rfl rfl (any_of HT_.out (by kernel_rfl)) ?_
   refine tZ 6 (some 9) (bs 21 127) rfl rfl (take_ofW HT_.out HW_.out (by kernel_rfl)) hHeld (by rintro w' ⟨s0, s1, s2, s3⟩; go_simp; with_reducible rfl) ?_
   refine one_ (i := 7) (N := some 10) (bs 21 255) rfl rfl (one_of HT_.out (by kernel_rfl)) (by decide) (fun K hK => ?_)
   refine goes_ Tryz.func55 (by kernel_rfl) rfl #[.int .i64 a0_2, .int .i64 1, .int .i64 2] (by rfl) rfl rfl (by (try simp only [List.map_toArray, List.map_cons, List.map_nil]); first | done | rfl | (simp only [List.length_drop, List.length_take]; rfl)) ?_
   with_reducible refine (impl_within.calls a0_2 1 2 true _ A4.out).mono ?_
   rintro e w' ⟨rfl, ⟨nd, rfl⟩⟩
   refine ⟨_, rfl, ?_⟩
   refine hK.out _ _ ⟨(blk_cell BK283.out 0).trans rfl, (blk_cell BK283.out 1).trans rfl, (blk_cell BK283.out 2).trans rfl, (blk_cell BK283.out 3).trans rfl⟩ (fun hHeld => ?_)
   clear hK K
   refine norm_ (a' := ?_) ?_ ?_
   rotate_left
   ·show Act.put _ (some 10) _ = _
    simp only [Act.put, List.setIfInBounds_toArray, List.set_cons_zero, List.set_cons_succ, i64_w, i32_w]
    rfl
   refine pZ 8 (some 11) (bs 21 511) rfl rfl (any_of HT_.out (by kernel_rfl)) ?_
   refine pZ 9 (some 12) (bs 21 1023) rfl rfl (any_of HT_.out (by kernel_rfl)) ?_
   refine pZ 10 (some 13) (bs 21 2047) rfl rfl (any_of HT_.out (by kernel_rfl)) ?_
   refine pZ 11 (some 14) (bs 21 4095) rfl rfl (any_of HT_.out (by kernel_rfl)) ?_
   refine pZ 13 (some 16) (bs 21 12287) rfl rfl (any_of HT_.out (by kernel_rfl)) ?_
   refine pZ 15 (some 18) (bs 21 45055) rfl rfl (any_of HT_.out (by kernel_rfl)) ?_
   refine tZ 12 (some 15) (bs 21 49151) rfl rfl (take_ofW HT_.out HW_.out (by kernel_rfl)) hHeld (by rintro w' ⟨s0, s1, s2, s3⟩; go_simp; with_reducible rfl) ?_
   refine tZ 14 (some 17) (bs 21 65535) rfl rfl (take_ofW HT_.out HW_.out (by kernel_rfl)) hHeld (by rintro w' ⟨s0, s1, s2, s3⟩; go_simp; with_reducible rfl) ?_
   refine tZ 16 (some 19) (bs 21 131071) rfl rfl (take_ofW HT_.out HW_.out (by kernel_rfl)) hHeld (by rintro w' ⟨s0, s1, s2, s3⟩; go_simp; with_reducible rfl) ?_
   refine one_ (i := 17) (N := some 20) (bs 21 262143) rfl rfl (one_of HT_.out (by kernel_rfl)) (by decide) (fun K hK => ?_)
   refine goes_ Tryz.func52 (by kernel_rfl) rfl #[.int .i64 a0_1] (by rfl) rfl rfl (by (try simp only [List.map_toArray, List.map_cons, List.map_nil]); first | done | rfl | (simp only [List.length_drop, List.length_take]; rfl)) ?_
   with_reducible refine (impl_ProofLen.calls a0_1 t286 _ A6.out).mono ?_
   rintro e w11 ⟨rfl, hb⟩
   refine ⟨_, rfl, ?_⟩
   replace BK283 := bkZ hb BK283.out
   replace HB := bnZ hb
   (try clear hb)
   (try clear hb2)
   (try clear hk)
   (try clear hi)
   refine hK.out _ _ ⟨(blk_cell BK283.out 0).trans rfl, (blk_cell BK283.out 1).trans rfl, (blk_cell BK283.out 2).trans rfl, (blk_cell BK283.out 3).trans rfl⟩ (fun hHeld => ?_)
   clear hK K
   refine norm_ (a' := ?_) ?_ ?_
   rotate_left
   ·show Act.put _ (some 20) _ = _
    simp only [Act.put, List.setIfInBounds_toArray, List.set_cons_zero, List.set_cons_succ, i64_w, i32_w]
    rfl
   refine one_ (i := 18) (N := some 21) (bs 21 524287) rfl rfl (one_of HT_.out (by kernel_rfl)) (by decide) (fun K hK => ?_)
   refine goes_ Tryz.func51 (by kernel_rfl) rfl #[.int .i64 a0_1, .slice A0_3 l0_3.length c0_3, .int .i64 t286] (by rfl) rfl rfl (by (try simp only [List.map_toArray, List.map_cons, List.map_nil]); first | done | rfl | (simp only [List.length_drop, List.length_take]; rfl)) ?_
   with_reducible refine (impl_sized.calls a0_1 _ _ l0_3 t286 t287 _ ?side1 ?side2 A7.out).mono ?_
   (case side1 => exact (Kd.C_below HR0_3.out HB.out))
   (case side2 => exact HC0_3.out)
   rintro e w' ⟨rfl, ⟨nd, rfl⟩⟩
   refine ⟨_, rfl, ?_⟩
   refine hK.out _ _ ⟨(blk_cell BK283.out 0).trans rfl, (blk_cell BK283.out 1).trans rfl, (blk_cell BK283.out 2).trans rfl, (blk_cell BK283.out 3).trans rfl⟩ (fun hHeld => ?_)
   clear hK K
   refine norm_ (a' := ?_) ?_ ?_
   rotate_left
   ·show Act.put _ (some 21) _ = _
    simp only [Act.put, List.setIfInBounds_toArray, List.set_cons_zero, List.set_cons_succ, i64_w, i32_w]
    rfl
   refine pZ 19 (some 22) (bs 21 1048575) rfl rfl (any_of HT_.out (by kernel_rfl)) ?_
   refine pZ 20 (some 23) (bs 21 2097151) rfl rfl (any_of HT_.out (by kernel_rfl)) ?_
   refine done_ (done_of HT_.out (by kernel_rfl)) ?_
   have hcz9_ : _ = some (Value.int .i64 a0_0) := (blk_cell BK283.out 0).trans rfl
   by_cases c8 : t287 = true
   ·subst c8
    rw [if_pos rfl] at H
    obtain rfl := Option.some.inj H
    try go_wp2
    go_ret
    exact ⟨by first | exact rfl | exact ⟨_, rfl⟩ | rfl | (simp [errW_none, errW_some] <;> rfl) | (simp [*, errW_none, errW_some] <;> rfl), by repeat (with_reducible first | exact HB.out | apply below_alloc | apply pw_below_drewN | apply below_drew1 | refine below_set ?_ GE283.out)⟩
   ·replace c8 := Bool.eq_false_iff.mpr c8
    subst c8
    rw [if_neg (show ¬ (false = true) by decide)] at H
    obtain rfl := Option.some.inj H
    try go_wp2
    go_ret
    exact ⟨by first | exact rfl | exact ⟨_, rfl⟩ | rfl | (simp [errW_none, errW_some] <;> rfl) | (simp [*, errW_none, errW_some] <;> rfl), by repeat (with_reducible first | exact HB.out | apply below_alloc | apply pw_below_drewN | apply below_drew1 | refine below_set ?_ GE283.out)⟩
  ·replace c5 := Bool.eq_false_iff.mpr c5
   subst c5
   rw [if_neg (show ¬ (false = true) by decide)] at H
   obtain rfl := Option.some.inj H
   try go_wp2_with (first | ((with_reducible refine gate_dst (N := 1) rfl ?_); refine boxZ (N := 1) (cs := #[.int .i64 a0_0, .int .i64 a0_1, .int .i64 a0_2, .slice A0_3 l0_3.length c0_3]) (t := 27) ?_; intro gb283 hg w15 hbox hb; replace BK283 := Aside0.mk (hbox); replace GW283 := gwZ hg; replace GE283 := gwZ hg; replace HB := bnZ hb; clear hb hbox hg))
   replace BK283 := Aside0.mk (blk_drew BK283.out)
   replace HB := Aside0.mk (below_drew1 HB.out)
   refine start_ (n := 21) (S := fun w' => w'.cell? ⟨gb283, 0, none⟩ = some (.int .i64 a0_0) ∧ w'.cell? ⟨gb283, 1, none⟩ = some (.int .i64 a0_1) ∧ w'.cell? ⟨gb283, 2, none⟩ = some (.int .i64 a0_2) ∧ w'.cell? ⟨gb283, 3, none⟩ = some (.slice A0_3 l0_3.length c0_3)) (ds := []) (bs 21 0) (by kernel_rfl) rfl rfl ⟨(blk_cell BK283.out 0).trans rfl, (blk_cell BK283.out 1).trans rfl, (blk_cell BK283.out 2).trans rfl, (blk_cell BK283.out 3).trans rfl⟩ (fun hHeld => ?_); refine with_tabW impl_Part_check.tab1 impl_Part_check.bits1 (fun HT_ HW_ => ?_)
   generalize w15.drew = w16 at BK283 HB hHeld ⊢
   refine pZ 0 (some 3) (bs 21 1) rfl rfl (any_of HT_.out (by kernel_rfl)) ?_
   refine tZ 1 (some 4) (bs 21 3) rfl rfl (take_ofW HT_.out HW_.out (by kernel_rfl)) hHeld (by rintro w' ⟨s0, s1, s2, s3⟩; go_simp; with_reducible rfl) ?_
   refine one_ (i := 2) (N := some 5) (bs 21 7) rfl rfl (one_of HT_.out (by kernel_rfl)) (by decide) (fun K hK => ?_)
   refine goes_ Tryz.func127 (by kernel_rfl) rfl #[.int .i64 a0_0] (by rfl) rfl rfl (by (try simp only [List.map_toArray, List.map_cons, List.map_nil]); first | done | rfl | (simp only [List.length_drop, List.length_take]; rfl)) ?_
   with_reducible refine (impl_idOk.calls a0_0 true _ A2.out).mono ?_
   rintro e w' ⟨rfl, ⟨nd, rfl⟩⟩
   refine ⟨_, rfl, ?_⟩
   refine hK.out _ _ ⟨(blk_cell BK283.out 0).trans rfl, (blk_cell BK283.out 1).trans rfl, (blk_cell BK283.out 2).trans rfl, (blk_cell BK283.out 3).trans rfl⟩ (fun hHeld => ?_)
   clear hK K
   refine norm_ (a' := ?_) ?_ ?_
   rotate_left
   ·show Act.put _ (some 5) _ = _
    simp only [Act.put, List.setIfInBounds_toArray, List.set_cons_zero, List.set_cons_succ, i64_w, i32_w]
    rfl
   refine pZ 3 (some 6) (bs 21 15) rfl rfl (any_of HT_.out (by kernel_rfl)) ?_
   refine pZ 4 (some 7) (bs 21 31) rfl rfl (any_of HT_.out (by kernel_rfl)) ?_
   refine pZ 5 (some 8) (bs 21 63) rfl rfl (any_of HT_.out (by kernel_rfl)) ?_
   refine tZ 6 (some 9) (bs 21 127) rfl rfl (take_ofW HT_.out HW_.out (by kernel_rfl)) hHeld (by rintro w' ⟨s0, s1, s2, s3⟩; go_simp; with_reducible rfl) ?_
   refine one_ (i := 7) (N := some 10) (bs 21 255) rfl rfl (one_of HT_.out (by kernel_rfl)) (by decide) (fun K hK => ?_)
   refine goes_ Tryz.func55 (by kernel_rfl) rfl #[.int .i64 a0_2, .int .i64 1, .int .i64 2] (by rfl) rfl rfl (by (try simp only [List.map_toArray, List.map_cons, List.map_nil]); first | done | rfl | (simp only [List.length_drop, List.length_take]; rfl)) ?_
   with_reducible refine (impl_within.calls a0_2 1 2 false _ A4.out).mono ?_
   rintro e w' ⟨rfl, ⟨nd, rfl⟩⟩
   refine ⟨_, rfl, ?_⟩
   refine hK.out _ _ ⟨(blk_cell BK283.out 0).trans rfl, (blk_cell BK283.out 1).trans rfl, (blk_cell BK283.out 2).trans rfl, (blk_cell BK283.out 3).trans rfl⟩ (fun hHeld => ?_)
   clear hK K
   refine norm_ (a' := ?_) ?_ ?_
   rotate_left
   ·show Act.put _ (some 10) _ = _
    simp only [Act.put, List.setIfInBounds_toArray, List.set_cons_zero, List.set_cons_succ, i64_w, i32_w]
    rfl
   refine pZ 8 (some 11) (bs 21 511) rfl rfl (any_of HT_.out (by kernel_rfl)) ?_
   refine pZ 9 (some 12) (bs 21 1023) rfl rfl (any_of HT_.out (by kernel_rfl)) ?_
   refine pZ 10 (some 13) (bs 21 2047) rfl rfl (any_of HT_.out (by kernel_rfl)) ?_
   refine pure_ (i := 11) (N := some 14) (v := undef) (a' := ?_) (bs 21 4095) rfl rfl (any_of HT_.out (by kernel_rfl)) (fun _ _ _ h => h) (Or.inr ⟨by rfl, rfl⟩) ?_ ?_
   rotate_left
   ·simp only [Act.put, List.setIfInBounds_toArray, List.set_cons_zero, List.set_cons_succ, i64_w, i32_w]
    rfl
   refine pure_ (i := 12) (N := some 15) (v := undef) (a' := ?_) (bs 21 8191) rfl rfl (any_of HT_.out (by kernel_rfl)) (fun _ _ _ h => h) (Or.inr ⟨by rfl, rfl⟩) ?_ ?_
   rotate_left
   ·simp only [Act.put, List.setIfInBounds_toArray, List.set_cons_zero, List.set_cons_succ, i64_w, i32_w]
    rfl
   refine pure_ (i := 13) (N := some 16) (v := undef) (a' := ?_) (bs 21 16383) rfl rfl (any_of HT_.out (by kernel_rfl)) (fun _ _ _ h => h) (Or.inr ⟨by rfl, rfl⟩) ?_ ?_
   rotate_left
   ·simp only [Act.put, List.setIfInBounds_toArray, List.set_cons_zero, List.set_cons_succ, i64_w, i32_w]
    rfl
   refine pure_ (i := 14) (N := some 17) (v := undef) (a' := ?_) (bs 21 32767) rfl rfl (any_of HT_.out (by kernel_rfl)) (fun _ _ _ h => h) (Or.inr ⟨by rfl, rfl⟩) ?_ ?_
   rotate_left
   ·simp only [Act.put, List.setIfInBounds_toArray, List.set_cons_zero, List.set_cons_succ, i64_w, i32_w]
    rfl
   refine pure_ (i := 15) (N := some 18) (v := undef) (a' := ?_) (bs 21 65535) rfl rfl (any_of HT_.out (by kernel_rfl)) (fun _ _ _ h => h) (Or.inr ⟨by rfl, rfl⟩) ?_ ?_
   rotate_left
   ·simp only [Act.put, List.setIfInBounds_toArray, List.set_cons_zero, List.set_cons_succ, i64_w, i32_w]
    rfl
   refine pure_ (i := 16) (N := some 19) (v := undef) (a' := ?_) (bs 21 131071) rfl rfl (any_of HT_.out (by kernel_rfl)) (fun _ _ _ h => h) (Or.inr ⟨by rfl, rfl⟩) ?_ ?_
   rotate_left
   ·simp only [Act.put, List.setIfInBounds_toArray, List.set_cons_zero, List.set_cons_succ, i64_w, i32_w]
    rfl
   refine pure_ (i := 17) (N := some 20) (v := undef) (a' := ?_) (bs 21 262143) rfl rfl (any_of HT_.out (by kernel_rfl)) (fun _ _ _ h => h) (Or.inr ⟨by rfl, rfl⟩) ?_ ?_
   rotate_left
   ·simp only [Act.put, List.setIfInBounds_toArray, List.set_cons_zero, List.set_cons_succ, i64_w, i32_w]
    rfl
   refine pure_ (i := 18) (N := some 21) (v := undef) (a' := ?_) (bs 21 524287) rfl rfl (any_of HT_.out (by kernel_rfl)) (fun _ _ _ h => h) (Or.inr ⟨by rfl, rfl⟩) ?_ ?_
   rotate_left
   ·simp only [Act.put, List.setIfInBounds_toArray, List.set_cons_zero, List.set_cons_succ, i64_w, i32_w]
    rfl
   refine pure_ (i := 19) (N := some 22) (v := undef) (a' := ?_) (bs 21 1048575) rfl rfl (any_of HT_.out (by kernel_rfl)) (fun _ _ _ h => h) (Or.inr ⟨by rfl, rfl⟩) ?_ ?_
   rotate_left
   ·simp only [Act.put, List.setIfInBounds_toArray, List.set_cons_zero, List.set_cons_succ, i64_w, i32_w]
    rfl
   refine pZ 20 (some 23) (bs 21 2097151) rfl rfl (any_of HT_.out (by kernel_rfl)) ?_
   refine done_ (done_of HT_.out (by kernel_rfl)) ?_
   have hcz9_ : _ = some (Value.int .i64 a0_0) := (blk_cell BK283.out 0).trans rfl
   try go_wp2
   go_ret
   exact ⟨by first | exact rfl | exact ⟨_, rfl⟩ | rfl | (simp [errW_none, errW_some] <;> rfl) | (simp [*, errW_none, errW_some] <;> rfl), by repeat (with_reducible first | exact HB.out | apply below_alloc | apply pw_below_drewN | apply below_drew1 | refine below_set ?_ GE283.out)⟩
 ·replace c3 := Bool.eq_false_iff.mpr c3
  subst c3
  rw [if_neg (show ¬ (false = true) by decide)] at H
  obtain rfl := Option.some.inj H
  try go_wp2_with (first | ((with_reducible refine gate_dst (N := 1) rfl ?_); refine boxZ (N := 1) (cs := #[.int .i64 a0_0, .int .i64 a0_1, .int .i64 a0_2, .slice A0_3 l0_3.length c0_3]) (t := 27) ?_; intro gb283 hg w17 hbox hb; replace BK283 := Aside0.mk (hbox); replace GW283 := gwZ hg; replace GE283 := gwZ hg; replace HB := bnZ hb; clear hb hbox hg))
  replace BK283 := Aside0.mk (blk_drew BK283.out)
  replace HB := Aside0.mk (below_drew1 HB.out)
  refine start_ (n := 21) (S := fun w' => w'.cell? ⟨gb283, 0, none⟩ = some (.int .i64 a0_0) ∧ w'.cell? ⟨gb283, 1, none⟩ = some (.int .i64 a0_1) ∧ w'.cell? ⟨gb283, 2, none⟩ = some (.int .i64 a0_2) ∧ w'.cell? ⟨gb283, 3, none⟩ = some (.slice A0_3 l0_3.length c0_3)) (ds := []) (bs 21 0) (by kernel_rfl) rfl rfl ⟨(blk_cell BK283.out 0).trans rfl, (blk_cell BK283.out 1).trans rfl, (blk_cell BK283.out 2).trans rfl, (blk_cell BK283.out 3).trans rfl⟩ (fun hHeld => ?_); refine with_tabW impl_Part_check.tab1 impl_Part_check.bits1 (fun HT_ HW_ => ?_)
  generalize w17.drew = w18 at BK283 HB hHeld ⊢
  refine pZ 0 (some 3) (bs 21 1) rfl rfl (any_of HT_.out (by kernel_rfl)) ?_
  refine tZ 1 (some 4) (bs 21 3) rfl rfl (take_ofW HT_.out HW_.out (by kernel_rfl)) hHeld (by rintro w' ⟨s0, s1, s2, s3⟩; go_simp; with_reducible rfl) ?_
  refine one_ (i := 2) (N := some 5) (bs 21 7) rfl rfl (one_of HT_.out (by kernel_rfl)) (by decide) (fun K hK => ?_)
  refine goes_ Tryz.func127 (by kernel_rfl) rfl #[.int .i64 a0_0] (by rfl) rfl rfl (by (try simp only [List.map_toArray, List.map_cons, List.map_nil]); first | done | rfl | (simp only [List.length_drop, List.length_take]; rfl)) ?_
  with_reducible refine (impl_idOk.calls a0_0 false _ A2.out).mono ?_
  rintro e w' ⟨rfl, ⟨nd, rfl⟩⟩
  refine ⟨_, rfl, ?_⟩
  refine hK.out _ _ ⟨(blk_cell BK283.out 0).trans rfl, (blk_cell BK283.out 1).trans rfl, (blk_cell BK283.out 2).trans rfl, (blk_cell BK283.out 3).trans rfl⟩ (fun hHeld => ?_)
  clear hK K
  refine norm_ (a' := ?_) ?_ ?_
  rotate_left
  ·show Act.put _ (some 5) _ = _
   simp only [Act.put, List.setIfInBounds_toArray, List.set_cons_zero, List.set_cons_succ, i64_w, i32_w]
   rfl
  refine pZ 3 (some 6) (bs 21 15) rfl rfl (any_of HT_.out (by kernel_rfl)) ?_
  refine pZ 4 (some 7) (bs 21 31) rfl rfl (any_of HT_.out (by kernel_rfl)) ?_
  refine pure_ (i := 5) (N := some 8) (v := undef) (a' := ?_) (bs 21 63) rfl rfl (any_of HT_.out (by kernel_rfl)) (fun _ _ _ h => h) (Or.inr ⟨by rfl, rfl⟩) ?_ ?_
  rotate_left
  ·simp only [Act.put, List.setIfInBounds_toArray, List.set_cons_zero, List.set_cons_succ, i64_w, i32_w]
   rfl
  refine pure_ (i := 6) (N := some 9) (v := undef) (a' := ?_) (bs 21 127) rfl rfl (any_of HT_.out (by kernel_rfl)) (fun _ _ _ h => h) (Or.inr ⟨by rfl, rfl⟩) ?_ ?_
  rotate_left
  ·simp only [Act.put, List.setIfInBounds_toArray, List.set_cons_zero, List.set_cons_succ, i64_w, i32_w]
   rfl
  refine pure_ (i := 7) (N := some 10) (v := undef) (a' := ?_) (bs 21 255) rfl rfl (any_of HT_.out (by kernel_rfl)) (fun _ _ _ h => h) (Or.inr ⟨by rfl, rfl⟩) ?_ ?_
  rotate_left
  ·simp only [Act.put, List.setIfInBounds_toArray, List.set_cons_zero, List.set_cons_succ, i64_w, i32_w]
   rfl
  refine pure_ (i := 8) (N := some 11) (v := undef) (a' := ?_) (bs 21 511) rfl rfl (any_of HT_.out (by kernel_rfl)) (fun _ _ _ h => h) (Or.inr ⟨by rfl, rfl⟩) ?_ ?_
  rotate_left
  ·simp only [Act.put, List.setIfInBounds_toArray, List.set_cons_zero, List.set_cons_succ, i64_w, i32_w]
   rfl
  refine pZ 9 (some 12) (bs 21 1023) rfl rfl (any_of HT_.out (by kernel_rfl)) ?_
  refine pZ 10 (some 13) (bs 21 2047) rfl rfl (any_of HT_.out (by kernel_rfl)) ?_
  refine pure_ (i := 11) (N := some 14) (v := undef) (a' := ?_) (bs 21 4095) rfl rfl (any_of HT_.out (by kernel_rfl)) (fun _ _ _ h => h) (Or.inr ⟨by rfl, rfl⟩) ?_ ?_
  rotate_left
  ·simp only [Act.put, List.setIfInBounds_toArray, List.set_cons_zero, List.set_cons_succ, i64_w, i32_w]
   rfl
  refine pure_ (i := 12) (N := some 15) (v := undef) (a' := ?_) (bs 21 8191) rfl rfl (any_of HT_.out (by kernel_rfl)) (fun _ _ _ h => h) (Or.inr ⟨by rfl, rfl⟩) ?_ ?_
  rotate_left
  ·simp only [Act.put, List.setIfInBounds_toArray, List.set_cons_zero, List.set_cons_succ, i64_w, i32_w]
   rfl
  refine pure_ (i := 13) (N := some 16) (v := undef) (a' := ?_) (bs 21 16383) rfl rfl (any_of HT_.out (by kernel_rfl)) (fun _ _ _ h => h) (Or.inr ⟨by rfl, rfl⟩) ?_ ?_
  rotate_left
  ·simp only [Act.put, List.setIfInBounds_toArray, List.set_cons_zero, List.set_cons_succ, i64_w, i32_w]
   rfl
  refine pure_ (i := 14) (N := some 17) (v := undef) (a' := ?_) (bs 21 32767) rfl rfl (any_of HT_.out (by kernel_rfl)) (fun _ _ _ h => h) (Or.inr ⟨by rfl, rfl⟩) ?_ ?_
  rotate_left
  ·simp only [Act.put, List.setIfInBounds_toArray, List.set_cons_zero, List.set_cons_succ, i64_w, i32_w]
   rfl
  refine pure_ (i := 15) (N := some 18) (v := undef) (a' := ?_) (bs 21 65535) rfl rfl (any_of HT_.out (by kernel_rfl)) (fun _ _ _ h => h) (Or.inr ⟨by rfl, rfl⟩) ?_ ?_
  rotate_left
  ·simp only [Act.put, List.setIfInBounds_toArray, List.set_cons_zero, List.set_cons_succ, i64_w, i32_w]
   rfl
  refine pure_ (i := 16) (N := some 19) (v := undef) (a' := ?_) (bs 21 131071) rfl rfl (any_of HT_.out (by kernel_rfl)) (fun _ _ _ h => h) (Or.inr ⟨by rfl, rfl⟩) ?_ ?_
  rotate_left
  ·simp only [Act.put, List.setIfInBounds_toArray, List.set_cons_zero, List.set_cons_succ, i64_w, i32_w]
   rfl
  refine pure_ (i := 17) (N := some 20) (v := undef) (a' := ?_) (bs 21 262143) rfl rfl (any_of HT_.out (by kernel_rfl)) (fun _ _ _ h => h) (Or.inr ⟨by rfl, rfl⟩) ?_ ?_
  rotate_left
  ·simp only [Act.put, List.setIfInBounds_toArray, List.set_cons_zero, List.set_cons_succ, i64_w, i32_w]
   rfl
  refine pure_ (i := 18) (N := some 21) (v := undef) (a' := ?_) (bs 21 524287) rfl rfl (any_of HT_.out (by kernel_rfl)) (fun _ _ _ h => h) (Or.inr ⟨by rfl, rfl⟩) ?_ ?_
  rotate_left
  ·simp only [Act.put, List.setIfInBounds_toArray, List.set_cons_zero, List.set_cons_succ, i64_w, i32_w]
   rfl
  refine pure_ (i := 19) (N := some 22) (v := undef) (a' := ?_) (bs 21 1048575) rfl rfl (any_of HT_.out (by kernel_rfl)) (fun _ _ _ h => h) (Or.inr ⟨by rfl, rfl⟩) ?_ ?_
  rotate_left
  ·simp only [Act.put, List.setIfInBounds_toArray, List.set_cons_zero, List.set_cons_succ, i64_w, i32_w]
   rfl
  refine pZ 20 (some 23) (bs 21 2097151) rfl rfl (any_of HT_.out (by kernel_rfl)) ?_
  refine done_ (done_of HT_.out (by kernel_rfl)) ?_
  have hcz9_ : _ = some (Value.int .i64 a0_0) := (blk_cell BK283.out 0).trans rfl
  try go_wp2
  go_ret
  exact ⟨by first | exact rfl | exact ⟨_, rfl⟩ | rfl | (simp [errW_none, errW_some] <;> rfl) | (simp [*, errW_none, errW_some] <;> rfl), by repeat (with_reducible first | exact HB.out | apply below_alloc | apply pw_below_drewN | apply below_drew1 | refine below_set ?_ GE283.out)⟩
def partOk (id kind side : Int) (l : List Int) : Bool := (decide (1 ≤ id) && decide (id ≤ 99)) && (decide (1 ≤ side) && decide (side ≤ 2)) && (kOk kind && decide ((l.length : Int) = 3 * tLen kind + 3) && l.all fOk)
theorem idOk_eq (a : Int) : impl_idOk.f a = some (decide (1 ≤ a) && decide (a ≤ 99)) := by
 unfold impl_idOk.f impl_within.f
 by_cases h : a ≥ 1
 ·rw [if_pos h, decide_eq_true (show 1 ≤ a from h)]; simp
 ·rw [if_neg h, decide_eq_false (show ¬ 1 ≤ a from h)]; simp
theorem sideOk_eq (a : Int) : impl_within.f a 1 2 = some (decide (1 ≤ a) && decide (a ≤ 2)) := by
 unfold impl_within.f
 by_cases h : a ≥ 1
 ·rw [if_pos h, decide_eq_true (show 1 ≤ a from h)]; simp
 ·rw [if_neg h, decide_eq_false (show ¬ 1 ≤ a from h)]; simp
theorem tLen_rngP (kind : Int) : 0 ≤ tLen kind ∧ tLen kind ≤ 4 := by unfold tLen; split <;> (try split) <;> (try split) <;> omega
def plV (kind : Int) : Int := if kOk kind = true then 3 * tLen kind + 3 else 0
theorem proofLen_eq (kind : Int) : impl_ProofLen.f kind = some (plV kind) := by
 have h1 := tLen_rngP kind
 unfold impl_ProofLen.f impl_kindOk.f impl_TypeLen.f plV
 rw [Option.bind_some]
 split
 ·rw [Option.bind_some]
  congr 1
  unfold wrap64
  omega
 ·rfl
theorem sizedPl_eq (kind : Int) (l : List Int) : impl_sized.f kind l (plV kind) = some (kOk kind && decide ((l.length : Int) = 3 * tLen kind + 3) && l.all fOk) := by
 have h1 := tLen_rngP kind
 unfold impl_sized.f impl_kindOk.f impl_elementsOk.f plV
 rw [Option.bind_some]
 cases h : kOk kind
 ·rfl
 ·rw [if_pos rfl, if_pos rfl]
  by_cases h3 : (l.length : Int) = 3 * tLen kind + 3
  ·rw [if_pos h3, Option.bind_some]
   have : (l.length : Int) ≤ 20 := by omega
   simp [h3]; omega
  ·rw [if_neg h3]; simp [h3]
theorem check_eq (id kind side : Int) (l : List Int) : impl_Part_check.f id kind side l = some (partOk id kind side l) := by
 unfold impl_Part_check.f partOk
 rw [idOk_eq, Option.bind_some]
 cases decide (1 ≤ id) && decide (id ≤ 99)
 ·rfl
 rw [if_pos rfl, sideOk_eq, Option.bind_some]
 cases decide (1 ≤ side) && decide (side ≤ 2)
 ·rfl
 rw [if_pos rfl, proofLen_eq, Option.bind_some, sizedPl_eq, Option.bind_some]
 cases kOk kind && decide ((l.length : Int) = 3 * tLen kind + 3) && l.all fOk <;> rfl
def impl_PartOk.f (a0_0 a0_1 a0_2 : Int) (l0_3 : List Int) : Option Bool := some (partOk a0_0 a0_1 a0_2 l0_3)
set_option maxHeartbeats 4000000 in
set_option maxRecDepth 100000 in
theorem partOk_y (id kind side : Int) (A : Option Addr) (c : Nat) (l : List Int) (w : World) (hr : Kd.C (Kd.int .i64) w A l.length l) (hc : l.length ≤ c) (h : partOk id kind side l = true) :
  Calls Tryz.prog 72 #[.agg #[.int .i64 id, .int .i64 kind, .int .i64 side, .slice A l.length c]] w fun e w' => e = .returned (.bool true) ∧ Below w.heap.size w w' := by
 have HR := Aside0.mk hr
 have HP := Aside0.mk ((check_eq id kind side l).trans (congrArg some h))
 clear hr h
 go_enter Tryz.func72, Tryz.ntmps72
 go_wp2_with (first
  | ((with_reducible refine gate_dst (N := 1) rfl ?_); refine boxZ (N := 1) (cs := #[.int .i64 id, .int .i64 kind, .int .i64 side, .slice A l.length c]) (t := 27) ?_; intro gb hgb w1 hbox hb; have HB1 := Aside0.mk (below_alloc hb (.cells #[.pointer none] 121)); have HX := Aside0.mk (blk_alloc hbox (.cells #[.pointer none] 121)); have c0 : (w1.alloc (.cells #[.pointer none] 121)).cell? ⟨gb, 0, none⟩ = some (.int .i64 id) := (blk_cell HX.out 0).trans rfl; have c1 : (w1.alloc (.cells #[.pointer none] 121)).cell? ⟨gb, 1, none⟩ = some (.int .i64 kind) := (blk_cell HX.out 1).trans rfl; have c2 : (w1.alloc (.cells #[.pointer none] 121)).cell? ⟨gb, 2, none⟩ = some (.int .i64 side) := (blk_cell HX.out 2).trans rfl; have c3 : (w1.alloc (.cells #[.pointer none] 121)).cell? ⟨gb, 3, none⟩ = some (.slice A l.length c) := (blk_cell HX.out 3).trans rfl; have HR1 := Aside0.mk (Kd.C_alloc (Kd.C_below HR.out hb) (.cells #[.pointer none] 121)); clear hbox hb hgb)
  | (go_at_call 105; refine (impl_Part_check.calls id kind side A c l true _ ?sC hc HP.out).mono ?_; (case sC => exact HR1.out); rintro e w5 ⟨rfl, hb5⟩; have HB5 := Aside0.mk (below_step HB1.out hb5); clear hb5)
  | (go_at_call 104; refine (as_nil _ _).mono ?_; rintro e w' ⟨rfl, rfl⟩))
 all_goals (go_ret; exact ⟨rfl, HB5.out⟩)
set_option maxHeartbeats 4000000 in
set_option maxRecDepth 100000 in
theorem partOk_n (id kind side : Int) (A : Option Addr) (c : Nat) (l : List Int) (w : World) (hr : Kd.C (Kd.int .i64) w A l.length l) (hc : l.length ≤ c) (h : partOk id kind side l = false) (hT : typeAt w) :
  Calls Tryz.prog 72 #[.agg #[.int .i64 id, .int .i64 kind, .int .i64 side, .slice A l.length c]] w fun e w' => e = .returned (.bool false) ∧ Below w.heap.size w w' := by
 have HR := Aside0.mk hr
 have HP := Aside0.mk ((check_eq id kind side l).trans (congrArg some h))
 have HT := Aside0.mk hT
 clear hr h hT
 go_enter Tryz.func72, Tryz.ntmps72
 go_wp2_with (first
  | ((with_reducible refine gate_dst (N := 1) rfl ?_); refine boxZ (N := 1) (cs := #[.int .i64 id, .int .i64 kind, .int .i64 side, .slice A l.length c]) (t := 27) ?_; intro gb hgb w1 hbox hb; have HS1 := Aside0.mk (below_size hb); have HT1 := Aside0.mk (typeAt_below HT.out (below_alloc hb (.cells #[.pointer none] 121)) (Nat.le_refl _)); have HN1 := Aside0.mk (blk_new w1 (.cells #[.pointer none] 121)); have HB1 := Aside0.mk (below_alloc hb (.cells #[.pointer none] 121)); have HX := Aside0.mk (blk_alloc hbox (.cells #[.pointer none] 121)); have c0 : (w1.alloc (.cells #[.pointer none] 121)).cell? ⟨gb, 0, none⟩ = some (.int .i64 id) := (blk_cell HX.out 0).trans rfl; have c1 : (w1.alloc (.cells #[.pointer none] 121)).cell? ⟨gb, 1, none⟩ = some (.int .i64 kind) := (blk_cell HX.out 1).trans rfl; have c2 : (w1.alloc (.cells #[.pointer none] 121)).cell? ⟨gb, 2, none⟩ = some (.int .i64 side) := (blk_cell HX.out 2).trans rfl; have c3 : (w1.alloc (.cells #[.pointer none] 121)).cell? ⟨gb, 3, none⟩ = some (.slice A l.length c) := (blk_cell HX.out 3).trans rfl; have HR1 := Aside0.mk (Kd.C_alloc (Kd.C_below HR.out hb) (.cells #[.pointer none] 121)); clear hbox hb hgb)
  | (go_at_call 105; refine (impl_Part_check.calls id kind side A c l false _ ?sC hc HP.out).mono ?_; (case sC => exact HR1.out); rintro e w5 ⟨⟨pe, rfl⟩, hb5⟩; have HB5 := Aside0.mk (below_step HB1.out hb5); have HT5 := Aside0.mk (typeAt_below HT1.out hb5 (Nat.le_refl _)); have HN5 := Aside0.mk (blk_below HN1.out hb5); clear hb5)
  | (go_at_call 104; refine (as_hit pe ⟨w1.heap.size, 0, none⟩ (.pointer none) _ HT5.out ((blk_cell HN5.out 0).trans rfl) (blk_frozen HN5.out 0)).mono ?_; rintro e w' ⟨rfl, rfl⟩))
 all_goals (go_ret; exact ⟨rfl, below_set (by repeat (first | exact HB5.out | apply below_alloc)) HS1.out⟩)
theorem impl_PartOk.calls {w0 : World} (a0_0 a0_1 a0_2 : Int) (A0_3 : Option Addr) (c0_3 : Nat) (l0_3 : List Int) (r : Bool) (w : World) (hr0_3 : Kd.C (Kd.int .i64) w A0_3 l0_3.length l0_3) (hc0_3 : l0_3.length ≤ c0_3) (h : impl_PartOk.f a0_0 a0_1 a0_2 l0_3 = some r) (hT : typeAt w0) (hB0 : Below w0.heap.size w0 w) :
  Calls Tryz.prog 72 #[.agg #[.int .i64 a0_0, .int .i64 a0_1, .int .i64 a0_2, .slice A0_3 l0_3.length c0_3]] w fun e w' => e = .returned (.bool r) ∧ Below w.heap.size w w' := by
 obtain rfl := Option.some.inj h
 cases hp : partOk a0_0 a0_1 a0_2 l0_3
 ·exact partOk_n a0_0 a0_1 a0_2 A0_3 c0_3 l0_3 w hr0_3 hc0_3 hp (typeAt_below hT hB0 (Nat.le_refl _))
 ·exact partOk_y a0_0 a0_1 a0_2 A0_3 c0_3 l0_3 w hr0_3 hc0_3 hp
end Go.Proofs.YtlgbblaidohljaaGreatDoor.Zk
