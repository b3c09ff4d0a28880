import Derived.Test.YtlgbblaidohljaaGreatDoorZ
import Derived.Test.YtlgbblaidohljaaGreatDoorZk0
import Derived.Test.YtlgbblaidohljaaGreatDoorZk11
import Derived.Test.YtlgbblaidohljaaGreatDoorZk12
import Derived.Test.YtlgbblaidohljaaGreatDoorZk17
namespace Go.Proofs.YtlgbblaidohljaaGreatDoor.Zk
open Go.RowKit Go.Proofs.YtlgbblaidohljaaGreatDoorT.PrintWords Go.Proofs.YtlgbblaidohljaaGreatDoorT.PrintLast Go.Proofs.YtlgbblaidohljaaGreatDoorT.PrintMore Go.Proofs.YtlgbblaidohljaaGreatDoor.Z
attribute [local go_sem] max2_int min2_int max_two min_two max_three min_three max_four min_four
set_option linter.unusedVariables false
set_option linter.unusedSimpArgs false
theorem c103x18 : Ent Tryz.prog 103 := ent Tryz.func103 (by kernel_rfl) rfl
def spec_l92Two.j0 : Nat → List Int → Int → Int → Int → Int → List Int → Int → Int → Int → List Int → Option (Int × Int × Int × List Int × Int × Int × Int × List Int × Int)
 | 0, _, _, _, _, _, _, _, _, _, _ => none
 | k + 1, x1000, x1001, x558000, x558001, x558002, x558003, x559000, x559001, x559002, x559003 => (spec_l6Rd_pick.f k x1000 x1001 8).bind fun bt576 => (if bt576.1 = 0 then ((spec_l6Rd_pick.f k x1000 bt576.2 (x558003.length : Int)).bind fun bt578 => ((spec_l6Rd_pick.f k x1000 bt578.2 31).bind fun bt580 => (if 0 ≤ bt578.1 then (if bt578.1 < (x558003.length : Int) then (some (x558000, x558001, x558002, (x558003.set (bt578.1 : Int).toNat bt580.1), x559000, x559001, x559002, x559003, bt580.2)) else (none)) else (none)))) else (if bt576.1 = 1 then ((spec_l6Rd_pick.f k x1000 bt576.2 12).bind fun bt583 => (some (x558000, x558001, x558002, x558003, wrap64 (1 + bt583.1), x559001, x559002, x559003, bt583.2))) else (if bt576.1 = 2 then ((spec_l6Rd_pick.f k x1000 bt576.2 3).bind fun bt585 => (if bt585.1 = 0 then (some (x559000, x559001, x559002, x559003, x558000, x558001, x558002, x558003, bt585.2)) else (some (x558000, x558001, x558002, x558003, x559000, x559001, x559002, x559003, bt585.2)))) else (some (x558000, x558001, x558002, x558003, x559000, x559001, x559002, x559003, bt576.2)))))
def spec_l92Two.f (k : Nat) (s0_0 : List Int) (s0_1 : Int) : Option (Int × Int × Int × List Int × Int × Int × Int × List Int × Int) := (spec_l91Val.f k s0_0 s0_1).bind fun bt537 => ((spec_l6Rd_pick.f k s0_0 bt537.2.2 12).bind fun bt540 => ((spec_l6Rd_pick.f k s0_0 bt540.2 1000).bind fun bt542 => ((spec_PartsMake.f k (wrap64 (1 + bt540.1)) bt537.1 bt537.2.1 bt542.1).bind fun bt544 => (if bt544.2.2.2.2.2.2.2.2 = true then (spec_l92Two.j0 k s0_0 bt542.2 bt544.1 bt544.2.1 bt544.2.2.1 bt544.2.2.2.1 bt544.2.2.2.2.1 bt544.2.2.2.2.2.1 bt544.2.2.2.2.2.2.1 bt544.2.2.2.2.2.2.2.1) else ((spec_l6Rd_pick.f k s0_0 bt542.2 4).bind fun bt559 => ((spec_l6Rd_pick.f k s0_0 bt559.2 1000).bind fun bt561 => ((spec_PartsMake.f k 3 2 bt559.1 bt561.1).bind fun bt563 => (spec_l92Two.j0 k s0_0 bt561.2 bt563.1 bt563.2.1 bt563.2.2.1 bt563.2.2.2.1 bt563.2.2.2.2.1 bt563.2.2.2.2.2.1 bt563.2.2.2.2.2.2.1 bt563.2.2.2.2.2.2.2.1))))))))
def spec_l92Two.T7 : Bool × List (List Nat × List Nat) := (true, [([], []), ([0], [0]), ([], []), ([], []), ([3], [3]), ([4], [4]), ([2, 5], [2, 5]), ([], []), ([7, 6], [7]), ([1, 6, 0, 1, 2, 3, 4, 5, 6, 7, 8], [1, 6]), ([9, 8, 8, 0, 1, 2, 3, 4, 5, 6, 7, 8], [8, 9])])
def spec_l92Two.B7 : List Nat := [0, 1, 0, 0, 8, 24, 60, 0, 252, 511, 1023]
theorem spec_l92Two.tab7 : rtab .any (opsOf Tryz.f71 7) = spec_l92Two.T7 := by kernel_rfl
theorem spec_l92Two.bits7 : waitsOk spec_l92Two.T7.2 spec_l92Two.B7 = true := by kernel_rfl
set_option maxHeartbeats 8000000 in
set_option maxRecDepth 100000 in
theorem spec_l92Two.calls (k : Nat) (g : Nat) (s0_0 : List Int) (s0_1 : Int) (r1 : Int) (r2 : Int) (r3 : Int) (r4 : List Int) (r5 : Int) (r6 : Int) (r7 : Int) (r8 : List Int) (r9 : Int) (w0 w : World) (hI : IsS94 w0 w g s0_0 s0_1) (hB : Below w0.heap.size w0 w) (h : spec_l92Two.f k s0_0 s0_1 = some (r1, r2, r3, r4, r5, r6, r7, r8, r9)) :
  Calls Tryz.prog 71 #[.pointer (some ⟨g, 0, none⟩)] w fun e w' => ∃ v3_ v7_ : Value, e = .returned (.tuple #[.agg #[.int .i64 r1, .int .i64 r2, .int .i64 r3, v3_], .agg #[.int .i64 r5, .int .i64 r6, .int .i64 r7, v7_]]) ∧ Kd.R (Kd.int .i64) 3 w' w.heap.size (fun k_ => some k_ ≠ (v7_ : Value).ownBlock) v3_ r4 ∧ Kd.R (Kd.int .i64) 3 w' w.heap.size (fun k_ => some k_ ≠ (v3_ : Value).ownBlock) v7_ r8 ∧ IsS94 w0 w' g s0_0 r9 ∧ Below w0.heap.size w0 w' ∧ KeepBut w w' g none := by
 have hu27 := Tryz.underlying27
 have HI0 := Aside0.mk hI
 have HK := Aside0.mk (KeepBut.refl w g none)
 have HL := Aside0.mk hB.size
 clear hI
 have HW0 := Aside0.mk hB.size
 have HB := Aside0.mk hB
 clear hB
 have H := h
 unfold spec_l92Two.f at H
 clear h
 replace H := bnd H
 obtain ⟨⟨t537, t538, t539⟩, A2, H⟩ := H
 dsimp only at H
 replace H := bnd H
 obtain ⟨⟨t540, t541⟩, A3, H⟩ := H
 dsimp only at H
 replace H := bnd H
 obtain ⟨⟨t542, t543⟩, A4, H⟩ := H
 dsimp only at H
 replace H := bnd H
 obtain ⟨⟨t544, t545, t546, t547, t550, t551, t552, t553, t556⟩, A5, H⟩ := H
 dsimp only at H
 have HC6 := Aside0.mk H
 clear H
 go_enter Tryz.func71, Tryz.ntmps71
 go_upto_if 27 with (first | ((with_reducible refine gate_dst (N := 2) rfl ?_); refine boxZ (N := 2) (cs := #[.int .i64 0, .int .i64 0, .int .i64 0, .slice none 0 0]) (t := 27) ?_; intro gb535 hg w7 hbox hb; have n0_ := Aside0.mk (IsS94.below (by repeat (with_reducible first | exact HI0.out | apply IsS94.alloc | apply IsS94.drewN | apply IsS94.drew | apply IsS94.set_1)) hb); have n1_ := Aside0.mk (KeepBut.trans (by repeat (with_reducible first | exact HK.out | apply KeepBut.set_ | apply keep_drewN | apply keep_drew | apply keep_alloc)) (KeepBut.of_below hb g none) (.inl rfl)); have n2_ := Aside0.mk (below_step (by repeat (with_reducible first | exact HB.out | apply below_alloc | apply pw_below_drewN | apply below_drew1 | refine below_set ?_ (IsS94.ge HI0.out))) hb); have n3_ := Aside0.mk (hbox); have n4_ := Aside0.mk ((by rw [hg]; exact (keep_size (w := w) (g := g) (row := none) (by repeat (with_reducible first | exact HK.out | apply KeepBut.set_ | apply keep_drewN | apply keep_drew | apply keep_alloc))) : w.heap.size ≤ gb535)); have n5_ := Aside0.mk ((Nat.le_trans HW0.out (by rw [hg]; exact (keep_size (w := w) (g := g) (row := none) (by repeat (with_reducible first | exact HK.out | apply KeepBut.set_ | apply keep_drewN | apply keep_drew | apply keep_alloc))) : w.heap.size ≤ gb535) : w0.heap.size ≤ gb535)); have n6_ := Aside0.mk ((by rw [hg]; exact Nat.ne_of_lt (IsS94.lt (show IsS94 w0 _ g s0_0 s0_1 from by repeat (with_reducible first | exact HI0.out | apply IsS94.alloc | apply IsS94.drewN | apply IsS94.drew | apply IsS94.set_1))) : g ≠ gb535)); have n7_ := Aside0.mk ((by rw [hg]; exact Nat.ne_of_gt (IsS94.lt (show IsS94 w0 _ g s0_0 s0_1 from by repeat (with_reducible first | exact HI0.out | apply IsS94.alloc | apply IsS94.drewN | apply IsS94.drew | apply IsS94.set_1))) : gb535 ≠ g)); clear HI0; clear HK; clear HB; have HI0 := n0_; have HK := n1_; have HB := n2_; have BK535 := n3_; have GW535 := n4_; have GE535 := n5_; have NB0_535 := n6_; have NB535_0 := n7_; clear n0_ n1_ n2_ n3_ n4_ n5_ n6_ n7_; clear hb hbox hg) | ((with_reducible refine gate_dst (N := 3) rfl ?_); refine boxZ (N := 3) (cs := #[.int .i64 0, .int .i64 0, .int .i64 0, .slice none 0 0]) (t := 27) ?_; intro gb536 hg w8 hbox hb; have n0_ := Aside0.mk (IsS94.below (by repeat (with_reducible first | exact HI0.out | apply IsS94.alloc | apply IsS94.drewN | apply IsS94.drew | apply IsS94.set_1 | refine IsS94.far ?_ NB0_535.out _)) hb); have n1_ := Aside0.mk (blk_below (g := gb535) (o := .cells #[.int .i64 0, .int .i64 0, .int .i64 0, .slice none 0 0] 27 (0, 0)) (by exact BK535.out) hb); have n2_ := Aside0.mk (KeepBut.trans (by repeat (with_reducible first | exact HK.out | apply KeepBut.set_ | apply keep_drewN | apply keep_drew | apply keep_alloc | refine keep_far ?_ GW535.out _)) (KeepBut.of_below hb g none) (.inl rfl)); have n3_ := Aside0.mk (below_step (by repeat (with_reducible first | exact HB.out | apply below_alloc | apply pw_below_drewN | apply below_drew1 | refine below_set ?_ (IsS94.ge HI0.out) | refine below_set ?_ GE535.out)) hb); have n4_ := Aside0.mk (hbox); have n5_ := Aside0.mk ((by rw [hg]; exact (keep_size (w := w) (g := g) (row := none) (by repeat (with_reducible first | exact HK.out | apply KeepBut.set_ | apply keep_drewN | apply keep_drew | apply keep_alloc | refine keep_far ?_ GW535.out _))) : w.heap.size ≤ gb536)); have n6_ := Aside0.mk ((Nat.le_trans HW0.out (by rw [hg]; exact (keep_size (w := w) (g := g) (row := none) (by repeat (with_reducible first | exact HK.out | apply KeepBut.set_ | apply keep_drewN | apply keep_drew | apply keep_alloc | refine keep_far ?_ GW535.out _))) : w.heap.size ≤ gb536) : w0.heap.size ≤ gb536)); have n7_ := Aside0.mk ((by rw [hg]; exact Nat.ne_of_lt (blk_lt (g := gb535) (o := .cells #[.int .i64 0, .int .i64 0, .int .i64 0, .slice none 0 0] 27 (0, 0)) (by exact BK535.out)) : gb535 ≠ gb536)); have n8_ := Aside0.mk ((by rw [hg]; exact Nat.ne_of_gt (blk_lt (g := gb535) (o := .cells #[.int .i64 0, .int .i64 0, .int .i64 0, .slice none 0 0] 27 (0, 0)) (by exact BK535.out)) : gb536 ≠ gb535)); have n9_ := Aside0.mk ((by rw [hg]; exact Nat.ne_of_lt (IsS94.lt (show IsS94 w0 _ g s0_0 s0_1 from by repeat (with_reducible first | exact HI0.out | apply IsS94.alloc | apply IsS94.drewN | apply IsS94.drew | apply IsS94.set_1 | refine IsS94.far ?_ NB0_535.out _))) : g ≠ gb536)); have n10_ := Aside0.mk ((by rw [hg]; exact Nat.ne_of_gt (IsS94.lt (show IsS94 w0 _ g s0_0 s0_1 from by repeat (with_reducible first | exact HI0.out | apply IsS94.alloc | apply IsS94.drewN | apply IsS94.drew | apply IsS94.set_1 | refine IsS94.far ?_ NB0_535.out _))) : gb536 ≠ g)); clear HI0; clear BK535; clear HK; clear HB; have HI0 := n0_; have BK535 := n1_; have HK := n2_; have HB := n3_; have BK536 := n4_; have GW536 := n5_; have GE536 := n6_; have NB535_536 := n7_; have NB536_535 := n8_; have NB0_536 := n9_; have NB536_0 := n10_; clear n0_ n1_ n2_ n3_ n4_ n5_ n6_ n7_ n8_ n9_ n10_; clear hb hbox hg) | ((with_reducible refine gate_callee (f := 102) rfl ?_); refine goesZ (some 11) Tryz.func102 #[.pointer (some ⟨g, 0, none⟩)] ?_; (with_reducible refine (spec_l91Val.calls k g s0_0 s0_1 t537 t538 t539 w0 _ ?side1 ?side2 A2.out).mono ?_); (case side1 => repeat (with_reducible first | exact HI0.out | apply IsS94.alloc | apply IsS94.drewN | apply IsS94.drew | apply IsS94.set_1 | refine IsS94.far ?_ NB0_535.out _ | refine IsS94.far ?_ NB0_536.out _)); (case side2 => repeat (with_reducible first | exact HB.out | apply below_alloc | apply pw_below_drewN | apply below_drew1 | refine below_set ?_ (IsS94.ge HI0.out) | refine below_set ?_ GE535.out | refine below_set ?_ GE536.out)); rintro e w9 ⟨rfl, hi, hb, hk⟩; refine ⟨_, rfl, ?_⟩; have n0_ := Aside0.mk (KeepBut.blk hk (g' := gb535) (o := .cells #[.int .i64 0, .int .i64 0, .int .i64 0, .slice none 0 0] 27 (0, 0)) (by exact BK535.out) NB535_0.out (by simp)); have n1_ := Aside0.mk (KeepBut.blk hk (g' := gb536) (o := .cells #[.int .i64 0, .int .i64 0, .int .i64 0, .slice none 0 0] 27 (0, 0)) (by exact BK536.out) NB536_0.out (by simp)); have n2_ := Aside0.mk (KeepBut.trans (by repeat (with_reducible first | exact HK.out | apply KeepBut.set_ | apply keep_drewN | apply keep_drew | apply keep_alloc | refine keep_far ?_ GW535.out _ | refine keep_far ?_ GW536.out _)) hk (.inl rfl)); have n3_ := Aside0.mk (hb); have n4_ := Aside0.mk (hi); clear BK535; clear BK536; clear HK; clear HB; clear HI0; have BK535 := n0_; have BK536 := n1_; have HK := n2_; have HB := n3_; have HI0 := n4_; clear n0_ n1_ n2_ n3_ n4_; (try clear hb); (try clear hb2); (try clear hk); (try clear hi)) | ((with_reducible refine gate_callee (f := 45) rfl ?_); refine goesZ (some 16) Tryz.func45 #[.pointer (some ⟨g, 0, none⟩), .int .i64 12] ?_; (with_reducible refine (spec_l6Rd_pick.calls k g s0_0 t539 12 t540 t541 w0 _ ?side1 ?side2 A3.out).mono ?_); (case side1 => repeat (with_reducible first | exact HI0.out | apply IsS94.alloc | apply IsS94.drewN | apply IsS94.drew | apply IsS94.set_1 | refine IsS94.far ?_ NB0_535.out _ | refine IsS94.far ?_ NB0_536.out _)); (case side2 => repeat (with_reducible first | exact HB.out | apply below_alloc | apply pw_below_drewN | apply below_drew1 | refine below_set ?_ (IsS94.ge HI0.out) | refine below_set ?_ GE535.out | refine below_set ?_ GE536.out)); rintro e w10 ⟨rfl, hi, hb, hk⟩; refine ⟨_, rfl, ?_⟩; have n0_ := Aside0.mk (KeepBut.blk hk (g' := gb535) (o := .cells #[.int .i64 0, .int .i64 0, .int .i64 0, .slice none 0 0] 27 (0, 0)) (by exact BK535.out) NB535_0.out (by simp)); have n1_ := Aside0.mk (KeepBut.blk hk (g' := gb536) (o := .cells #[.int .i64 0, .int .i64 0, .int .i64 0, .slice none 0 0] 27 (0, 0)) (by exact BK536.out) NB536_0.out (by simp)); have n2_ := Aside0.mk (KeepBut.trans (by repeat (with_reducible first | exact HK.out | apply KeepBut.set_ | apply keep_drewN | apply keep_drew | apply keep_alloc | refine keep_far ?_ GW535.out _ | refine keep_far ?_ GW536.out _)) hk (.inl rfl)); have n3_ := Aside0.mk (hb); have n4_ := Aside0.mk (hi); clear BK535; clear BK536; clear HK; clear HB; clear HI0; have BK535 := n0_; have BK536 := n1_; have HK := n2_; have HB := n3_; have HI0 := n4_; clear n0_ n1_ n2_ n3_ n4_; (try clear hb); (try clear hb2); (try clear hk); (try clear hi)) | ((with_reducible refine gate_callee (f := 45) rfl ?_); refine goesZ (some 21) Tryz.func45 #[.pointer (some ⟨g, 0, none⟩), .int .i64 1000] ?_; (with_reducible refine (spec_l6Rd_pick.calls k g s0_0 t541 1000 t542 t543 w0 _ ?side1 ?side2 A4.out).mono ?_); (case side1 => repeat (with_reducible first | exact HI0.out | apply IsS94.alloc | apply IsS94.drewN | apply IsS94.drew | apply IsS94.set_1 | refine IsS94.far ?_ NB0_535.out _ | refine IsS94.far ?_ NB0_536.out _)); (case side2 => repeat (with_reducible first | exact HB.out | apply below_alloc | apply pw_below_drewN | apply below_drew1 | refine below_set ?_ (IsS94.ge HI0.out) | refine below_set ?_ GE535.out | refine below_set ?_ GE536.out)); rintro e w11 ⟨rfl, hi, hb, hk⟩; refine ⟨_, rfl, ?_⟩; have n0_ := Aside0.mk (KeepBut.blk hk (g' := gb535) (o := .cells #[.int .i64 0, .int .i64 0, .int .i64 0, .slice none 0 0] 27 (0, 0)) (by exact BK535.out) NB535_0.out (by simp)); have n1_ := Aside0.mk (KeepBut.blk hk (g' := gb536) (o := .cells #[.int .i64 0, .int .i64 0, .int .i64 0, .slice none 0 0] 27 (0, 0)) (by exact BK536.out) NB536_0.out (by simp)); have n2_ := Aside0.mk (KeepBut.trans (by repeat (with_reducible first | exact HK.out | apply KeepBut.set_ | apply keep_drewN | apply keep_drew | apply keep_alloc | refine keep_far ?_ GW535.out _ | refine keep_far ?_ GW536.out _)) hk (.inl rfl)); have n3_ := Aside0.mk (hb); have n4_ := Aside0.mk (hi); clear BK535; clear BK536; clear HK; clear HB; clear HI0; have BK535 := n0_; have BK536 := n1_; have HK := n2_; have HB := n3_; have HI0 := n4_; clear n0_ n1_ n2_ n3_ n4_; (try clear hb); (try clear hb2); (try clear hk); (try clear hi)) | ((with_reducible refine gate_callee (f := 103) rfl ?_); refine goesZ (some 22) Tryz.func103 #[.int .i64 (wrap64 (1 + t540)), .int .i64 t537, .int .i64 t538, .int .i64 t542] ?_; (with_reducible refine (spec_PartsMake.calls k (wrap64 (1 + t540)) t537 t538 t542 t544 t545 t546 t547 t550 t551 t552 t553 t556 _ A5.out).mono ?_); rintro e w12 ⟨v548, v554, rfl, ho0, ho1, hb⟩; refine ⟨_, rfl, ?_⟩; have n0_ := Aside0.mk (Kd.R_lower ho0 (keep_size (w := w) (g := g) (row := none) (by repeat (with_reducible first | exact HK.out | apply KeepBut.set_ | apply keep_drewN | apply keep_drew | apply keep_alloc | refine keep_far ?_ GW535.out _ | refine keep_far ?_ GW536.out _)))); have n1_ := Aside0.mk (Kd.R_lower ho1 (keep_size (w := w) (g := g) (row := none) (by repeat (with_reducible first | exact HK.out | apply KeepBut.set_ | apply keep_drewN | apply keep_drew | apply keep_alloc | refine keep_far ?_ GW535.out _ | refine keep_far ?_ GW536.out _)))); have n2_ := Aside0.mk (IsS94.below (by repeat (with_reducible first | exact HI0.out | apply IsS94.alloc | apply IsS94.drewN | apply IsS94.drew | apply IsS94.set_1 | refine IsS94.far ?_ NB0_535.out _ | refine IsS94.far ?_ NB0_536.out _)) hb); have n3_ := Aside0.mk (blk_below (g := gb535) (o := .cells #[.int .i64 0, .int .i64 0, .int .i64 0, .slice none 0 0] 27 (0, 0)) (by exact BK535.out) hb); have n4_ := Aside0.mk (blk_below (g := gb536) (o := .cells #[.int .i64 0, .int .i64 0, .int .i64 0, .slice none 0 0] 27 (0, 0)) (by exact BK536.out) hb); have n5_ := Aside0.mk (KeepBut.trans (by repeat (with_reducible first | exact HK.out | apply KeepBut.set_ | apply keep_drewN | apply keep_drew | apply keep_alloc | refine keep_far ?_ GW535.out _ | refine keep_far ?_ GW536.out _)) (KeepBut.of_below hb g none) (.inl rfl)); have n6_ := Aside0.mk (below_step (by repeat (with_reducible first | exact HB.out | apply below_alloc | apply pw_below_drewN | apply below_drew1 | refine below_set ?_ (IsS94.ge HI0.out) | refine below_set ?_ GE535.out | refine below_set ?_ GE536.out)) hb); clear HI0; clear BK535; clear BK536; clear HK; clear HB; have HO549 := n0_; have HO555 := n1_; have HI0 := n2_; have BK535 := n3_; have BK536 := n4_; have HK := n5_; have HB := n6_; clear n0_ n1_ n2_ n3_ n4_ n5_ n6_; (try clear hb); (try clear hb2); (try clear hk); (try clear hi); (try clear ho0); (try clear ho1)) | ((with_reducible refine gate_dst (N := 6) rfl ?_); refine boxZ (N := 6) (cs := #[.int .i64 0, .int .i64 0, .int .i64 0, .slice none 0 0]) (t := 27) ?_; intro gb557 hg w13 hbox hb; have n0_ := Aside0.mk (Kd.R_below (HO549.out) hb); have n1_ := Aside0.mk (Kd.R_below (HO555.out) hb); have n2_ := Aside0.mk (IsS94.below (by repeat (with_reducible first | exact HI0.out | apply IsS94.alloc | apply IsS94.drewN | apply IsS94.drew | apply IsS94.set_1 | refine IsS94.far ?_ NB0_535.out _ | refine IsS94.far ?_ NB0_536.out _)) hb); have n3_ := Aside0.mk (blk_below (g := gb535) (o := .cells #[.int .i64 0, .int .i64 0, .int .i64 0, .slice none 0 0] 27 (0, 0)) (by exact BK535.out) hb); have n4_ := Aside0.mk (blk_below (g := gb536) (o := .cells #[.int .i64 0, .int .i64 0, .int .i64 0, .slice none 0 0] 27 (0, 0)) (by exact BK536.out) hb); have n5_ := Aside0.mk (KeepBut.trans (by repeat (with_reducible first | exact HK.out | apply KeepBut.set_ | apply keep_drewN | apply keep_drew | apply keep_alloc | refine keep_far ?_ GW535.out _ | refine keep_far ?_ GW536.out _)) (KeepBut.of_below hb g none) (.inl rfl)); have n6_ := Aside0.mk (below_step (by repeat (with_reducible first | exact HB.out | apply below_alloc | apply pw_below_drewN | apply below_drew1 | refine below_set ?_ (IsS94.ge HI0.out) | refine below_set ?_ GE535.out | refine below_set ?_ GE536.out)) hb); have n7_ := Aside0.mk (hbox); have n8_ := Aside0.mk ((by rw [hg]; exact (keep_size (w := w) (g := g) (row := none) (by repeat (with_reducible first | exact HK.out | apply KeepBut.set_ | apply keep_drewN | apply keep_drew | apply keep_alloc | refine keep_far ?_ GW535.out _ | refine keep_far ?_ GW536.out _))) : w.heap.size ≤ gb557)); have n9_ := Aside0.mk ((Nat.le_trans HW0.out (by rw [hg]; exact (keep_size (w := w) (g := g) (row := none) (by repeat (with_reducible first | exact HK.out | apply KeepBut.set_ | apply keep_drewN | apply keep_drew | apply keep_alloc | refine keep_far ?_ GW535.out _ | refine keep_far ?_ GW536.out _))) : w.heap.size ≤ gb557) : w0.heap.size ≤ gb557)); have n10_ := Aside0.mk ((by rw [hg]; exact Nat.ne_of_lt (blk_lt (g := gb535) (o := .cells #[.int .i64 0, .int .i64 0, .int .i64 0, .slice none 0 0] 27 (0, 0)) (by exact BK535.out)) : gb535 ≠ gb557)); have n11_ := Aside0.mk ((by rw [hg]; exact Nat.ne_of_gt (blk_lt (g := gb535) (o := .cells #[.int .i64 0, .int .i64 0, .int .i64 0, .slice none 0 0] 27 (0, 0)) (by exact BK535.out)) : gb557 ≠ gb535)); have n12_ := Aside0.mk ((by rw [hg]; exact Nat.ne_of_lt (blk_lt (g := gb536) (o := .cells #[.int .i64 0, .int .i64 0, .int .i64 0, .slice none 0 0] 27 (0, 0)) (by exact BK536.out)) : gb536 ≠ gb557)); have n13_ := Aside0.mk ((by rw [hg]; exact Nat.ne_of_gt (blk_lt (g := gb536) (o := .cells #[.int .i64 0, .int .i64 0, .int .i64 0, .slice none 0 0] 27 (0, 0)) (by exact BK536.out)) : gb557 ≠ gb536)); have n14_ := Aside0.mk ((by rw [hg]; exact Nat.ne_of_lt (IsS94.lt (show IsS94 w0 _ g s0_0 t543 from by repeat (with_reducible first | exact HI0.out | apply IsS94.alloc | apply IsS94.drewN | apply IsS94.drew | apply IsS94.set_1 | refine IsS94.far ?_ NB0_535.out _ | refine IsS94.far ?_ NB0_536.out _))) : g ≠ gb557)); have n15_ := Aside0.mk ((by rw [hg]; exact Nat.ne_of_gt (IsS94.lt (show IsS94 w0 _ g s0_0 t543 from by repeat (with_reducible first | exact HI0.out | apply IsS94.alloc | apply IsS94.drewN | apply IsS94.drew | apply IsS94.set_1 | refine IsS94.far ?_ NB0_535.out _ | refine IsS94.far ?_ NB0_536.out _))) : gb557 ≠ g)); clear HO549; clear HO555; clear HI0; clear BK535; clear BK536; clear HK; clear HB; have HO549 := n0_; have HO555 := n1_; have HI0 := n2_; have BK535 := n3_; have BK536 := n4_; have HK := n5_; have HB := n6_; have BK557 := n7_; have GW557 := n8_; have GE557 := n9_; have NB535_557 := n10_; have NB557_535 := n11_; have NB536_557 := n12_; have NB557_536 := n13_; have NB0_557 := n14_; have NB557_0 := n15_; clear n0_ n1_ n2_ n3_ n4_ n5_ n6_ n7_ n8_ n9_ n10_ n11_ n12_ n13_ n14_ n15_; clear hb hbox hg) | ((with_reducible refine gate_dst (N := 7) rfl ?_); refine boxZ (N := 7) (cs := #[.int .i64 0, .int .i64 0, .int .i64 0, .slice none 0 0]) (t := 27) ?_; intro gb558 hg w14 hbox hb; have n0_ := Aside0.mk (Kd.R_below (HO549.out) hb); have n1_ := Aside0.mk (Kd.R_below (HO555.out) hb); have n2_ := Aside0.mk (IsS94.below (by repeat (with_reducible first | exact HI0.out | apply IsS94.alloc | apply IsS94.drewN | apply IsS94.drew | apply IsS94.set_1 | refine IsS94.far ?_ NB0_535.out _ | refine IsS94.far ?_ NB0_536.out _ | refine IsS94.far ?_ NB0_557.out _)) hb); have n3_ := Aside0.mk (blk_below (g := gb535) (o := .cells #[.int .i64 0, .int .i64 0, .int .i64 0, .slice none 0 0] 27 (0, 0)) (by exact BK535.out) hb); have n4_ := Aside0.mk (blk_below (g := gb536) (o := .cells #[.int .i64 0, .int .i64 0, .int .i64 0, .slice none 0 0] 27 (0, 0)) (by exact BK536.out) hb); have n5_ := Aside0.mk (blk_below (g := gb557) (o := .cells #[.int .i64 0, .int .i64 0, .int .i64 0, .slice none 0 0] 27 (0, 0)) (by exact BK557.out) hb); have n6_ := Aside0.mk (KeepBut.trans (by repeat (with_reducible first | exact HK.out | apply KeepBut.set_ | apply keep_drewN | apply keep_drew | apply keep_alloc | refine keep_far ?_ GW535.out _ | refine keep_far ?_ GW536.out _ | refine keep_far ?_ GW557.out _)) (KeepBut.of_below hb g none) (.inl rfl)); have n7_ := Aside0.mk (below_step (by repeat (with_reducible first | exact HB.out | apply below_alloc | apply pw_below_drewN | apply below_drew1 | refine below_set ?_ (IsS94.ge HI0.out) | refine below_set ?_ GE535.out | refine below_set ?_ GE536.out | refine below_set ?_ GE557.out)) hb); have n8_ := Aside0.mk (hbox); have n9_ := Aside0.mk ((by rw [hg]; exact (keep_size (w := w) (g := g) (row := none) (by repeat (with_reducible first | exact HK.out | apply KeepBut.set_ | apply keep_drewN | apply keep_drew | apply keep_alloc | refine keep_far ?_ GW535.out _ | refine keep_far ?_ GW536.out _ | refine keep_far ?_ GW557.out _))) : w.heap.size ≤ gb558)); have n10_ := Aside0.mk ((Nat.le_trans HW0.out (by rw [hg]; exact (keep_size (w := w) (g := g) (row := none) (by repeat (with_reducible first | exact HK.out | apply KeepBut.set_ | apply keep_drewN | apply keep_drew | apply keep_alloc | refine keep_far ?_ GW535.out _ | refine keep_far ?_ GW536.out _ | refine keep_far ?_ GW557.out _))) : w.heap.size ≤ gb558) : w0.heap.size ≤ gb558)); have n11_ := Aside0.mk ((by rw [hg]; exact Nat.ne_of_lt (blk_lt (g := gb535) (o := .cells #[.int .i64 0, .int .i64 0, .int .i64 0, .slice none 0 0] 27 (0, 0)) (by exact BK535.out)) : gb535 ≠ gb558)); have n12_ := Aside0.mk ((by rw [hg]; exact Nat.ne_of_gt (blk_lt (g := gb535) (o := .cells #[.int .i64 0, .int .i64 0, .int .i64 0, .slice none 0 0] 27 (0, 0)) (by exact BK535.out)) : gb558 ≠ gb535)); have n13_ := Aside0.mk ((by rw [hg]; exact Nat.ne_of_lt (blk_lt (g := gb536) (o := .cells #[.int .i64 0, .int .i64 0, .int .i64 0, .slice none 0 0] 27 (0, 0)) (by exact BK536.out)) : gb536 ≠ gb558)); have n14_ := Aside0.mk ((by rw [hg]; exact Nat.ne_of_gt (blk_lt (g := gb536) (o := .cells #[.int .i64 0, .int .i64 0, .int .i64 0, .slice none 0 0] 27 (0, 0)) (by exact BK536.out)) : gb558 ≠ gb536)); have n15_ := Aside0.mk ((by rw [hg]; exact Nat.ne_of_lt (blk_lt (g := gb557) (o := .cells #[.int .i64 0, .int .i64 0, .int .i64 0, .slice none 0 0] 27 (0, 0)) (by exact BK557.out)) : gb557 ≠ gb558)); have n16_ := Aside0.mk ((by rw [hg]; exact Nat.ne_of_gt (blk_lt (g := gb557) (o := .cells #[.int .i64 0, .int .i64 0, .int .i64 0, .slice none 0 0] 27 (0, 0)) (by exact BK557.out)) : gb558 ≠ gb557)); have n17_ := Aside0.mk ((by rw [hg]; exact Nat.ne_of_lt (IsS94.lt (show IsS94 w0 _ g s0_0 t543 from by repeat (with_reducible first | exact HI0.out | apply IsS94.alloc | apply IsS94.drewN | apply IsS94.drew | apply IsS94.set_1 | refine IsS94.far ?_ NB0_535.out _ | refine IsS94.far ?_ NB0_536.out _ | refine IsS94.far ?_ NB0_557.out _))) : g ≠ gb558)); have n18_ := Aside0.mk ((by rw [hg]; exact Nat.ne_of_gt (IsS94.lt (show IsS94 w0 _ g s0_0 t543 from by repeat (with_reducible first | exact HI0.out | apply IsS94.alloc | apply IsS94.drewN | apply IsS94.drew | apply IsS94.set_1 | refine IsS94.far ?_ NB0_535.out _ | refine IsS94.far ?_ NB0_536.out _ | refine IsS94.far ?_ NB0_557.out _))) : gb558 ≠ g)); clear HO549; clear HO555; clear HI0; clear BK535; clear BK536; clear BK557; clear HK; clear HB; have HO549 := n0_; have HO555 := n1_; have HI0 := n2_; have BK535 := n3_; have BK536 := n4_; have BK557 := n5_; have HK := n6_; have HB := n7_; have BK558 := n8_; have GW558 := n9_; have GE558 := n10_; have NB535_558 := n11_; have NB558_535 := n12_; have NB536_558 := n13_; have NB558_536 := n14_; have NB557_558 := n15_; have NB558_557 := n16_; have NB0_558 := n17_; have NB558_0 := n18_; clear n0_ n1_ n2_ n3_ n4_ n5_ n6_ n7_ n8_ n9_ n10_ n11_ n12_ n13_ n14_ n15_ n16_ n17_ n18_; clear hb hbox hg; have hnb15 := NB557_535.out; have hnc15 := NB535_557.out; have hnb16 := NB557_536.out; have hnc16 := NB536_557.out; have hnb17 := NB557_558.out; have hnc17 := NB558_557.out; have hnb18 := NB557_0.out; have hnc18 := NB0_557.out; have hcz19_0 : w14.cell? ⟨gb557, 0, none⟩ = some (.int .i64 0) := (blk_cell BK557.out 0).trans rfl; have hcz19_1 : w14.cell? ⟨gb557, 1, none⟩ = some (.int .i64 0) := (blk_cell BK557.out 1).trans rfl; have hcz19_2 : w14.cell? ⟨gb557, 2, none⟩ = some (.int .i64 0) := (blk_cell BK557.out 2).trans rfl; have hcz19_3 : w14.cell? ⟨gb557, 3, none⟩ = some (.slice none 0 0) := (blk_cell BK557.out 3).trans rfl; have hfz19_0 := blk_frozen BK557.out 0; have hfz19_1 := blk_frozen BK557.out 1; have hfz19_2 := blk_frozen BK557.out 2; have hfz19_3 := blk_frozen BK557.out 3; obtain ⟨Ao20, co20, eo20⟩ := Kd.R_slice HO549.out; subst eo20; have hnb21 := NB558_535.out; have hnc21 := NB535_558.out; have hnb22 := NB558_536.out; have hnc22 := NB536_558.out; have hnb23 := NB558_0.out; have hnc23 := NB0_558.out; have hcz24_0 : w14.cell? ⟨gb558, 0, none⟩ = some (.int .i64 0) := (blk_cell BK558.out 0).trans rfl; have hcz24_1 : w14.cell? ⟨gb558, 1, none⟩ = some (.int .i64 0) := (blk_cell BK558.out 1).trans rfl; have hcz24_2 : w14.cell? ⟨gb558, 2, none⟩ = some (.int .i64 0) := (blk_cell BK558.out 2).trans rfl; have hcz24_3 : w14.cell? ⟨gb558, 3, none⟩ = some (.slice none 0 0) := (blk_cell BK558.out 3).trans rfl; have hfz24_0 := blk_frozen BK558.out 0; have hfz24_1 := blk_frozen BK558.out 1; have hfz24_2 := blk_frozen BK558.out 2; have hfz24_3 := blk_frozen BK558.out 3; obtain ⟨Ao25, co25, eo25⟩ := Kd.R_slice HO555.out; subst eo25))
 (try simp only [Act.put, List.setIfInBounds_toArray, List.set_cons_zero, List.set_cons_succ])
 go_cut [] (fun wc => ∃ (kq : Nat) (x1001_5 : Int) (x558000_5 : Int) (x558001_5 : Int) (x558002_5 : Int) (x558003_5 : List Int) (x559000_5 : Int) (x559001_5 : Int) (x559002_5 : Int) (x559003_5 : List Int) (u558003 : Value) (u559003 : Value), Aside0 (spec_l92Two.j0 kq s0_0 x1001_5 x558000_5 x558001_5 x558002_5 x558003_5 x559000_5 x559001_5 x559002_5 x559003_5 = some (r1, r2, r3, r4, r5, r6, r7, r8, r9)) ∧ Aside0 (kq ≤ k) ∧ Aside0 (Kd.R (Kd.int .i64) 3 wc w.heap.size (fun k_ => some k_ ≠ (u559003 : Value).ownBlock) u558003 x558003_5) ∧ Aside0 (Kd.R (Kd.int .i64) 3 wc w.heap.size (fun k_ => some k_ ≠ (u558003 : Value).ownBlock) u559003 x559003_5) ∧ Aside0 (wc.heap[gb535]? = some (.cells #[.int .i64 0, .int .i64 0, .int .i64 0, (.slice none 0 0)] 27 (0, 0))) ∧ Aside0 (wc.heap[gb536]? = some (.cells #[.int .i64 0, .int .i64 0, .int .i64 0, (.slice none 0 0)] 27 (0, 0))) ∧ Aside0 (wc.heap[gb557]? = some (.cells #[.int .i64 x558000_5, .int .i64 x558001_5, .int .i64 x558002_5, u558003] 27 (0, 0))) ∧ Aside0 (wc.heap[gb558]? = some (.cells #[.int .i64 x559000_5, .int .i64 x559001_5, .int .i64 x559002_5, u559003] 27 (0, 0))) ∧ Aside0 (IsS94 w0 wc g s0_0 x1001_5) ∧ Aside0 (KeepBut w wc g none) ∧ Aside0 (Below w0.heap.size w0 wc))
 case first =>
  have H := HC6.out
  clear HC6
  by_cases c26 : t556 = true
  ·subst c26
   rw [if_pos rfl] at H
   have H' := Aside0.mk H
   clear H
   go_wp2
   go_meet
   case rel => exact ⟨_, (t543), (t544), (t545), (t546), (t547), (t550), (t551), (t552), (t553), (.slice Ao20 t547.length co20), (.slice Ao25 t553.length co25), H', ⟨by first | omega | exact Nat.le_refl _⟩, ⟨Kd.R_mono (Kd.R_far (p := ⟨gb558, 3, none⟩) (Kd.R_far (p := ⟨gb558, 2, none⟩) (Kd.R_far (p := ⟨gb558, 1, none⟩) (Kd.R_far (p := ⟨gb558, 0, none⟩) (Kd.R_far (p := ⟨gb557, 3, none⟩) (Kd.R_far (p := ⟨gb557, 2, none⟩) (Kd.R_far (p := ⟨gb557, 1, none⟩) (Kd.R_far (p := ⟨gb557, 0, none⟩) (Kd.R_types (Kd.R_types HO549.out BK557.out (by decide)) BK558.out (by decide)) (fun _ hk => hk.1.2) (.int .i64 t544)) (fun _ hk => hk.1.2) (.int .i64 t545)) (fun _ hk => hk.1.2) (.int .i64 t546)) (fun _ hk => hk.1.2) (.slice Ao20 t547.length co20)) (fun _ hk => hk.2) (.int .i64 t550)) (fun _ hk => hk.2) (.int .i64 t551)) (fun _ hk => hk.2) (.int .i64 t552)) (fun _ hk => hk.2) (.slice Ao25 t553.length co25)) (fun _ hk => hk.1.1)⟩, ⟨Kd.R_mono (Kd.R_far (p := ⟨gb558, 3, none⟩) (Kd.R_far (p := ⟨gb558, 2, none⟩) (Kd.R_far (p := ⟨gb558, 1, none⟩) (Kd.R_far (p := ⟨gb558, 0, none⟩) (Kd.R_far (p := ⟨gb557, 3, none⟩) (Kd.R_far (p := ⟨gb557, 2, none⟩) (Kd.R_far (p := ⟨gb557, 1, none⟩) (Kd.R_far (p := ⟨gb557, 0, none⟩) (Kd.R_types (Kd.R_types HO555.out BK557.out (by decide)) BK558.out (by decide)) (fun _ hk => hk.1.2) (.int .i64 t544)) (fun _ hk => hk.1.2) (.int .i64 t545)) (fun _ hk => hk.1.2) (.int .i64 t546)) (fun _ hk => hk.1.2) (.slice Ao20 t547.length co20)) (fun _ hk => hk.2) (.int .i64 t550)) (fun _ hk => hk.2) (.int .i64 t551)) (fun _ hk => hk.2) (.int .i64 t552)) (fun _ hk => hk.2) (.slice Ao25 t553.length co25)) (fun _ hk => hk.1.1)⟩, ⟨by refine blk_far ?_ NB535_558.out _; refine blk_far ?_ NB535_558.out _; refine blk_far ?_ NB535_558.out _; refine blk_far ?_ NB535_558.out _; refine blk_far ?_ NB535_557.out _; refine blk_far ?_ NB535_557.out _; refine blk_far ?_ NB535_557.out _; refine blk_far ?_ NB535_557.out _; exact BK535.out⟩, ⟨by refine blk_far ?_ NB536_558.out _; refine blk_far ?_ NB536_558.out _; refine blk_far ?_ NB536_558.out _; refine blk_far ?_ NB536_558.out _; refine blk_far ?_ NB536_557.out _; refine blk_far ?_ NB536_557.out _; refine blk_far ?_ NB536_557.out _; refine blk_far ?_ NB536_557.out _; exact BK536.out⟩, ⟨by refine blk_far ?_ NB557_558.out _; refine blk_far ?_ NB557_558.out _; refine blk_far ?_ NB557_558.out _; refine blk_far ?_ NB557_558.out _; refine blk_put (cs := #[.int .i64 t544, .int .i64 t545, .int .i64 t546, .slice none 0 0]) ?_ 3 _ rfl; refine blk_put (cs := #[.int .i64 t544, .int .i64 t545, .int .i64 0, .slice none 0 0]) ?_ 2 _ rfl; refine blk_put (cs := #[.int .i64 t544, .int .i64 0, .int .i64 0, .slice none 0 0]) ?_ 1 _ rfl; refine blk_put (cs := #[.int .i64 0, .int .i64 0, .int .i64 0, .slice none 0 0]) ?_ 0 _ rfl; exact BK557.out⟩, ⟨by refine blk_put (cs := #[.int .i64 t550, .int .i64 t551, .int .i64 t552, .slice none 0 0]) ?_ 3 _ rfl; refine blk_put (cs := #[.int .i64 t550, .int .i64 t551, .int .i64 0, .slice none 0 0]) ?_ 2 _ rfl; refine blk_put (cs := #[.int .i64 t550, .int .i64 0, .int .i64 0, .slice none 0 0]) ?_ 1 _ rfl; refine blk_put (cs := #[.int .i64 0, .int .i64 0, .int .i64 0, .slice none 0 0]) ?_ 0 _ rfl; refine blk_far ?_ NB558_557.out _; refine blk_far ?_ NB558_557.out _; refine blk_far ?_ NB558_557.out _; refine blk_far ?_ NB558_557.out _; exact BK558.out⟩, ⟨by repeat (with_reducible first | exact HI0.out | apply IsS94.alloc | apply IsS94.drewN | apply IsS94.drew | apply IsS94.set_1 | refine IsS94.far ?_ NB0_535.out _ | refine IsS94.far ?_ NB0_536.out _ | refine IsS94.far ?_ NB0_557.out _ | refine IsS94.far ?_ NB0_558.out _)⟩, ⟨by repeat (with_reducible first | exact HK.out | apply KeepBut.set_ | apply keep_drewN | apply keep_drew | apply keep_alloc | refine keep_far ?_ GW535.out _ | refine keep_far ?_ GW536.out _ | refine keep_far ?_ GW557.out _ | refine keep_far ?_ GW558.out _)⟩, ⟨by repeat (with_reducible first | exact HB.out | apply below_alloc | apply pw_below_drewN | apply below_drew1 | refine below_set ?_ (IsS94.ge HI0.out) | refine below_set ?_ GE535.out | refine below_set ?_ GE536.out | refine below_set ?_ GE557.out | refine below_set ?_ GE558.out)⟩⟩
  ·replace c26 := Bool.eq_false_iff.mpr c26
   subst c26
   rw [if_neg (show ¬ (false = true) by decide)] at H
   replace H := bnd H
   obtain ⟨⟨t559, t560⟩, A27, H⟩ := H
   dsimp only at H
   replace H := bnd H
   obtain ⟨⟨t561, t562⟩, A28, H⟩ := H
   dsimp only at H
   replace H := bnd H
   obtain ⟨⟨t563, t564, t565, t566, t569, t570, t571, t572, t575⟩, A29, H⟩ := H
   dsimp only at H
   have H' := Aside0.mk H
   clear H
   go_wp2_with (first | ((with_reducible refine gate_callee (f := 45) rfl ?_); refine goesZ (some 30) Tryz.func45 #[.pointer (some ⟨g, 0, none⟩), .int .i64 4] ?_; (with_reducible refine (spec_l6Rd_pick.calls k g s0_0 t543 4 t559 t560 w0 _ ?side1 ?side2 A27.out).mono ?_); (case side1 => repeat (with_reducible first | exact HI0.out | apply IsS94.alloc | apply IsS94.drewN | apply IsS94.drew | apply IsS94.set_1 | refine IsS94.far ?_ NB0_535.out _ | refine IsS94.far ?_ NB0_536.out _ | refine IsS94.far ?_ NB0_557.out _ | refine IsS94.far ?_ NB0_558.out _)); (case side2 => repeat (with_reducible first | exact HB.out | apply below_alloc | apply pw_below_drewN | apply below_drew1 | refine below_set ?_ (IsS94.ge HI0.out) | refine below_set ?_ GE535.out | refine below_set ?_ GE536.out | refine below_set ?_ GE557.out | refine below_set ?_ GE558.out)); rintro e w30 ⟨rfl, hi, hb, hk⟩; refine ⟨_, rfl, ?_⟩; replace BK535 := Aside0.mk (KeepBut.blk hk (g' := gb535) (o := .cells #[.int .i64 0, .int .i64 0, .int .i64 0, .slice none 0 0] 27 (0, 0)) (by refine blk_far ?_ NB535_558.out _; refine blk_far ?_ NB535_558.out _; refine blk_far ?_ NB535_558.out _; refine blk_far ?_ NB535_558.out _; refine blk_far ?_ NB535_557.out _; refine blk_far ?_ NB535_557.out _; refine blk_far ?_ NB535_557.out _; refine blk_far ?_ NB535_557.out _; exact BK535.out) NB535_0.out (by simp)); replace BK536 := Aside0.mk (KeepBut.blk hk (g' := gb536) (o := .cells #[.int .i64 0, .int .i64 0, .int .i64 0, .slice none 0 0] 27 (0, 0)) (by refine blk_far ?_ NB536_558.out _; refine blk_far ?_ NB536_558.out _; refine blk_far ?_ NB536_558.out _; refine blk_far ?_ NB536_558.out _; refine blk_far ?_ NB536_557.out _; refine blk_far ?_ NB536_557.out _; refine blk_far ?_ NB536_557.out _; refine blk_far ?_ NB536_557.out _; exact BK536.out) NB536_0.out (by simp)); replace HO549 := Aside0.mk (Kd.R_mono (Kd.R_keep (IsS94.apart (show IsS94 w0 _ g s0_0 t543 from by repeat (with_reducible first | exact HI0.out | apply IsS94.alloc | apply IsS94.drewN | apply IsS94.drew | apply IsS94.set_1 | refine IsS94.far ?_ NB0_535.out _ | refine IsS94.far ?_ NB0_536.out _ | refine IsS94.far ?_ NB0_557.out _ | refine IsS94.far ?_ NB0_558.out _)) ((Kd.R_mono (Kd.R_mono (Kd.R_far (p := ⟨gb558, 3, none⟩) (Kd.R_far (p := ⟨gb558, 2, none⟩) (Kd.R_far (p := ⟨gb558, 1, none⟩) (Kd.R_far (p := ⟨gb558, 0, none⟩) (Kd.R_far (p := ⟨gb557, 3, none⟩) (Kd.R_far (p := ⟨gb557, 2, none⟩) (Kd.R_far (p := ⟨gb557, 1, none⟩) (Kd.R_far (p := ⟨gb557, 0, none⟩) (Kd.R_types (Kd.R_types HO549.out BK557.out (by decide)) BK558.out (by decide)) (fun _ hk => hk.1.2) (.int .i64 t544)) (fun _ hk => hk.1.2) (.int .i64 t545)) (fun _ hk => hk.1.2) (.int .i64 t546)) (fun _ hk => hk.1.2) (.slice Ao20 t547.length co20)) (fun _ hk => hk.2) (.int .i64 t550)) (fun _ hk => hk.2) (.int .i64 t551)) (fun _ hk => hk.2) (.int .i64 t552)) (fun _ hk => hk.2) (.slice Ao25 t553.length co25)) (fun _ h_ => h_.1)) (fun _ h_ => h_.1))) (by decide)) hk (fun _ h => h.2)) (fun _ h => h.1)); replace HO555 := Aside0.mk (Kd.R_mono (Kd.R_keep (IsS94.apart (show IsS94 w0 _ g s0_0 t543 from by repeat (with_reducible first | exact HI0.out | apply IsS94.alloc | apply IsS94.drewN | apply IsS94.drew | apply IsS94.set_1 | refine IsS94.far ?_ NB0_535.out _ | refine IsS94.far ?_ NB0_536.out _ | refine IsS94.far ?_ NB0_557.out _ | refine IsS94.far ?_ NB0_558.out _)) ((Kd.R_mono (Kd.R_mono (Kd.R_far (p := ⟨gb558, 3, none⟩) (Kd.R_far (p := ⟨gb558, 2, none⟩) (Kd.R_far (p := ⟨gb558, 1, none⟩) (Kd.R_far (p := ⟨gb558, 0, none⟩) (Kd.R_far (p := ⟨gb557, 3, none⟩) (Kd.R_far (p := ⟨gb557, 2, none⟩) (Kd.R_far (p := ⟨gb557, 1, none⟩) (Kd.R_far (p := ⟨gb557, 0, none⟩) (Kd.R_types (Kd.R_types HO555.out BK557.out (by decide)) BK558.out (by decide)) (fun _ hk => hk.1.2) (.int .i64 t544)) (fun _ hk => hk.1.2) (.int .i64 t545)) (fun _ hk => hk.1.2) (.int .i64 t546)) (fun _ hk => hk.1.2) (.slice Ao20 t547.length co20)) (fun _ hk => hk.2) (.int .i64 t550)) (fun _ hk => hk.2) (.int .i64 t551)) (fun _ hk => hk.2) (.int .i64 t552)) (fun _ hk => hk.2) (.slice Ao25 t553.length co25)) (fun _ h_ => h_.1)) (fun _ h_ => h_.1))) (by decide)) hk (fun _ h => h.2)) (fun _ h => h.1)); replace BK557 := Aside0.mk (KeepBut.blk hk (g' := gb557) (o := .cells #[.int .i64 t544, .int .i64 t545, .int .i64 t546, .slice Ao20 t547.length co20] 27 (0, 0)) (by refine blk_far ?_ NB557_558.out _; refine blk_far ?_ NB557_558.out _; refine blk_far ?_ NB557_558.out _; refine blk_far ?_ NB557_558.out _; refine blk_put (cs := #[.int .i64 t544, .int .i64 t545, .int .i64 t546, .slice none 0 0]) ?_ 3 _ rfl; refine blk_put (cs := #[.int .i64 t544, .int .i64 t545, .int .i64 0, .slice none 0 0]) ?_ 2 _ rfl; refine blk_put (cs := #[.int .i64 t544, .int .i64 0, .int .i64 0, .slice none 0 0]) ?_ 1 _ rfl; refine blk_put (cs := #[.int .i64 0, .int .i64 0, .int .i64 0, .slice none 0 0]) ?_ 0 _ rfl; exact BK557.out) NB557_0.out (by simp)); replace BK558 := Aside0.mk (KeepBut.blk hk (g' := gb558) (o := .cells #[.int .i64 t550, .int .i64 t551, .int .i64 t552, .slice Ao25 t553.length co25] 27 (0, 0)) (by refine blk_put (cs := #[.int .i64 t550, .int .i64 t551, .int .i64 t552, .slice none 0 0]) ?_ 3 _ rfl; refine blk_put (cs := #[.int .i64 t550, .int .i64 t551, .int .i64 0, .slice none 0 0]) ?_ 2 _ rfl; refine blk_put (cs := #[.int .i64 t550, .int .i64 0, .int .i64 0, .slice none 0 0]) ?_ 1 _ rfl; refine blk_put (cs := #[.int .i64 0, .int .i64 0, .int .i64 0, .slice none 0 0]) ?_ 0 _ rfl; refine blk_far ?_ NB558_557.out _; refine blk_far ?_ NB558_557.out _; refine blk_far ?_ NB558_557.out _; refine blk_far ?_ NB558_557.out _; exact BK558.out) NB558_0.out (by simp)); replace HK := Aside0.mk (KeepBut.trans (by repeat (with_reducible first | exact HK.out | apply KeepBut.set_ | apply keep_drewN | apply keep_drew | apply keep_alloc | refine keep_far ?_ GW535.out _ | refine keep_far ?_ GW536.out _ | refine keep_far ?_ GW557.out _ | refine keep_far ?_ GW558.out _)) hk (.inl rfl)); replace HB := Aside0.mk (hb); replace HI0 := Aside0.mk (hi); clear hb hk hi) | ((with_reducible refine gate_callee (f := 45) rfl ?_); refine goesZ (some 32) Tryz.func45 #[.pointer (some ⟨g, 0, none⟩), .int .i64 1000] ?_; (with_reducible refine (spec_l6Rd_pick.calls k g s0_0 t560 1000 t561 t562 w0 _ ?side1 ?side2 A28.out).mono ?_); (case side1 => repeat (with_reducible first | exact HI0.out | apply IsS94.alloc | apply IsS94.drewN | apply IsS94.drew | apply IsS94.set_1 | refine IsS94.far ?_ NB0_535.out _ | refine IsS94.far ?_ NB0_536.out _ | refine IsS94.far ?_ NB0_557.out _ | refine IsS94.far ?_ NB0_558.out _)); (case side2 => repeat (with_reducible first | exact HB.out | apply below_alloc | apply pw_below_drewN | apply below_drew1 | refine below_set ?_ (IsS94.ge HI0.out) | refine below_set ?_ GE535.out | refine below_set ?_ GE536.out | refine below_set ?_ GE557.out | refine below_set ?_ GE558.out)); rintro e w31 ⟨rfl, hi, hb, hk⟩; refine ⟨_, rfl, ?_⟩; replace BK535 := kbZ hk BK535.out NB535_0.out; replace BK536 := kbZ hk BK536.out NB536_0.out; replace HO549 := Aside0.mk (Kd.R_mono (Kd.R_keep (IsS94.apart (show IsS94 w0 _ g s0_0 t560 from by repeat (with_reducible first | exact HI0.out | apply IsS94.alloc | apply IsS94.drewN | apply IsS94.drew | apply IsS94.set_1 | refine IsS94.far ?_ NB0_535.out _ | refine IsS94.far ?_ NB0_536.out _ | refine IsS94.far ?_ NB0_557.out _ | refine IsS94.far ?_ NB0_558.out _)) (HO549.out) (by decide)) hk (fun _ h => h.2)) (fun _ h => h.1)); replace HO555 := Aside0.mk (Kd.R_mono (Kd.R_keep (IsS94.apart (show IsS94 w0 _ g s0_0 t560 from by repeat (with_reducible first | exact HI0.out | apply IsS94.alloc | apply IsS94.drewN | apply IsS94.drew | apply IsS94.set_1 | refine IsS94.far ?_ NB0_535.out _ | refine IsS94.far ?_ NB0_536.out _ | refine IsS94.far ?_ NB0_557.out _ | refine IsS94.far ?_ NB0_558.out _)) (HO555.out) (by decide)) hk (fun _ h => h.2)) (fun _ h => h.1)); replace BK557 := kbZ hk BK557.out NB557_0.out; replace BK558 := kbZ hk BK558.out NB558_0.out; replace HK := Aside0.mk (KeepBut.trans (by repeat (with_reducible first | exact HK.out | apply KeepBut.set_ | apply keep_drewN | apply keep_drew | apply keep_alloc | refine keep_far ?_ GW535.out _ | refine keep_far ?_ GW536.out _ | refine keep_far ?_ GW557.out _ | refine keep_far ?_ GW558.out _)) hk (.inl rfl)); replace HB := Aside0.mk (hb); replace HI0 := Aside0.mk (hi); clear hb hk hi) | (refine gsC c103x18 (spec_PartsMake.calls k 3 2 t559 t561 t563 t564 t565 t566 t569 t570 t571 t572 t575 _ A29.out) ?_; rintro e w32 ⟨v567, v573, rfl, ho0, ho1, hb⟩; refine ⟨_, rfl, ?_⟩; replace HO568 := Aside0.mk (Kd.R_lower (Kd.R_new' (Kd.R_new' ho0 (Kd.R_lt (HO549.out))) (Kd.R_lt (HO555.out))) (keep_size (w := w) (g := g) (row := none) (by repeat (with_reducible first | exact HK.out | apply KeepBut.set_ | apply keep_drewN | apply keep_drew | apply keep_alloc | refine keep_far ?_ GW535.out _ | refine keep_far ?_ GW536.out _ | refine keep_far ?_ GW557.out _ | refine keep_far ?_ GW558.out _)))); replace HO574 := Aside0.mk (Kd.R_lower (Kd.R_new' (Kd.R_new' ho1 (Kd.R_lt (HO549.out))) (Kd.R_lt (HO555.out))) (keep_size (w := w) (g := g) (row := none) (by repeat (with_reducible first | exact HK.out | apply KeepBut.set_ | apply keep_drewN | apply keep_drew | apply keep_alloc | refine keep_far ?_ GW535.out _ | refine keep_far ?_ GW536.out _ | refine keep_far ?_ GW557.out _ | refine keep_far ?_ GW558.out _)))); replace HO549 := Aside0.mk (Kd.R_mono (Kd.R_told (Kd.R_told (Kd.R_old (HO549.out) hb) (Kd.R_base ho0)) (Kd.R_base ho1)) (fun _ h_ => h_.1)); replace HO555 := Aside0.mk (Kd.R_mono (Kd.R_told (Kd.R_told (Kd.R_old (HO555.out) hb) (Kd.R_base ho0)) (Kd.R_base ho1)) (fun _ h_ => h_.1)); replace BK535 := bkZ hb BK535.out; replace BK536 := bkZ hb BK536.out; replace BK557 := bkZ hb BK557.out; replace BK558 := bkZ hb BK558.out; replace HK := Aside0.mk (KeepBut.trans (by repeat (with_reducible first | exact HK.out | apply KeepBut.set_ | apply keep_drewN | apply keep_drew | apply keep_alloc | refine keep_far ?_ GW535.out _ | refine keep_far ?_ GW536.out _ | refine keep_far ?_ GW557.out _ | refine keep_far ?_ GW558.out _)) (KeepBut.of_below hb g none) (.inl rfl)); replace HB := Aside0.mk (below_step (by repeat (with_reducible first | exact HB.out | apply below_alloc | apply pw_below_drewN | apply below_drew1 | refine below_set ?_ (IsS94.ge HI0.out) | refine below_set ?_ GE535.out | refine below_set ?_ GE536.out | refine below_set ?_ GE557.out | refine below_set ?_ GE558.out)) hb); replace HI0 := Aside0.mk (IsS94.below (by repeat (with_reducible first | exact HI0.out | apply IsS94.alloc | apply IsS94.drewN | apply IsS94.drew | apply IsS94.set_1 | refine IsS94.far ?_ NB0_535.out _ | refine IsS94.far ?_ NB0_536.out _ | refine IsS94.far ?_ NB0_557.out _ | refine IsS94.far ?_ NB0_558.out _)) hb); (try clear hb); (try clear hb2); (try clear hk); (try clear hi); (try clear ho0); (try clear ho1); have hnb33 := NB557_535.out; have hnc33 := NB535_557.out; have hnb34 := NB557_536.out; have hnc34 := NB536_557.out; have hnb35 := NB557_558.out; have hnc35 := NB558_557.out; have hnb36 := NB557_0.out; have hnc36 := NB0_557.out; have hcz37_0 : w32.cell? ⟨gb557, 0, none⟩ = some (.int .i64 t544) := (blk_cell BK557.out 0).trans rfl; have hcz37_1 : w32.cell? ⟨gb557, 1, none⟩ = some (.int .i64 t545) := (blk_cell BK557.out 1).trans rfl; have hcz37_2 : w32.cell? ⟨gb557, 2, none⟩ = some (.int .i64 t546) := (blk_cell BK557.out 2).trans rfl; have hcz37_3 : w32.cell? ⟨gb557, 3, none⟩ = some (.slice Ao20 t547.length co20) := (blk_cell BK557.out 3).trans rfl; have hfz37_0 := blk_frozen BK557.out 0; have hfz37_1 := blk_frozen BK557.out 1; have hfz37_2 := blk_frozen BK557.out 2; have hfz37_3 := blk_frozen BK557.out 3; obtain ⟨Ao38, co38, eo38⟩ := Kd.R_slice HO568.out; subst eo38; have hnb39 := NB558_535.out; have hnc39 := NB535_558.out; have hnb40 := NB558_536.out; have hnc40 := NB536_558.out; have hnb41 := NB558_0.out; have hnc41 := NB0_558.out; have hcz42_0 : w32.cell? ⟨gb558, 0, none⟩ = some (.int .i64 t550) := (blk_cell BK558.out 0).trans rfl; have hcz42_1 : w32.cell? ⟨gb558, 1, none⟩ = some (.int .i64 t551) := (blk_cell BK558.out 1).trans rfl; have hcz42_2 : w32.cell? ⟨gb558, 2, none⟩ = some (.int .i64 t552) := (blk_cell BK558.out 2).trans rfl; have hcz42_3 : w32.cell? ⟨gb558, 3, none⟩ = some (.slice Ao25 t553.length co25) := (blk_cell BK558.out 3).trans rfl; have hfz42_0 := blk_frozen BK558.out 0; have hfz42_1 := blk_frozen BK558.out 1; have hfz42_2 := blk_frozen BK558.out 2; have hfz42_3 := blk_frozen BK558.out 3; obtain ⟨Ao43, co43, eo43⟩ := Kd.R_slice HO574.out; subst eo43))
   go_meet
   case rel => exact ⟨_, (t562), (t563), (t564), (t565), (t566), (t569), (t570), (t571), (t572), (.slice Ao38 t566.length co38), (.slice Ao43 t572.length co43), H', ⟨by first | omega | exact Nat.le_refl _⟩, ⟨Kd.R_mono (Kd.R_far (p := ⟨gb558, 3, none⟩) (Kd.R_far (p := ⟨gb558, 2, none⟩) (Kd.R_far (p := ⟨gb558, 1, none⟩) (Kd.R_far (p := ⟨gb558, 0, none⟩) (Kd.R_far (p := ⟨gb557, 3, none⟩) (Kd.R_far (p := ⟨gb557, 2, none⟩) (Kd.R_far (p := ⟨gb557, 1, none⟩) (Kd.R_far (p := ⟨gb557, 0, none⟩) (Kd.R_types (Kd.R_types HO568.out BK557.out (by decide)) BK558.out (by decide)) (fun _ hk => hk.1.2) (.int .i64 t563)) (fun _ hk => hk.1.2) (.int .i64 t564)) (fun _ hk => hk.1.2) (.int .i64 t565)) (fun _ hk => hk.1.2) (.slice Ao38 t566.length co38)) (fun _ hk => hk.2) (.int .i64 t569)) (fun _ hk => hk.2) (.int .i64 t570)) (fun _ hk => hk.2) (.int .i64 t571)) (fun _ hk => hk.2) (.slice Ao43 t572.length co43)) (fun _ hk => hk.1.1.1.1)⟩, ⟨Kd.R_mono (Kd.R_far (p := ⟨gb558, 3, none⟩) (Kd.R_far (p := ⟨gb558, 2, none⟩) (Kd.R_far (p := ⟨gb558, 1, none⟩) (Kd.R_far (p := ⟨gb558, 0, none⟩) (Kd.R_far (p := ⟨gb557, 3, none⟩) (Kd.R_far (p := ⟨gb557, 2, none⟩) (Kd.R_far (p := ⟨gb557, 1, none⟩) (Kd.R_far (p := ⟨gb557, 0, none⟩) (Kd.R_types (Kd.R_types HO574.out BK557.out (by decide)) BK558.out (by decide)) (fun _ hk => hk.1.2) (.int .i64 t563)) (fun _ hk => hk.1.2) (.int .i64 t564)) (fun _ hk => hk.1.2) (.int .i64 t565)) (fun _ hk => hk.1.2) (.slice Ao38 t566.length co38)) (fun _ hk => hk.2) (.int .i64 t569)) (fun _ hk => hk.2) (.int .i64 t570)) (fun _ hk => hk.2) (.int .i64 t571)) (fun _ hk => hk.2) (.slice Ao43 t572.length co43)) (fun _ hk => hk.1.1.1.1)⟩, ⟨by refine blk_far ?_ NB535_558.out _; refine blk_far ?_ NB535_558.out _; refine blk_far ?_ NB535_558.out _; refine blk_far ?_ NB535_558.out _; refine blk_far ?_ NB535_557.out _; refine blk_far ?_ NB535_557.out _; refine blk_far ?_ NB535_557.out _; refine blk_far ?_ NB535_557.out _; exact BK535.out⟩, ⟨by refine blk_far ?_ NB536_558.out _; refine blk_far ?_ NB536_558.out _; refine blk_far ?_ NB536_558.out _; refine blk_far ?_ NB536_558.out _; refine blk_far ?_ NB536_557.out _; refine blk_far ?_ NB536_557.out _; refine blk_far ?_ NB536_557.out _; refine blk_far ?_ NB536_557.out _; exact BK536.out⟩, ⟨by refine blk_far ?_ NB557_558.out _; refine blk_far ?_ NB557_558.out _; refine blk_far ?_ NB557_558.out _; refine blk_far ?_ NB557_558.out _; refine blk_put (cs := #[.int .i64 t563, .int .i64 t564, .int .i64 t565, .slice Ao20 t547.length co20]) ?_ 3 _ rfl; refine blk_put (cs := #[.int .i64 t563, .int .i64 t564, .int .i64 t546, .slice Ao20 t547.length co20]) ?_ 2 _ rfl; refine blk_put (cs := #[.int .i64 t563, .int .i64 t545, .int .i64 t546, .slice Ao20 t547.length co20]) ?_ 1 _ rfl; refine blk_put (cs := #[.int .i64 t544, .int .i64 t545, .int .i64 t546, .slice Ao20 t547.length co20]) ?_ 0 _ rfl; exact BK557.out⟩, ⟨by refine blk_put (cs := #[.int .i64 t569, .int .i64 t570, .int .i64 t571, .slice Ao25 t553.length co25]) ?_ 3 _ rfl; refine blk_put (cs := #[.int .i64 t569, .int .i64 t570, .int .i64 t552, .slice Ao25 t553.length co25]) ?_ 2 _ rfl; refine blk_put (cs := #[.int .i64 t569, .int .i64 t551, .int .i64 t552, .slice Ao25 t553.length co25]) ?_ 1 _ rfl; refine blk_put (cs := #[.int .i64 t550, .int .i64 t551, .int .i64 t552, .slice Ao25 t553.length co25]) ?_ 0 _ rfl; refine blk_far ?_ NB558_557.out _; refine blk_far ?_ NB558_557.out _; refine blk_far ?_ NB558_557.out _; refine blk_far ?_ NB558_557.out _; exact BK558.out⟩, ⟨by repeat (with_reducible first | exact HI0.out | apply IsS94.alloc | apply IsS94.drewN | apply IsS94.drew | apply IsS94.set_1 | refine IsS94.far ?_ NB0_535.out _ | refine IsS94.far ?_ NB0_536.out _ | refine IsS94.far ?_ NB0_557.out _ | refine IsS94.far ?_ NB0_558.out _)⟩, ⟨by repeat (with_reducible first | exact HK.out | apply KeepBut.set_ | apply keep_drewN | apply keep_drew | apply keep_alloc | refine keep_far ?_ GW535.out _ | refine keep_far ?_ GW536.out _ | refine keep_far ?_ GW557.out _ | refine keep_far ?_ GW558.out _)⟩, ⟨by repeat (with_reducible first | exact HB.out | apply below_alloc | apply pw_below_drewN | apply below_drew1 | refine below_set ?_ (IsS94.ge HI0.out) | refine below_set ?_ GE535.out | refine below_set ?_ GE536.out | refine below_set ?_ GE557.out | refine below_set ?_ GE558.out)⟩⟩
 case rest =>
  clear HC6
  try clear c1
  try clear c2
  try clear p2
  try clear c3
  try clear c4
  try clear p6
  try clear c7
  try clear c10
  try clear c15
  try clear c16
  try clear c17
  try clear c18
  try clear c21
  try clear c22
  try clear c23
  try clear c26
  try clear c33
  try clear c34
  try clear c35
  try clear c36
  try clear c39
  try clear c40
  try clear c41
  try clear hcz19_0
  try clear hcz19_1
  try clear hcz19_2
  try clear hcz19_3
  try clear hcz24_0
  try clear hcz24_1
  try clear hcz24_2
  try clear hcz24_3
  try clear hcz37_0
  try clear hcz37_1
  try clear hcz37_2
  try clear hcz37_3
  try clear hcz42_0
  try clear hcz42_1
  try clear hcz42_2
  try clear hcz42_3
  try clear hfz19_0
  try clear hfz19_1
  try clear hfz19_2
  try clear hfz19_3
  try clear hfz24_0
  try clear hfz24_1
  try clear hfz24_2
  try clear hfz24_3
  try clear hfz37_0
  try clear hfz37_1
  try clear hfz37_2
  try clear hfz37_3
  try clear hfz42_0
  try clear hfz42_1
  try clear hfz42_2
  try clear hfz42_3
  obtain ⟨kq, x1001_5, x558000_5, x558001_5, x558002_5, x558003_5, x559000_5, x559001_5, x559002_5, x559003_5, u558003, u559003, HA, HJ5, HO_558003, HO_559003, BK535, BK536, BK557, BK558, HI0, HK, HB⟩ := hcut
  cases kq with
  | zero => exact absurd HA.out (by simp [spec_l92Two.j0])
  | succ kj5 =>
   have H := HA.out
   clear HA
   simp only [spec_l92Two.j0] at H
   replace H := bnd H
   obtain ⟨⟨t576, t577⟩, A44, H⟩ := H
   dsimp only at H
   by_cases c45 : t576 = 0
   ·rw [if_pos c45] at H
    have c45b0 : (t576 == 0) = true := beq_iff_eq.mpr c45
    have c45b1 : (t576 != 0) = false := bne_eq_false_iff_eq.mpr c45
    clear c45
    replace H := bnd H
    obtain ⟨⟨t578, t579⟩, A46, H⟩ := H
    dsimp only at H
    replace H := bnd H
    obtain ⟨⟨t580, t581⟩, A47, H⟩ := H
    dsimp only at H
    by_cases c48 : 0 ≤ t578
    ·rw [if_pos c48] at H
     have c48b0 : decide (0 ≤ t578) = true := decide_eq_true c48
     clear c48
     by_cases c49 : t578 < (x558003_5.length : Int)
     ·rw [if_pos c49] at H
      have c49b0 : decide (t578 < (x558003_5.length : Int)) = true := decide_eq_true c49
      clear c49
      obtain ⟨y582, hy582⟩ : ∃ y_ : List Int, y_ = (x558003_5.set (t578 : Int).toNat t580) := ⟨_, rfl⟩
      rw [← hy582] at H
      have Ny582 := Aside0.mk hy582
      clear hy582
      simp only [Option.some.injEq, Prod.mk.injEq] at H
      obtain ⟨rfl, rfl, rfl, rfl, rfl, rfl, rfl, rfl, rfl⟩ := H
      try go_wp2_with (first | ((with_reducible refine gate_callee (f := 45) rfl ?_); refine goesZ (some 38) Tryz.func45 #[.pointer (some ⟨g, 0, none⟩), .int .i64 8] ?_; (with_reducible refine (spec_l6Rd_pick.calls kj5 g s0_0 x1001_5 8 t576 t577 w0 _ ?side1 ?side2 A44.out).mono ?_); (case side1 => repeat (with_reducible first | exact HI0.out | apply IsS94.alloc | apply IsS94.drewN | apply IsS94.drew | apply IsS94.set_1 | refine IsS94.far ?_ NB0_535.out _ | refine IsS94.far ?_ NB0_536.out _ | refine IsS94.far ?_ NB0_557.out _ | refine IsS94.far ?_ NB0_558.out _)); (case side2 => repeat (with_reducible first | exact HB.out | apply below_alloc | apply pw_below_drewN | apply below_drew1 | refine below_set ?_ (IsS94.ge HI0.out) | refine below_set ?_ GE535.out | refine below_set ?_ GE536.out | refine below_set ?_ GE557.out | refine below_set ?_ GE558.out)); rintro e w51 ⟨rfl, hi, hb, hk⟩; refine ⟨_, rfl, ?_⟩; replace HO_558003 := Aside0.mk (Kd.R_mono (Kd.R_keep (IsS94.apart (show IsS94 w0 _ g s0_0 x1001_5 from by repeat (with_reducible first | exact HI0.out | apply IsS94.alloc | apply IsS94.drewN | apply IsS94.drew | apply IsS94.set_1 | refine IsS94.far ?_ NB0_535.out _ | refine IsS94.far ?_ NB0_536.out _ | refine IsS94.far ?_ NB0_557.out _ | refine IsS94.far ?_ NB0_558.out _)) (HO_558003.out) (by decide)) hk (fun _ h => h.2)) (fun _ h => h.1)); replace HO_559003 := Aside0.mk (Kd.R_mono (Kd.R_keep (IsS94.apart (show IsS94 w0 _ g s0_0 x1001_5 from by repeat (with_reducible first | exact HI0.out | apply IsS94.alloc | apply IsS94.drewN | apply IsS94.drew | apply IsS94.set_1 | refine IsS94.far ?_ NB0_535.out _ | refine IsS94.far ?_ NB0_536.out _ | refine IsS94.far ?_ NB0_557.out _ | refine IsS94.far ?_ NB0_558.out _)) (HO_559003.out) (by decide)) hk (fun _ h => h.2)) (fun _ h => h.1)); replace BK535 := kbZ hk BK535.out NB535_0.out; replace BK536 := kbZ hk BK536.out NB536_0.out; replace BK557 := kbZ hk BK557.out NB557_0.out; replace BK558 := kbZ hk BK558.out NB558_0.out; replace HK := Aside0.mk (KeepBut.trans (by repeat (with_reducible first | exact HK.out | apply KeepBut.set_ | apply keep_drewN | apply keep_drew | apply keep_alloc | refine keep_far ?_ GW535.out _ | refine keep_far ?_ GW536.out _ | refine keep_far ?_ GW557.out _ | refine keep_far ?_ GW558.out _)) hk (.inl rfl)); replace HB := Aside0.mk (hb); replace HI0 := Aside0.mk (hi); clear hb hk hi))
      replace HO_558003 := Aside0.mk (Kd.R_drew HO_558003.out)
      replace HO_559003 := Aside0.mk (Kd.R_drew HO_559003.out)
      replace BK535 := Aside0.mk (blk_drew BK535.out)
      replace BK536 := Aside0.mk (blk_drew BK536.out)
      replace BK557 := Aside0.mk (blk_drew BK557.out)
      replace BK558 := Aside0.mk (blk_drew BK558.out)
      replace HI0 := Aside0.mk (IsS94.drew HI0.out)
      replace HK := Aside0.mk (keep_drew HK.out)
      replace HB := Aside0.mk (below_drew1 HB.out)
      obtain ⟨Ao53, co53, eo53⟩ := Kd.R_slice HO_558003.out
      (first | subst eo53 | (injection eo53 with f1_ f2_ f3_; have f4_ := f1_.symm; have f5_ := f3_.symm; clear f1_ f2_ f3_; subst f4_; subst f5_))
      refine start_ (n := 11) (S := fun w' => w'.cell? ⟨gb557, 0, none⟩ = some (.int .i64 x558000_5) ∧ w'.cell? ⟨gb557, 1, none⟩ = some (.int .i64 x558001_5) ∧ w'.cell? ⟨gb557, 2, none⟩ = some (.int .i64 x558002_5) ∧ w'.cell? ⟨gb557, 3, none⟩ = some (.slice Ao53 x558003_5.length co53)) (ds := [10]) (bs 11 0) (by kernel_rfl) rfl rfl ⟨(blk_cell BK557.out 0).trans rfl, (blk_cell BK557.out 1).trans rfl, (blk_cell BK557.out 2).trans rfl, (blk_cell BK557.out 3).trans rfl⟩ (fun hHeld => ?_); refine with_tabW spec_l92Two.tab7 spec_l92Two.bits7 (fun HT_ HW_ => ?_)
      generalize w51.drew = w52 at HO_558003 HO_559003 BK535 BK536 BK557 BK558 HI0 HK HB hHeld ⊢
      refine pZ 0 (some 41) (bs 11 1) rfl rfl (any_of HT_.out (by kernel_rfl)) ?_
      refine pZ 2 (some 43) (bs 11 5) rfl rfl (any_of HT_.out (by kernel_rfl)) ?_
      refine pZ 3 (some 44) (bs 11 13) rfl rfl (any_of HT_.out (by kernel_rfl)) ?_
      refine pZ 7 (some 48) (bs 11 141) rfl rfl (any_of HT_.out (by kernel_rfl)) ?_
      refine tZ 1 (some 42) (bs 11 143) rfl rfl (take_ofW HT_.out HW_.out (by kernel_rfl)) hHeld (by rintro w' ⟨s0, s1, s2, s3⟩; go_simp; with_reducible rfl) ?_
      refine tZ 4 (some 45) (bs 11 159) rfl rfl (take_ofW HT_.out HW_.out (by kernel_rfl)) hHeld (by rintro w' ⟨s0, s1, s2, s3⟩; go_simp; with_reducible rfl) ?_
      refine pZ 5 (some 46) (bs 11 191) rfl rfl (any_of HT_.out (by kernel_rfl)) ?_
      refine one_ (i := 6) (N := some 47) (bs 11 255) rfl rfl (one_of HT_.out (by kernel_rfl)) (by decide) (fun K hK => ?_)
      refine goes_ Tryz.func45 (by kernel_rfl) rfl #[.pointer (some ⟨g, 0, none⟩), .int .i64 (x558003_5.length : Int)] (by rfl) rfl rfl (by (try simp only [List.map_toArray, List.map_cons, List.map_nil]); first | done | rfl | (simp only [List.length_drop, List.length_take]; rfl)) ?_
      with_reducible refine (spec_l6Rd_pick.calls kj5 g s0_0 t577 (x558003_5.length : Int) t578 t579 w0 _ ?side1 ?side2 A46.out).mono ?_
      (case side1 => repeat (with_reducible first | exact HI0.out | apply IsS94.alloc | apply IsS94.drewN | apply IsS94.drew | apply IsS94.set_1 | refine IsS94.far ?_ NB0_535.out _ | refine IsS94.far ?_ NB0_536.out _ | refine IsS94.far ?_ NB0_557.out _ | refine IsS94.far ?_ NB0_558.out _))
      (case side2 => repeat (with_reducible first | exact HB.out | apply below_alloc | apply pw_below_drewN | apply below_drew1 | refine below_set ?_ (IsS94.ge HI0.out) | refine below_set ?_ GE535.out | refine below_set ?_ GE536.out | refine below_set ?_ GE557.out | refine below_set ?_ GE558.out))
      rintro e w54 ⟨rfl, hi, hb, hk⟩
      refine ⟨_, rfl, ?_⟩
      replace HO_558003 := Aside0.mk (Kd.R_mono (Kd.R_keep (IsS94.apart (show IsS94 w0 _ g s0_0 t577 from by repeat (with_reducible first | exact HI0.out | apply IsS94.alloc | apply IsS94.drewN | apply IsS94.drew | apply IsS94.set_1 | refine IsS94.far ?_ NB0_535.out _ | refine IsS94.far ?_ NB0_536.out _ | refine IsS94.far ?_ NB0_557.out _ | refine IsS94.far ?_ NB0_558.out _)) (HO_558003.out) (by decide)) hk (fun _ h => h.2)) (fun _ h => h.1))
      replace HO_559003 := Aside0.mk (Kd.R_mono (Kd.R_keep (IsS94.apart (show IsS94 w0 _ g s0_0 t577 from by repeat (with_reducible first | exact HI0.out | apply IsS94.alloc | apply IsS94.drewN | apply IsS94.drew | apply IsS94.set_1 | refine IsS94.far ?_ NB0_535.out _ | refine IsS94.far ?_ NB0_536.out _ | refine IsS94.far ?_ NB0_557.out _ | refine IsS94.far ?_ NB0_558.out _)) (HO_559003.out) (by decide)) hk (fun _ h => h.2)) (fun _ h => h.1))
      replace BK535 := kbZ hk BK535.out NB535_0.out
      replace BK536 := kbZ hk BK536.out NB536_0.out
      replace BK557 := kbZ hk BK557.out NB557_0.out
      replace BK558 := kbZ hk BK558.out NB558_0.out
      replace HK := Aside0.mk (KeepBut.trans (by repeat (with_reducible first | exact HK.out | apply KeepBut.set_ | apply keep_drewN | apply keep_drew | apply keep_alloc | refine keep_far ?_ GW535.out _ | refine keep_far ?_ GW536.out _ | refine keep_far ?_ GW557.out _ | refine keep_far ?_ GW558.out _)) hk (.inl rfl))
      replace HB := Aside0.mk (hb)
      replace HI0 := Aside0.mk (hi)
      (try clear hb)
      (try clear hb2)
      (try clear hk)
      (try clear hi)
      refine hK.out _ _ ⟨(blk_cell BK557.out 0).trans rfl, (blk_cell BK557.out 1).trans rfl, (blk_cell BK557.out 2).trans rfl, (blk_cell BK557.out 3).trans rfl⟩ (fun hHeld => ?_)
      clear hK K
      refine norm_ (a' := ?_) ?_ ?_
      rotate_left
      ·show Act.put _ (some 47) _ = _
       simp only [Act.put, List.setIfInBounds_toArray, List.set_cons_zero, List.set_cons_succ, i64_w, i32_w]
       rfl
      refine one_ (i := 8) (N := some 49) (bs 11 511) rfl rfl (one_of HT_.out (by kernel_rfl)) (by decide) (fun K hK => ?_)
      refine goes_ Tryz.func45 (by kernel_rfl) rfl #[.pointer (some ⟨g, 0, none⟩), .int .i64 31] (by rfl) rfl rfl (by (try simp only [List.map_toArray, List.map_cons, List.map_nil]); first | done | rfl | (simp only [List.length_drop, List.length_take]; rfl)) ?_
      with_reducible refine (spec_l6Rd_pick.calls kj5 g s0_0 t579 31 t580 t581 w0 _ ?side1 ?side2 A47.out).mono ?_
      (case side1 => repeat (with_reducible first | exact HI0.out | apply IsS94.alloc | apply IsS94.drewN | apply IsS94.drew | apply IsS94.set_1 | refine IsS94.far ?_ NB0_535.out _ | refine IsS94.far ?_ NB0_536.out _ | refine IsS94.far ?_ NB0_557.out _ | refine IsS94.far ?_ NB0_558.out _))
      (case side2 => repeat (with_reducible first | exact HB.out | apply below_alloc | apply pw_below_drewN | apply below_drew1 | refine below_set ?_ (IsS94.ge HI0.out) | refine below_set ?_ GE535.out | refine below_set ?_ GE536.out | refine below_set ?_ GE557.out | refine below_set ?_ GE558.out))
      rintro e w55 ⟨rfl, hi, hb, hk⟩
      refine ⟨_, rfl, ?_⟩
      replace HO_558003 := Aside0.mk (Kd.R_mono (Kd.R_keep (IsS94.apart (show IsS94 w0 _ g s0_0 t579 from by repeat (with_reducible first | exact HI0.out | apply IsS94.alloc | apply IsS94.drewN | apply IsS94.drew | apply IsS94.set_1 | refine IsS94.far ?_ NB0_535.out _ | refine IsS94.far ?_ NB0_536.out _ | refine IsS94.far ?_ NB0_557.out _ | refine IsS94.far ?_ NB0_558.out _)) (HO_558003.out) (by decide)) hk (fun _ h => h.2)) (fun _ h => h.1))
      replace HO_559003 := Aside0.mk (Kd.R_mono (Kd.R_keep (IsS94.apart (show IsS94 w0 _ g s0_0 t579 from by repeat (with_reducible first | exact HI0.out | apply IsS94.alloc | apply IsS94.drewN | apply IsS94.drew | apply IsS94.set_1 | refine IsS94.far ?_ NB0_535.out _ | refine IsS94.far ?_ NB0_536.out _ | refine IsS94.far ?_ NB0_557.out _ | refine IsS94.far ?_ NB0_558.out _)) (HO_559003.out) (by decide)) hk (fun _ h => h.2)) (fun _ h => h.1))
      replace BK535 := kbZ hk BK535.out NB535_0.out
      replace BK536 := kbZ hk BK536.out NB536_0.out
      replace BK557 := kbZ hk BK557.out NB557_0.out
      replace BK558 := kbZ hk BK558.out NB558_0.out
      replace HK := Aside0.mk (KeepBut.trans (by repeat (with_reducible first | exact HK.out | apply KeepBut.set_ | apply keep_drewN | apply keep_drew | apply keep_alloc | refine keep_far ?_ GW535.out _ | refine keep_far ?_ GW536.out _ | refine keep_far ?_ GW557.out _ | refine keep_far ?_ GW558.out _)) hk (.inl rfl))
      replace HB := Aside0.mk (hb)
      replace HI0 := Aside0.mk (hi)
      (try clear hb)
      (try clear hb2)
      (try clear hk)
      (try clear hi)
      have p50 : 0 ≤ (t578 : Int) := of_decide_eq_true ‹_›
      have q50 : (t578 : Int) < ((x558003_5.length : Int) : Int) := of_decide_eq_true ‹_›
      obtain ⟨go50, co50, eo50, gb50, gl50, cl50, HG50⟩ := Kd.R_form HO_558003.out (by omega)
      (first | cases eo50 | (injection eo50 with ea_ en_ ec_; (first | subst ea_ | (injection ea_ with ea_; subst ea_)); subst ec_; clear en_))
      have GB50 := Aside0.mk gb50
      have GG50 := Aside0.mk HG50
      clear gb50 gl50 HG50
      obtain ⟨hx50_0, hf50_0⟩ := Kd.R_celln 0 HO_558003.out (t578 : Int) p50 q50
      replace p50 := eq_true p50
      replace q50 := eq_true q50
      have HN0_go50 := Aside0.mk (show g ≠ go50 from by have h_ := IsS94.own_ne HI0.out HO_558003.out (by decide); intro e_; exact h_ (by rw [e_]; rfl))
      have HP56 := Kd.R_putn HO_558003.out (t578 : Int) t580
      rw [← Ny582.out] at HP56
      have HQ56 := Aside0.mk HP56
      clear HP56
      refine hK.out _ _ ⟨(blk_cell BK557.out 0).trans rfl, (blk_cell BK557.out 1).trans rfl, (blk_cell BK557.out 2).trans rfl, (blk_cell BK557.out 3).trans rfl⟩ (fun hHeld => ?_)
      clear hK K
      refine norm_ (a' := ?_) ?_ ?_
      rotate_left
      ·show Act.put _ (some 49) _ = _
       simp only [Act.put, List.setIfInBounds_toArray, List.set_cons_zero, List.set_cons_succ, i64_w, i32_w]
       rfl
      refine pZ 9 (some 50) (bs 11 1023) rfl rfl (any_of HT_.out (by kernel_rfl)) ?_
      refine last_ (i := 10) (N := none) (bs 11 2047) rfl rfl (one_of HT_.out (by kernel_rfl)) (by decide) (fun K hK => ?_)
      refine skip_ (w1 := ?_) (by rfl) rfl ?_ ?_
      rotate_left
      ·go_simp
       rfl
      refine hK.out _ _ ?_
      clear hK K
      refine done_ (done_of HT_.out (by kernel_rfl)) ?_
      replace HO_559003 : Aside0 (Kd.R (Kd.int .i64) 3 (w55.setCell ⟨go50, (t578 : Int).toNat, none⟩ (.int .i64 t580)) w.heap.size (fun k_ => some k_ ≠ (.slice (some ⟨go50, 0, none⟩) x558003_5.length co53 : Value).ownBlock) u559003 x559003_5) := ⟨Kd.R_mono (Kd.R_far (p := ⟨go50, (t578 : Int).toNat, none⟩) (Kd.R_mono HO_559003.out (fun k_ hk => (⟨hk, fun e_ => hk (by rw [e_]; rfl)⟩ : _ ∧ k_ ≠ go50))) (fun _ hk => hk.2) (.int .i64 t580)) (fun _ hk => hk.1)⟩
      replace BK535 : Aside0 ((w55.setCell ⟨go50, (t578 : Int).toNat, none⟩ (.int .i64 t580)).heap[gb535]? = some (.cells #[.int .i64 0, .int .i64 0, .int .i64 0, .slice none 0 0] 27 (0, 0))) := ⟨by refine blk_far ?_ (by have h_ := Kd.R_ne HO_558003.out BK535.out (by decide); intro e_; exact h_ (by rw [e_]; rfl)) _; exact BK535.out⟩
      replace BK536 : Aside0 ((w55.setCell ⟨go50, (t578 : Int).toNat, none⟩ (.int .i64 t580)).heap[gb536]? = some (.cells #[.int .i64 0, .int .i64 0, .int .i64 0, .slice none 0 0] 27 (0, 0))) := ⟨by refine blk_far ?_ (by have h_ := Kd.R_ne HO_558003.out BK536.out (by decide); intro e_; exact h_ (by rw [e_]; rfl)) _; exact BK536.out⟩
      replace BK557 : Aside0 ((w55.setCell ⟨go50, (t578 : Int).toNat, none⟩ (.int .i64 t580)).heap[gb557]? = some (.cells #[.int .i64 x558000_5, .int .i64 x558001_5, .int .i64 x558002_5, .slice (some ⟨go50, 0, none⟩) x558003_5.length co53] 27 (0, 0))) := ⟨by refine blk_far ?_ (by have h_ := Kd.R_ne HO_558003.out BK557.out (by decide); intro e_; exact h_ (by rw [e_]; rfl)) _; exact BK557.out⟩
      replace BK558 : Aside0 ((w55.setCell ⟨go50, (t578 : Int).toNat, none⟩ (.int .i64 t580)).heap[gb558]? = some (.cells #[.int .i64 x559000_5, .int .i64 x559001_5, .int .i64 x559002_5, u559003] 27 (0, 0))) := ⟨by refine blk_far ?_ (by have h_ := Kd.R_ne HO_558003.out BK558.out (by decide); intro e_; exact h_ (by rw [e_]; rfl)) _; exact BK558.out⟩
      replace HO_558003 : Aside0 (Kd.R (Kd.int .i64) 3 (w55.setCell ⟨go50, (t578 : Int).toNat, none⟩ (.int .i64 t580)) w.heap.size (fun k_ => some k_ ≠ (u559003 : Value).ownBlock) (.slice (some ⟨go50, 0, none⟩) x558003_5.length co53) y582) := ⟨HQ56.out⟩
      replace HK : Aside0 (KeepBut w (w55.setCell ⟨go50, (t578 : Int).toNat, none⟩ (.int .i64 t580)) g none) := ⟨by repeat (with_reducible first | exact HK.out | apply KeepBut.set_ | apply keep_drewN | apply keep_drew | apply keep_alloc | refine keep_far ?_ GB50.out _ | refine keep_far ?_ GW535.out _ | refine keep_far ?_ GW536.out _ | refine keep_far ?_ GW557.out _ | refine keep_far ?_ GW558.out _)⟩
      replace HB : Aside0 (Below w0.heap.size w0 (w55.setCell ⟨go50, (t578 : Int).toNat, none⟩ (.int .i64 t580))) := ⟨by repeat (with_reducible first | exact HB.out | apply below_alloc | apply pw_below_drewN | apply below_drew1 | refine below_set ?_ (Nat.le_trans HL.out GB50.out) | refine below_set ?_ (IsS94.ge HI0.out) | refine below_set ?_ GE535.out | refine below_set ?_ GE536.out | refine below_set ?_ GE557.out | refine below_set ?_ GE558.out)⟩
      replace HI0 : Aside0 (IsS94 w0 (w55.setCell ⟨go50, (t578 : Int).toNat, none⟩ (.int .i64 t580)) g s0_0 t581) := ⟨by repeat (with_reducible first | exact HI0.out | apply IsS94.alloc | apply IsS94.drewN | apply IsS94.drew | apply IsS94.set_1 | refine IsS94.far ?_ HN0_go50.out _ | refine IsS94.far ?_ NB0_535.out _ | refine IsS94.far ?_ NB0_536.out _ | refine IsS94.far ?_ NB0_557.out _ | refine IsS94.far ?_ NB0_558.out _)⟩
      generalize (w55.setCell ⟨go50, (t578 : Int).toNat, none⟩ (.int .i64 t580)) = w57 at HO_558003 HO_559003 BK535 BK536 BK557 BK558 HI0 HK HB ⊢
      try go_wp2
      replace HO_558003 := Aside0.mk (Kd.R_drew HO_558003.out)
      replace HO_559003 := Aside0.mk (Kd.R_drew HO_559003.out)
      replace BK535 := Aside0.mk (blk_drew BK535.out)
      replace BK536 := Aside0.mk (blk_drew BK536.out)
      replace BK557 := Aside0.mk (blk_drew BK557.out)
      replace BK558 := Aside0.mk (blk_drew BK558.out)
      replace HI0 := Aside0.mk (IsS94.drew HI0.out)
      replace HK := Aside0.mk (keep_drew HK.out)
      replace HB := Aside0.mk (below_drew1 HB.out)
      obtain ⟨Ao66, co66, eo66⟩ := Kd.R_slice HO_559003.out
      (first | subst eo66 | (injection eo66 with f1_ f2_ f3_; have f4_ := f1_.symm; have f5_ := f3_.symm; clear f1_ f2_ f3_; subst f4_; subst f5_))
      refine start_ (n := 4) (S := fun w' => w'.cell? ⟨gb557, 0, none⟩ = some (.int .i64 x558000_5) ∧ w'.cell? ⟨gb557, 1, none⟩ = some (.int .i64 x558001_5) ∧ w'.cell? ⟨gb557, 2, none⟩ = some (.int .i64 x558002_5) ∧ w'.cell? ⟨gb557, 3, none⟩ = some (.slice (some ⟨go50, 0, none⟩) x558003_5.length co53) ∧ w'.cell? ⟨gb558, 0, none⟩ = some (.int .i64 x559000_5) ∧ w'.cell? ⟨gb558, 1, none⟩ = some (.int .i64 x559001_5) ∧ w'.cell? ⟨gb558, 2, none⟩ = some (.int .i64 x559002_5) ∧ w'.cell? ⟨gb558, 3, none⟩ = some (.slice Ao66 x559003_5.length co66)) (ds := []) (bs 4 0) (by kernel_rfl) rfl rfl ⟨(blk_cell BK557.out 0).trans rfl, (blk_cell BK557.out 1).trans rfl, (blk_cell BK557.out 2).trans rfl, (blk_cell BK557.out 3).trans rfl, (blk_cell BK558.out 0).trans rfl, (blk_cell BK558.out 1).trans rfl, (blk_cell BK558.out 2).trans rfl, (blk_cell BK558.out 3).trans rfl⟩ (fun hHeld => ?_)
      generalize w57.drew = w58 at HO_558003 HO_559003 BK535 BK536 BK557 BK558 HI0 HK HB hHeld ⊢
      refine tZ 0 (some 64) (bs 4 1) rfl rfl (by kernel_rfl) hHeld (by rintro w' ⟨s0, s1, s2, s3, s4, s5, s6, s7⟩; go_simp; with_reducible rfl) ?_
      refine tZ 1 (some 65) (bs 4 3) rfl rfl (by kernel_rfl) hHeld (by rintro w' ⟨s0, s1, s2, s3, s4, s5, s6, s7⟩; go_simp; with_reducible rfl) ?_
      refine one_ (i := 2) (N := none) (bs 4 7) rfl rfl (by kernel_rfl) (by decide) (fun K hK => ?_)
      have hs59 : w58.cell? ⟨gb535, 0, none⟩ = some (.int .i64 0) := (blk_cell BK535.out 0).trans rfl
      have hfs59 := blk_frozen BK535.out 0
      have hns59_1 := NB536_535.out
      have hns59_2 := NB557_535.out
      have hns59_3 := NB558_535.out
      have hms59_1 := NB535_536.out
      have hms59_2 := NB535_557.out
      have hms59_3 := NB535_558.out
      have hs60 : w58.cell? ⟨gb535, 1, none⟩ = some (.int .i64 0) := (blk_cell BK535.out 1).trans rfl
      have hfs60 := blk_frozen BK535.out 1
      have hns60_1 := NB536_535.out
      have hns60_2 := NB557_535.out
      have hns60_3 := NB558_535.out
      have hms60_1 := NB535_536.out
      have hms60_2 := NB535_557.out
      have hms60_3 := NB535_558.out
      have hs61 : w58.cell? ⟨gb535, 2, none⟩ = some (.int .i64 0) := (blk_cell BK535.out 2).trans rfl
      have hfs61 := blk_frozen BK535.out 2
      have hns61_1 := NB536_535.out
      have hns61_2 := NB557_535.out
      have hns61_3 := NB558_535.out
      have hms61_1 := NB535_536.out
      have hms61_2 := NB535_557.out
      have hms61_3 := NB535_558.out
      have hs62 : w58.cell? ⟨gb535, 3, none⟩ = some (.slice none 0 0) := (blk_cell BK535.out 3).trans rfl
      have hfs62 := blk_frozen BK535.out 3
      have hns62_1 := NB536_535.out
      have hns62_2 := NB557_535.out
      have hns62_3 := NB558_535.out
      have hms62_1 := NB535_536.out
      have hms62_2 := NB535_557.out
      have hms62_3 := NB535_558.out
      refine skip_ (w1 := ?_) (by rfl) rfl ?_ ?_
      rotate_left
      ·go_simp
       rfl
      refine hK.out _ _ ⟨((cell_far (p := ⟨gb535, _, none⟩) NB557_535.out _).trans (((cell_far (p := ⟨gb535, _, none⟩) NB557_535.out _).trans (((cell_far (p := ⟨gb535, _, none⟩) NB557_535.out _).trans (((cell_far (p := ⟨gb535, _, none⟩) NB557_535.out _).trans (hHeld.1)))))))), ((cell_far (p := ⟨gb535, _, none⟩) NB557_535.out _).trans (((cell_far (p := ⟨gb535, _, none⟩) NB557_535.out _).trans (((cell_far (p := ⟨gb535, _, none⟩) NB557_535.out _).trans (((cell_far (p := ⟨gb535, _, none⟩) NB557_535.out _).trans (hHeld.2.1)))))))), ((cell_far (p := ⟨gb535, _, none⟩) NB557_535.out _).trans (((cell_far (p := ⟨gb535, _, none⟩) NB557_535.out _).trans (((cell_far (p := ⟨gb535, _, none⟩) NB557_535.out _).trans (((cell_far (p := ⟨gb535, _, none⟩) NB557_535.out _).trans (hHeld.2.2.1)))))))), ((cell_far (p := ⟨gb535, _, none⟩) NB557_535.out _).trans (((cell_far (p := ⟨gb535, _, none⟩) NB557_535.out _).trans (((cell_far (p := ⟨gb535, _, none⟩) NB557_535.out _).trans (((cell_far (p := ⟨gb535, _, none⟩) NB557_535.out _).trans (hHeld.2.2.2.1)))))))), ((cell_far (p := ⟨gb535, _, none⟩) NB558_535.out _).trans (((cell_far (p := ⟨gb535, _, none⟩) NB558_535.out _).trans (((cell_far (p := ⟨gb535, _, none⟩) NB558_535.out _).trans (((cell_far (p := ⟨gb535, _, none⟩) NB558_535.out _).trans (hHeld.2.2.2.2.1)))))))), ((cell_far (p := ⟨gb535, _, none⟩) NB558_535.out _).trans (((cell_far (p := ⟨gb535, _, none⟩) NB558_535.out _).trans (((cell_far (p := ⟨gb535, _, none⟩) NB558_535.out _).trans (((cell_far (p := ⟨gb535, _, none⟩) NB558_535.out _).trans (hHeld.2.2.2.2.2.1)))))))), ((cell_far (p := ⟨gb535, _, none⟩) NB558_535.out _).trans (((cell_far (p := ⟨gb535, _, none⟩) NB558_535.out _).trans (((cell_far (p := ⟨gb535, _, none⟩) NB558_535.out _).trans (((cell_far (p := ⟨gb535, _, none⟩) NB558_535.out _).trans (hHeld.2.2.2.2.2.2.1)))))))), ((cell_far (p := ⟨gb535, _, none⟩) NB558_535.out _).trans (((cell_far (p := ⟨gb535, _, none⟩) NB558_535.out _).trans (((cell_far (p := ⟨gb535, _, none⟩) NB558_535.out _).trans (((cell_far (p := ⟨gb535, _, none⟩) NB558_535.out _).trans (hHeld.2.2.2.2.2.2.2))))))))⟩ (fun hHeld => ?_)
      clear hK K
      refine one_ (i := 3) (N := none) (bs 4 15) rfl rfl (by kernel_rfl) (by decide) (fun K hK => ?_)
      have hs63 : w58.cell? ⟨gb536, 0, none⟩ = some (.int .i64 0) := (blk_cell BK536.out 0).trans rfl
      have hfs63 := blk_frozen BK536.out 0
      have hns63_0 := NB535_536.out
      have hns63_2 := NB557_536.out
      have hns63_3 := NB558_536.out
      have hms63_0 := NB536_535.out
      have hms63_2 := NB536_557.out
      have hms63_3 := NB536_558.out
      have hs64 : w58.cell? ⟨gb536, 1, none⟩ = some (.int .i64 0) := (blk_cell BK536.out 1).trans rfl
      have hfs64 := blk_frozen BK536.out 1
      have hns64_0 := NB535_536.out
      have hns64_2 := NB557_536.out
      have hns64_3 := NB558_536.out
      have hms64_0 := NB536_535.out
      have hms64_2 := NB536_557.out
      have hms64_3 := NB536_558.out
      have hs65 : w58.cell? ⟨gb536, 2, none⟩ = some (.int .i64 0) := (blk_cell BK536.out 2).trans rfl
      have hfs65 := blk_frozen BK536.out 2
      have hns65_0 := NB535_536.out
      have hns65_2 := NB557_536.out
      have hns65_3 := NB558_536.out
      have hms65_0 := NB536_535.out
      have hms65_2 := NB536_557.out
      have hms65_3 := NB536_558.out
      have hs67 : w58.cell? ⟨gb536, 3, none⟩ = some (.slice none 0 0) := (blk_cell BK536.out 3).trans rfl
      have hfs67 := blk_frozen BK536.out 3
      have hns67_0 := NB535_536.out
      have hns67_2 := NB557_536.out
      have hns67_3 := NB558_536.out
      have hms67_0 := NB536_535.out
      have hms67_2 := NB536_557.out
      have hms67_3 := NB536_558.out
      refine skip_ (w1 := ?_) (by rfl) rfl ?_ ?_
      rotate_left
      ·go_simp
       rfl
      refine hK.out _ _ ⟨((cell_far (p := ⟨gb536, _, none⟩) NB557_536.out _).trans (((cell_far (p := ⟨gb536, _, none⟩) NB557_536.out _).trans (((cell_far (p := ⟨gb536, _, none⟩) NB557_536.out _).trans (((cell_far (p := ⟨gb536, _, none⟩) NB557_536.out _).trans (hHeld.1)))))))), ((cell_far (p := ⟨gb536, _, none⟩) NB557_536.out _).trans (((cell_far (p := ⟨gb536, _, none⟩) NB557_536.out _).trans (((cell_far (p := ⟨gb536, _, none⟩) NB557_536.out _).trans (((cell_far (p := ⟨gb536, _, none⟩) NB557_536.out _).trans (hHeld.2.1)))))))), ((cell_far (p := ⟨gb536, _, none⟩) NB557_536.out _).trans (((cell_far (p := ⟨gb536, _, none⟩) NB557_536.out _).trans (((cell_far (p := ⟨gb536, _, none⟩) NB557_536.out _).trans (((cell_far (p := ⟨gb536, _, none⟩) NB557_536.out _).trans (hHeld.2.2.1)))))))), ((cell_far (p := ⟨gb536, _, none⟩) NB557_536.out _).trans (((cell_far (p := ⟨gb536, _, none⟩) NB557_536.out _).trans (((cell_far (p := ⟨gb536, _, none⟩) NB557_536.out _).trans (((cell_far (p := ⟨gb536, _, none⟩) NB557_536.out _).trans (hHeld.2.2.2.1)))))))), ((cell_far (p := ⟨gb536, _, none⟩) NB558_536.out _).trans (((cell_far (p := ⟨gb536, _, none⟩) NB558_536.out _).trans (((cell_far (p := ⟨gb536, _, none⟩) NB558_536.out _).trans (((cell_far (p := ⟨gb536, _, none⟩) NB558_536.out _).trans (hHeld.2.2.2.2.1)))))))), ((cell_far (p := ⟨gb536, _, none⟩) NB558_536.out _).trans (((cell_far (p := ⟨gb536, _, none⟩) NB558_536.out _).trans (((cell_far (p := ⟨gb536, _, none⟩) NB558_536.out _).trans (((cell_far (p := ⟨gb536, _, none⟩) NB558_536.out _).trans (hHeld.2.2.2.2.2.1)))))))), ((cell_far (p := ⟨gb536, _, none⟩) NB558_536.out _).trans (((cell_far (p := ⟨gb536, _, none⟩) NB558_536.out _).trans (((cell_far (p := ⟨gb536, _, none⟩) NB558_536.out _).trans (((cell_far (p := ⟨gb536, _, none⟩) NB558_536.out _).trans (hHeld.2.2.2.2.2.2.1)))))))), ((cell_far (p := ⟨gb536, _, none⟩) NB558_536.out _).trans (((cell_far (p := ⟨gb536, _, none⟩) NB558_536.out _).trans (((cell_far (p := ⟨gb536, _, none⟩) NB558_536.out _).trans (((cell_far (p := ⟨gb536, _, none⟩) NB558_536.out _).trans (hHeld.2.2.2.2.2.2.2))))))))⟩ (fun hHeld => ?_)
      clear hK K
      refine done_ (by kernel_rfl) ?_
      try go_wp2
      refine bodyPost_ret (results_cc rfl _ _ gb535 gb536 27 27 #[.int .i64 x558000_5, .int .i64 x558001_5, .int .i64 x558002_5, .slice (some ⟨go50, 0, none⟩) x558003_5.length co53] #[.int .i64 x559000_5, .int .i64 x559001_5, .int .i64 x559002_5, .slice Ao66 x559003_5.length co66] (0, 0) (0, 0) _ _ rfl (by refine blk_far ?_ NB535_536.out _; refine blk_far ?_ NB535_536.out _; refine blk_far ?_ NB535_536.out _; refine blk_far ?_ NB535_536.out _; refine blk_put (cs := #[.int .i64 x558000_5, .int .i64 x558001_5, .int .i64 x558002_5, .slice none 0 0]) ?_ 3 _ rfl; refine blk_put (cs := #[.int .i64 x558000_5, .int .i64 x558001_5, .int .i64 0, .slice none 0 0]) ?_ 2 _ rfl; refine blk_put (cs := #[.int .i64 x558000_5, .int .i64 0, .int .i64 0, .slice none 0 0]) ?_ 1 _ rfl; refine blk_put (cs := #[.int .i64 0, .int .i64 0, .int .i64 0, .slice none 0 0]) ?_ 0 _ rfl; exact BK535.out) Tryz.underlying27 rfl (by kernel_rfl) rfl (by refine blk_put (cs := #[.int .i64 x559000_5, .int .i64 x559001_5, .int .i64 x559002_5, .slice none 0 0]) ?_ 3 _ rfl; refine blk_put (cs := #[.int .i64 x559000_5, .int .i64 x559001_5, .int .i64 0, .slice none 0 0]) ?_ 2 _ rfl; refine blk_put (cs := #[.int .i64 x559000_5, .int .i64 0, .int .i64 0, .slice none 0 0]) ?_ 1 _ rfl; refine blk_put (cs := #[.int .i64 0, .int .i64 0, .int .i64 0, .slice none 0 0]) ?_ 0 _ rfl; refine blk_far ?_ NB536_535.out _; refine blk_far ?_ NB536_535.out _; refine blk_far ?_ NB536_535.out _; refine blk_far ?_ NB536_535.out _; exact BK536.out) Tryz.underlying27 rfl (by kernel_rfl)) rfl ?_
      exact ⟨_, _, rfl, Kd.R_mono (Kd.R_far (p := ⟨gb536, 3, none⟩) (Kd.R_far (p := ⟨gb536, 2, none⟩) (Kd.R_far (p := ⟨gb536, 1, none⟩) (Kd.R_far (p := ⟨gb536, 0, none⟩) (Kd.R_far (p := ⟨gb535, 3, none⟩) (Kd.R_far (p := ⟨gb535, 2, none⟩) (Kd.R_far (p := ⟨gb535, 1, none⟩) (Kd.R_far (p := ⟨gb535, 0, none⟩) (Kd.R_types (Kd.R_types HO_558003.out BK535.out (by decide)) BK536.out (by decide)) (fun _ hk => hk.1.2) (.int .i64 x558000_5)) (fun _ hk => hk.1.2) (.int .i64 x558001_5)) (fun _ hk => hk.1.2) (.int .i64 x558002_5)) (fun _ hk => hk.1.2) (.slice (some ⟨go50, 0, none⟩) x558003_5.length co53)) (fun _ hk => hk.2) (.int .i64 x559000_5)) (fun _ hk => hk.2) (.int .i64 x559001_5)) (fun _ hk => hk.2) (.int .i64 x559002_5)) (fun _ hk => hk.2) (.slice Ao66 x559003_5.length co66)) (fun _ hk => hk.1.1), Kd.R_mono (Kd.R_far (p := ⟨gb536, 3, none⟩) (Kd.R_far (p := ⟨gb536, 2, none⟩) (Kd.R_far (p := ⟨gb536, 1, none⟩) (Kd.R_far (p := ⟨gb536, 0, none⟩) (Kd.R_far (p := ⟨gb535, 3, none⟩) (Kd.R_far (p := ⟨gb535, 2, none⟩) (Kd.R_far (p := ⟨gb535, 1, none⟩) (Kd.R_far (p := ⟨gb535, 0, none⟩) (Kd.R_types (Kd.R_types HO_559003.out BK535.out (by decide)) BK536.out (by decide)) (fun _ hk => hk.1.2) (.int .i64 x558000_5)) (fun _ hk => hk.1.2) (.int .i64 x558001_5)) (fun _ hk => hk.1.2) (.int .i64 x558002_5)) (fun _ hk => hk.1.2) (.slice (some ⟨go50, 0, none⟩) x558003_5.length co53)) (fun _ hk => hk.2) (.int .i64 x559000_5)) (fun _ hk => hk.2) (.int .i64 x559001_5)) (fun _ hk => hk.2) (.int .i64 x559002_5)) (fun _ hk => hk.2) (.slice Ao66 x559003_5.length co66)) (fun _ hk => hk.1.1), by repeat (with_reducible first | exact HI0.out | apply IsS94.alloc | apply IsS94.drewN | apply IsS94.drew | apply IsS94.set_1 | refine IsS94.far ?_ NB0_535.out _ | refine IsS94.far ?_ NB0_536.out _ | refine IsS94.far ?_ NB0_557.out _ | refine IsS94.far ?_ NB0_558.out _), by repeat (with_reducible first | exact HB.out | apply below_alloc | apply pw_below_drewN | apply below_drew1 | refine below_set ?_ (IsS94.ge HI0.out) | refine below_set ?_ GE535.out | refine below_set ?_ GE536.out | refine below_set ?_ GE557.out | refine below_set ?_ GE558.out), by repeat (with_reducible first | exact HK.out | apply KeepBut.set_ | apply keep_drewN | apply keep_drew | apply keep_alloc | refine keep_far ?_ GW535.out _ | refine keep_far ?_ GW536.out _ | refine keep_far ?_ GW557.out _ | refine keep_far ?_ GW558.out _)⟩
     ·rw [if_neg c49] at H
      exact absurd H (by simp)
    ·rw [if_neg c48] at H
     exact absurd H (by simp)
   ·rw [if_neg c45] at H
    have c45b0 : (t576 == 0) = false := beq_eq_false_iff_ne.mpr c45
    have c45b1 : (t576 != 0) = true := bne_iff_ne.mpr c45
    by_cases c68 : t576 = 1
    ·rw [if_pos c68] at H
     have c68b0 : (t576 == 1) = true := beq_iff_eq.mpr c68
     have c68b1 : (t576 != 1) = false := bne_eq_false_iff_eq.mpr c68
     clear c68
     replace H := bnd H
     obtain ⟨⟨t583, t584⟩, A69, H⟩ := H
     dsimp only at H
     simp only [Option.some.injEq, Prod.mk.injEq] at H
     obtain ⟨rfl, rfl, rfl, rfl, rfl, rfl, rfl, rfl, rfl⟩ := H
     try go_wp2_with (first | ((with_reducible refine gate_callee (f := 45) rfl ?_); refine goesZ (some 38) Tryz.func45 #[.pointer (some ⟨g, 0, none⟩), .int .i64 8] ?_; (with_reducible refine (spec_l6Rd_pick.calls kj5 g s0_0 x1001_5 8 t576 t577 w0 _ ?side1 ?side2 A44.out).mono ?_); (case side1 => repeat (with_reducible first | exact HI0.out | apply IsS94.alloc | apply IsS94.drewN | apply IsS94.drew | apply IsS94.set_1 | refine IsS94.far ?_ NB0_535.out _ | refine IsS94.far ?_ NB0_536.out _ | refine IsS94.far ?_ NB0_557.out _ | refine IsS94.far ?_ NB0_558.out _)); (case side2 => repeat (with_reducible first | exact HB.out | apply below_alloc | apply pw_below_drewN | apply below_drew1 | refine below_set ?_ (IsS94.ge HI0.out) | refine below_set ?_ GE535.out | refine below_set ?_ GE536.out | refine below_set ?_ GE557.out | refine below_set ?_ GE558.out)); rintro e w70 ⟨rfl, hi, hb, hk⟩; refine ⟨_, rfl, ?_⟩; replace HO_558003 := Aside0.mk (Kd.R_mono (Kd.R_keep (IsS94.apart (show IsS94 w0 _ g s0_0 x1001_5 from by repeat (with_reducible first | exact HI0.out | apply IsS94.alloc | apply IsS94.drewN | apply IsS94.drew | apply IsS94.set_1 | refine IsS94.far ?_ NB0_535.out _ | refine IsS94.far ?_ NB0_536.out _ | refine IsS94.far ?_ NB0_557.out _ | refine IsS94.far ?_ NB0_558.out _)) (HO_558003.out) (by decide)) hk (fun _ h => h.2)) (fun _ h => h.1)); replace HO_559003 := Aside0.mk (Kd.R_mono (Kd.R_keep (IsS94.apart (show IsS94 w0 _ g s0_0 x1001_5 from by repeat (with_reducible first | exact HI0.out | apply IsS94.alloc | apply IsS94.drewN | apply IsS94.drew | apply IsS94.set_1 | refine IsS94.far ?_ NB0_535.out _ | refine IsS94.far ?_ NB0_536.out _ | refine IsS94.far ?_ NB0_557.out _ | refine IsS94.far ?_ NB0_558.out _)) (HO_559003.out) (by decide)) hk (fun _ h => h.2)) (fun _ h => h.1)); replace BK535 := kbZ hk BK535.out NB535_0.out; replace BK536 := kbZ hk BK536.out NB536_0.out; replace BK557 := kbZ hk BK557.out NB557_0.out; replace BK558 := kbZ hk BK558.out NB558_0.out; replace HK := Aside0.mk (KeepBut.trans (by repeat (with_reducible first | exact HK.out | apply KeepBut.set_ | apply keep_drewN | apply keep_drew | apply keep_alloc | refine keep_far ?_ GW535.out _ | refine keep_far ?_ GW536.out _ | refine keep_far ?_ GW557.out _ | refine keep_far ?_ GW558.out _)) hk (.inl rfl)); replace HB := Aside0.mk (hb); replace HI0 := Aside0.mk (hi); clear hb hk hi) | ((with_reducible refine gate_callee (f := 45) rfl ?_); refine goesZ (some 54) Tryz.func45 #[.pointer (some ⟨g, 0, none⟩), .int .i64 12] ?_; (with_reducible refine (spec_l6Rd_pick.calls kj5 g s0_0 t577 12 t583 t584 w0 _ ?side1 ?side2 A69.out).mono ?_); (case side1 => repeat (with_reducible first | exact HI0.out | apply IsS94.alloc | apply IsS94.drewN | apply IsS94.drew | apply IsS94.set_1 | refine IsS94.far ?_ NB0_535.out _ | refine IsS94.far ?_ NB0_536.out _ | refine IsS94.far ?_ NB0_557.out _ | refine IsS94.far ?_ NB0_558.out _)); (case side2 => repeat (with_reducible first | exact HB.out | apply below_alloc | apply pw_below_drewN | apply below_drew1 | refine below_set ?_ (IsS94.ge HI0.out) | refine below_set ?_ GE535.out | refine below_set ?_ GE536.out | refine below_set ?_ GE557.out | refine below_set ?_ GE558.out)); rintro e w71 ⟨rfl, hi, hb, hk⟩; refine ⟨_, rfl, ?_⟩; replace HO_558003 := Aside0.mk (Kd.R_mono (Kd.R_keep (IsS94.apart (show IsS94 w0 _ g s0_0 t577 from by repeat (with_reducible first | exact HI0.out | apply IsS94.alloc | apply IsS94.drewN | apply IsS94.drew | apply IsS94.set_1 | refine IsS94.far ?_ NB0_535.out _ | refine IsS94.far ?_ NB0_536.out _ | refine IsS94.far ?_ NB0_557.out _ | refine IsS94.far ?_ NB0_558.out _)) (HO_558003.out) (by decide)) hk (fun _ h => h.2)) (fun _ h => h.1)); replace HO_559003 := Aside0.mk (Kd.R_mono (Kd.R_keep (IsS94.apart (show IsS94 w0 _ g s0_0 t577 from by repeat (with_reducible first | exact HI0.out | apply IsS94.alloc | apply IsS94.drewN | apply IsS94.drew | apply IsS94.set_1 | refine IsS94.far ?_ NB0_535.out _ | refine IsS94.far ?_ NB0_536.out _ | refine IsS94.far ?_ NB0_557.out _ | refine IsS94.far ?_ NB0_558.out _)) (HO_559003.out) (by decide)) hk (fun _ h => h.2)) (fun _ h => h.1)); replace BK535 := kbZ hk BK535.out NB535_0.out; replace BK536 := kbZ hk BK536.out NB536_0.out; replace BK557 := kbZ hk BK557.out NB557_0.out; replace BK558 := kbZ hk BK558.out NB558_0.out; replace HK := Aside0.mk (KeepBut.trans (by repeat (with_reducible first | exact HK.out | apply KeepBut.set_ | apply keep_drewN | apply keep_drew | apply keep_alloc | refine keep_far ?_ GW535.out _ | refine keep_far ?_ GW536.out _ | refine keep_far ?_ GW557.out _ | refine keep_far ?_ GW558.out _)) hk (.inl rfl)); replace HB := Aside0.mk (hb); replace HI0 := Aside0.mk (hi); (try clear hb); (try clear hb2); (try clear hk); (try clear hi); have hnb72 := NB558_535.out; have hnc72 := NB535_558.out; have hnb73 := NB558_536.out; have hnc73 := NB536_558.out; have hnb74 := NB558_557.out; have hnc74 := NB557_558.out; have hnb75 := NB558_0.out; have hnc75 := NB0_558.out; have hcz76_0 : w71.cell? ⟨gb558, 0, none⟩ = some (.int .i64 x559000_5) := (blk_cell BK558.out 0).trans rfl; have hcz76_1 : w71.cell? ⟨gb558, 1, none⟩ = some (.int .i64 x559001_5) := (blk_cell BK558.out 1).trans rfl; have hcz76_2 : w71.cell? ⟨gb558, 2, none⟩ = some (.int .i64 x559002_5) := (blk_cell BK558.out 2).trans rfl; have hcz76_3 : w71.cell? ⟨gb558, 3, none⟩ = some (u559003) := (blk_cell BK558.out 3).trans rfl; have hfz76_0 := blk_frozen BK558.out 0; have hfz76_1 := blk_frozen BK558.out 1; have hfz76_2 := blk_frozen BK558.out 2; have hfz76_3 := blk_frozen BK558.out 3))
     replace HO_558003 : Aside0 (Kd.R (Kd.int .i64) 3 (w71.setCell ⟨gb558, 0, none⟩ (.int .i64 (wrap64 (1 + t583)))) w.heap.size (fun k_ => some k_ ≠ (u559003 : Value).ownBlock) u558003 x558003_5) := ⟨Kd.R_mono (Kd.R_far (p := ⟨gb558, 0, none⟩) (Kd.R_types HO_558003.out BK558.out (by decide)) (fun _ hk => hk.2) (.int .i64 (wrap64 (1 + t583)))) (fun _ hk => hk.1)⟩
     replace HO_559003 : Aside0 (Kd.R (Kd.int .i64) 3 (w71.setCell ⟨gb558, 0, none⟩ (.int .i64 (wrap64 (1 + t583)))) w.heap.size (fun k_ => some k_ ≠ (u558003 : Value).ownBlock) u559003 x559003_5) := ⟨Kd.R_mono (Kd.R_far (p := ⟨gb558, 0, none⟩) (Kd.R_types HO_559003.out BK558.out (by decide)) (fun _ hk => hk.2) (.int .i64 (wrap64 (1 + t583)))) (fun _ hk => hk.1)⟩
     replace BK535 : Aside0 ((w71.setCell ⟨gb558, 0, none⟩ (.int .i64 (wrap64 (1 + t583)))).heap[gb535]? = some (.cells #[.int .i64 0, .int .i64 0, .int .i64 0, .slice none 0 0] 27 (0, 0))) := ⟨by refine blk_far ?_ NB535_558.out _; exact BK535.out⟩
     replace BK536 : Aside0 ((w71.setCell ⟨gb558, 0, none⟩ (.int .i64 (wrap64 (1 + t583)))).heap[gb536]? = some (.cells #[.int .i64 0, .int .i64 0, .int .i64 0, .slice none 0 0] 27 (0, 0))) := ⟨by refine blk_far ?_ NB536_558.out _; exact BK536.out⟩
     replace BK557 : Aside0 ((w71.setCell ⟨gb558, 0, none⟩ (.int .i64 (wrap64 (1 + t583)))).heap[gb557]? = some (.cells #[.int .i64 x558000_5, .int .i64 x558001_5, .int .i64 x558002_5, u558003] 27 (0, 0))) := ⟨by refine blk_far ?_ NB557_558.out _; exact BK557.out⟩
     replace BK558 : Aside0 ((w71.setCell ⟨gb558, 0, none⟩ (.int .i64 (wrap64 (1 + t583)))).heap[gb558]? = some (.cells #[.int .i64 (wrap64 (1 + t583)), .int .i64 x559001_5, .int .i64 x559002_5, u559003] 27 (0, 0))) := ⟨by refine blk_put (cs := #[.int .i64 x559000_5, .int .i64 x559001_5, .int .i64 x559002_5, u559003]) ?_ 0 _ rfl; exact BK558.out⟩
     replace HK : Aside0 (KeepBut w (w71.setCell ⟨gb558, 0, none⟩ (.int .i64 (wrap64 (1 + t583)))) g none) := ⟨by repeat (with_reducible first | exact HK.out | apply KeepBut.set_ | apply keep_drewN | apply keep_drew | apply keep_alloc | refine keep_far ?_ GW535.out _ | refine keep_far ?_ GW536.out _ | refine keep_far ?_ GW557.out _ | refine keep_far ?_ GW558.out _)⟩
     replace HB : Aside0 (Below w0.heap.size w0 (w71.setCell ⟨gb558, 0, none⟩ (.int .i64 (wrap64 (1 + t583))))) := ⟨by repeat (with_reducible first | exact HB.out | apply below_alloc | apply pw_below_drewN | apply below_drew1 | refine below_set ?_ (IsS94.ge HI0.out) | refine below_set ?_ GE535.out | refine below_set ?_ GE536.out | refine below_set ?_ GE557.out | refine below_set ?_ GE558.out)⟩
     replace HI0 : Aside0 (IsS94 w0 (w71.setCell ⟨gb558, 0, none⟩ (.int .i64 (wrap64 (1 + t583)))) g s0_0 t584) := ⟨by repeat (with_reducible first | exact HI0.out | apply IsS94.alloc | apply IsS94.drewN | apply IsS94.drew | apply IsS94.set_1 | refine IsS94.far ?_ NB0_535.out _ | refine IsS94.far ?_ NB0_536.out _ | refine IsS94.far ?_ NB0_557.out _ | refine IsS94.far ?_ NB0_558.out _)⟩
     generalize (w71.setCell ⟨gb558, 0, none⟩ (.int .i64 (wrap64 (1 + t583)))) = w77 at HO_558003 HO_559003 BK535 BK536 BK557 BK558 HI0 HK HB ⊢
     replace HO_558003 := Aside0.mk (Kd.R_drew HO_558003.out)
     replace HO_559003 := Aside0.mk (Kd.R_drew HO_559003.out)
     replace BK535 := Aside0.mk (blk_drew BK535.out)
     replace BK536 := Aside0.mk (blk_drew BK536.out)
     replace BK557 := Aside0.mk (blk_drew BK557.out)
     replace BK558 := Aside0.mk (blk_drew BK558.out)
     replace HI0 := Aside0.mk (IsS94.drew HI0.out)
     replace HK := Aside0.mk (keep_drew HK.out)
     replace HB := Aside0.mk (below_drew1 HB.out)
     obtain ⟨Ao82, co82, eo82⟩ := Kd.R_slice HO_558003.out
     (first | subst eo82 | (injection eo82 with f1_ f2_ f3_; have f4_ := f1_.symm; have f5_ := f3_.symm; clear f1_ f2_ f3_; subst f4_; subst f5_))
     obtain ⟨Ao87, co87, eo87⟩ := Kd.R_slice HO_559003.out
     (first | subst eo87 | (injection eo87 with f1_ f2_ f3_; have f4_ := f1_.symm; have f5_ := f3_.symm; clear f1_ f2_ f3_; subst f4_; subst f5_))
     refine start_ (n := 4) (S := fun w' => w'.cell? ⟨gb557, 0, none⟩ = some (.int .i64 x558000_5) ∧ w'.cell? ⟨gb557, 1, none⟩ = some (.int .i64 x558001_5) ∧ w'.cell? ⟨gb557, 2, none⟩ = some (.int .i64 x558002_5) ∧ w'.cell? ⟨gb557, 3, none⟩ = some (.slice Ao82 x558003_5.length co82) ∧ w'.cell? ⟨gb558, 0, none⟩ = some (.int .i64 (wrap64 (1 + t583))) ∧ w'.cell? ⟨gb558, 1, none⟩ = some (.int .i64 x559001_5) ∧ w'.cell? ⟨gb558, 2, none⟩ = some (.int .i64 x559002_5) ∧ w'.cell? ⟨gb558, 3, none⟩ = some (.slice Ao87 x559003_5.length co87)) (ds := []) (bs 4 0) (by kernel_rfl) rfl rfl ⟨(blk_cell BK557.out 0).trans rfl, (blk_cell BK557.out 1).trans rfl, (blk_cell BK557.out 2).trans rfl, (blk_cell BK557.out 3).trans rfl, (blk_cell BK558.out 0).trans rfl, (blk_cell BK558.out 1).trans rfl, (blk_cell BK558.out 2).trans rfl, (blk_cell BK558.out 3).trans rfl⟩ (fun hHeld => ?_)
     generalize w77.drew = w78 at HO_558003 HO_559003 BK535 BK536 BK557 BK558 HI0 HK HB hHeld ⊢
     refine tZ 0 (some 64) (bs 4 1) rfl rfl (by kernel_rfl) hHeld (by rintro w' ⟨s0, s1, s2, s3, s4, s5, s6, s7⟩; go_simp; with_reducible rfl) ?_
     refine tZ 1 (some 65) (bs 4 3) rfl rfl (by kernel_rfl) hHeld (by rintro w' ⟨s0, s1, s2, s3, s4, s5, s6, s7⟩; go_simp; with_reducible rfl) ?_
     refine one_ (i := 2) (N := none) (bs 4 7) rfl rfl (by kernel_rfl) (by decide) (fun K hK => ?_)
     have hs79 : w78.cell? ⟨gb535, 0, none⟩ = some (.int .i64 0) := (blk_cell BK535.out 0).trans rfl
     have hfs79 := blk_frozen BK535.out 0
     have hns79_1 := NB536_535.out
     have hns79_2 := NB557_535.out
     have hns79_3 := NB558_535.out
     have hms79_1 := NB535_536.out
     have hms79_2 := NB535_557.out
     have hms79_3 := NB535_558.out
     have hs80 : w78.cell? ⟨gb535, 1, none⟩ = some (.int .i64 0) := (blk_cell BK535.out 1).trans rfl
     have hfs80 := blk_frozen BK535.out 1
     have hns80_1 := NB536_535.out
     have hns80_2 := NB557_535.out
     have hns80_3 := NB558_535.out
     have hms80_1 := NB535_536.out
     have hms80_2 := NB535_557.out
     have hms80_3 := NB535_558.out
     have hs81 : w78.cell? ⟨gb535, 2, none⟩ = some (.int .i64 0) := (blk_cell BK535.out 2).trans rfl
     have hfs81 := blk_frozen BK535.out 2
     have hns81_1 := NB536_535.out
     have hns81_2 := NB557_535.out
     have hns81_3 := NB558_535.out
     have hms81_1 := NB535_536.out
     have hms81_2 := NB535_557.out
     have hms81_3 := NB535_558.out
     have hs83 : w78.cell? ⟨gb535, 3, none⟩ = some (.slice none 0 0) := (blk_cell BK535.out 3).trans rfl
     have hfs83 := blk_frozen BK535.out 3
     have hns83_1 := NB536_535.out
     have hns83_2 := NB557_535.out
     have hns83_3 := NB558_535.out
     have hms83_1 := NB535_536.out
     have hms83_2 := NB535_557.out
     have hms83_3 := NB535_558.out
     refine skip_ (w1 := ?_) (by rfl) rfl ?_ ?_
     rotate_left
     ·go_simp
      rfl
     refine hK.out _ _ ⟨((cell_far (p := ⟨gb535, _, none⟩) NB557_535.out _).trans (((cell_far (p := ⟨gb535, _, none⟩) NB557_535.out _).trans (((cell_far (p := ⟨gb535, _, none⟩) NB557_535.out _).trans (((cell_far (p := ⟨gb535, _, none⟩) NB557_535.out _).trans (hHeld.1)))))))), ((cell_far (p := ⟨gb535, _, none⟩) NB557_535.out _).trans (((cell_far (p := ⟨gb535, _, none⟩) NB557_535.out _).trans (((cell_far (p := ⟨gb535, _, none⟩) NB557_535.out _).trans (((cell_far (p := ⟨gb535, _, none⟩) NB557_535.out _).trans (hHeld.2.1)))))))), ((cell_far (p := ⟨gb535, _, none⟩) NB557_535.out _).trans (((cell_far (p := ⟨gb535, _, none⟩) NB557_535.out _).trans (((cell_far (p := ⟨gb535, _, none⟩) NB557_535.out _).trans (((cell_far (p := ⟨gb535, _, none⟩) NB557_535.out _).trans (hHeld.2.2.1)))))))), ((cell_far (p := ⟨gb535, _, none⟩) NB557_535.out _).trans (((cell_far (p := ⟨gb535, _, none⟩) NB557_535.out _).trans (((cell_far (p := ⟨gb535, _, none⟩) NB557_535.out _).trans (((cell_far (p := ⟨gb535, _, none⟩) NB557_535.out _).trans (hHeld.2.2.2.1)))))))), ((cell_far (p := ⟨gb535, _, none⟩) NB558_535.out _).trans (((cell_far (p := ⟨gb535, _, none⟩) NB558_535.out _).trans (((cell_far (p := ⟨gb535, _, none⟩) NB558_535.out _).trans (((cell_far (p := ⟨gb535, _, none⟩) NB558_535.out _).trans (hHeld.2.2.2.2.1)))))))), ((cell_far (p := ⟨gb535, _, none⟩) NB558_535.out _).trans (((cell_far (p := ⟨gb535, _, none⟩) NB558_535.out _).trans (((cell_far (p := ⟨gb535, _, none⟩) NB558_535.out _).trans (((cell_far (p := ⟨gb535, _, none⟩) NB558_535.out _).trans (hHeld.2.2.2.2.2.1)))))))), ((cell_far (p := ⟨gb535, _, none⟩) NB558_535.out _).trans (((cell_far (p := ⟨gb535, _, none⟩) NB558_535.out _).trans (((cell_far (p := ⟨gb535, _, none⟩) NB558_535.out _).trans (((cell_far (p := ⟨gb535, _, none⟩) NB558_535.out _).trans (hHeld.2.2.2.2.2.2.1)))))))), ((cell_far (p := ⟨gb535, _, none⟩) NB558_535.out _).trans (((cell_far (p := ⟨gb535, _, none⟩) NB558_535.out _).trans (((cell_far (p := ⟨gb535, _, none⟩) NB558_535.out _).trans (((cell_far (p := ⟨gb535, _, none⟩) NB558_535.out _).trans (hHeld.2.2.2.2.2.2.2))))))))⟩ (fun hHeld => ?_)
     clear hK K
     refine one_ (i := 3) (N := none) (bs 4 15) rfl rfl (by kernel_rfl) (by decide) (fun K hK => ?_)
     have hs84 : w78.cell? ⟨gb536, 0, none⟩ = some (.int .i64 0) := (blk_cell BK536.out 0).trans rfl
     have hfs84 := blk_frozen BK536.out 0
     have hns84_0 := NB535_536.out
     have hns84_2 := NB557_536.out
     have hns84_3 := NB558_536.out
     have hms84_0 := NB536_535.out
     have hms84_2 := NB536_557.out
     have hms84_3 := NB536_558.out
     have hs85 : w78.cell? ⟨gb536, 1, none⟩ = some (.int .i64 0) := (blk_cell BK536.out 1).trans rfl
     have hfs85 := blk_frozen BK536.out 1
     have hns85_0 := NB535_536.out
     have hns85_2 := NB557_536.out
     have hns85_3 := NB558_536.out
     have hms85_0 := NB536_535.out
     have hms85_2 := NB536_557.out
     have hms85_3 := NB536_558.out
     have hs86 : w78.cell? ⟨gb536, 2, none⟩ = some (.int .i64 0) := (blk_cell BK536.out 2).trans rfl
     have hfs86 := blk_frozen BK536.out 2
     have hns86_0 := NB535_536.out
     have hns86_2 := NB557_536.out
     have hns86_3 := NB558_536.out
     have hms86_0 := NB536_535.out
     have hms86_2 := NB536_557.out
     have hms86_3 := NB536_558.out
     have hs88 : w78.cell? ⟨gb536, 3, none⟩ = some (.slice none 0 0) := (blk_cell BK536.out 3).trans rfl
     have hfs88 := blk_frozen BK536.out 3
     have hns88_0 := NB535_536.out
     have hns88_2 := NB557_536.out
     have hns88_3 := NB558_536.out
     have hms88_0 := NB536_535.out
     have hms88_2 := NB536_557.out
     have hms88_3 := NB536_558.out
     refine skip_ (w1 := ?_) (by rfl) rfl ?_ ?_
     rotate_left
     ·go_simp
      rfl
     refine hK.out _ _ ⟨((cell_far (p := ⟨gb536, _, none⟩) NB557_536.out _).trans (((cell_far (p := ⟨gb536, _, none⟩) NB557_536.out _).trans (((cell_far (p := ⟨gb536, _, none⟩) NB557_536.out _).trans (((cell_far (p := ⟨gb536, _, none⟩) NB557_536.out _).trans (hHeld.1)))))))), ((cell_far (p := ⟨gb536, _, none⟩) NB557_536.out _).trans (((cell_far (p := ⟨gb536, _, none⟩) NB557_536.out _).trans (((cell_far (p := ⟨gb536, _, none⟩) NB557_536.out _).trans (((cell_far (p := ⟨gb536, _, none⟩) NB557_536.out _).trans (hHeld.2.1)))))))), ((cell_far (p := ⟨gb536, _, none⟩) NB557_536.out _).trans (((cell_far (p := ⟨gb536, _, none⟩) NB557_536.out _).trans (((cell_far (p := ⟨gb536, _, none⟩) NB557_536.out _).trans (((cell_far (p := ⟨gb536, _, none⟩) NB557_536.out _).trans (hHeld.2.2.1)))))))), ((cell_far (p := ⟨gb536, _, none⟩) NB557_536.out _).trans (((cell_far (p := ⟨gb536, _, none⟩) NB557_536.out _).trans (((cell_far (p := ⟨gb536, _, none⟩) NB557_536.out _).trans (((cell_far (p := ⟨gb536, _, none⟩) NB557_536.out _).trans (hHeld.2.2.2.1)))))))), ((cell_far (p := ⟨gb536, _, none⟩) NB558_536.out _).trans (((cell_far (p := ⟨gb536, _, none⟩) NB558_536.out _).trans (((cell_far (p := ⟨gb536, _, none⟩) NB558_536.out _).trans (((cell_far (p := ⟨gb536, _, none⟩) NB558_536.out _).trans (hHeld.2.2.2.2.1)))))))), ((cell_far (p := ⟨gb536, _, none⟩) NB558_536.out _).trans (((cell_far (p := ⟨gb536, _, none⟩) NB558_536.out _).trans (((cell_far (p := ⟨gb536, _, none⟩) NB558_536.out _).trans (((cell_far (p := ⟨gb536, _, none⟩) NB558_536.out _).trans (hHeld.2.2.2.2.2.1)))))))), ((cell_far (p := ⟨gb536, _, none⟩) NB558_536.out _).trans (((cell_far (p := ⟨gb536, _, none⟩) NB558_536.out _).trans (((cell_far (p := ⟨gb536, _, none⟩) NB558_536.out _).trans (((cell_far (p := ⟨gb536, _, none⟩) NB558_536.out _).trans (hHeld.2.2.2.2.2.2.1)))))))), ((cell_far (p := ⟨gb536, _, none⟩) NB558_536.out _).trans (((cell_far (p := ⟨gb536, _, none⟩) NB558_536.out _).trans (((cell_far (p := ⟨gb536, _, none⟩) NB558_536.out _).trans (((cell_far (p := ⟨gb536, _, none⟩) NB558_536.out _).trans (hHeld.2.2.2.2.2.2.2))))))))⟩ (fun hHeld => ?_)
     clear hK K
     refine done_ (by kernel_rfl) ?_
     try go_wp2
     refine bodyPost_ret (results_cc rfl _ _ gb535 gb536 27 27 #[.int .i64 x558000_5, .int .i64 x558001_5, .int .i64 x558002_5, .slice Ao82 x558003_5.length co82] #[.int .i64 (wrap64 (1 + t583)), .int .i64 x559001_5, .int .i64 x559002_5, .slice Ao87 x559003_5.length co87] (0, 0) (0, 0) _ _ rfl (by refine blk_far ?_ NB535_536.out _; refine blk_far ?_ NB535_536.out _; refine blk_far ?_ NB535_536.out _; refine blk_far ?_ NB535_536.out _; refine blk_put (cs := #[.int .i64 x558000_5, .int .i64 x558001_5, .int .i64 x558002_5, .slice none 0 0]) ?_ 3 _ rfl; refine blk_put (cs := #[.int .i64 x558000_5, .int .i64 x558001_5, .int .i64 0, .slice none 0 0]) ?_ 2 _ rfl; refine blk_put (cs := #[.int .i64 x558000_5, .int .i64 0, .int .i64 0, .slice none 0 0]) ?_ 1 _ rfl; refine blk_put (cs := #[.int .i64 0, .int .i64 0, .int .i64 0, .slice none 0 0]) ?_ 0 _ rfl; exact BK535.out) Tryz.underlying27 rfl (by kernel_rfl) rfl (by refine blk_put (cs := #[.int .i64 (wrap64 (1 + t583)), .int .i64 x559001_5, .int .i64 x559002_5, .slice none 0 0]) ?_ 3 _ rfl; refine blk_put (cs := #[.int .i64 (wrap64 (1 + t583)), .int .i64 x559001_5, .int .i64 0, .slice none 0 0]) ?_ 2 _ rfl; refine blk_put (cs := #[.int .i64 (wrap64 (1 + t583)), .int .i64 0, .int .i64 0, .slice none 0 0]) ?_ 1 _ rfl; refine blk_put (cs := #[.int .i64 0, .int .i64 0, .int .i64 0, .slice none 0 0]) ?_ 0 _ rfl; refine blk_far ?_ NB536_535.out _; refine blk_far ?_ NB536_535.out _; refine blk_far ?_ NB536_535.out _; refine blk_far ?_ NB536_535.out _; exact BK536.out) Tryz.underlying27 rfl (by kernel_rfl)) rfl ?_
     exact ⟨_, _, rfl, Kd.R_mono (Kd.R_far (p := ⟨gb536, 3, none⟩) (Kd.R_far (p := ⟨gb536, 2, none⟩) (Kd.R_far (p := ⟨gb536, 1, none⟩) (Kd.R_far (p := ⟨gb536, 0, none⟩) (Kd.R_far (p := ⟨gb535, 3, none⟩) (Kd.R_far (p := ⟨gb535, 2, none⟩) (Kd.R_far (p := ⟨gb535, 1, none⟩) (Kd.R_far (p := ⟨gb535, 0, none⟩) (Kd.R_types (Kd.R_types HO_558003.out BK535.out (by decide)) BK536.out (by decide)) (fun _ hk => hk.1.2) (.int .i64 x558000_5)) (fun _ hk => hk.1.2) (.int .i64 x558001_5)) (fun _ hk => hk.1.2) (.int .i64 x558002_5)) (fun _ hk => hk.1.2) (.slice Ao82 x558003_5.length co82)) (fun _ hk => hk.2) (.int .i64 (wrap64 (1 + t583)))) (fun _ hk => hk.2) (.int .i64 x559001_5)) (fun _ hk => hk.2) (.int .i64 x559002_5)) (fun _ hk => hk.2) (.slice Ao87 x559003_5.length co87)) (fun _ hk => hk.1.1), Kd.R_mono (Kd.R_far (p := ⟨gb536, 3, none⟩) (Kd.R_far (p := ⟨gb536, 2, none⟩) (Kd.R_far (p := ⟨gb536, 1, none⟩) (Kd.R_far (p := ⟨gb536, 0, none⟩) (Kd.R_far (p := ⟨gb535, 3, none⟩) (Kd.R_far (p := ⟨gb535, 2, none⟩) (Kd.R_far (p := ⟨gb535, 1, none⟩) (Kd.R_far (p := ⟨gb535, 0, none⟩) (Kd.R_types (Kd.R_types HO_559003.out BK535.out (by decide)) BK536.out (by decide)) (fun _ hk => hk.1.2) (.int .i64 x558000_5)) (fun _ hk => hk.1.2) (.int .i64 x558001_5)) (fun _ hk => hk.1.2) (.int .i64 x558002_5)) (fun _ hk => hk.1.2) (.slice Ao82 x558003_5.length co82)) (fun _ hk => hk.2) (.int .i64 (wrap64 (1 + t583)))) (fun _ hk => hk.2) (.int .i64 x559001_5)) (fun _ hk => hk.2) (.int .i64 x559002_5)) (fun _ hk => hk.2) (.slice Ao87 x559003_5.length co87)) (fun _ hk => hk.1.1), by repeat (with_reducible first | exact HI0.out | apply IsS94.alloc | apply IsS94.drewN | apply IsS94.drew | apply IsS94.set_1 | refine IsS94.far ?_ NB0_535.out _ | refine IsS94.far ?_ NB0_536.out _ | refine IsS94.far ?_ NB0_557.out _ | refine IsS94.far ?_ NB0_558.out _), by repeat (with_reducible first | exact HB.out | apply below_alloc | apply pw_below_drewN | apply below_drew1 | refine below_set ?_ (IsS94.ge HI0.out) | refine below_set ?_ GE535.out | refine below_set ?_ GE536.out | refine below_set ?_ GE557.out | refine below_set ?_ GE558.out), by repeat (with_reducible first | exact HK.out | apply KeepBut.set_ | apply keep_drewN | apply keep_drew | apply keep_alloc | refine keep_far ?_ GW535.out _ | refine keep_far ?_ GW536.out _ | refine keep_far ?_ GW557.out _ | refine keep_far ?_ GW558.out _)⟩
    ·rw [if_neg c68] at H
     have c68b0 : (t576 == 1) = false := beq_eq_false_iff_ne.mpr c68
     have c68b1 : (t576 != 1) = true := bne_iff_ne.mpr c68
     by_cases c89 : t576 = 2
     ·rw [if_pos c89] at H
      have c89b0 : (t576 == 2) = true := beq_iff_eq.mpr c89
      have c89b1 : (t576 != 2) = false := bne_eq_false_iff_eq.mpr c89
      clear c89
      replace H := bnd H
      obtain ⟨⟨t585, t586⟩, A90, H⟩ := H
      dsimp only at H
      by_cases c91 : t585 = 0
      ·rw [if_pos c91] at H
       have c91b0 : (t585 == 0) = true := beq_iff_eq.mpr c91
       have c91b1 : (t585 != 0) = false := bne_eq_false_iff_eq.mpr c91
       clear c91
       simp only [Option.some.injEq, Prod.mk.injEq] at H
       obtain ⟨rfl, rfl, rfl, rfl, rfl, rfl, rfl, rfl, rfl⟩ := H
       try go_wp2_with (first | ((with_reducible refine gate_callee (f := 45) rfl ?_); refine goesZ (some 38) Tryz.func45 #[.pointer (some ⟨g, 0, none⟩), .int .i64 8] ?_; (with_reducible refine (spec_l6Rd_pick.calls kj5 g s0_0 x1001_5 8 t576 t577 w0 _ ?side1 ?side2 A44.out).mono ?_); (case side1 => repeat (with_reducible first | exact HI0.out | apply IsS94.alloc | apply IsS94.drewN | apply IsS94.drew | apply IsS94.set_1 | refine IsS94.far ?_ NB0_535.out _ | refine IsS94.far ?_ NB0_536.out _ | refine IsS94.far ?_ NB0_557.out _ | refine IsS94.far ?_ NB0_558.out _)); (case side2 => repeat (with_reducible first | exact HB.out | apply below_alloc | apply pw_below_drewN | apply below_drew1 | refine below_set ?_ (IsS94.ge HI0.out) | refine below_set ?_ GE535.out | refine below_set ?_ GE536.out | refine below_set ?_ GE557.out | refine below_set ?_ GE558.out)); rintro e w92 ⟨rfl, hi, hb, hk⟩; refine ⟨_, rfl, ?_⟩; replace HO_558003 := Aside0.mk (Kd.R_mono (Kd.R_keep (IsS94.apart (show IsS94 w0 _ g s0_0 x1001_5 from by repeat (with_reducible first | exact HI0.out | apply IsS94.alloc | apply IsS94.drewN | apply IsS94.drew | apply IsS94.set_1 | refine IsS94.far ?_ NB0_535.out _ | refine IsS94.far ?_ NB0_536.out _ | refine IsS94.far ?_ NB0_557.out _ | refine IsS94.far ?_ NB0_558.out _)) (HO_558003.out) (by decide)) hk (fun _ h => h.2)) (fun _ h => h.1)); replace HO_559003 := Aside0.mk (Kd.R_mono (Kd.R_keep (IsS94.apart (show IsS94 w0 _ g s0_0 x1001_5 from by repeat (with_reducible first | exact HI0.out | apply IsS94.alloc | apply IsS94.drewN | apply IsS94.drew | apply IsS94.set_1 | refine IsS94.far ?_ NB0_535.out _ | refine IsS94.far ?_ NB0_536.out _ | refine IsS94.far ?_ NB0_557.out _ | refine IsS94.far ?_ NB0_558.out _)) (HO_559003.out) (by decide)) hk (fun _ h => h.2)) (fun _ h => h.1)); replace BK535 := kbZ hk BK535.out NB535_0.out; replace BK536 := kbZ hk BK536.out NB536_0.out; replace BK557 := kbZ hk BK557.out NB557_0.out; replace BK558 := kbZ hk BK558.out NB558_0.out; replace HK := Aside0.mk (KeepBut.trans (by repeat (with_reducible first | exact HK.out | apply KeepBut.set_ | apply keep_drewN | apply keep_drew | apply keep_alloc | refine keep_far ?_ GW535.out _ | refine keep_far ?_ GW536.out _ | refine keep_far ?_ GW557.out _ | refine keep_far ?_ GW558.out _)) hk (.inl rfl)); replace HB := Aside0.mk (hb); replace HI0 := Aside0.mk (hi); clear hb hk hi) | ((with_reducible refine gate_callee (f := 45) rfl ?_); refine goesZ (some 60) Tryz.func45 #[.pointer (some ⟨g, 0, none⟩), .int .i64 3] ?_; (with_reducible refine (spec_l6Rd_pick.calls kj5 g s0_0 t577 3 t585 t586 w0 _ ?side1 ?side2 A90.out).mono ?_); (case side1 => repeat (with_reducible first | exact HI0.out | apply IsS94.alloc | apply IsS94.drewN | apply IsS94.drew | apply IsS94.set_1 | refine IsS94.far ?_ NB0_535.out _ | refine IsS94.far ?_ NB0_536.out _ | refine IsS94.far ?_ NB0_557.out _ | refine IsS94.far ?_ NB0_558.out _)); (case side2 => repeat (with_reducible first | exact HB.out | apply below_alloc | apply pw_below_drewN | apply below_drew1 | refine below_set ?_ (IsS94.ge HI0.out) | refine below_set ?_ GE535.out | refine below_set ?_ GE536.out | refine below_set ?_ GE557.out | refine below_set ?_ GE558.out)); rintro e w93 ⟨rfl, hi, hb, hk⟩; refine ⟨_, rfl, ?_⟩; replace HO_558003 := Aside0.mk (Kd.R_mono (Kd.R_keep (IsS94.apart (show IsS94 w0 _ g s0_0 t577 from by repeat (with_reducible first | exact HI0.out | apply IsS94.alloc | apply IsS94.drewN | apply IsS94.drew | apply IsS94.set_1 | refine IsS94.far ?_ NB0_535.out _ | refine IsS94.far ?_ NB0_536.out _ | refine IsS94.far ?_ NB0_557.out _ | refine IsS94.far ?_ NB0_558.out _)) (HO_558003.out) (by decide)) hk (fun _ h => h.2)) (fun _ h => h.1)); replace HO_559003 := Aside0.mk (Kd.R_mono (Kd.R_keep (IsS94.apart (show IsS94 w0 _ g s0_0 t577 from by repeat (with_reducible first | exact HI0.out | apply IsS94.alloc | apply IsS94.drewN | apply IsS94.drew | apply IsS94.set_1 | refine IsS94.far ?_ NB0_535.out _ | refine IsS94.far ?_ NB0_536.out _ | refine IsS94.far ?_ NB0_557.out _ | refine IsS94.far ?_ NB0_558.out _)) (HO_559003.out) (by decide)) hk (fun _ h => h.2)) (fun _ h => h.1)); replace BK535 := kbZ hk BK535.out NB535_0.out; replace BK536 := kbZ hk BK536.out NB536_0.out; replace BK557 := kbZ hk BK557.out NB557_0.out; replace BK558 := kbZ hk BK558.out NB558_0.out; replace HK := Aside0.mk (KeepBut.trans (by repeat (with_reducible first | exact HK.out | apply KeepBut.set_ | apply keep_drewN | apply keep_drew | apply keep_alloc | refine keep_far ?_ GW535.out _ | refine keep_far ?_ GW536.out _ | refine keep_far ?_ GW557.out _ | refine keep_far ?_ GW558.out _)) hk (.inl rfl)); replace HB := Aside0.mk (hb); replace HI0 := Aside0.mk (hi); clear hb hk hi))
       replace HO_558003 := Aside0.mk (Kd.R_drew HO_558003.out)
       replace HO_559003 := Aside0.mk (Kd.R_drew HO_559003.out)
       replace BK535 := Aside0.mk (blk_drew BK535.out)
       replace BK536 := Aside0.mk (blk_drew BK536.out)
       replace BK557 := Aside0.mk (blk_drew BK557.out)
       replace BK558 := Aside0.mk (blk_drew BK558.out)
       replace HI0 := Aside0.mk (IsS94.drew HI0.out)
       replace HK := Aside0.mk (keep_drew HK.out)
       replace HB := Aside0.mk (below_drew1 HB.out)
       obtain ⟨Ao98, co98, eo98⟩ := Kd.R_slice HO_559003.out
       (first | subst eo98 | (injection eo98 with f1_ f2_ f3_; have f4_ := f1_.symm; have f5_ := f3_.symm; clear f1_ f2_ f3_; subst f4_; subst f5_))
       obtain ⟨Ao103, co103, eo103⟩ := Kd.R_slice HO_558003.out
       (first | subst eo103 | (injection eo103 with f1_ f2_ f3_; have f4_ := f1_.symm; have f5_ := f3_.symm; clear f1_ f2_ f3_; subst f4_; subst f5_))
       refine start_ (n := 4) (S := fun w' => w'.cell? ⟨gb558, 0, none⟩ = some (.int .i64 x559000_5) ∧ w'.cell? ⟨gb558, 1, none⟩ = some (.int .i64 x559001_5) ∧ w'.cell? ⟨gb558, 2, none⟩ = some (.int .i64 x559002_5) ∧ w'.cell? ⟨gb558, 3, none⟩ = some (.slice Ao98 x559003_5.length co98) ∧ w'.cell? ⟨gb557, 0, none⟩ = some (.int .i64 x558000_5) ∧ w'.cell? ⟨gb557, 1, none⟩ = some (.int .i64 x558001_5) ∧ w'.cell? ⟨gb557, 2, none⟩ = some (.int .i64 x558002_5) ∧ w'.cell? ⟨gb557, 3, none⟩ = some (.slice Ao103 x558003_5.length co103)) (ds := []) (bs 4 0) (by kernel_rfl) rfl rfl ⟨(blk_cell BK558.out 0).trans rfl, (blk_cell BK558.out 1).trans rfl, (blk_cell BK558.out 2).trans rfl, (blk_cell BK558.out 3).trans rfl, (blk_cell BK557.out 0).trans rfl, (blk_cell BK557.out 1).trans rfl, (blk_cell BK557.out 2).trans rfl, (blk_cell BK557.out 3).trans rfl⟩ (fun hHeld => ?_)
       generalize w93.drew = w94 at HO_558003 HO_559003 BK535 BK536 BK557 BK558 HI0 HK HB hHeld ⊢
       refine tZ 0 (some 62) (bs 4 1) rfl rfl (by kernel_rfl) hHeld (by rintro w' ⟨s0, s1, s2, s3, s4, s5, s6, s7⟩; go_simp; with_reducible rfl) ?_
       refine tZ 1 (some 63) (bs 4 3) rfl rfl (by kernel_rfl) hHeld (by rintro w' ⟨s0, s1, s2, s3, s4, s5, s6, s7⟩; go_simp; with_reducible rfl) ?_
       refine one_ (i := 2) (N := none) (bs 4 7) rfl rfl (by kernel_rfl) (by decide) (fun K hK => ?_)
       have hs95 : w94.cell? ⟨gb535, 0, none⟩ = some (.int .i64 0) := (blk_cell BK535.out 0).trans rfl
       have hfs95 := blk_frozen BK535.out 0
       have hns95_1 := NB536_535.out
       have hns95_2 := NB557_535.out
       have hns95_3 := NB558_535.out
       have hms95_1 := NB535_536.out
       have hms95_2 := NB535_557.out
       have hms95_3 := NB535_558.out
       have hs96 : w94.cell? ⟨gb535, 1, none⟩ = some (.int .i64 0) := (blk_cell BK535.out 1).trans rfl
       have hfs96 := blk_frozen BK535.out 1
       have hns96_1 := NB536_535.out
       have hns96_2 := NB557_535.out
       have hns96_3 := NB558_535.out
       have hms96_1 := NB535_536.out
       have hms96_2 := NB535_557.out
       have hms96_3 := NB535_558.out
       have hs97 : w94.cell? ⟨gb535, 2, none⟩ = some (.int .i64 0) := (blk_cell BK535.out 2).trans rfl
       have hfs97 := blk_frozen BK535.out 2
       have hns97_1 := NB536_535.out
       have hns97_2 := NB557_535.out
       have hns97_3 := NB558_535.out
       have hms97_1 := NB535_536.out
       have hms97_2 := NB535_557.out
       have hms97_3 := NB535_558.out
       have hs99 : w94.cell? ⟨gb535, 3, none⟩ = some (.slice none 0 0) := (blk_cell BK535.out 3).trans rfl
       have hfs99 := blk_frozen BK535.out 3
       have hns99_1 := NB536_535.out
       have hns99_2 := NB557_535.out
       have hns99_3 := NB558_535.out
       have hms99_1 := NB535_536.out
       have hms99_2 := NB535_557.out
       have hms99_3 := NB535_558.out
       refine skip_ (w1 := ?_) (by rfl) rfl ?_ ?_
       rotate_left
       ·go_simp
        rfl
       refine hK.out _ _ ⟨((cell_far (p := ⟨gb535, _, none⟩) NB558_535.out _).trans (((cell_far (p := ⟨gb535, _, none⟩) NB558_535.out _).trans (((cell_far (p := ⟨gb535, _, none⟩) NB558_535.out _).trans (((cell_far (p := ⟨gb535, _, none⟩) NB558_535.out _).trans (hHeld.1)))))))), ((cell_far (p := ⟨gb535, _, none⟩) NB558_535.out _).trans (((cell_far (p := ⟨gb535, _, none⟩) NB558_535.out _).trans (((cell_far (p := ⟨gb535, _, none⟩) NB558_535.out _).trans (((cell_far (p := ⟨gb535, _, none⟩) NB558_535.out _).trans (hHeld.2.1)))))))), ((cell_far (p := ⟨gb535, _, none⟩) NB558_535.out _).trans (((cell_far (p := ⟨gb535, _, none⟩) NB558_535.out _).trans (((cell_far (p := ⟨gb535, _, none⟩) NB558_535.out _).trans (((cell_far (p := ⟨gb535, _, none⟩) NB558_535.out _).trans (hHeld.2.2.1)))))))), ((cell_far (p := ⟨gb535, _, none⟩) NB558_535.out _).trans (((cell_far (p := ⟨gb535, _, none⟩) NB558_535.out _).trans (((cell_far (p := ⟨gb535, _, none⟩) NB558_535.out _).trans (((cell_far (p := ⟨gb535, _, none⟩) NB558_535.out _).trans (hHeld.2.2.2.1)))))))), ((cell_far (p := ⟨gb535, _, none⟩) NB557_535.out _).trans (((cell_far (p := ⟨gb535, _, none⟩) NB557_535.out _).trans (((cell_far (p := ⟨gb535, _, none⟩) NB557_535.out _).trans (((cell_far (p := ⟨gb535, _, none⟩) NB557_535.out _).trans (hHeld.2.2.2.2.1)))))))), ((cell_far (p := ⟨gb535, _, none⟩) NB557_535.out _).trans (((cell_far (p := ⟨gb535, _, none⟩) NB557_535.out _).trans (((cell_far (p := ⟨gb535, _, none⟩) NB557_535.out _).trans (((cell_far (p := ⟨gb535, _, none⟩) NB557_535.out _).trans (hHeld.2.2.2.2.2.1)))))))), ((cell_far (p := ⟨gb535, _, none⟩) NB557_535.out _).trans (((cell_far (p := ⟨gb535, _, none⟩) NB557_535.out _).trans (((cell_far (p := ⟨gb535, _, none⟩) NB557_535.out _).trans (((cell_far (p := ⟨gb535, _, none⟩) NB557_535.out _).trans (hHeld.2.2.2.2.2.2.1)))))))), ((cell_far (p := ⟨gb535, _, none⟩) NB557_535.out _).trans (((cell_far (p := ⟨gb535, _, none⟩) NB557_535.out _).trans (((cell_far (p := ⟨gb535, _, none⟩) NB557_535.out _).trans (((cell_far (p := ⟨gb535, _, none⟩) NB557_535.out _).trans (hHeld.2.2.2.2.2.2.2))))))))⟩ (fun hHeld => ?_)
       clear hK K
       refine one_ (i := 3) (N := none) (bs 4 15) rfl rfl (by kernel_rfl) (by decide) (fun K hK => ?_)
       have hs100 : w94.cell? ⟨gb536, 0, none⟩ = some (.int .i64 0) := (blk_cell BK536.out 0).trans rfl
       have hfs100 := blk_frozen BK536.out 0
       have hns100_0 := NB535_536.out
       have hns100_2 := NB557_536.out
       have hns100_3 := NB558_536.out
       have hms100_0 := NB536_535.out
       have hms100_2 := NB536_557.out
       have hms100_3 := NB536_558.out
       have hs101 : w94.cell? ⟨gb536, 1, none⟩ = some (.int .i64 0) := (blk_cell BK536.out 1).trans rfl
       have hfs101 := blk_frozen BK536.out 1
       have hns101_0 := NB535_536.out
       have hns101_2 := NB557_536.out
       have hns101_3 := NB558_536.out
       have hms101_0 := NB536_535.out
       have hms101_2 := NB536_557.out
       have hms101_3 := NB536_558.out
       have hs102 : w94.cell? ⟨gb536, 2, none⟩ = some (.int .i64 0) := (blk_cell BK536.out 2).trans rfl
       have hfs102 := blk_frozen BK536.out 2
       have hns102_0 := NB535_536.out
       have hns102_2 := NB557_536.out
       have hns102_3 := NB558_536.out
       have hms102_0 := NB536_535.out
       have hms102_2 := NB536_557.out
       have hms102_3 := NB536_558.out
       have hs104 : w94.cell? ⟨gb536, 3, none⟩ = some (.slice none 0 0) := (blk_cell BK536.out 3).trans rfl
       have hfs104 := blk_frozen BK536.out 3
       have hns104_0 := NB535_536.out
       have hns104_2 := NB557_536.out
       have hns104_3 := NB558_536.out
       have hms104_0 := NB536_535.out
       have hms104_2 := NB536_557.out
       have hms104_3 := NB536_558.out
       refine skip_ (w1 := ?_) (by rfl) rfl ?_ ?_
       rotate_left
       ·go_simp
        rfl
       refine hK.out _ _ ⟨((cell_far (p := ⟨gb536, _, none⟩) NB558_536.out _).trans (((cell_far (p := ⟨gb536, _, none⟩) NB558_536.out _).trans (((cell_far (p := ⟨gb536, _, none⟩) NB558_536.out _).trans (((cell_far (p := ⟨gb536, _, none⟩) NB558_536.out _).trans (hHeld.1)))))))), ((cell_far (p := ⟨gb536, _, none⟩) NB558_536.out _).trans (((cell_far (p := ⟨gb536, _, none⟩) NB558_536.out _).trans (((cell_far (p := ⟨gb536, _, none⟩) NB558_536.out _).trans (((cell_far (p := ⟨gb536, _, none⟩) NB558_536.out _).trans (hHeld.2.1)))))))), ((cell_far (p := ⟨gb536, _, none⟩) NB558_536.out _).trans (((cell_far (p := ⟨gb536, _, none⟩) NB558_536.out _).trans (((cell_far (p := ⟨gb536, _, none⟩) NB558_536.out _).trans (((cell_far (p := ⟨gb536, _, none⟩) NB558_536.out _).trans (hHeld.2.2.1)))))))), ((cell_far (p := ⟨gb536, _, none⟩) NB558_536.out _).trans (((cell_far (p := ⟨gb536, _, none⟩) NB558_536.out _).trans (((cell_far (p := ⟨gb536, _, none⟩) NB558_536.out _).trans (((cell_far (p := ⟨gb536, _, none⟩) NB558_536.out _).trans (hHeld.2.2.2.1)))))))), ((cell_far (p := ⟨gb536, _, none⟩) NB557_536.out _).trans (((cell_far (p := ⟨gb536, _, none⟩) NB557_536.out _).trans (((cell_far (p := ⟨gb536, _, none⟩) NB557_536.out _).trans (((cell_far (p := ⟨gb536, _, none⟩) NB557_536.out _).trans (hHeld.2.2.2.2.1)))))))), ((cell_far (p := ⟨gb536, _, none⟩) NB557_536.out _).trans (((cell_far (p := ⟨gb536, _, none⟩) NB557_536.out _).trans (((cell_far (p := ⟨gb536, _, none⟩) NB557_536.out _).trans (((cell_far (p := ⟨gb536, _, none⟩) NB557_536.out _).trans (hHeld.2.2.2.2.2.1)))))))), ((cell_far (p := ⟨gb536, _, none⟩) NB557_536.out _).trans (((cell_far (p := ⟨gb536, _, none⟩) NB557_536.out _).trans (((cell_far (p := ⟨gb536, _, none⟩) NB557_536.out _).trans (((cell_far (p := ⟨gb536, _, none⟩) NB557_536.out _).trans (hHeld.2.2.2.2.2.2.1)))))))), ((cell_far (p := ⟨gb536, _, none⟩) NB557_536.out _).trans (((cell_far (p := ⟨gb536, _, none⟩) NB557_536.out _).trans (((cell_far (p := ⟨gb536, _, none⟩) NB557_536.out _).trans (((cell_far (p := ⟨gb536, _, none⟩) NB557_536.out _).trans (hHeld.2.2.2.2.2.2.2))))))))⟩ (fun hHeld => ?_)
       clear hK K
       refine done_ (by kernel_rfl) ?_
       try go_wp2
       refine bodyPost_ret (results_cc rfl _ _ gb535 gb536 27 27 #[.int .i64 x559000_5, .int .i64 x559001_5, .int .i64 x559002_5, .slice Ao98 x559003_5.length co98] #[.int .i64 x558000_5, .int .i64 x558001_5, .int .i64 x558002_5, .slice Ao103 x558003_5.length co103] (0, 0) (0, 0) _ _ rfl (by refine blk_far ?_ NB535_536.out _; refine blk_far ?_ NB535_536.out _; refine blk_far ?_ NB535_536.out _; refine blk_far ?_ NB535_536.out _; refine blk_put (cs := #[.int .i64 x559000_5, .int .i64 x559001_5, .int .i64 x559002_5, .slice none 0 0]) ?_ 3 _ rfl; refine blk_put (cs := #[.int .i64 x559000_5, .int .i64 x559001_5, .int .i64 0, .slice none 0 0]) ?_ 2 _ rfl; refine blk_put (cs := #[.int .i64 x559000_5, .int .i64 0, .int .i64 0, .slice none 0 0]) ?_ 1 _ rfl; refine blk_put (cs := #[.int .i64 0, .int .i64 0, .int .i64 0, .slice none 0 0]) ?_ 0 _ rfl; exact BK535.out) Tryz.underlying27 rfl (by kernel_rfl) rfl (by refine blk_put (cs := #[.int .i64 x558000_5, .int .i64 x558001_5, .int .i64 x558002_5, .slice none 0 0]) ?_ 3 _ rfl; refine blk_put (cs := #[.int .i64 x558000_5, .int .i64 x558001_5, .int .i64 0, .slice none 0 0]) ?_ 2 _ rfl; refine blk_put (cs := #[.int .i64 x558000_5, .int .i64 0, .int .i64 0, .slice none 0 0]) ?_ 1 _ rfl; refine blk_put (cs := #[.int .i64 0, .int .i64 0, .int .i64 0, .slice none 0 0]) ?_ 0 _ rfl; refine blk_far ?_ NB536_535.out _; refine blk_far ?_ NB536_535.out _; refine blk_far ?_ NB536_535.out _; refine blk_far ?_ NB536_535.out _; exact BK536.out) Tryz.underlying27 rfl (by kernel_rfl)) rfl ?_
       exact ⟨_, _, rfl, Kd.R_mono (Kd.R_far (p := ⟨gb536, 3, none⟩) (Kd.R_far (p := ⟨gb536, 2, none⟩) (Kd.R_far (p := ⟨gb536, 1, none⟩) (Kd.R_far (p := ⟨gb536, 0, none⟩) (Kd.R_far (p := ⟨gb535, 3, none⟩) (Kd.R_far (p := ⟨gb535, 2, none⟩) (Kd.R_far (p := ⟨gb535, 1, none⟩) (Kd.R_far (p := ⟨gb535, 0, none⟩) (Kd.R_types (Kd.R_types HO_559003.out BK535.out (by decide)) BK536.out (by decide)) (fun _ hk => hk.1.2) (.int .i64 x559000_5)) (fun _ hk => hk.1.2) (.int .i64 x559001_5)) (fun _ hk => hk.1.2) (.int .i64 x559002_5)) (fun _ hk => hk.1.2) (.slice Ao98 x559003_5.length co98)) (fun _ hk => hk.2) (.int .i64 x558000_5)) (fun _ hk => hk.2) (.int .i64 x558001_5)) (fun _ hk => hk.2) (.int .i64 x558002_5)) (fun _ hk => hk.2) (.slice Ao103 x558003_5.length co103)) (fun _ hk => hk.1.1), Kd.R_mono (Kd.R_far (p := ⟨gb536, 3, none⟩) (Kd.R_far (p := ⟨gb536, 2, none⟩) (Kd.R_far (p := ⟨gb536, 1, none⟩) (Kd.R_far (p := ⟨gb536, 0, none⟩) (Kd.R_far (p := ⟨gb535, 3, none⟩) (Kd.R_far (p := ⟨gb535, 2, none⟩) (Kd.R_far (p := ⟨gb535, 1, none⟩) (Kd.R_far (p := ⟨gb535, 0, none⟩) (Kd.R_types (Kd.R_types HO_558003.out BK535.out (by decide)) BK536.out (by decide)) (fun _ hk => hk.1.2) (.int .i64 x559000_5)) (fun _ hk => hk.1.2) (.int .i64 x559001_5)) (fun _ hk => hk.1.2) (.int .i64 x559002_5)) (fun _ hk => hk.1.2) (.slice Ao98 x559003_5.length co98)) (fun _ hk => hk.2) (.int .i64 x558000_5)) (fun _ hk => hk.2) (.int .i64 x558001_5)) (fun _ hk => hk.2) (.int .i64 x558002_5)) (fun _ hk => hk.2) (.slice Ao103 x558003_5.length co103)) (fun _ hk => hk.1.1), by repeat (with_reducible first | exact HI0.out | apply IsS94.alloc | apply IsS94.drewN | apply IsS94.drew | apply IsS94.set_1 | refine IsS94.far ?_ NB0_535.out _ | refine IsS94.far ?_ NB0_536.out _ | refine IsS94.far ?_ NB0_557.out _ | refine IsS94.far ?_ NB0_558.out _), by repeat (with_reducible first | exact HB.out | apply below_alloc | apply pw_below_drewN | apply below_drew1 | refine below_set ?_ (IsS94.ge HI0.out) | refine below_set ?_ GE535.out | refine below_set ?_ GE536.out | refine below_set ?_ GE557.out | refine below_set ?_ GE558.out), by repeat (with_reducible first | exact HK.out | apply KeepBut.set_ | apply keep_drewN | apply keep_drew | apply keep_alloc | refine keep_far ?_ GW535.out _ | refine keep_far ?_ GW536.out _ | refine keep_far ?_ GW557.out _ | refine keep_far ?_ GW558.out _)⟩
      ·rw [if_neg c91] at H
       have c91b0 : (t585 == 0) = false := beq_eq_false_iff_ne.mpr c91
       have c91b1 : (t585 != 0) = true := bne_iff_ne.mpr c91
       simp only [Option.some.injEq, Prod.mk.injEq] at H
       obtain ⟨rfl, rfl, rfl, rfl, rfl, rfl, rfl, rfl, rfl⟩ := H
       try go_wp2_with (first | ((with_reducible refine gate_callee (f := 45) rfl ?_); refine goesZ (some 38) Tryz.func45 #[.pointer (some ⟨g, 0, none⟩), .int .i64 8] ?_; (with_reducible refine (spec_l6Rd_pick.calls kj5 g s0_0 x1001_5 8 t576 t577 w0 _ ?side1 ?side2 A44.out).mono ?_); (case side1 => repeat (with_reducible first | exact HI0.out | apply IsS94.alloc | apply IsS94.drewN | apply IsS94.drew | apply IsS94.set_1 | refine IsS94.far ?_ NB0_535.out _ | refine IsS94.far ?_ NB0_536.out _ | refine IsS94.far ?_ NB0_557.out _ | refine IsS94.far ?_ NB0_558.out _)); (case side2 => repeat (with_reducible first | exact HB.out | apply below_alloc | apply pw_below_drewN | apply below_drew1 | refine below_set ?_ (IsS94.ge HI0.out) | refine below_set ?_ GE535.out | refine below_set ?_ GE536.out | refine below_set ?_ GE557.out | refine below_set ?_ GE558.out)); rintro e w105 ⟨rfl, hi, hb, hk⟩; refine ⟨_, rfl, ?_⟩; replace HO_558003 := Aside0.mk (Kd.R_mono (Kd.R_keep (IsS94.apart (show IsS94 w0 _ g s0_0 x1001_5 from by repeat (with_reducible first | exact HI0.out | apply IsS94.alloc | apply IsS94.drewN | apply IsS94.drew | apply IsS94.set_1 | refine IsS94.far ?_ NB0_535.out _ | refine IsS94.far ?_ NB0_536.out _ | refine IsS94.far ?_ NB0_557.out _ | refine IsS94.far ?_ NB0_558.out _)) (HO_558003.out) (by decide)) hk (fun _ h => h.2)) (fun _ h => h.1)); replace HO_559003 := Aside0.mk (Kd.R_mono (Kd.R_keep (IsS94.apart (show IsS94 w0 _ g s0_0 x1001_5 from by repeat (with_reducible first | exact HI0.out | apply IsS94.alloc | apply IsS94.drewN | apply IsS94.drew | apply IsS94.set_1 | refine IsS94.far ?_ NB0_535.out _ | refine IsS94.far ?_ NB0_536.out _ | refine IsS94.far ?_ NB0_557.out _ | refine IsS94.far ?_ NB0_558.out _)) (HO_559003.out) (by decide)) hk (fun _ h => h.2)) (fun _ h => h.1)); replace BK535 := kbZ hk BK535.out NB535_0.out; replace BK536 := kbZ hk BK536.out NB536_0.out; replace BK557 := kbZ hk BK557.out NB557_0.out; replace BK558 := kbZ hk BK558.out NB558_0.out; replace HK := Aside0.mk (KeepBut.trans (by repeat (with_reducible first | exact HK.out | apply KeepBut.set_ | apply keep_drewN | apply keep_drew | apply keep_alloc | refine keep_far ?_ GW535.out _ | refine keep_far ?_ GW536.out _ | refine keep_far ?_ GW557.out _ | refine keep_far ?_ GW558.out _)) hk (.inl rfl)); replace HB := Aside0.mk (hb); replace HI0 := Aside0.mk (hi); clear hb hk hi) | ((with_reducible refine gate_callee (f := 45) rfl ?_); refine goesZ (some 60) Tryz.func45 #[.pointer (some ⟨g, 0, none⟩), .int .i64 3] ?_; (with_reducible refine (spec_l6Rd_pick.calls kj5 g s0_0 t577 3 t585 t586 w0 _ ?side1 ?side2 A90.out).mono ?_); (case side1 => repeat (with_reducible first | exact HI0.out | apply IsS94.alloc | apply IsS94.drewN | apply IsS94.drew | apply IsS94.set_1 | refine IsS94.far ?_ NB0_535.out _ | refine IsS94.far ?_ NB0_536.out _ | refine IsS94.far ?_ NB0_557.out _ | refine IsS94.far ?_ NB0_558.out _)); (case side2 => repeat (with_reducible first | exact HB.out | apply below_alloc | apply pw_below_drewN | apply below_drew1 | refine below_set ?_ (IsS94.ge HI0.out) | refine below_set ?_ GE535.out | refine below_set ?_ GE536.out | refine below_set ?_ GE557.out | refine below_set ?_ GE558.out)); rintro e w106 ⟨rfl, hi, hb, hk⟩; refine ⟨_, rfl, ?_⟩; replace HO_558003 := Aside0.mk (Kd.R_mono (Kd.R_keep (IsS94.apart (show IsS94 w0 _ g s0_0 t577 from by repeat (with_reducible first | exact HI0.out | apply IsS94.alloc | apply IsS94.drewN | apply IsS94.drew | apply IsS94.set_1 | refine IsS94.far ?_ NB0_535.out _ | refine IsS94.far ?_ NB0_536.out _ | refine IsS94.far ?_ NB0_557.out _ | refine IsS94.far ?_ NB0_558.out _)) (HO_558003.out) (by decide)) hk (fun _ h => h.2)) (fun _ h => h.1)); replace HO_559003 := Aside0.mk (Kd.R_mono (Kd.R_keep (IsS94.apart (show IsS94 w0 _ g s0_0 t577 from by repeat (with_reducible first | exact HI0.out | apply IsS94.alloc | apply IsS94.drewN | apply IsS94.drew | apply IsS94.set_1 | refine IsS94.far ?_ NB0_535.out _ | refine IsS94.far ?_ NB0_536.out _ | refine IsS94.far ?_ NB0_557.out _ | refine IsS94.far ?_ NB0_558.out _)) (HO_559003.out) (by decide)) hk (fun _ h => h.2)) (fun _ h => h.1)); replace BK535 := kbZ hk BK535.out NB535_0.out; replace BK536 := kbZ hk BK536.out NB536_0.out; replace BK557 := kbZ hk BK557.out NB557_0.out; replace BK558 := kbZ hk BK558.out NB558_0.out; replace HK := Aside0.mk (KeepBut.trans (by repeat (with_reducible first | exact HK.out | apply KeepBut.set_ | apply keep_drewN | apply keep_drew | apply keep_alloc | refine keep_far ?_ GW535.out _ | refine keep_far ?_ GW536.out _ | refine keep_far ?_ GW557.out _ | refine keep_far ?_ GW558.out _)) hk (.inl rfl)); replace HB := Aside0.mk (hb); replace HI0 := Aside0.mk (hi); clear hb hk hi))
       replace HO_558003 := Aside0.mk (Kd.R_drew HO_558003.out)
       replace HO_559003 := Aside0.mk (Kd.R_drew HO_559003.out)
       replace BK535 := Aside0.mk (blk_drew BK535.out)
       replace BK536 := Aside0.mk (blk_drew BK536.out)
       replace BK557 := Aside0.mk (blk_drew BK557.out)
       replace BK558 := Aside0.mk (blk_drew BK558.out)
       replace HI0 := Aside0.mk (IsS94.drew HI0.out)
       replace HK := Aside0.mk (keep_drew HK.out)
       replace HB := Aside0.mk (below_drew1 HB.out)
       obtain ⟨Ao111, co111, eo111⟩ := Kd.R_slice HO_558003.out
       (first | subst eo111 | (injection eo111 with f1_ f2_ f3_; have f4_ := f1_.symm; have f5_ := f3_.symm; clear f1_ f2_ f3_; subst f4_; subst f5_))
       obtain ⟨Ao116, co116, eo116⟩ := Kd.R_slice HO_559003.out
       (first | subst eo116 | (injection eo116 with f1_ f2_ f3_; have f4_ := f1_.symm; have f5_ := f3_.symm; clear f1_ f2_ f3_; subst f4_; subst f5_))
       refine start_ (n := 4) (S := fun w' => w'.cell? ⟨gb557, 0, none⟩ = some (.int .i64 x558000_5) ∧ w'.cell? ⟨gb557, 1, none⟩ = some (.int .i64 x558001_5) ∧ w'.cell? ⟨gb557, 2, none⟩ = some (.int .i64 x558002_5) ∧ w'.cell? ⟨gb557, 3, none⟩ = some (.slice Ao111 x558003_5.length co111) ∧ w'.cell? ⟨gb558, 0, none⟩ = some (.int .i64 x559000_5) ∧ w'.cell? ⟨gb558, 1, none⟩ = some (.int .i64 x559001_5) ∧ w'.cell? ⟨gb558, 2, none⟩ = some (.int .i64 x559002_5) ∧ w'.cell? ⟨gb558, 3, none⟩ = some (.slice Ao116 x559003_5.length co116)) (ds := []) (bs 4 0) (by kernel_rfl) rfl rfl ⟨(blk_cell BK557.out 0).trans rfl, (blk_cell BK557.out 1).trans rfl, (blk_cell BK557.out 2).trans rfl, (blk_cell BK557.out 3).trans rfl, (blk_cell BK558.out 0).trans rfl, (blk_cell BK558.out 1).trans rfl, (blk_cell BK558.out 2).trans rfl, (blk_cell BK558.out 3).trans rfl⟩ (fun hHeld => ?_)
       generalize w106.drew = w107 at HO_558003 HO_559003 BK535 BK536 BK557 BK558 HI0 HK HB hHeld ⊢
       refine tZ 0 (some 64) (bs 4 1) rfl rfl (by kernel_rfl) hHeld (by rintro w' ⟨s0, s1, s2, s3, s4, s5, s6, s7⟩; go_simp; with_reducible rfl) ?_
       refine tZ 1 (some 65) (bs 4 3) rfl rfl (by kernel_rfl) hHeld (by rintro w' ⟨s0, s1, s2, s3, s4, s5, s6, s7⟩; go_simp; with_reducible rfl) ?_
       refine one_ (i := 2) (N := none) (bs 4 7) rfl rfl (by kernel_rfl) (by decide) (fun K hK => ?_)
       have hs108 : w107.cell? ⟨gb535, 0, none⟩ = some (.int .i64 0) := (blk_cell BK535.out 0).trans rfl
       have hfs108 := blk_frozen BK535.out 0
       have hns108_1 := NB536_535.out
       have hns108_2 := NB557_535.out
       have hns108_3 := NB558_535.out
       have hms108_1 := NB535_536.out
       have hms108_2 := NB535_557.out
       have hms108_3 := NB535_558.out
       have hs109 : w107.cell? ⟨gb535, 1, none⟩ = some (.int .i64 0) := (blk_cell BK535.out 1).trans rfl
       have hfs109 := blk_frozen BK535.out 1
       have hns109_1 := NB536_535.out
       have hns109_2 := NB557_535.out
       have hns109_3 := NB558_535.out
       have hms109_1 := NB535_536.out
       have hms109_2 := NB535_557.out
       have hms109_3 := NB535_558.out
       have hs110 : w107.cell? ⟨gb535, 2, none⟩ = some (.int .i64 0) := (blk_cell BK535.out 2).trans rfl
       have hfs110 := blk_frozen BK535.out 2
       have hns110_1 := NB536_535.out
       have hns110_2 := NB557_535.out
       have hns110_3 := NB558_535.out
       have hms110_1 := NB535_536.out
       have hms110_2 := NB535_557.out
       have hms110_3 := NB535_558.out
       have hs112 : w107.cell? ⟨gb535, 3, none⟩ = some (.slice none 0 0) := (blk_cell BK535.out 3).trans rfl
       have hfs112 := blk_frozen BK535.out 3
       have hns112_1 := NB536_535.out
       have hns112_2 := NB557_535.out
       have hns112_3 := NB558_535.out
       have hms112_1 := NB535_536.out
       have hms112_2 := NB535_557.out
       have hms112_3 := NB535_558.out
       refine skip_ (w1 := ?_) (by rfl) rfl ?_ ?_
       rotate_left
       ·go_simp
        rfl
       refine hK.out _ _ ⟨((cell_far (p := ⟨gb535, _, none⟩) NB557_535.out _).trans (((cell_far (p := ⟨gb535, _, none⟩) NB557_535.out _).trans (((cell_far (p := ⟨gb535, _, none⟩) NB557_535.out _).trans (((cell_far (p := ⟨gb535, _, none⟩) NB557_535.out _).trans (hHeld.1)))))))), ((cell_far (p := ⟨gb535, _, none⟩) NB557_535.out _).trans (((cell_far (p := ⟨gb535, _, none⟩) NB557_535.out _).trans (((cell_far (p := ⟨gb535, _, none⟩) NB557_535.out _).trans (((cell_far (p := ⟨gb535, _, none⟩) NB557_535.out _).trans (hHeld.2.1)))))))), ((cell_far (p := ⟨gb535, _, none⟩) NB557_535.out _).trans (((cell_far (p := ⟨gb535, _, none⟩) NB557_535.out _).trans (((cell_far (p := ⟨gb535, _, none⟩) NB557_535.out _).trans (((cell_far (p := ⟨gb535, _, none⟩) NB557_535.out _).trans (hHeld.2.2.1)))))))), ((cell_far (p := ⟨gb535, _, none⟩) NB557_535.out _).trans (((cell_far (p := ⟨gb535, _, none⟩) NB557_535.out _).trans (((cell_far (p := ⟨gb535, _, none⟩) NB557_535.out _).trans (((cell_far (p := ⟨gb535, _, none⟩) NB557_535.out _).trans (hHeld.2.2.2.1)))))))), ((cell_far (p := ⟨gb535, _, none⟩) NB558_535.out _).trans (((cell_far (p := ⟨gb535, _, none⟩) NB558_535.out _).trans (((cell_far (p := ⟨gb535, _, none⟩) NB558_535.out _).trans (((cell_far (p := ⟨gb535, _, none⟩) NB558_535.out _).trans (hHeld.2.2.2.2.1)))))))), ((cell_far (p := ⟨gb535, _, none⟩) NB558_535.out _).trans (((cell_far (p := ⟨gb535, _, none⟩) NB558_535.out _).trans (((cell_far (p := ⟨gb535, _, none⟩) NB558_535.out _).trans (((cell_far (p := ⟨gb535, _, none⟩) NB558_535.out _).trans (hHeld.2.2.2.2.2.1)))))))), ((cell_far (p := ⟨gb535, _, none⟩) NB558_535.out _).trans (((cell_far (p := ⟨gb535, _, none⟩) NB558_535.out _).trans (((cell_far (p := ⟨gb535, _, none⟩) NB558_535.out _).trans (((cell_far (p := ⟨gb535, _, none⟩) NB558_535.out _).trans (hHeld.2.2.2.2.2.2.1)))))))), ((cell_far (p := ⟨gb535, _, none⟩) NB558_535.out _).trans (((cell_far (p := ⟨gb535, _, none⟩) NB558_535.out _).trans (((cell_far (p := ⟨gb535, _, none⟩) NB558_535.out _).trans (((cell_far (p := ⟨gb535, _, none⟩) NB558_535.out _).trans (hHeld.2.2.2.2.2.2.2))))))))⟩ (fun hHeld => ?_)
       clear hK K
       refine one_ (i := 3) (N := none) (bs 4 15) rfl rfl (by kernel_rfl) (by decide) (fun K hK => ?_)
       have hs113 : w107.cell? ⟨gb536, 0, none⟩ = some (.int .i64 0) := (blk_cell BK536.out 0).trans rfl
       have hfs113 := blk_frozen BK536.out 0
       have hns113_0 := NB535_536.out
       have hns113_2 := NB557_536.out
       have hns113_3 := NB558_536.out
       have hms113_0 := NB536_535.out
       have hms113_2 := NB536_557.out
       have hms113_3 := NB536_558.out
       have hs114 : w107.cell? ⟨gb536, 1, none⟩ = some (.int .i64 0) := (blk_cell BK536.out 1).trans rfl
       have hfs114 := blk_frozen BK536.out 1
       have hns114_0 := NB535_536.out
       have hns114_2 := NB557_536.out
       have hns114_3 := NB558_536.out
       have hms114_0 := NB536_535.out
       have hms114_2 := NB536_557.out
       have hms114_3 := NB536_558.out
       have hs115 : w107.cell? ⟨gb536, 2, none⟩ = some (.int .i64 0) := (blk_cell BK536.out 2).trans rfl
       have hfs115 := blk_frozen BK536.out 2
       have hns115_0 := NB535_536.out
       have hns115_2 := NB557_536.out
       have hns115_3 := NB558_536.out
       have hms115_0 := NB536_535.out
       have hms115_2 := NB536_557.out
       have hms115_3 := NB536_558.out
       have hs117 : w107.cell? ⟨gb536, 3, none⟩ = some (.slice none 0 0) := (blk_cell BK536.out 3).trans rfl
       have hfs117 := blk_frozen BK536.out 3
       have hns117_0 := NB535_536.out
       have hns117_2 := NB557_536.out
       have hns117_3 := NB558_536.out
       have hms117_0 := NB536_535.out
       have hms117_2 := NB536_557.out
       have hms117_3 := NB536_558.out
       refine skip_ (w1 := ?_) (by rfl) rfl ?_ ?_
       rotate_left
       ·go_simp
        rfl
       refine hK.out _ _ ⟨((cell_far (p := ⟨gb536, _, none⟩) NB557_536.out _).trans (((cell_far (p := ⟨gb536, _, none⟩) NB557_536.out _).trans (((cell_far (p := ⟨gb536, _, none⟩) NB557_536.out _).trans (((cell_far (p := ⟨gb536, _, none⟩) NB557_536.out _).trans (hHeld.1)))))))), ((cell_far (p := ⟨gb536, _, none⟩) NB557_536.out _).trans (((cell_far (p := ⟨gb536, _, none⟩) NB557_536.out _).trans (((cell_far (p := ⟨gb536, _, none⟩) NB557_536.out _).trans (((cell_far (p := ⟨gb536, _, none⟩) NB557_536.out _).trans (hHeld.2.1)))))))), ((cell_far (p := ⟨gb536, _, none⟩) NB557_536.out _).trans (((cell_far (p := ⟨gb536, _, none⟩) NB557_536.out _).trans (((cell_far (p := ⟨gb536, _, none⟩) NB557_536.out _).trans (((cell_far (p := ⟨gb536, _, none⟩) NB557_536.out _).trans (hHeld.2.2.1)))))))), ((cell_far (p := ⟨gb536, _, none⟩) NB557_536.out _).trans (((cell_far (p := ⟨gb536, _, none⟩) NB557_536.out _).trans (((cell_far (p := ⟨gb536, _, none⟩) NB557_536.out _).trans (((cell_far (p := ⟨gb536, _, none⟩) NB557_536.out _).trans (hHeld.2.2.2.1)))))))), ((cell_far (p := ⟨gb536, _, none⟩) NB558_536.out _).trans (((cell_far (p := ⟨gb536, _, none⟩) NB558_536.out _).trans (((cell_far (p := ⟨gb536, _, none⟩) NB558_536.out _).trans (((cell_far (p := ⟨gb536, _, none⟩) NB558_536.out _).trans (hHeld.2.2.2.2.1)))))))), ((cell_far (p := ⟨gb536, _, none⟩) NB558_536.out _).trans (((cell_far (p := ⟨gb536, _, none⟩) NB558_536.out _).trans (((cell_far (p := ⟨gb536, _, none⟩) NB558_536.out _).trans (((cell_far (p := ⟨gb536, _, none⟩) NB558_536.out _).trans (hHeld.2.2.2.2.2.1)))))))), ((cell_far (p := ⟨gb536, _, none⟩) NB558_536.out _).trans (((cell_far (p := ⟨gb536, _, none⟩) NB558_536.out _).trans (((cell_far (p := ⟨gb536, _, none⟩) NB558_536.out _).trans (((cell_far (p := ⟨gb536, _, none⟩) NB558_536.out _).trans (hHeld.2.2.2.2.2.2.1)))))))), ((cell_far (p := ⟨gb536, _, none⟩) NB558_536.out _).trans (((cell_far (p := ⟨gb536, _, none⟩) NB558_536.out _).trans (((cell_far (p := ⟨gb536, _, none⟩) NB558_536.out _).trans (((cell_far (p := ⟨gb536, _, none⟩) NB558_536.out _).trans (hHeld.2.2.2.2.2.2.2))))))))⟩ (fun hHeld => ?_)
       clear hK K
       refine done_ (by kernel_rfl) ?_
       try go_wp2
       refine bodyPost_ret (results_cc rfl _ _ gb535 gb536 27 27 #[.int .i64 x558000_5, .int .i64 x558001_5, .int .i64 x558002_5, .slice Ao111 x558003_5.length co111] #[.int .i64 x559000_5, .int .i64 x559001_5, .int .i64 x559002_5, .slice Ao116 x559003_5.length co116] (0, 0) (0, 0) _ _ rfl (by refine blk_far ?_ NB535_536.out _; refine blk_far ?_ NB535_536.out _; refine blk_far ?_ NB535_536.out _; refine blk_far ?_ NB535_536.out _; refine blk_put (cs := #[.int .i64 x558000_5, .int .i64 x558001_5, .int .i64 x558002_5, .slice none 0 0]) ?_ 3 _ rfl; refine blk_put (cs := #[.int .i64 x558000_5, .int .i64 x558001_5, .int .i64 0, .slice none 0 0]) ?_ 2 _ rfl; refine blk_put (cs := #[.int .i64 x558000_5, .int .i64 0, .int .i64 0, .slice none 0 0]) ?_ 1 _ rfl; refine blk_put (cs := #[.int .i64 0, .int .i64 0, .int .i64 0, .slice none 0 0]) ?_ 0 _ rfl; exact BK535.out) Tryz.underlying27 rfl (by kernel_rfl) rfl (by refine blk_put (cs := #[.int .i64 x559000_5, .int .i64 x559001_5, .int .i64 x559002_5, .slice none 0 0]) ?_ 3 _ rfl; refine blk_put (cs := #[.int .i64 x559000_5, .int .i64 x559001_5, .int .i64 0, .slice none 0 0]) ?_ 2 _ rfl; refine blk_put (cs := #[.int .i64 x559000_5, .int .i64 0, .int .i64 0, .slice none 0 0]) ?_ 1 _ rfl; refine blk_put (cs := #[.int .i64 0, .int .i64 0, .int .i64 0, .slice none 0 0]) ?_ 0 _ rfl; refine blk_far ?_ NB536_535.out _; refine blk_far ?_ NB536_535.out _; refine blk_far ?_ NB536_535.out _; refine blk_far ?_ NB536_535.out _; exact BK536.out) Tryz.underlying27 rfl (by kernel_rfl)) rfl ?_
       exact ⟨_, _, rfl, Kd.R_mono (Kd.R_far (p := ⟨gb536, 3, none⟩) (Kd.R_far (p := ⟨gb536, 2, none⟩) (Kd.R_far (p := ⟨gb536, 1, none⟩) (Kd.R_far (p := ⟨gb536, 0, none⟩) (Kd.R_far (p := ⟨gb535, 3, none⟩) (Kd.R_far (p := ⟨gb535, 2, none⟩) (Kd.R_far (p := ⟨gb535, 1, none⟩) (Kd.R_far (p := ⟨gb535, 0, none⟩) (Kd.R_types (Kd.R_types HO_558003.out BK535.out (by decide)) BK536.out (by decide)) (fun _ hk => hk.1.2) (.int .i64 x558000_5)) (fun _ hk => hk.1.2) (.int .i64 x558001_5)) (fun _ hk => hk.1.2) (.int .i64 x558002_5)) (fun _ hk => hk.1.2) (.slice Ao111 x558003_5.length co111)) (fun _ hk => hk.2) (.int .i64 x559000_5)) (fun _ hk => hk.2) (.int .i64 x559001_5)) (fun _ hk => hk.2) (.int .i64 x559002_5)) (fun _ hk => hk.2) (.slice Ao116 x559003_5.length co116)) (fun _ hk => hk.1.1), Kd.R_mono (Kd.R_far (p := ⟨gb536, 3, none⟩) (Kd.R_far (p := ⟨gb536, 2, none⟩) (Kd.R_far (p := ⟨gb536, 1, none⟩) (Kd.R_far (p := ⟨gb536, 0, none⟩) (Kd.R_far (p := ⟨gb535, 3, none⟩) (Kd.R_far (p := ⟨gb535, 2, none⟩) (Kd.R_far (p := ⟨gb535, 1, none⟩) (Kd.R_far (p := ⟨gb535, 0, none⟩) (Kd.R_types (Kd.R_types HO_559003.out BK535.out (by decide)) BK536.out (by decide)) (fun _ hk => hk.1.2) (.int .i64 x558000_5)) (fun _ hk => hk.1.2) (.int .i64 x558001_5)) (fun _ hk => hk.1.2) (.int .i64 x558002_5)) (fun _ hk => hk.1.2) (.slice Ao111 x558003_5.length co111)) (fun _ hk => hk.2) (.int .i64 x559000_5)) (fun _ hk => hk.2) (.int .i64 x559001_5)) (fun _ hk => hk.2) (.int .i64 x559002_5)) (fun _ hk => hk.2) (.slice Ao116 x559003_5.length co116)) (fun _ hk => hk.1.1), by repeat (with_reducible first | exact HI0.out | apply IsS94.alloc | apply IsS94.drewN | apply IsS94.drew | apply IsS94.set_1 | refine IsS94.far ?_ NB0_535.out _ | refine IsS94.far ?_ NB0_536.out _ | refine IsS94.far ?_ NB0_557.out _ | refine IsS94.far ?_ NB0_558.out _), by repeat (with_reducible first | exact HB.out | apply below_alloc | apply pw_below_drewN | apply below_drew1 | refine below_set ?_ (IsS94.ge HI0.out) | refine below_set ?_ GE535.out | refine below_set ?_ GE536.out | refine below_set ?_ GE557.out | refine below_set ?_ GE558.out), by repeat (with_reducible first | exact HK.out | apply KeepBut.set_ | apply keep_drewN | apply keep_drew | apply keep_alloc | refine keep_far ?_ GW535.out _ | refine keep_far ?_ GW536.out _ | refine keep_far ?_ GW557.out _ | refine keep_far ?_ GW558.out _)⟩
     ·rw [if_neg c89] at H
      have c89b0 : (t576 == 2) = false := beq_eq_false_iff_ne.mpr c89
      have c89b1 : (t576 != 2) = true := bne_iff_ne.mpr c89
      simp only [Option.some.injEq, Prod.mk.injEq] at H
      obtain ⟨rfl, rfl, rfl, rfl, rfl, rfl, rfl, rfl, rfl⟩ := H
      try go_wp2_with (first | ((with_reducible refine gate_callee (f := 45) rfl ?_); refine goesZ (some 38) Tryz.func45 #[.pointer (some ⟨g, 0, none⟩), .int .i64 8] ?_; (with_reducible refine (spec_l6Rd_pick.calls kj5 g s0_0 x1001_5 8 t576 t577 w0 _ ?side1 ?side2 A44.out).mono ?_); (case side1 => repeat (with_reducible first | exact HI0.out | apply IsS94.alloc | apply IsS94.drewN | apply IsS94.drew | apply IsS94.set_1 | refine IsS94.far ?_ NB0_535.out _ | refine IsS94.far ?_ NB0_536.out _ | refine IsS94.far ?_ NB0_557.out _ | refine IsS94.far ?_ NB0_558.out _)); (case side2 => repeat (with_reducible first | exact HB.out | apply below_alloc | apply pw_below_drewN | apply below_drew1 | refine below_set ?_ (IsS94.ge HI0.out) | refine below_set ?_ GE535.out | refine below_set ?_ GE536.out | refine below_set ?_ GE557.out | refine below_set ?_ GE558.out)); rintro e w118 ⟨rfl, hi, hb, hk⟩; refine ⟨_, rfl, ?_⟩; replace HO_558003 := Aside0.mk (Kd.R_mono (Kd.R_keep (IsS94.apart (show IsS94 w0 _ g s0_0 x1001_5 from by repeat (with_reducible first | exact HI0.out | apply IsS94.alloc | apply IsS94.drewN | apply IsS94.drew | apply IsS94.set_1 | refine IsS94.far ?_ NB0_535.out _ | refine IsS94.far ?_ NB0_536.out _ | refine IsS94.far ?_ NB0_557.out _ | refine IsS94.far ?_ NB0_558.out _)) (HO_558003.out) (by decide)) hk (fun _ h => h.2)) (fun _ h => h.1)); replace HO_559003 := Aside0.mk (Kd.R_mono (Kd.R_keep (IsS94.apart (show IsS94 w0 _ g s0_0 x1001_5 from by repeat (with_reducible first | exact HI0.out | apply IsS94.alloc | apply IsS94.drewN | apply IsS94.drew | apply IsS94.set_1 | refine IsS94.far ?_ NB0_535.out _ | refine IsS94.far ?_ NB0_536.out _ | refine IsS94.far ?_ NB0_557.out _ | refine IsS94.far ?_ NB0_558.out _)) (HO_559003.out) (by decide)) hk (fun _ h => h.2)) (fun _ h => h.1)); replace BK535 := kbZ hk BK535.out NB535_0.out; replace BK536 := kbZ hk BK536.out NB536_0.out; replace BK557 := kbZ hk BK557.out NB557_0.out; replace BK558 := kbZ hk BK558.out NB558_0.out; replace HK := Aside0.mk (KeepBut.trans (by repeat (with_reducible first | exact HK.out | apply KeepBut.set_ | apply keep_drewN | apply keep_drew | apply keep_alloc | refine keep_far ?_ GW535.out _ | refine keep_far ?_ GW536.out _ | refine keep_far ?_ GW557.out _ | refine keep_far ?_ GW558.out _)) hk (.inl rfl)); replace HB := Aside0.mk (hb); replace HI0 := Aside0.mk (hi); clear hb hk hi))
      replace HO_558003 := Aside0.mk (Kd.R_drew HO_558003.out)
      replace HO_559003 := Aside0.mk (Kd.R_drew HO_559003.out)
      replace BK535 := Aside0.mk (blk_drew BK535.out)
      replace BK536 := Aside0.mk (blk_drew BK536.out)
      replace BK557 := Aside0.mk (blk_drew BK557.out)
      replace BK558 := Aside0.mk (blk_drew BK558.out)
      replace HI0 := Aside0.mk (IsS94.drew HI0.out)
      replace HK := Aside0.mk (keep_drew HK.out)
      replace HB := Aside0.mk (below_drew1 HB.out)
      obtain ⟨Ao123, co123, eo123⟩ := Kd.R_slice HO_558003.out
      (first | subst eo123 | (injection eo123 with f1_ f2_ f3_; have f4_ := f1_.symm; have f5_ := f3_.symm; clear f1_ f2_ f3_; subst f4_; subst f5_))
      obtain ⟨Ao128, co128, eo128⟩ := Kd.R_slice HO_559003.out
      (first | subst eo128 | (injection eo128 with f1_ f2_ f3_; have f4_ := f1_.symm; have f5_ := f3_.symm; clear f1_ f2_ f3_; subst f4_; subst f5_))
      refine start_ (n := 4) (S := fun w' => w'.cell? ⟨gb557, 0, none⟩ = some (.int .i64 x558000_5) ∧ w'.cell? ⟨gb557, 1, none⟩ = some (.int .i64 x558001_5) ∧ w'.cell? ⟨gb557, 2, none⟩ = some (.int .i64 x558002_5) ∧ w'.cell? ⟨gb557, 3, none⟩ = some (.slice Ao123 x558003_5.length co123) ∧ w'.cell? ⟨gb558, 0, none⟩ = some (.int .i64 x559000_5) ∧ w'.cell? ⟨gb558, 1, none⟩ = some (.int .i64 x559001_5) ∧ w'.cell? ⟨gb558, 2, none⟩ = some (.int .i64 x559002_5) ∧ w'.cell? ⟨gb558, 3, none⟩ = some (.slice Ao128 x559003_5.length co128)) (ds := []) (bs 4 0) (by kernel_rfl) rfl rfl ⟨(blk_cell BK557.out 0).trans rfl, (blk_cell BK557.out 1).trans rfl, (blk_cell BK557.out 2).trans rfl, (blk_cell BK557.out 3).trans rfl, (blk_cell BK558.out 0).trans rfl, (blk_cell BK558.out 1).trans rfl, (blk_cell BK558.out 2).trans rfl, (blk_cell BK558.out 3).trans rfl⟩ (fun hHeld => ?_)
      generalize w118.drew = w119 at HO_558003 HO_559003 BK535 BK536 BK557 BK558 HI0 HK HB hHeld ⊢
      refine tZ 0 (some 64) (bs 4 1) rfl rfl (by kernel_rfl) hHeld (by rintro w' ⟨s0, s1, s2, s3, s4, s5, s6, s7⟩; go_simp; with_reducible rfl) ?_
      refine tZ 1 (some 65) (bs 4 3) rfl rfl (by kernel_rfl) hHeld (by rintro w' ⟨s0, s1, s2, s3, s4, s5, s6, s7⟩; go_simp; with_reducible rfl) ?_
      refine one_ (i := 2) (N := none) (bs 4 7) rfl rfl (by kernel_rfl) (by decide) (fun K hK => ?_)
      have hs120 : w119.cell? ⟨gb535, 0, none⟩ = some (.int .i64 0) := (blk_cell BK535.out 0).trans rfl
      have hfs120 := blk_frozen BK535.out 0
      have hns120_1 := NB536_535.out
      have hns120_2 := NB557_535.out
      have hns120_3 := NB558_535.out
      have hms120_1 := NB535_536.out
      have hms120_2 := NB535_557.out
      have hms120_3 := NB535_558.out
      have hs121 : w119.cell? ⟨gb535, 1, none⟩ = some (.int .i64 0) := (blk_cell BK535.out 1).trans rfl
      have hfs121 := blk_frozen BK535.out 1
      have hns121_1 := NB536_535.out
      have hns121_2 := NB557_535.out
      have hns121_3 := NB558_535.out
      have hms121_1 := NB535_536.out
      have hms121_2 := NB535_557.out
      have hms121_3 := NB535_558.out
      have hs122 : w119.cell? ⟨gb535, 2, none⟩ = some (.int .i64 0) := (blk_cell BK535.out 2).trans rfl
      have hfs122 := blk_frozen BK535.out 2
      have hns122_1 := NB536_535.out
      have hns122_2 := NB557_535.out
      have hns122_3 := NB558_535.out
      have hms122_1 := NB535_536.out
      have hms122_2 := NB535_557.out
      have hms122_3 := NB535_558.out
      have hs124 : w119.cell? ⟨gb535, 3, none⟩ = some (.slice none 0 0) := (blk_cell BK535.out 3).trans rfl
      have hfs124 := blk_frozen BK535.out 3
      have hns124_1 := NB536_535.out
      have hns124_2 := NB557_535.out
      have hns124_3 := NB558_535.out
      have hms124_1 := NB535_536.out
      have hms124_2 := NB535_557.out
      have hms124_3 := NB535_558.out
      refine skip_ (w1 := ?_) (by rfl) rfl ?_ ?_
      rotate_left
      ·go_simp
       rfl
      refine hK.out _ _ ⟨((cell_far (p := ⟨gb535, _, none⟩) NB557_535.out _).trans (((cell_far (p := ⟨gb535, _, none⟩) NB557_535.out _).trans (((cell_far (p := ⟨gb535, _, none⟩) NB557_535.out _).trans (((cell_far (p := ⟨gb535, _, none⟩) NB557_535.out _).trans (hHeld.1)))))))), ((cell_far (p := ⟨gb535, _, none⟩) NB557_535.out _).trans (((cell_far (p := ⟨gb535, _, none⟩) NB557_535.out _).trans (((cell_far (p := ⟨gb535, _, none⟩) NB557_535.out _).trans (((cell_far (p := ⟨gb535, _, none⟩) NB557_535.out _).trans (hHeld.2.1)))))))), ((cell_far (p := ⟨gb535, _, none⟩) NB557_535.out _).trans (((cell_far (p := ⟨gb535, _, none⟩) NB557_535.out _).trans (((cell_far (p := ⟨gb535, _, none⟩) NB557_535.out _).trans (((cell_far (p := ⟨gb535, _, none⟩) NB557_535.out _).trans (hHeld.2.2.1)))))))), ((cell_far (p := ⟨gb535, _, none⟩) NB557_535.out _).trans (((cell_far (p := ⟨gb535, _, none⟩) NB557_535.out _).trans (((cell_far (p := ⟨gb535, _, none⟩) NB557_535.out _).trans (((cell_far (p := ⟨gb535, _, none⟩) NB557_535.out _).trans (hHeld.2.2.2.1)))))))), ((cell_far (p := ⟨gb535, _, none⟩) NB558_535.out _).trans (((cell_far (p := ⟨gb535, _, none⟩) NB558_535.out _).trans (((cell_far (p := ⟨gb535, _, none⟩) NB558_535.out _).trans (((cell_far (p := ⟨gb535, _, none⟩) NB558_535.out _).trans (hHeld.2.2.2.2.1)))))))), ((cell_far (p := ⟨gb535, _, none⟩) NB558_535.out _).trans (((cell_far (p := ⟨gb535, _, none⟩) NB558_535.out _).trans (((cell_far (p := ⟨gb535, _, none⟩) NB558_535.out _).trans (((cell_far (p := ⟨gb535, _, none⟩) NB558_535.out _).trans (hHeld.2.2.2.2.2.1)))))))), ((cell_far (p := ⟨gb535, _, none⟩) NB558_535.out _).trans (((cell_far (p := ⟨gb535, _, none⟩) NB558_535.out _).trans (((cell_far (p := ⟨gb535, _, none⟩) NB558_535.out _).trans (((cell_far (p := ⟨gb535, _, none⟩) NB558_535.out _).trans (hHeld.2.2.2.2.2.2.1)))))))), ((cell_far (p := ⟨gb535, _, none⟩) NB558_535.out _).trans (((cell_far (p := ⟨gb535, _, none⟩) NB558_535.out _).trans (((cell_far (p := ⟨gb535, _, none⟩) NB558_535.out _).trans (((cell_far (p := ⟨gb535, _, none⟩) NB558_535.out _).trans (hHeld.2.2.2.2.2.2.2))))))))⟩ (fun hHeld => ?_)
      clear hK K
      refine one_ (i := 3) (N := none) (bs 4 15) rfl rfl (by kernel_rfl) (by decide) (fun K hK => ?_)
      have hs125 : w119.cell? ⟨gb536, 0, none⟩ = some (.int .i64 0) := (blk_cell BK536.out 0).trans rfl
      have hfs125 := blk_frozen BK536.out 0
      have hns125_0 := NB535_536.out
      have hns125_2 := NB557_536.out
      have hns125_3 := NB558_536.out
      have hms125_0 := NB536_535.out
      have hms125_2 := NB536_557.out
      have hms125_3 := NB536_558.out
      have hs126 : w119.cell? ⟨gb536, 1, none⟩ = some (.int .i64 0) := (blk_cell BK536.out 1).trans rfl
      have hfs126 := blk_frozen BK536.out 1
      have hns126_0 := NB535_536.out
      have hns126_2 := NB557_536.out
      have hns126_3 := NB558_536.out
      have hms126_0 := NB536_535.out
      have hms126_2 := NB536_557.out
      have hms126_3 := NB536_558.out
      have hs127 : w119.cell? ⟨gb536, 2, none⟩ = some (.int .i64 0) := (blk_cell BK536.out 2).trans rfl
      have hfs127 := blk_frozen BK536.out 2
      have hns127_0 := NB535_536.out
      have hns127_2 := NB557_536.out
      have hns127_3 := NB558_536.out
      have hms127_0 := NB536_535.out
      have hms127_2 := NB536_557.out
      have hms127_3 := NB536_558.out
      have hs129 : w119.cell? ⟨gb536, 3, none⟩ = some (.slice none 0 0) := (blk_cell BK536.out 3).trans rfl
      have hfs129 := blk_frozen BK536.out 3
      have hns129_0 := NB535_536.out
      have hns129_2 := NB557_536.out
      have hns129_3 := NB558_536.out
      have hms129_0 := NB536_535.out
      have hms129_2 := NB536_557.out
      have hms129_3 := NB536_558.out
      refine skip_ (w1 := ?_) (by rfl) rfl ?_ ?_
      rotate_left
      ·go_simp
       rfl
      refine hK.out _ _ ⟨((cell_far (p := ⟨gb536, _, none⟩) NB557_536.out _).trans (((cell_far (p := ⟨gb536, _, none⟩) NB557_536.out _).trans (((cell_far (p := ⟨gb536, _, none⟩) NB557_536.out _).trans (((cell_far (p := ⟨gb536, _, none⟩) NB557_536.out _).trans (hHeld.1)))))))), ((cell_far (p := ⟨gb536, _, none⟩) NB557_536.out _).trans (((cell_far (p := ⟨gb536, _, none⟩) NB557_536.out _).trans (((cell_far (p := ⟨gb536, _, none⟩) NB557_536.out _).trans (((cell_far (p := ⟨gb536, _, none⟩) NB557_536.out _).trans (hHeld.2.1)))))))), ((cell_far (p := ⟨gb536, _, none⟩) NB557_536.out _).trans (((cell_far (p := ⟨gb536, _, none⟩) NB557_536.out _).trans (((cell_far (p := ⟨gb536, _, none⟩) NB557_536.out _).trans (((cell_far (p := ⟨gb536, _, none⟩) NB557_536.out _).trans (hHeld.2.2.1)))))))), ((cell_far (p := ⟨gb536, _, none⟩) NB557_536.out _).trans (((cell_far (p := ⟨gb536, _, none⟩) NB557_536.out _).trans (((cell_far (p := ⟨gb536, _, none⟩) NB557_536.out _).trans (((cell_far (p := ⟨gb536, _, none⟩) NB557_536.out _).trans (hHeld.2.2.2.1)))))))), ((cell_far (p := ⟨gb536, _, none⟩) NB558_536.out _).trans (((cell_far (p := ⟨gb536, _, none⟩) NB558_536.out _).trans (((cell_far (p := ⟨gb536, _, none⟩) NB558_536.out _).trans (((cell_far (p := ⟨gb536, _, none⟩) NB558_536.out _).trans (hHeld.2.2.2.2.1)))))))), ((cell_far (p := ⟨gb536, _, none⟩) NB558_536.out _).trans (((cell_far (p := ⟨gb536, _, none⟩) NB558_536.out _).trans (((cell_far (p := ⟨gb536, _, none⟩) NB558_536.out _).trans (((cell_far (p := ⟨gb536, _, none⟩) NB558_536.out _).trans (hHeld.2.2.2.2.2.1)))))))), ((cell_far (p := ⟨gb536, _, none⟩) NB558_536.out _).trans (((cell_far (p := ⟨gb536, _, none⟩) NB558_536.out _).trans (((cell_far (p := ⟨gb536, _, none⟩) NB558_536.out _).trans (((cell_far (p := ⟨gb536, _, none⟩) NB558_536.out _).trans (hHeld.2.2.2.2.2.2.1)))))))), ((cell_far (p := ⟨gb536, _, none⟩) NB558_536.out _).trans (((cell_far (p := ⟨gb536, _, none⟩) NB558_536.out _).trans (((cell_far (p := ⟨gb536, _, none⟩) NB558_536.out _).trans (((cell_far (p := ⟨gb536, _, none⟩) NB558_536.out _).trans (hHeld.2.2.2.2.2.2.2))))))))⟩ (fun hHeld => ?_)
      clear hK K
      refine done_ (by kernel_rfl) ?_
      try go_wp2
      refine bodyPost_ret (results_cc rfl _ _ gb535 gb536 27 27 #[.int .i64 x558000_5, .int .i64 x558001_5, .int .i64 x558002_5, .slice Ao123 x558003_5.length co123] #[.int .i64 x559000_5, .int .i64 x559001_5, .int .i64 x559002_5, .slice Ao128 x559003_5.length co128] (0, 0) (0, 0) _ _ rfl (by refine blk_far ?_ NB535_536.out _; refine blk_far ?_ NB535_536.out _; refine blk_far ?_ NB535_536.out _; refine blk_far ?_ NB535_536.out _; refine blk_put (cs := #[.int .i64 x558000_5, .int .i64 x558001_5, .int .i64 x558002_5, .slice none 0 0]) ?_ 3 _ rfl; refine blk_put (cs := #[.int .i64 x558000_5, .int .i64 x558001_5, .int .i64 0, .slice none 0 0]) ?_ 2 _ rfl; refine blk_put (cs := #[.int .i64 x558000_5, .int .i64 0, .int .i64 0, .slice none 0 0]) ?_ 1 _ rfl; refine blk_put (cs := #[.int .i64 0, .int .i64 0, .int .i64 0, .slice none 0 0]) ?_ 0 _ rfl; exact BK535.out) Tryz.underlying27 rfl (by kernel_rfl) rfl (by refine blk_put (cs := #[.int .i64 x559000_5, .int .i64 x559001_5, .int .i64 x559002_5, .slice none 0 0]) ?_ 3 _ rfl; refine blk_put (cs := #[.int .i64 x559000_5, .int .i64 x559001_5, .int .i64 0, .slice none 0 0]) ?_ 2 _ rfl; refine blk_put (cs := #[.int .i64 x559000_5, .int .i64 0, .int .i64 0, .slice none 0 0]) ?_ 1 _ rfl; refine blk_put (cs := #[.int .i64 0, .int .i64 0, .int .i64 0, .slice none 0 0]) ?_ 0 _ rfl; refine blk_far ?_ NB536_535.out _; refine blk_far ?_ NB536_535.out _; refine blk_far ?_ NB536_535.out _; refine blk_far ?_ NB536_535.out _; exact BK536.out) Tryz.underlying27 rfl (by kernel_rfl)) rfl ?_
      exact ⟨_, _, rfl, Kd.R_mono (Kd.R_far (p := ⟨gb536, 3, none⟩) (Kd.R_far (p := ⟨gb536, 2, none⟩) (Kd.R_far (p := ⟨gb536, 1, none⟩) (Kd.R_far (p := ⟨gb536, 0, none⟩) (Kd.R_far (p := ⟨gb535, 3, none⟩) (Kd.R_far (p := ⟨gb535, 2, none⟩) (Kd.R_far (p := ⟨gb535, 1, none⟩) (Kd.R_far (p := ⟨gb535, 0, none⟩) (Kd.R_types (Kd.R_types HO_558003.out BK535.out (by decide)) BK536.out (by decide)) (fun _ hk => hk.1.2) (.int .i64 x558000_5)) (fun _ hk => hk.1.2) (.int .i64 x558001_5)) (fun _ hk => hk.1.2) (.int .i64 x558002_5)) (fun _ hk => hk.1.2) (.slice Ao123 x558003_5.length co123)) (fun _ hk => hk.2) (.int .i64 x559000_5)) (fun _ hk => hk.2) (.int .i64 x559001_5)) (fun _ hk => hk.2) (.int .i64 x559002_5)) (fun _ hk => hk.2) (.slice Ao128 x559003_5.length co128)) (fun _ hk => hk.1.1), Kd.R_mono (Kd.R_far (p := ⟨gb536, 3, none⟩) (Kd.R_far (p := ⟨gb536, 2, none⟩) (Kd.R_far (p := ⟨gb536, 1, none⟩) (Kd.R_far (p := ⟨gb536, 0, none⟩) (Kd.R_far (p := ⟨gb535, 3, none⟩) (Kd.R_far (p := ⟨gb535, 2, none⟩) (Kd.R_far (p := ⟨gb535, 1, none⟩) (Kd.R_far (p := ⟨gb535, 0, none⟩) (Kd.R_types (Kd.R_types HO_559003.out BK535.out (by decide)) BK536.out (by decide)) (fun _ hk => hk.1.2) (.int .i64 x558000_5)) (fun _ hk => hk.1.2) (.int .i64 x558001_5)) (fun _ hk => hk.1.2) (.int .i64 x558002_5)) (fun _ hk => hk.1.2) (.slice Ao123 x558003_5.length co123)) (fun _ hk => hk.2) (.int .i64 x559000_5)) (fun _ hk => hk.2) (.int .i64 x559001_5)) (fun _ hk => hk.2) (.int .i64 x559002_5)) (fun _ hk => hk.2) (.slice Ao128 x559003_5.length co128)) (fun _ hk => hk.1.1), by repeat (with_reducible first | exact HI0.out | apply IsS94.alloc | apply IsS94.drewN | apply IsS94.drew | apply IsS94.set_1 | refine IsS94.far ?_ NB0_535.out _ | refine IsS94.far ?_ NB0_536.out _ | refine IsS94.far ?_ NB0_557.out _ | refine IsS94.far ?_ NB0_558.out _), by repeat (with_reducible first | exact HB.out | apply below_alloc | apply pw_below_drewN | apply below_drew1 | refine below_set ?_ (IsS94.ge HI0.out) | refine below_set ?_ GE535.out | refine below_set ?_ GE536.out | refine below_set ?_ GE557.out | refine below_set ?_ GE558.out), by repeat (with_reducible first | exact HK.out | apply KeepBut.set_ | apply keep_drewN | apply keep_drew | apply keep_alloc | refine keep_far ?_ GW535.out _ | refine keep_far ?_ GW536.out _ | refine keep_far ?_ GW557.out _ | refine keep_far ?_ GW558.out _)⟩
end Go.Proofs.YtlgbblaidohljaaGreatDoor.Zk
