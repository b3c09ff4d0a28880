import Derived.Test.YtlgbblaidohljaaGreatDoorZ
import Derived.Test.YtlgbblaidohljaaGreatDoorZc0
import Derived.Test.YtlgbblaidohljaaGreatDoorZc8
import Derived.Test.YtlgbblaidohljaaGreatDoorZc9
import Derived.Test.YtlgbblaidohljaaGreatDoorZc11
namespace Go.Proofs.YtlgbblaidohljaaGreatDoor.Zc
open Go.RowKit Go.Proofs.YtlgbblaidohljaaGreatDoorU.PrintWords Go.Proofs.YtlgbblaidohljaaGreatDoorU.PrintLast Go.Proofs.YtlgbblaidohljaaGreatDoorU.PrintMore Go.Proofs.YtlgbblaidohljaaGreatDoor.Z
attribute [local go_sem] max2_int min2_int max_two min_two max_three min_three max_four min_four
set_option linter.unusedVariables false
set_option linter.unusedSimpArgs false
def spec_l91Proof.f (k : Nat) (s0_0 : List Int) (s0_1 : Int) : Option (Int × List Int × Int × Int × List Int × Int) := (spec_l91Vec.f k s0_0 s0_1).bind fun bt352 => ((spec_l6Rd_pick.f k s0_0 bt352.2.2 31).bind fun bt357 => ((spec_l6Rd_pick.f k s0_0 bt357.2 31).bind fun bt359 => ((spec_ProofMake.f k bt352.1 bt352.2.1 bt357.1 bt359.1).bind fun bt361 => (if bt361.2.2.2 = true then ((spec_l6Rd_pick.f k s0_0 bt359.2 8).bind fun bt368 => (if bt368.1 = 0 then ((spec_l6Rd_pick.f k s0_0 bt368.2 (bt361.2.2.1.length : Int)).bind fun bt370 => ((spec_l6Rd_pick.f k s0_0 bt370.2 31).bind fun bt372 => (if 0 ≤ bt370.1 then (if bt370.1 < (bt361.2.2.1.length : Int) then ((some (bt361.2.2.1.set (bt370.1 : Int).toNat bt372.1 : List Int)).bind fun y374 => ((spec_l6Rd_pick.f k s0_0 bt372.2 60).bind fun bt375 => (if bt375.1 = 0 then (if 1 ≤ (bt361.2.2.1.length : Int) then (some (bt352.1, bt352.2.1, bt361.1, bt361.2.1, (y374.drop (1 : Int).toNat), bt375.2)) else (none)) else (some (bt352.1, bt352.2.1, bt361.1, bt361.2.1, y374, bt375.2))))) else (none)) else (none)))) else (if bt368.1 = 1 then ((spec_l6Rd_pick.f k s0_0 bt368.2 32).bind fun bt380 => ((spec_l6Rd_pick.f k s0_0 bt380.2 60).bind fun bt382 => (if bt382.1 = 0 then (if 1 ≤ (bt361.2.2.1.length : Int) then (some (bt352.1, bt352.2.1, bt380.1, bt361.2.1, (bt361.2.2.1.drop (1 : Int).toNat), bt382.2)) else (none)) else (some (bt352.1, bt352.2.1, bt380.1, bt361.2.1, bt361.2.2.1, bt382.2))))) else (if bt368.1 = 2 then ((spec_l6Rd_pick.f k s0_0 bt368.2 (bt352.2.1.length : Int)).bind fun bt387 => ((spec_l6Rd_pick.f k s0_0 bt387.2 3).bind fun bt389 => (if 0 ≤ bt387.1 then (if bt387.1 < (bt352.2.1.length : Int) then ((some (bt352.2.1.set (bt387.1 : Int).toNat bt389.1 : List Int)).bind fun y391 => ((spec_l6Rd_pick.f k s0_0 bt389.2 60).bind fun bt392 => (if bt392.1 = 0 then (if 1 ≤ (bt361.2.2.1.length : Int) then (some (bt352.1, y391, bt361.1, bt361.2.1, (bt361.2.2.1.drop (1 : Int).toNat), bt392.2)) else (none)) else (some (bt352.1, y391, bt361.1, bt361.2.1, bt361.2.2.1, bt392.2))))) else (none)) else (none)))) else ((spec_l6Rd_pick.f k s0_0 bt368.2 60).bind fun bt397 => (if bt397.1 = 0 then (if 1 ≤ (bt361.2.2.1.length : Int) then (some (bt352.1, bt352.2.1, bt361.1, bt361.2.1, (bt361.2.2.1.drop (1 : Int).toNat), bt397.2)) else (none)) else (some (bt352.1, bt352.2.1, bt361.1, bt361.2.1, bt361.2.2.1, bt397.2)))))))) else (some (bt352.1, bt352.2.1, bt361.1, bt361.2.1, bt361.2.2.1, bt359.2))))))
def spec_l91Proof.T7 : Bool × List (List Nat × List Nat) := (true, [([], []), ([0], [0]), ([], []), ([], []), ([3], [3]), ([4], [4]), ([2, 5], [2, 5]), ([], []), ([7, 6], [7]), ([1, 6, 0, 1, 2, 3, 4, 5, 6, 7, 8], [1, 6]), ([9, 8, 8, 0, 1, 2, 3, 4, 5, 6, 7, 8], [8, 9])])
def spec_l91Proof.B7 : List Nat := [0, 1, 0, 0, 8, 24, 60, 0, 252, 511, 1023]
theorem spec_l91Proof.tab7 : rtab .any (opsOf Tryz.f85 7) = spec_l91Proof.T7 := by kernel_rfl
theorem spec_l91Proof.bits7 : waitsOk spec_l91Proof.T7.2 spec_l91Proof.B7 = true := by kernel_rfl
set_option maxHeartbeats 8000000 in
set_option maxRecDepth 100000 in
theorem spec_l91Proof.calls (k : Nat) (g : Nat) (s0_0 : List Int) (s0_1 : Int) (r1 : Int) (r2 : List Int) (r3 : Int) (r4 : Int) (r5 : List Int) (r6 : Int) (w0 w : World) (hI : IsS94 w0 w g s0_0 s0_1) (hB : Below w0.heap.size w0 w) (h : spec_l91Proof.f k s0_0 s0_1 = some (r1, r2, r3, r4, r5, r6)) :
  Calls Tryz.prog 85 #[.pointer (some ⟨g, 0, none⟩)] w fun e w' => ∃ v1_ v4_ : Value, e = .returned (.tuple #[.int .i64 r1, v1_, .agg #[.int .i64 r3, .int .i64 r4, v4_]]) ∧ Kd.R (Kd.int .i64) 3 w' w.heap.size (fun k_ => some k_ ≠ (v4_ : Value).ownBlock) v1_ r2 ∧ Kd.Q (Kd.int .i64) 3 w' w.heap.size (fun k_ => some k_ ≠ (v1_ : Value).ownBlock) v4_ r5 ∧ IsS94 w0 w' g s0_0 r6 ∧ Below w0.heap.size w0 w' ∧ KeepBut w w' g none := by
 have hu40 := Tryz.underlying40
 have HI0 := Aside0.mk hI
 have HK := Aside0.mk (KeepBut.refl w g none)
 have HL := Aside0.mk hB.size
 clear hI
 have HW0 := Aside0.mk hB.size
 have HB := Aside0.mk hB
 clear hB
 have H := h
 unfold spec_l91Proof.f at H
 clear h
 replace H := bnd H
 obtain ⟨⟨t352, t353, t356⟩, A2, H⟩ := H
 dsimp only at H
 replace H := bnd H
 obtain ⟨⟨t357, t358⟩, A3, H⟩ := H
 dsimp only at H
 replace H := bnd H
 obtain ⟨⟨t359, t360⟩, A4, H⟩ := H
 dsimp only at H
 replace H := bnd H
 obtain ⟨⟨t361, t362, t363, t366⟩, A5, H⟩ := H
 dsimp only at H
 go_enter Tryz.func85, Tryz.ntmps85
 try go_wp2_with (first | ((with_reducible refine gate_dst (N := 4) rfl ?_); refine box_event ?hg (N := 4) ?hd (cs := #[.int .i64 0, .int .i64 0, .slice none 0 0]) (t := 40) ?hr ?_; (case hd => rfl); (case hg => rfl); (case hr => first | (go_simp; done) | (go_simp; rfl)); intro gb351 hg w17 hbox hb; replace HB := Aside0.mk (below_step (by repeat (with_reducible first | exact HB.out | apply below_alloc | apply pw_below_drewN | apply below_drew1 | refine below_set ?_ (IsS94.ge HI0.out))) hb); replace BK351 := Aside0.mk (hbox); replace GW351 := Aside0.mk ((by rw [hg]; exact (keep_size (w := w) (g := g) (row := none) (by repeat (with_reducible first | exact HK.out | apply KeepBut.set_ | apply keep_drewN | apply keep_drew | apply keep_alloc))) : w.heap.size ≤ gb351)); replace GE351 := Aside0.mk ((Nat.le_trans HW0.out (by rw [hg]; exact (keep_size (w := w) (g := g) (row := none) (by repeat (with_reducible first | exact HK.out | apply KeepBut.set_ | apply keep_drewN | apply keep_drew | apply keep_alloc))) : w.heap.size ≤ gb351) : w0.heap.size ≤ gb351)); replace HK := Aside0.mk (KeepBut.trans (by repeat (with_reducible first | exact HK.out | apply KeepBut.set_ | apply keep_drewN | apply keep_drew | apply keep_alloc)) (KeepBut.of_below hb g none) (.inl rfl)); replace NB0_351 := Aside0.mk ((by rw [hg]; exact Nat.ne_of_lt (IsS94.lt (show IsS94 w0 _ g s0_0 s0_1 from by repeat (with_reducible first | exact HI0.out | apply IsS94.alloc | apply IsS94.drewN | apply IsS94.drew | apply IsS94.set_1))) : g ≠ gb351)); replace NB351_0 := Aside0.mk ((by rw [hg]; exact Nat.ne_of_gt (IsS94.lt (show IsS94 w0 _ g s0_0 s0_1 from by repeat (with_reducible first | exact HI0.out | apply IsS94.alloc | apply IsS94.drewN | apply IsS94.drew | apply IsS94.set_1))) : gb351 ≠ g)); replace HI0 := Aside0.mk (IsS94.below (by repeat (with_reducible first | exact HI0.out | apply IsS94.alloc | apply IsS94.drewN | apply IsS94.drew | apply IsS94.set_1)) hb); clear hb hbox hg) | ((with_reducible refine gate_callee (f := 110) rfl ?_); refine goesL_ (some 11) rfl rfl Tryz.func110 (by kernel_rfl) rfl #[.pointer (some ⟨g, 0, none⟩)] rfl (by (try simp only [List.map_toArray, List.map_cons, List.map_nil]); first | done | rfl | (simp only [List.length_drop, List.length_take]; rfl)) ?_; (with_reducible refine (spec_l91Vec.calls k g s0_0 s0_1 t352 t353 t356 w0 _ ?side1 ?side2 A2.out).mono ?_); (case side1 => repeat (with_reducible first | exact HI0.out | apply IsS94.alloc | apply IsS94.drewN | apply IsS94.drew | apply IsS94.set_1 | refine IsS94.far ?_ NB0_351.out _)); (case side2 => repeat (with_reducible first | exact HB.out | apply below_alloc | apply pw_below_drewN | apply below_drew1 | refine below_set ?_ (IsS94.ge HI0.out) | refine below_set ?_ GE351.out)); rintro e w18 ⟨v354, rfl, ho0, hi, hb, hk⟩; refine ⟨_, rfl, ?_⟩; replace BK351 := Aside0.mk (KeepBut.blk hk (g' := gb351) (o := .cells #[.int .i64 0, .int .i64 0, .slice none 0 0] 40 (0, 0)) (by exact BK351.out) NB351_0.out (by simp)); replace HO355 := Aside0.mk (Kd.R_lower ho0 (keep_size (w := w) (g := g) (row := none) (by repeat (with_reducible first | exact HK.out | apply KeepBut.set_ | apply keep_drewN | apply keep_drew | apply keep_alloc | refine keep_far ?_ GW351.out _)))); replace HK := Aside0.mk (KeepBut.trans (by repeat (with_reducible first | exact HK.out | apply KeepBut.set_ | apply keep_drewN | apply keep_drew | apply keep_alloc | refine keep_far ?_ GW351.out _)) hk (.inl rfl)); replace HB := Aside0.mk (hb); replace HI0 := Aside0.mk (hi); clear hb hk hi ho0) | ((with_reducible refine gate_callee (f := 45) rfl ?_); refine goesL_ (some 18) rfl rfl Tryz.func45 (by kernel_rfl) rfl #[.pointer (some ⟨g, 0, none⟩), .int .i64 31] rfl (by (try simp only [List.map_toArray, List.map_cons, List.map_nil]); first | done | rfl | (simp only [List.length_drop, List.length_take]; rfl)) ?_; (with_reducible refine (spec_l6Rd_pick.calls k g s0_0 t356 31 t357 t358 w0 _ ?side1 ?side2 A3.out).mono ?_); (case side1 => repeat (with_reducible first | exact HI0.out | apply IsS94.alloc | apply IsS94.drewN | apply IsS94.drew | apply IsS94.set_1 | refine IsS94.far ?_ NB0_351.out _)); (case side2 => repeat (with_reducible first | exact HB.out | apply below_alloc | apply pw_below_drewN | apply below_drew1 | refine below_set ?_ (IsS94.ge HI0.out) | refine below_set ?_ GE351.out)); rintro e w19 ⟨rfl, hi, hb, hk⟩; refine ⟨_, rfl, ?_⟩; replace BK351 := Aside0.mk (KeepBut.blk hk (g' := gb351) (o := .cells #[.int .i64 0, .int .i64 0, .slice none 0 0] 40 (0, 0)) (by exact BK351.out) NB351_0.out (by simp)); replace HO355 := Aside0.mk (Kd.R_mono (Kd.R_keep (IsS94.apart (show IsS94 w0 _ g s0_0 t356 from by repeat (with_reducible first | exact HI0.out | apply IsS94.alloc | apply IsS94.drewN | apply IsS94.drew | apply IsS94.set_1 | refine IsS94.far ?_ NB0_351.out _)) (HO355.out) (by decide)) hk (fun _ h => h.2)) (fun _ h => h.1)); replace HK := Aside0.mk (KeepBut.trans (by repeat (with_reducible first | exact HK.out | apply KeepBut.set_ | apply keep_drewN | apply keep_drew | apply keep_alloc | refine keep_far ?_ GW351.out _)) hk (.inl rfl)); replace HB := Aside0.mk (hb); replace HI0 := Aside0.mk (hi); clear hb hk hi) | ((with_reducible refine gate_callee (f := 45) rfl ?_); refine goesL_ (some 20) rfl rfl Tryz.func45 (by kernel_rfl) rfl #[.pointer (some ⟨g, 0, none⟩), .int .i64 31] rfl (by (try simp only [List.map_toArray, List.map_cons, List.map_nil]); first | done | rfl | (simp only [List.length_drop, List.length_take]; rfl)) ?_; (with_reducible refine (spec_l6Rd_pick.calls k g s0_0 t358 31 t359 t360 w0 _ ?side1 ?side2 A4.out).mono ?_); (case side1 => repeat (with_reducible first | exact HI0.out | apply IsS94.alloc | apply IsS94.drewN | apply IsS94.drew | apply IsS94.set_1 | refine IsS94.far ?_ NB0_351.out _)); (case side2 => repeat (with_reducible first | exact HB.out | apply below_alloc | apply pw_below_drewN | apply below_drew1 | refine below_set ?_ (IsS94.ge HI0.out) | refine below_set ?_ GE351.out)); rintro e w20 ⟨rfl, hi, hb, hk⟩; refine ⟨_, rfl, ?_⟩; replace BK351 := Aside0.mk (KeepBut.blk hk (g' := gb351) (o := .cells #[.int .i64 0, .int .i64 0, .slice none 0 0] 40 (0, 0)) (by exact BK351.out) NB351_0.out (by simp)); replace HO355 := Aside0.mk (Kd.R_mono (Kd.R_keep (IsS94.apart (show IsS94 w0 _ g s0_0 t358 from by repeat (with_reducible first | exact HI0.out | apply IsS94.alloc | apply IsS94.drewN | apply IsS94.drew | apply IsS94.set_1 | refine IsS94.far ?_ NB0_351.out _)) (HO355.out) (by decide)) hk (fun _ h => h.2)) (fun _ h => h.1)); replace HK := Aside0.mk (KeepBut.trans (by repeat (with_reducible first | exact HK.out | apply KeepBut.set_ | apply keep_drewN | apply keep_drew | apply keep_alloc | refine keep_far ?_ GW351.out _)) hk (.inl rfl)); replace HB := Aside0.mk (hb); replace HI0 := Aside0.mk (hi); (try clear hb); (try clear hb2); (try clear hk); (try clear hi); obtain ⟨Ao21, co21, eo21⟩ := Kd.R_slice HO355.out; subst eo21) | ((with_reducible refine gate_callee (f := 111) rfl ?_); refine goesL_ (some 21) rfl rfl Tryz.func111 (by kernel_rfl) rfl #[.int .i64 t352, .slice Ao21 t353.length co21, .int .i64 t357, .int .i64 t359] rfl (by (try simp only [List.map_toArray, List.map_cons, List.map_nil]); first | done | rfl | (simp only [List.length_drop, List.length_take]; rfl)) ?_; (with_reducible refine (spec_ProofMake.calls k t352 _ _ t353 t357 t359 t361 t362 t363 t366 _ ?side1 ?side2 A5.out).mono ?_); (case side1 => exact (Kd.R_reads' HO355.out).2.2); (case side2 => exact (Kd.R_reads' HO355.out).2.1); rintro e w22 ⟨v364, rfl, ho0, hb⟩; refine ⟨_, rfl, ?_⟩; replace HO365 := Aside0.mk (Kd.R_lower (Kd.R_new' ho0 (Kd.R_lt (HO355.out))) (keep_size (w := w) (g := g) (row := none) (by repeat (with_reducible first | exact HK.out | apply KeepBut.set_ | apply keep_drewN | apply keep_drew | apply keep_alloc | refine keep_far ?_ GW351.out _)))); replace HO355 := Aside0.mk (Kd.R_elder' (HO355.out) (Kd.R_base ho0) hb); replace BK351 := Aside0.mk (blk_below (g := gb351) (o := .cells #[.int .i64 0, .int .i64 0, .slice none 0 0] 40 (0, 0)) (by exact BK351.out) hb); replace HK := Aside0.mk (KeepBut.trans (by repeat (with_reducible first | exact HK.out | apply KeepBut.set_ | apply keep_drewN | apply keep_drew | apply keep_alloc | refine keep_far ?_ GW351.out _)) (KeepBut.of_below hb g none) (.inl rfl)); replace HB := Aside0.mk (below_step (by repeat (with_reducible first | exact HB.out | apply below_alloc | apply pw_below_drewN | apply below_drew1 | refine below_set ?_ (IsS94.ge HI0.out) | refine below_set ?_ GE351.out)) hb); replace HI0 := Aside0.mk (IsS94.below (by repeat (with_reducible first | exact HI0.out | apply IsS94.alloc | apply IsS94.drewN | apply IsS94.drew | apply IsS94.set_1 | refine IsS94.far ?_ NB0_351.out _)) hb); (try clear hb); (try clear hb2); (try clear hk); (try clear hi); (try clear ho0); refine (show ∀ p_ : Prop, (∀ q_ : Prop, (p_ → Aside0 q_) → Aside0 q_) → p_ from fun p_ h_ => (h_ p_ Aside0.mk).out) _ (fun q_ hq_ => ?_)))
 by_cases c6 : t366 = true
 ·subst c6
  rw [if_pos rfl] at H
  replace H := bnd H
  obtain ⟨⟨t368, t369⟩, A7, H⟩ := H
  dsimp only at H
  refine hq_ ?_
  clear hq_ q_
  try go_wp2_with (first | ((with_reducible refine gate_dst (N := 7) rfl ?_); refine box_event ?hg (N := 7) ?hd (cs := #[.int .i64 0, .int .i64 0, .slice none 0 0]) (t := 40) ?hr ?_; (case hd => rfl); (case hg => rfl); (case hr => first | (go_simp; done) | (go_simp; rfl)); intro gb367 hg w23 hbox hb; replace HO355 := Aside0.mk (Kd.R_below (HO355.out) hb); replace HO365 := Aside0.mk (Kd.R_below (HO365.out) hb); replace HB := Aside0.mk (below_step (by repeat (with_reducible first | exact HB.out | apply below_alloc | apply pw_below_drewN | apply below_drew1 | refine below_set ?_ (IsS94.ge HI0.out) | refine below_set ?_ GE351.out)) hb); replace BK367 := Aside0.mk (hbox); replace GW367 := Aside0.mk ((by rw [hg]; exact (keep_size (w := w) (g := g) (row := none) (by repeat (with_reducible first | exact HK.out | apply KeepBut.set_ | apply keep_drewN | apply keep_drew | apply keep_alloc | refine keep_far ?_ GW351.out _))) : w.heap.size ≤ gb367)); replace GE367 := Aside0.mk ((Nat.le_trans HW0.out (by rw [hg]; exact (keep_size (w := w) (g := g) (row := none) (by repeat (with_reducible first | exact HK.out | apply KeepBut.set_ | apply keep_drewN | apply keep_drew | apply keep_alloc | refine keep_far ?_ GW351.out _))) : w.heap.size ≤ gb367) : w0.heap.size ≤ gb367)); replace HK := Aside0.mk (KeepBut.trans (by repeat (with_reducible first | exact HK.out | apply KeepBut.set_ | apply keep_drewN | apply keep_drew | apply keep_alloc | refine keep_far ?_ GW351.out _)) (KeepBut.of_below hb g none) (.inl rfl)); replace NB351_367 := Aside0.mk ((by rw [hg]; exact Nat.ne_of_lt (blk_lt (g := gb351) (o := .cells #[.int .i64 0, .int .i64 0, .slice none 0 0] 40 (0, 0)) (by exact BK351.out)) : gb351 ≠ gb367)); replace NB367_351 := Aside0.mk ((by rw [hg]; exact Nat.ne_of_gt (blk_lt (g := gb351) (o := .cells #[.int .i64 0, .int .i64 0, .slice none 0 0] 40 (0, 0)) (by exact BK351.out)) : gb367 ≠ gb351)); replace BK351 := Aside0.mk (blk_below (g := gb351) (o := .cells #[.int .i64 0, .int .i64 0, .slice none 0 0] 40 (0, 0)) (by exact BK351.out) hb); replace NB0_367 := Aside0.mk ((by rw [hg]; exact Nat.ne_of_lt (IsS94.lt (show IsS94 w0 _ g s0_0 t360 from by repeat (with_reducible first | exact HI0.out | apply IsS94.alloc | apply IsS94.drewN | apply IsS94.drew | apply IsS94.set_1 | refine IsS94.far ?_ NB0_351.out _))) : g ≠ gb367)); replace NB367_0 := Aside0.mk ((by rw [hg]; exact Nat.ne_of_gt (IsS94.lt (show IsS94 w0 _ g s0_0 t360 from by repeat (with_reducible first | exact HI0.out | apply IsS94.alloc | apply IsS94.drewN | apply IsS94.drew | apply IsS94.set_1 | refine IsS94.far ?_ NB0_351.out _))) : gb367 ≠ g)); replace HI0 := Aside0.mk (IsS94.below (by repeat (with_reducible first | exact HI0.out | apply IsS94.alloc | apply IsS94.drewN | apply IsS94.drew | apply IsS94.set_1 | refine IsS94.far ?_ NB0_351.out _)) hb); clear hb hbox hg; have hnb24 := NB367_351.out; have hnc24 := NB351_367.out; have hnb25 := NB367_0.out; have hnc25 := NB0_367.out; have hcz26_0 : w23.cell? ⟨gb367, 0, none⟩ = some (.int .i64 0) := (blk_cell BK367.out 0).trans rfl; have hcz26_1 : w23.cell? ⟨gb367, 1, none⟩ = some (.int .i64 0) := (blk_cell BK367.out 1).trans rfl; have hcz26_2 : w23.cell? ⟨gb367, 2, none⟩ = some (.slice none 0 0) := (blk_cell BK367.out 2).trans rfl; have hfz26_0 := blk_frozen BK367.out 0; have hfz26_1 := blk_frozen BK367.out 1; have hfz26_2 := blk_frozen BK367.out 2; obtain ⟨Ao27, co27, eo27⟩ := Kd.R_slice HO365.out; subst eo27) | ((with_reducible refine gate_callee (f := 45) rfl ?_); refine goesL_ (some 30) rfl rfl Tryz.func45 (by kernel_rfl) rfl #[.pointer (some ⟨g, 0, none⟩), .int .i64 8] rfl (by (try simp only [List.map_toArray, List.map_cons, List.map_nil]); first | done | rfl | (simp only [List.length_drop, List.length_take]; rfl)) ?_; (with_reducible refine (spec_l6Rd_pick.calls k g s0_0 t360 8 t368 t369 w0 _ ?side1 ?side2 A7.out).mono ?_); (case side1 => repeat (with_reducible first | exact HI0.out | apply IsS94.alloc | apply IsS94.drewN | apply IsS94.drew | apply IsS94.set_1 | refine IsS94.far ?_ NB0_351.out _ | refine IsS94.far ?_ NB0_367.out _)); (case side2 => repeat (with_reducible first | exact HB.out | apply below_alloc | apply pw_below_drewN | apply below_drew1 | refine below_set ?_ (IsS94.ge HI0.out) | refine below_set ?_ GE351.out | refine below_set ?_ GE367.out)); rintro e w28 ⟨rfl, hi, hb, hk⟩; refine ⟨_, rfl, ?_⟩; replace BK351 := Aside0.mk (KeepBut.blk hk (g' := gb351) (o := .cells #[.int .i64 0, .int .i64 0, .slice none 0 0] 40 (0, 0)) (by refine blk_far ?_ NB351_367.out _; refine blk_far ?_ NB351_367.out _; refine blk_far ?_ NB351_367.out _; exact BK351.out) NB351_0.out (by simp)); replace HO355 := Aside0.mk (Kd.R_mono (Kd.R_keep (IsS94.apart (show IsS94 w0 _ g s0_0 t360 from by repeat (with_reducible first | exact HI0.out | apply IsS94.alloc | apply IsS94.drewN | apply IsS94.drew | apply IsS94.set_1 | refine IsS94.far ?_ NB0_351.out _ | refine IsS94.far ?_ NB0_367.out _)) ((Kd.R_mono (Kd.R_far (p := ⟨gb367, 2, none⟩) (Kd.R_far (p := ⟨gb367, 1, none⟩) (Kd.R_far (p := ⟨gb367, 0, none⟩) (Kd.R_types HO355.out BK367.out (by decide)) (fun _ hk => hk.2) (.int .i64 t361)) (fun _ hk => hk.2) (.int .i64 t362)) (fun _ hk => hk.2) (.slice Ao27 t363.length co27)) (fun _ h_ => h_.1))) (by decide)) hk (fun _ h => h.2)) (fun _ h => h.1)); replace HO365 := Aside0.mk (Kd.R_mono (Kd.R_keep (IsS94.apart (show IsS94 w0 _ g s0_0 t360 from by repeat (with_reducible first | exact HI0.out | apply IsS94.alloc | apply IsS94.drewN | apply IsS94.drew | apply IsS94.set_1 | refine IsS94.far ?_ NB0_351.out _ | refine IsS94.far ?_ NB0_367.out _)) ((Kd.R_mono (Kd.R_far (p := ⟨gb367, 2, none⟩) (Kd.R_far (p := ⟨gb367, 1, none⟩) (Kd.R_far (p := ⟨gb367, 0, none⟩) (Kd.R_types HO365.out BK367.out (by decide)) (fun _ hk => hk.2) (.int .i64 t361)) (fun _ hk => hk.2) (.int .i64 t362)) (fun _ hk => hk.2) (.slice Ao27 t363.length co27)) (fun _ h_ => h_.1))) (by decide)) hk (fun _ h => h.2)) (fun _ h => h.1)); replace BK367 := Aside0.mk (KeepBut.blk hk (g' := gb367) (o := .cells #[.int .i64 t361, .int .i64 t362, .slice Ao27 t363.length co27] 40 (0, 0)) (by refine blk_put (cs := #[.int .i64 t361, .int .i64 t362, .slice none 0 0]) ?_ 2 _ rfl; refine blk_put (cs := #[.int .i64 t361, .int .i64 0, .slice none 0 0]) ?_ 1 _ rfl; refine blk_put (cs := #[.int .i64 0, .int .i64 0, .slice none 0 0]) ?_ 0 _ rfl; exact BK367.out) NB367_0.out (by simp)); replace HK := Aside0.mk (KeepBut.trans (by repeat (with_reducible first | exact HK.out | apply KeepBut.set_ | apply keep_drewN | apply keep_drew | apply keep_alloc | refine keep_far ?_ GW351.out _ | refine keep_far ?_ GW367.out _)) hk (.inl rfl)); replace HB := Aside0.mk (hb); replace HI0 := Aside0.mk (hi); (try clear hb); (try clear hb2); (try clear hk); (try clear hi); refine (show ∀ p_ : Prop, (∀ q_ : Prop, (p_ → Aside0 q_) → Aside0 q_) → p_ from fun p_ h_ => (h_ p_ Aside0.mk).out) _ (fun q_ hq_ => ?_)))
  by_cases c8 : t368 = 0
  ·rw [if_pos c8] at H
   have c8b0 : (t368 == 0) = true := beq_iff_eq.mpr c8
   have c8b1 : (t368 != 0) = false := bne_eq_false_iff_eq.mpr c8
   clear c8
   replace H := bnd H
   obtain ⟨⟨t370, t371⟩, A9, H⟩ := H
   dsimp only at H
   replace H := bnd H
   obtain ⟨⟨t372, t373⟩, A10, H⟩ := H
   dsimp only at H
   by_cases c11 : 0 ≤ t370
   ·rw [if_pos c11] at H
    have c11b0 : decide (0 ≤ t370) = true := decide_eq_true c11
    clear c11
    by_cases c12 : t370 < (t363.length : Int)
    ·rw [if_pos c12] at H
     have c12b0 : decide (t370 < (t363.length : Int)) = true := decide_eq_true c12
     clear c12
     obtain ⟨y374, hy374⟩ : ∃ y_ : List Int, y_ = (t363.set (t370 : Int).toNat t372) := ⟨_, rfl⟩
     replace H : ((spec_l6Rd_pick.f k s0_0 t373 60).bind fun bt375 => (if bt375.1 = 0 then (if 1 ≤ (t363.length : Int) then (some (t352, t353, t361, t362, (y374.drop (1 : Int).toNat), bt375.2)) else (none)) else (some (t352, t353, t361, t362, y374, bt375.2)))) = some (r1, r2, r3, r4, r5, r6) := by first | (rw [hy374]; with_reducible exact H) | (have H2_ := (Option.bind_some _ _).symm.trans H; rw [hy374]; with_reducible exact H2_) | (have H2_ := (Option.bind_some _ _).symm.trans H; with_reducible exact H2_) | with_reducible exact H | (rw [hy374]; exact H) | exact H
     have Ny374 := Aside0.mk hy374
     clear hy374
     replace H := bnd H
     obtain ⟨⟨t375, t376⟩, A14, H⟩ := H
     dsimp only at H
     refine hq_ ?_
     clear hq_ q_
     try go_wp2
     replace HO355 := Aside0.mk (Kd.R_drew HO355.out)
     replace HO365 := Aside0.mk (Kd.R_drew HO365.out)
     replace BK351 := Aside0.mk (blk_drew BK351.out)
     replace BK367 := Aside0.mk (blk_drew BK367.out)
     replace HI0 := Aside0.mk (IsS94.drew HI0.out)
     replace HK := Aside0.mk (keep_drew HK.out)
     replace HB := Aside0.mk (below_drew1 HB.out)
     refine start_ (n := 11) (S := fun w' => w'.cell? ⟨gb367, 0, none⟩ = some (.int .i64 t361) ∧ w'.cell? ⟨gb367, 1, none⟩ = some (.int .i64 t362) ∧ w'.cell? ⟨gb367, 2, none⟩ = some (.slice Ao27 t363.length co27)) (ds := [10]) (bs 11 0) (by kernel_rfl) rfl rfl ⟨(blk_cell BK367.out 0).trans rfl, (blk_cell BK367.out 1).trans rfl, (blk_cell BK367.out 2).trans rfl⟩ (fun hHeld => ?_); refine with_tabW spec_l91Proof.tab7 spec_l91Proof.bits7 (fun HT_ HW_ => ?_)
     generalize w28.drew = w29 at HO355 HO365 BK351 BK367 HI0 HK HB hHeld ⊢
     refine pZ 0 (some 33) (bs 11 1) rfl rfl (any_of HT_.out (by kernel_rfl)) ?_
     refine pZ 2 (some 35) (bs 11 5) rfl rfl (any_of HT_.out (by kernel_rfl)) ?_
     refine pZ 3 (some 36) (bs 11 13) rfl rfl (any_of HT_.out (by kernel_rfl)) ?_
     refine pZ 7 (some 40) (bs 11 141) rfl rfl (any_of HT_.out (by kernel_rfl)) ?_
     refine tZ 1 (some 34) (bs 11 143) rfl rfl (take_ofW HT_.out HW_.out (by kernel_rfl)) hHeld (by rintro w' ⟨s0, s1, s2⟩; go_simp; with_reducible rfl) ?_
     refine tZ 4 (some 37) (bs 11 159) rfl rfl (take_ofW HT_.out HW_.out (by kernel_rfl)) hHeld (by rintro w' ⟨s0, s1, s2⟩; go_simp; with_reducible rfl) ?_
     refine pZ 5 (some 38) (bs 11 191) rfl rfl (any_of HT_.out (by kernel_rfl)) ?_
     refine one_ (i := 6) (N := some 39) (bs 11 255) rfl rfl (one_of HT_.out (by kernel_rfl)) (by decide) (fun K hK => ?_)
     refine goes_ Tryz.func45 (by kernel_rfl) rfl #[.pointer (some ⟨g, 0, none⟩), .int .i64 (t363.length : Int)] (by rfl) rfl rfl (by (try simp only [List.map_toArray, List.map_cons, List.map_nil]); first | done | rfl | (simp only [List.length_drop, List.length_take]; rfl)) ?_
     with_reducible refine (spec_l6Rd_pick.calls k g s0_0 t369 (t363.length : Int) t370 t371 w0 _ ?side1 ?side2 A9.out).mono ?_
     (case side1 => repeat (with_reducible first | exact HI0.out | apply IsS94.alloc | apply IsS94.drewN | apply IsS94.drew | apply IsS94.set_1 | refine IsS94.far ?_ NB0_351.out _ | refine IsS94.far ?_ NB0_367.out _))
     (case side2 => repeat (with_reducible first | exact HB.out | apply below_alloc | apply pw_below_drewN | apply below_drew1 | refine below_set ?_ (IsS94.ge HI0.out) | refine below_set ?_ GE351.out | refine below_set ?_ GE367.out))
     rintro e w30 ⟨rfl, hi, hb, hk⟩
     refine ⟨_, rfl, ?_⟩
     replace BK351 := Aside0.mk (KeepBut.blk hk (g' := gb351) (o := .cells #[.int .i64 0, .int .i64 0, .slice none 0 0] 40 (0, 0)) (by exact BK351.out) NB351_0.out (by simp))
     replace HO355 := Aside0.mk (Kd.R_mono (Kd.R_keep (IsS94.apart (show IsS94 w0 _ g s0_0 t369 from by repeat (with_reducible first | exact HI0.out | apply IsS94.alloc | apply IsS94.drewN | apply IsS94.drew | apply IsS94.set_1 | refine IsS94.far ?_ NB0_351.out _ | refine IsS94.far ?_ NB0_367.out _)) (HO355.out) (by decide)) hk (fun _ h => h.2)) (fun _ h => h.1))
     replace HO365 := Aside0.mk (Kd.R_mono (Kd.R_keep (IsS94.apart (show IsS94 w0 _ g s0_0 t369 from by repeat (with_reducible first | exact HI0.out | apply IsS94.alloc | apply IsS94.drewN | apply IsS94.drew | apply IsS94.set_1 | refine IsS94.far ?_ NB0_351.out _ | refine IsS94.far ?_ NB0_367.out _)) (HO365.out) (by decide)) hk (fun _ h => h.2)) (fun _ h => h.1))
     replace BK367 := Aside0.mk (KeepBut.blk hk (g' := gb367) (o := .cells #[.int .i64 t361, .int .i64 t362, .slice Ao27 t363.length co27] 40 (0, 0)) (by exact BK367.out) NB367_0.out (by simp))
     replace HK := Aside0.mk (KeepBut.trans (by repeat (with_reducible first | exact HK.out | apply KeepBut.set_ | apply keep_drewN | apply keep_drew | apply keep_alloc | refine keep_far ?_ GW351.out _ | refine keep_far ?_ GW367.out _)) hk (.inl rfl))
     replace HB := Aside0.mk (hb)
     replace HI0 := Aside0.mk (hi)
     (try clear hb)
     (try clear hb2)
     (try clear hk)
     (try clear hi)
     refine hK.out _ _ ⟨(blk_cell BK367.out 0).trans rfl, (blk_cell BK367.out 1).trans rfl, (blk_cell BK367.out 2).trans rfl⟩ (fun hHeld => ?_)
     clear hK K
     refine norm_ (a' := ?_) ?_ ?_
     rotate_left
     ·show Act.put _ (some 39) _ = _
      simp only [Act.put, List.setIfInBounds_toArray, List.set_cons_zero, List.set_cons_succ, i64_w, i32_w]
      rfl
     refine one_ (i := 8) (N := some 41) (bs 11 511) rfl rfl (one_of HT_.out (by kernel_rfl)) (by decide) (fun K hK => ?_)
     refine goes_ Tryz.func45 (by kernel_rfl) rfl #[.pointer (some ⟨g, 0, none⟩), .int .i64 31] (by rfl) rfl rfl (by (try simp only [List.map_toArray, List.map_cons, List.map_nil]); first | done | rfl | (simp only [List.length_drop, List.length_take]; rfl)) ?_
     with_reducible refine (spec_l6Rd_pick.calls k g s0_0 t371 31 t372 t373 w0 _ ?side1 ?side2 A10.out).mono ?_
     (case side1 => repeat (with_reducible first | exact HI0.out | apply IsS94.alloc | apply IsS94.drewN | apply IsS94.drew | apply IsS94.set_1 | refine IsS94.far ?_ NB0_351.out _ | refine IsS94.far ?_ NB0_367.out _))
     (case side2 => repeat (with_reducible first | exact HB.out | apply below_alloc | apply pw_below_drewN | apply below_drew1 | refine below_set ?_ (IsS94.ge HI0.out) | refine below_set ?_ GE351.out | refine below_set ?_ GE367.out))
     rintro e w31 ⟨rfl, hi, hb, hk⟩
     refine ⟨_, rfl, ?_⟩
     replace BK351 := Aside0.mk (KeepBut.blk hk (g' := gb351) (o := .cells #[.int .i64 0, .int .i64 0, .slice none 0 0] 40 (0, 0)) (by exact BK351.out) NB351_0.out (by simp))
     replace HO355 := Aside0.mk (Kd.R_mono (Kd.R_keep (IsS94.apart (show IsS94 w0 _ g s0_0 t371 from by repeat (with_reducible first | exact HI0.out | apply IsS94.alloc | apply IsS94.drewN | apply IsS94.drew | apply IsS94.set_1 | refine IsS94.far ?_ NB0_351.out _ | refine IsS94.far ?_ NB0_367.out _)) (HO355.out) (by decide)) hk (fun _ h => h.2)) (fun _ h => h.1))
     replace HO365 := Aside0.mk (Kd.R_mono (Kd.R_keep (IsS94.apart (show IsS94 w0 _ g s0_0 t371 from by repeat (with_reducible first | exact HI0.out | apply IsS94.alloc | apply IsS94.drewN | apply IsS94.drew | apply IsS94.set_1 | refine IsS94.far ?_ NB0_351.out _ | refine IsS94.far ?_ NB0_367.out _)) (HO365.out) (by decide)) hk (fun _ h => h.2)) (fun _ h => h.1))
     replace BK367 := Aside0.mk (KeepBut.blk hk (g' := gb367) (o := .cells #[.int .i64 t361, .int .i64 t362, .slice Ao27 t363.length co27] 40 (0, 0)) (by exact BK367.out) NB367_0.out (by simp))
     replace HK := Aside0.mk (KeepBut.trans (by repeat (with_reducible first | exact HK.out | apply KeepBut.set_ | apply keep_drewN | apply keep_drew | apply keep_alloc | refine keep_far ?_ GW351.out _ | refine keep_far ?_ GW367.out _)) hk (.inl rfl))
     replace HB := Aside0.mk (hb)
     replace HI0 := Aside0.mk (hi)
     (try clear hb)
     (try clear hb2)
     (try clear hk)
     (try clear hi)
     have p13 : 0 ≤ (t370 : Int) := of_decide_eq_true ‹_›
     have q13 : (t370 : Int) < ((t363.length : Int) : Int) := of_decide_eq_true ‹_›
     obtain ⟨go13, co13, eo13, gb13, gl13, cl13, HG13⟩ := Kd.R_form HO365.out (by omega)
     (first | cases eo13 | (injection eo13 with ea_ en_ ec_; (first | subst ea_ | (injection ea_ with ea_; subst ea_)); subst ec_; clear en_))
     have GB13 := Aside0.mk gb13
     have GG13 := Aside0.mk HG13
     clear gb13 gl13 HG13
     obtain ⟨hx13_0, hf13_0⟩ := Kd.R_celln 0 HO365.out (t370 : Int) p13 q13
     replace p13 := eq_true p13
     replace q13 := eq_true q13
     have HN0_go13 := Aside0.mk (show g ≠ go13 from by have h_ := IsS94.own_ne HI0.out HO365.out (by decide); intro e_; exact h_ (by rw [e_]; rfl))
     have HP32 := Kd.R_putn HO365.out (t370 : Int) t372
     rw [← Ny374.out] at HP32
     have HQ32 := Aside0.mk HP32
     clear HP32
     refine hK.out _ _ ⟨(blk_cell BK367.out 0).trans rfl, (blk_cell BK367.out 1).trans rfl, (blk_cell BK367.out 2).trans rfl⟩ (fun hHeld => ?_)
     clear hK K
     refine norm_ (a' := ?_) ?_ ?_
     rotate_left
     ·show Act.put _ (some 41) _ = _
      simp only [Act.put, List.setIfInBounds_toArray, List.set_cons_zero, List.set_cons_succ, i64_w, i32_w]
      rfl
     refine pZ 9 (some 42) (bs 11 1023) rfl rfl (any_of HT_.out (by kernel_rfl)) ?_
     refine last_ (i := 10) (N := none) (bs 11 2047) rfl rfl (one_of HT_.out (by kernel_rfl)) (by decide) (fun K hK => ?_)
     refine skip_ (w1 := ?_) (by rfl) rfl ?_ ?_
     rotate_left
     ·go_simp
      rfl
     refine hK.out _ _ ?_
     clear hK K
     refine done_ (done_of HT_.out (by kernel_rfl)) ?_
     replace HO355 : Aside0 (Kd.R (Kd.int .i64) 3 (w31.setCell ⟨go13, (t370 : Int).toNat, none⟩ (.int .i64 t372)) w.heap.size (fun k_ => some k_ ≠ (.slice (some ⟨go13, 0, none⟩) t363.length co27 : Value).ownBlock) (.slice Ao21 t353.length co21) t353) := ⟨Kd.R_mono (Kd.R_far (p := ⟨go13, (t370 : Int).toNat, none⟩) (Kd.R_mono HO355.out (fun k_ hk => (⟨hk, fun e_ => hk.2 (by rw [e_]; rfl)⟩ : _ ∧ k_ ≠ go13))) (fun _ hk => hk.2) (.int .i64 t372)) (fun _ hk => hk.1.2)⟩
     replace BK351 : Aside0 ((w31.setCell ⟨go13, (t370 : Int).toNat, none⟩ (.int .i64 t372)).heap[gb351]? = some (.cells #[.int .i64 0, .int .i64 0, .slice none 0 0] 40 (0, 0))) := ⟨by refine blk_far ?_ (by have h_ := Kd.R_ne HO365.out BK351.out (by decide); intro e_; exact h_ (by rw [e_]; rfl)) _; exact BK351.out⟩
     replace BK367 : Aside0 ((w31.setCell ⟨go13, (t370 : Int).toNat, none⟩ (.int .i64 t372)).heap[gb367]? = some (.cells #[.int .i64 t361, .int .i64 t362, .slice (some ⟨go13, 0, none⟩) t363.length co27] 40 (0, 0))) := ⟨by refine blk_far ?_ (by have h_ := Kd.R_ne HO365.out BK367.out (by decide); intro e_; exact h_ (by rw [e_]; rfl)) _; exact BK367.out⟩
     replace HO365 : Aside0 (Kd.R (Kd.int .i64) 3 (w31.setCell ⟨go13, (t370 : Int).toNat, none⟩ (.int .i64 t372)) w.heap.size (fun k_ => some k_ ≠ (.slice Ao21 t353.length co21 : Value).ownBlock) (.slice (some ⟨go13, 0, none⟩) t363.length co27) y374) := ⟨Kd.R_mono HQ32.out (fun _ hk => hk.2)⟩
     replace HK : Aside0 (KeepBut w (w31.setCell ⟨go13, (t370 : Int).toNat, none⟩ (.int .i64 t372)) g none) := ⟨by repeat (with_reducible first | exact HK.out | apply KeepBut.set_ | apply keep_drewN | apply keep_drew | apply keep_alloc | refine keep_far ?_ GB13.out _ | refine keep_far ?_ GW351.out _ | refine keep_far ?_ GW367.out _)⟩
     replace HB : Aside0 (Below w0.heap.size w0 (w31.setCell ⟨go13, (t370 : Int).toNat, none⟩ (.int .i64 t372))) := ⟨by repeat (with_reducible first | exact HB.out | apply below_alloc | apply pw_below_drewN | apply below_drew1 | refine below_set ?_ (Nat.le_trans HL.out GB13.out) | refine below_set ?_ (IsS94.ge HI0.out) | refine below_set ?_ GE351.out | refine below_set ?_ GE367.out)⟩
     replace HI0 : Aside0 (IsS94 w0 (w31.setCell ⟨go13, (t370 : Int).toNat, none⟩ (.int .i64 t372)) g s0_0 t373) := ⟨by repeat (with_reducible first | exact HI0.out | apply IsS94.alloc | apply IsS94.drewN | apply IsS94.drew | apply IsS94.set_1 | refine IsS94.far ?_ HN0_go13.out _ | refine IsS94.far ?_ NB0_351.out _ | refine IsS94.far ?_ NB0_367.out _)⟩
     generalize (w31.setCell ⟨go13, (t370 : Int).toNat, none⟩ (.int .i64 t372)) = w33 at HO355 HO365 BK351 BK367 HI0 HK HB ⊢
     try go_wp2_with (first | ((with_reducible refine gate_callee (f := 45) rfl ?_); refine goesL_ (some 59) rfl rfl Tryz.func45 (by kernel_rfl) rfl #[.pointer (some ⟨g, 0, none⟩), .int .i64 60] rfl (by (try simp only [List.map_toArray, List.map_cons, List.map_nil]); first | done | rfl | (simp only [List.length_drop, List.length_take]; rfl)) ?_; (with_reducible refine (spec_l6Rd_pick.calls k g s0_0 t373 60 t375 t376 w0 _ ?side1 ?side2 A14.out).mono ?_); (case side1 => repeat (with_reducible first | exact HI0.out | apply IsS94.alloc | apply IsS94.drewN | apply IsS94.drew | apply IsS94.set_1 | refine IsS94.far ?_ NB0_351.out _ | refine IsS94.far ?_ NB0_367.out _)); (case side2 => repeat (with_reducible first | exact HB.out | apply below_alloc | apply pw_below_drewN | apply below_drew1 | refine below_set ?_ (IsS94.ge HI0.out) | refine below_set ?_ GE351.out | refine below_set ?_ GE367.out)); rintro e w34 ⟨rfl, hi, hb, hk⟩; refine ⟨_, rfl, ?_⟩; replace BK351 := Aside0.mk (KeepBut.blk hk (g' := gb351) (o := .cells #[.int .i64 0, .int .i64 0, .slice none 0 0] 40 (0, 0)) (by exact BK351.out) NB351_0.out (by simp)); replace HO355 := Aside0.mk (Kd.R_mono (Kd.R_keep (IsS94.apart (show IsS94 w0 _ g s0_0 t373 from by repeat (with_reducible first | exact HI0.out | apply IsS94.alloc | apply IsS94.drewN | apply IsS94.drew | apply IsS94.set_1 | refine IsS94.far ?_ NB0_351.out _ | refine IsS94.far ?_ NB0_367.out _)) (HO355.out) (by decide)) hk (fun _ h => h.2)) (fun _ h => h.1)); replace HO365 := Aside0.mk (Kd.R_mono (Kd.R_keep (IsS94.apart (show IsS94 w0 _ g s0_0 t373 from by repeat (with_reducible first | exact HI0.out | apply IsS94.alloc | apply IsS94.drewN | apply IsS94.drew | apply IsS94.set_1 | refine IsS94.far ?_ NB0_351.out _ | refine IsS94.far ?_ NB0_367.out _)) (HO365.out) (by decide)) hk (fun _ h => h.2)) (fun _ h => h.1)); replace BK367 := Aside0.mk (KeepBut.blk hk (g' := gb367) (o := .cells #[.int .i64 t361, .int .i64 t362, .slice (some ⟨go13, 0, none⟩) t363.length co27] 40 (0, 0)) (by exact BK367.out) NB367_0.out (by simp)); replace HK := Aside0.mk (KeepBut.trans (by repeat (with_reducible first | exact HK.out | apply KeepBut.set_ | apply keep_drewN | apply keep_drew | apply keep_alloc | refine keep_far ?_ GW351.out _ | refine keep_far ?_ GW367.out _)) hk (.inl rfl)); replace HB := Aside0.mk (hb); replace HI0 := Aside0.mk (hi); (try clear hb); (try clear hb2); (try clear hk); (try clear hi); refine (show ∀ p_ : Prop, (∀ q_ : Prop, (p_ → Aside0 q_) → Aside0 q_) → p_ from fun p_ h_ => (h_ p_ Aside0.mk).out) _ (fun q_ hq_ => ?_)))
     by_cases c15 : t375 = 0
     ·rw [if_pos c15] at H
      have c15b0 : (t375 == 0) = true := beq_iff_eq.mpr c15
      have c15b1 : (t375 != 0) = false := bne_eq_false_iff_eq.mpr c15
      clear c15
      by_cases c16 : 1 ≤ (t363.length : Int)
      ·rw [if_pos c16] at H
       have c16b0 := eq_true c16
       have c16b1 : decide (1 ≤ (t363.length : Int)) = true := decide_eq_true c16
       clear c16
       obtain ⟨y377, hy377⟩ : ∃ y_ : List Int, y_ = (y374.drop (1 : Int).toNat) := ⟨_, rfl⟩
       replace H : (some (t352, t353, t361, t362, y377, t376)) = some (r1, r2, r3, r4, r5, r6) := by rw [hy377]; with_reducible exact H
       have Ny377 := Aside0.mk hy377
       clear hy377
       simp only [Option.some.injEq, Prod.mk.injEq] at H
       obtain ⟨rfl, rfl, rfl, rfl, rfl, rfl⟩ := H
       refine hq_ ?_
       clear hq_ q_
       have hcz35_0 : w34.cell? ⟨gb367, 0, none⟩ = some (.int .i64 t361) := (blk_cell BK367.out 0).trans rfl
       have hcz35_1 : w34.cell? ⟨gb367, 1, none⟩ = some (.int .i64 t362) := (blk_cell BK367.out 1).trans rfl
       have hcz35_2 : w34.cell? ⟨gb367, 2, none⟩ = some (.slice (some ⟨go13, 0, none⟩) t363.length co27) := (blk_cell BK367.out 2).trans rfl
       have hfz35_0 := blk_frozen BK367.out 0
       have hfz35_1 := blk_frozen BK367.out 1
       have hfz35_2 := blk_frozen BK367.out 2
       have q36 : (1 : Int) ≤ ((t363.length : Int) : Int) := of_decide_eq_true ‹_›
       obtain ⟨i036, hi036, _, hsz36, _⟩ := info_parts info3
       have hcut36 := cut_from (P := Tryz.prog) 22 3 .i64 Tryz.underlying22 hi036 1 hsz36 (some ⟨go13, 0, none⟩) t363.length co27 1 (by omega) q36
       have hr36 := Kd.Q_drop (k := (1 : Int).toNat) (Kd.Q_of_R HO365.out) (by first | omega | (have hn_ := (Kd.R_reads' HO365.out).1; omega))
       obtain ⟨A36, hA36⟩ : ∃ A1, A1 = (if co27 = (1 : Int).toNat then (some ⟨go13, 0, none⟩) else ((some ⟨go13, 0, none⟩) : Option Addr).map (·.add ((1 : Int).toNat * 1))) := ⟨_, rfl⟩
       obtain ⟨c36, hc36⟩ : ∃ c1, c1 = co27 - (1 : Int).toNat := ⟨_, rfl⟩
       have hy36 : y377.length = t363.length - (1 : Int).toNat := (by first | (rw [Ny377.out, List.length_drop]; done) | (have hn_ := (Kd.R_reads' HO365.out).1; rw [Ny377.out, List.length_drop]; omega))
       rw [← Ny377.out] at hr36
       rw [← hy36, ← hA36, ← hc36] at hcut36
       replace hr36 : Kd.Q (Kd.int .i64) 3 w34 w.heap.size (fun k_ => some k_ ≠ (.slice Ao21 t353.length co21 : Value).ownBlock) (.slice A36 y377.length c36) y377 := (by rw [hA36, hc36, hy36]; exact hr36)
       have HE36 : Aside0 ((Value.slice A36 y377.length c36).ownBlock = (.slice (some ⟨go13, 0, none⟩) t363.length co27 : Value).ownBlock) := ⟨by rw [hA36]; split <;> (cases ((some ⟨go13, 0, none⟩) : Option Addr) <;> rfl)⟩
       clear hy36 hi036 hsz36 HO365 hA36 hc36
       have HO379 := Aside0.mk hr36
       clear hr36
       replace q36 := eq_true q36
       replace HO355 := Aside0.mk (Kd.R_mono (ok' := fun k_ => some k_ ≠ (.slice A36 y377.length c36 : Value).ownBlock) HO355.out (fun k_ hk => (by rw [HE36.out]; exact hk)))
       try go_wp2
       replace HO355 : Aside0 (Kd.R (Kd.int .i64) 3 (w34.setCell ⟨gb367, 2, none⟩ (.slice A36 y377.length c36)) w.heap.size (fun k_ => some k_ ≠ (.slice A36 y377.length c36 : Value).ownBlock) (.slice Ao21 t353.length co21) t353) := ⟨Kd.R_mono (Kd.R_far (p := ⟨gb367, 2, none⟩) (Kd.R_types HO355.out BK367.out (by decide)) (fun _ hk => hk.2) (.slice A36 y377.length c36)) (fun _ hk => hk.1)⟩
       replace HO379 : Aside0 (Kd.Q (Kd.int .i64) 3 (w34.setCell ⟨gb367, 2, none⟩ (.slice A36 y377.length c36)) w.heap.size (fun k_ => some k_ ≠ (.slice Ao21 t353.length co21 : Value).ownBlock) (.slice A36 y377.length c36) y377) := ⟨Kd.Q_mono (Kd.Q_far (p := ⟨gb367, 2, none⟩) (Kd.Q_types HO379.out BK367.out (by decide)) (fun _ hk => hk.2) (.slice A36 y377.length c36)) (fun _ hk => hk.1)⟩
       replace BK351 : Aside0 ((w34.setCell ⟨gb367, 2, none⟩ (.slice A36 y377.length c36)).heap[gb351]? = some (.cells #[.int .i64 0, .int .i64 0, .slice none 0 0] 40 (0, 0))) := ⟨by refine blk_far ?_ NB351_367.out _; exact BK351.out⟩
       replace BK367 : Aside0 ((w34.setCell ⟨gb367, 2, none⟩ (.slice A36 y377.length c36)).heap[gb367]? = some (.cells #[.int .i64 t361, .int .i64 t362, .slice A36 y377.length c36] 40 (0, 0))) := ⟨by refine blk_put (cs := #[.int .i64 t361, .int .i64 t362, .slice (some ⟨go13, 0, none⟩) t363.length co27]) ?_ 2 _ rfl; exact BK367.out⟩
       replace HK : Aside0 (KeepBut w (w34.setCell ⟨gb367, 2, none⟩ (.slice A36 y377.length c36)) g none) := ⟨by repeat (with_reducible first | exact HK.out | apply KeepBut.set_ | apply keep_drewN | apply keep_drew | apply keep_alloc | refine keep_far ?_ GW351.out _ | refine keep_far ?_ GW367.out _)⟩
       replace HB : Aside0 (Below w0.heap.size w0 (w34.setCell ⟨gb367, 2, none⟩ (.slice A36 y377.length c36))) := ⟨by repeat (with_reducible first | exact HB.out | apply below_alloc | apply pw_below_drewN | apply below_drew1 | refine below_set ?_ (IsS94.ge HI0.out) | refine below_set ?_ GE351.out | refine below_set ?_ GE367.out)⟩
       replace HI0 : Aside0 (IsS94 w0 (w34.setCell ⟨gb367, 2, none⟩ (.slice A36 y377.length c36)) g s0_0 t376) := ⟨by repeat (with_reducible first | exact HI0.out | apply IsS94.alloc | apply IsS94.drewN | apply IsS94.drew | apply IsS94.set_1 | refine IsS94.far ?_ NB0_351.out _ | refine IsS94.far ?_ NB0_367.out _)⟩
       generalize (w34.setCell ⟨gb367, 2, none⟩ (.slice A36 y377.length c36)) = w37 at HO355 HO379 BK351 BK367 HI0 HK HB ⊢
       replace HO355 := Aside0.mk (Kd.R_drew HO355.out)
       replace HO379 := Aside0.mk (Kd.Q_drew HO379.out)
       replace BK351 := Aside0.mk (blk_drew BK351.out)
       replace BK367 := Aside0.mk (blk_drew BK367.out)
       replace HI0 := Aside0.mk (IsS94.drew HI0.out)
       replace HK := Aside0.mk (keep_drew HK.out)
       replace HB := Aside0.mk (below_drew1 HB.out)
       refine start_ (n := 6) (S := fun w' => w'.cell? ⟨gb367, 0, none⟩ = some (.int .i64 t361) ∧ w'.cell? ⟨gb367, 1, none⟩ = some (.int .i64 t362) ∧ w'.cell? ⟨gb367, 2, none⟩ = some (.slice A36 y377.length c36)) (ds := []) (bs 6 0) (by kernel_rfl) rfl rfl ⟨(blk_cell BK367.out 0).trans rfl, (blk_cell BK367.out 1).trans rfl, (blk_cell BK367.out 2).trans rfl⟩ (fun hHeld => ?_)
       generalize w37.drew = w38 at HO355 HO379 BK351 BK367 HI0 HK HB hHeld ⊢
       refine pZ 0 (some 65) (bs 6 1) rfl rfl (by kernel_rfl) ?_
       refine pZ 1 (some 66) (bs 6 3) rfl rfl (by kernel_rfl) ?_
       refine pZ 3 (some 2) (bs 6 11) rfl rfl (by kernel_rfl) ?_
       refine pZ 4 (some 3) (bs 6 27) rfl rfl (by kernel_rfl) ?_
       refine tZ 2 (some 67) (bs 6 31) rfl rfl (by kernel_rfl) hHeld (by rintro w' ⟨s0, s1, s2⟩; go_simp; with_reducible rfl) ?_
       refine one_ (i := 5) (N := none) (bs 6 63) rfl rfl (by kernel_rfl) (by decide) (fun K hK => ?_)
       have hs39 : w38.cell? ⟨gb351, 0, none⟩ = some (.int .i64 0) := (blk_cell BK351.out 0).trans rfl
       have hfs39 := blk_frozen BK351.out 0
       have hns39_1 := NB367_351.out
       have hms39_1 := NB351_367.out
       have hs40 : w38.cell? ⟨gb351, 1, none⟩ = some (.int .i64 0) := (blk_cell BK351.out 1).trans rfl
       have hfs40 := blk_frozen BK351.out 1
       have hns40_1 := NB367_351.out
       have hms40_1 := NB351_367.out
       have hs41 : w38.cell? ⟨gb351, 2, none⟩ = some (.slice none 0 0) := (blk_cell BK351.out 2).trans rfl
       have hfs41 := blk_frozen BK351.out 2
       have hns41_1 := NB367_351.out
       have hms41_1 := NB351_367.out
       refine skip_ (w1 := ?_) (by rfl) rfl ?_ ?_
       rotate_left
       ·go_simp
        rfl
       refine hK.out _ _ ⟨((cell_far (p := ⟨gb351, _, none⟩) NB367_351.out _).trans (((cell_far (p := ⟨gb351, _, none⟩) NB367_351.out _).trans (((cell_far (p := ⟨gb351, _, none⟩) NB367_351.out _).trans (hHeld.1)))))), ((cell_far (p := ⟨gb351, _, none⟩) NB367_351.out _).trans (((cell_far (p := ⟨gb351, _, none⟩) NB367_351.out _).trans (((cell_far (p := ⟨gb351, _, none⟩) NB367_351.out _).trans (hHeld.2.1)))))), ((cell_far (p := ⟨gb351, _, none⟩) NB367_351.out _).trans (((cell_far (p := ⟨gb351, _, none⟩) NB367_351.out _).trans (((cell_far (p := ⟨gb351, _, none⟩) NB367_351.out _).trans (hHeld.2.2))))))⟩ (fun hHeld => ?_)
       clear hK K
       refine done_ (by kernel_rfl) ?_
       try go_wp2
       refine bodyPost_ret (results_list (rs := [.tmp 2, .tmp 3, .cell 4 40]) rfl (by simp) (.tmp (.tmp (.cell gb351 40 #[.int .i64 t361, .int .i64 t362, .slice A36 y377.length c36] (0, 0) _ rfl (by refine blk_put (cs := #[.int .i64 t361, .int .i64 t362, .slice none 0 0]) ?_ 2 _ rfl; refine blk_put (cs := #[.int .i64 t361, .int .i64 0, .slice none 0 0]) ?_ 1 _ rfl; refine blk_put (cs := #[.int .i64 0, .int .i64 0, .slice none 0 0]) ?_ 0 _ rfl; exact BK351.out) Tryz.underlying40 rfl (by kernel_rfl) .nil)))) rfl ?_
       exact ⟨_, _, rfl, Kd.R_mono (Kd.R_far (p := ⟨gb351, 2, none⟩) (Kd.R_far (p := ⟨gb351, 1, none⟩) (Kd.R_far (p := ⟨gb351, 0, none⟩) (Kd.R_types HO355.out BK351.out (by decide)) (fun _ hk => hk.2) (.int .i64 t361)) (fun _ hk => hk.2) (.int .i64 t362)) (fun _ hk => hk.2) (.slice A36 y377.length c36)) (fun _ hk => hk.1), Kd.Q_mono (Kd.Q_far (p := ⟨gb351, 2, none⟩) (Kd.Q_far (p := ⟨gb351, 1, none⟩) (Kd.Q_far (p := ⟨gb351, 0, none⟩) (Kd.Q_types HO379.out BK351.out (by decide)) (fun _ hk => hk.2) (.int .i64 t361)) (fun _ hk => hk.2) (.int .i64 t362)) (fun _ hk => hk.2) (.slice A36 y377.length c36)) (fun _ hk => hk.1), by repeat (with_reducible first | exact HI0.out | apply IsS94.alloc | apply IsS94.drewN | apply IsS94.drew | apply IsS94.set_1 | refine IsS94.far ?_ NB0_351.out _ | refine IsS94.far ?_ NB0_367.out _), by repeat (with_reducible first | exact HB.out | apply below_alloc | apply pw_below_drewN | apply below_drew1 | refine below_set ?_ (IsS94.ge HI0.out) | refine below_set ?_ GE351.out | refine below_set ?_ GE367.out), by repeat (with_reducible first | exact HK.out | apply KeepBut.set_ | apply keep_drewN | apply keep_drew | apply keep_alloc | refine keep_far ?_ GW351.out _ | refine keep_far ?_ GW367.out _)⟩
      ·rw [if_neg c16] at H
       exact absurd H (by simp)
     ·rw [if_neg c15] at H
      have c15b0 : (t375 == 0) = false := beq_eq_false_iff_ne.mpr c15
      have c15b1 : (t375 != 0) = true := bne_iff_ne.mpr c15
      simp only [Option.some.injEq, Prod.mk.injEq] at H
      obtain ⟨rfl, rfl, rfl, rfl, rfl, rfl⟩ := H
      refine hq_ ?_
      clear hq_ q_
      try go_wp2
      replace HO355 := Aside0.mk (Kd.R_drew HO355.out)
      replace HO365 := Aside0.mk (Kd.R_drew HO365.out)
      replace BK351 := Aside0.mk (blk_drew BK351.out)
      replace BK367 := Aside0.mk (blk_drew BK367.out)
      replace HI0 := Aside0.mk (IsS94.drew HI0.out)
      replace HK := Aside0.mk (keep_drew HK.out)
      replace HB := Aside0.mk (below_drew1 HB.out)
      refine start_ (n := 6) (S := fun w' => w'.cell? ⟨gb367, 0, none⟩ = some (.int .i64 t361) ∧ w'.cell? ⟨gb367, 1, none⟩ = some (.int .i64 t362) ∧ w'.cell? ⟨gb367, 2, none⟩ = some (.slice (some ⟨go13, 0, none⟩) t363.length co27)) (ds := []) (bs 6 0) (by kernel_rfl) rfl rfl ⟨(blk_cell BK367.out 0).trans rfl, (blk_cell BK367.out 1).trans rfl, (blk_cell BK367.out 2).trans rfl⟩ (fun hHeld => ?_)
      generalize w34.drew = w60 at HO355 HO365 BK351 BK367 HI0 HK HB hHeld ⊢
      refine pZ 0 (some 65) (bs 6 1) rfl rfl (by kernel_rfl) ?_
      refine pZ 1 (some 66) (bs 6 3) rfl rfl (by kernel_rfl) ?_
      refine pZ 3 (some 2) (bs 6 11) rfl rfl (by kernel_rfl) ?_
      refine pZ 4 (some 3) (bs 6 27) rfl rfl (by kernel_rfl) ?_
      refine tZ 2 (some 67) (bs 6 31) rfl rfl (by kernel_rfl) hHeld (by rintro w' ⟨s0, s1, s2⟩; go_simp; with_reducible rfl) ?_
      refine one_ (i := 5) (N := none) (bs 6 63) rfl rfl (by kernel_rfl) (by decide) (fun K hK => ?_)
      have hs61 : w60.cell? ⟨gb351, 0, none⟩ = some (.int .i64 0) := (blk_cell BK351.out 0).trans rfl
      have hfs61 := blk_frozen BK351.out 0
      have hns61_1 := NB367_351.out
      have hms61_1 := NB351_367.out
      have hs62 : w60.cell? ⟨gb351, 1, none⟩ = some (.int .i64 0) := (blk_cell BK351.out 1).trans rfl
      have hfs62 := blk_frozen BK351.out 1
      have hns62_1 := NB367_351.out
      have hms62_1 := NB351_367.out
      have hs63 : w60.cell? ⟨gb351, 2, none⟩ = some (.slice none 0 0) := (blk_cell BK351.out 2).trans rfl
      have hfs63 := blk_frozen BK351.out 2
      have hns63_1 := NB367_351.out
      have hms63_1 := NB351_367.out
      refine skip_ (w1 := ?_) (by rfl) rfl ?_ ?_
      rotate_left
      ·go_simp
       rfl
      refine hK.out _ _ ⟨((cell_far (p := ⟨gb351, _, none⟩) NB367_351.out _).trans (((cell_far (p := ⟨gb351, _, none⟩) NB367_351.out _).trans (((cell_far (p := ⟨gb351, _, none⟩) NB367_351.out _).trans (hHeld.1)))))), ((cell_far (p := ⟨gb351, _, none⟩) NB367_351.out _).trans (((cell_far (p := ⟨gb351, _, none⟩) NB367_351.out _).trans (((cell_far (p := ⟨gb351, _, none⟩) NB367_351.out _).trans (hHeld.2.1)))))), ((cell_far (p := ⟨gb351, _, none⟩) NB367_351.out _).trans (((cell_far (p := ⟨gb351, _, none⟩) NB367_351.out _).trans (((cell_far (p := ⟨gb351, _, none⟩) NB367_351.out _).trans (hHeld.2.2))))))⟩ (fun hHeld => ?_)
      clear hK K
      refine done_ (by kernel_rfl) ?_
      try go_wp2
      refine bodyPost_ret (results_list (rs := [.tmp 2, .tmp 3, .cell 4 40]) rfl (by simp) (.tmp (.tmp (.cell gb351 40 #[.int .i64 t361, .int .i64 t362, .slice (some ⟨go13, 0, none⟩) t363.length co27] (0, 0) _ rfl (by refine blk_put (cs := #[.int .i64 t361, .int .i64 t362, .slice none 0 0]) ?_ 2 _ rfl; refine blk_put (cs := #[.int .i64 t361, .int .i64 0, .slice none 0 0]) ?_ 1 _ rfl; refine blk_put (cs := #[.int .i64 0, .int .i64 0, .slice none 0 0]) ?_ 0 _ rfl; exact BK351.out) Tryz.underlying40 rfl (by kernel_rfl) .nil)))) rfl ?_
      exact ⟨_, _, rfl, Kd.R_mono (Kd.R_far (p := ⟨gb351, 2, none⟩) (Kd.R_far (p := ⟨gb351, 1, none⟩) (Kd.R_far (p := ⟨gb351, 0, none⟩) (Kd.R_types HO355.out BK351.out (by decide)) (fun _ hk => hk.2) (.int .i64 t361)) (fun _ hk => hk.2) (.int .i64 t362)) (fun _ hk => hk.2) (.slice (some ⟨go13, 0, none⟩) t363.length co27)) (fun _ hk => hk.1), Kd.Q_of_R (Kd.R_mono (Kd.R_far (p := ⟨gb351, 2, none⟩) (Kd.R_far (p := ⟨gb351, 1, none⟩) (Kd.R_far (p := ⟨gb351, 0, none⟩) (Kd.R_types HO365.out BK351.out (by decide)) (fun _ hk => hk.2) (.int .i64 t361)) (fun _ hk => hk.2) (.int .i64 t362)) (fun _ hk => hk.2) (.slice (some ⟨go13, 0, none⟩) t363.length co27)) (fun _ hk => hk.1)), by repeat (with_reducible first | exact HI0.out | apply IsS94.alloc | apply IsS94.drewN | apply IsS94.drew | apply IsS94.set_1 | refine IsS94.far ?_ NB0_351.out _ | refine IsS94.far ?_ NB0_367.out _), by repeat (with_reducible first | exact HB.out | apply below_alloc | apply pw_below_drewN | apply below_drew1 | refine below_set ?_ (IsS94.ge HI0.out) | refine below_set ?_ GE351.out | refine below_set ?_ GE367.out), by repeat (with_reducible first | exact HK.out | apply KeepBut.set_ | apply keep_drewN | apply keep_drew | apply keep_alloc | refine keep_far ?_ GW351.out _ | refine keep_far ?_ GW367.out _)⟩
    ·rw [if_neg c12] at H
     exact absurd H (by simp)
   ·rw [if_neg c11] at H
    exact absurd H (by simp)
  ·rw [if_neg c8] at H
   have c8b0 : (t368 == 0) = false := beq_eq_false_iff_ne.mpr c8
   have c8b1 : (t368 != 0) = true := bne_iff_ne.mpr c8
   refine hq_ ?_
   clear hq_ q_
   by_cases c64 : t368 = 1
   ·rw [if_pos c64] at H
    have c64b0 : (t368 == 1) = true := beq_iff_eq.mpr c64
    have c64b1 : (t368 != 1) = false := bne_eq_false_iff_eq.mpr c64
    clear c64
    replace H := bnd H
    obtain ⟨⟨t380, t381⟩, A65, H⟩ := H
    dsimp only at H
    replace H := bnd H
    obtain ⟨⟨t382, t383⟩, A66, H⟩ := H
    dsimp only at H
    try go_wp2_with (first | ((with_reducible refine gate_callee (f := 45) rfl ?_); refine goesL_ (some 46) rfl rfl Tryz.func45 (by kernel_rfl) rfl #[.pointer (some ⟨g, 0, none⟩), .int .i64 32] rfl (by (try simp only [List.map_toArray, List.map_cons, List.map_nil]); first | done | rfl | (simp only [List.length_drop, List.length_take]; rfl)) ?_; (with_reducible refine (spec_l6Rd_pick.calls k g s0_0 t369 32 t380 t381 w0 _ ?side1 ?side2 A65.out).mono ?_); (case side1 => repeat (with_reducible first | exact HI0.out | apply IsS94.alloc | apply IsS94.drewN | apply IsS94.drew | apply IsS94.set_1 | refine IsS94.far ?_ NB0_351.out _ | refine IsS94.far ?_ NB0_367.out _)); (case side2 => repeat (with_reducible first | exact HB.out | apply below_alloc | apply pw_below_drewN | apply below_drew1 | refine below_set ?_ (IsS94.ge HI0.out) | refine below_set ?_ GE351.out | refine below_set ?_ GE367.out)); rintro e w81 ⟨rfl, hi, hb, hk⟩; refine ⟨_, rfl, ?_⟩; replace BK351 := Aside0.mk (KeepBut.blk hk (g' := gb351) (o := .cells #[.int .i64 0, .int .i64 0, .slice none 0 0] 40 (0, 0)) (by exact BK351.out) NB351_0.out (by simp)); replace HO355 := Aside0.mk (Kd.R_mono (Kd.R_keep (IsS94.apart (show IsS94 w0 _ g s0_0 t369 from by repeat (with_reducible first | exact HI0.out | apply IsS94.alloc | apply IsS94.drewN | apply IsS94.drew | apply IsS94.set_1 | refine IsS94.far ?_ NB0_351.out _ | refine IsS94.far ?_ NB0_367.out _)) (HO355.out) (by decide)) hk (fun _ h => h.2)) (fun _ h => h.1)); replace HO365 := Aside0.mk (Kd.R_mono (Kd.R_keep (IsS94.apart (show IsS94 w0 _ g s0_0 t369 from by repeat (with_reducible first | exact HI0.out | apply IsS94.alloc | apply IsS94.drewN | apply IsS94.drew | apply IsS94.set_1 | refine IsS94.far ?_ NB0_351.out _ | refine IsS94.far ?_ NB0_367.out _)) (HO365.out) (by decide)) hk (fun _ h => h.2)) (fun _ h => h.1)); replace BK367 := Aside0.mk (KeepBut.blk hk (g' := gb367) (o := .cells #[.int .i64 t361, .int .i64 t362, .slice Ao27 t363.length co27] 40 (0, 0)) (by exact BK367.out) NB367_0.out (by simp)); replace HK := Aside0.mk (KeepBut.trans (by repeat (with_reducible first | exact HK.out | apply KeepBut.set_ | apply keep_drewN | apply keep_drew | apply keep_alloc | refine keep_far ?_ GW351.out _ | refine keep_far ?_ GW367.out _)) hk (.inl rfl)); replace HB := Aside0.mk (hb); replace HI0 := Aside0.mk (hi); (try clear hb); (try clear hb2); (try clear hk); (try clear hi); have hcz82_0 : w81.cell? ⟨gb367, 0, none⟩ = some (.int .i64 t361) := (blk_cell BK367.out 0).trans rfl; have hcz82_1 : w81.cell? ⟨gb367, 1, none⟩ = some (.int .i64 t362) := (blk_cell BK367.out 1).trans rfl; have hcz82_2 : w81.cell? ⟨gb367, 2, none⟩ = some (.slice Ao27 t363.length co27) := (blk_cell BK367.out 2).trans rfl; have hfz82_0 := blk_frozen BK367.out 0; have hfz82_1 := blk_frozen BK367.out 1; have hfz82_2 := blk_frozen BK367.out 2) | ((with_reducible refine gate_callee (f := 45) rfl ?_); refine goesL_ (some 59) rfl rfl Tryz.func45 (by kernel_rfl) rfl #[.pointer (some ⟨g, 0, none⟩), .int .i64 60] rfl (by (try simp only [List.map_toArray, List.map_cons, List.map_nil]); first | done | rfl | (simp only [List.length_drop, List.length_take]; rfl)) ?_; (with_reducible refine (spec_l6Rd_pick.calls k g s0_0 t381 60 t382 t383 w0 _ ?side1 ?side2 A66.out).mono ?_); (case side1 => repeat (with_reducible first | exact HI0.out | apply IsS94.alloc | apply IsS94.drewN | apply IsS94.drew | apply IsS94.set_1 | refine IsS94.far ?_ NB0_351.out _ | refine IsS94.far ?_ NB0_367.out _)); (case side2 => repeat (with_reducible first | exact HB.out | apply below_alloc | apply pw_below_drewN | apply below_drew1 | refine below_set ?_ (IsS94.ge HI0.out) | refine below_set ?_ GE351.out | refine below_set ?_ GE367.out)); rintro e w83 ⟨rfl, hi, hb, hk⟩; refine ⟨_, rfl, ?_⟩; replace BK351 := Aside0.mk (KeepBut.blk hk (g' := gb351) (o := .cells #[.int .i64 0, .int .i64 0, .slice none 0 0] 40 (0, 0)) (by refine blk_far ?_ NB351_367.out _; exact BK351.out) NB351_0.out (by simp)); replace HO355 := Aside0.mk (Kd.R_mono (Kd.R_keep (IsS94.apart (show IsS94 w0 _ g s0_0 t381 from by repeat (with_reducible first | exact HI0.out | apply IsS94.alloc | apply IsS94.drewN | apply IsS94.drew | apply IsS94.set_1 | refine IsS94.far ?_ NB0_351.out _ | refine IsS94.far ?_ NB0_367.out _)) ((Kd.R_mono (Kd.R_far (p := ⟨gb367, 0, none⟩) (Kd.R_types HO355.out BK367.out (by decide)) (fun _ hk => hk.2) (.int .i64 t380)) (fun _ h_ => h_.1))) (by decide)) hk (fun _ h => h.2)) (fun _ h => h.1)); replace HO365 := Aside0.mk (Kd.R_mono (Kd.R_keep (IsS94.apart (show IsS94 w0 _ g s0_0 t381 from by repeat (with_reducible first | exact HI0.out | apply IsS94.alloc | apply IsS94.drewN | apply IsS94.drew | apply IsS94.set_1 | refine IsS94.far ?_ NB0_351.out _ | refine IsS94.far ?_ NB0_367.out _)) ((Kd.R_mono (Kd.R_far (p := ⟨gb367, 0, none⟩) (Kd.R_types HO365.out BK367.out (by decide)) (fun _ hk => hk.2) (.int .i64 t380)) (fun _ h_ => h_.1))) (by decide)) hk (fun _ h => h.2)) (fun _ h => h.1)); replace BK367 := Aside0.mk (KeepBut.blk hk (g' := gb367) (o := .cells #[.int .i64 t380, .int .i64 t362, .slice Ao27 t363.length co27] 40 (0, 0)) (by refine blk_put (cs := #[.int .i64 t361, .int .i64 t362, .slice Ao27 t363.length co27]) ?_ 0 _ rfl; exact BK367.out) NB367_0.out (by simp)); replace HK := Aside0.mk (KeepBut.trans (by repeat (with_reducible first | exact HK.out | apply KeepBut.set_ | apply keep_drewN | apply keep_drew | apply keep_alloc | refine keep_far ?_ GW351.out _ | refine keep_far ?_ GW367.out _)) hk (.inl rfl)); replace HB := Aside0.mk (hb); replace HI0 := Aside0.mk (hi); (try clear hb); (try clear hb2); (try clear hk); (try clear hi); refine (show ∀ p_ : Prop, (∀ q_ : Prop, (p_ → Aside0 q_) → Aside0 q_) → p_ from fun p_ h_ => (h_ p_ Aside0.mk).out) _ (fun q_ hq_ => ?_)))
    by_cases c67 : t382 = 0
    ·rw [if_pos c67] at H
     have c67b0 : (t382 == 0) = true := beq_iff_eq.mpr c67
     have c67b1 : (t382 != 0) = false := bne_eq_false_iff_eq.mpr c67
     clear c67
     by_cases c68 : 1 ≤ (t363.length : Int)
     ·rw [if_pos c68] at H
      have c68b0 := eq_true c68
      have c68b1 : decide (1 ≤ (t363.length : Int)) = true := decide_eq_true c68
      clear c68
      obtain ⟨y384, hy384⟩ : ∃ y_ : List Int, y_ = (t363.drop (1 : Int).toNat) := ⟨_, rfl⟩
      replace H : (some (t352, t353, t380, t362, y384, t383)) = some (r1, r2, r3, r4, r5, r6) := by rw [hy384]; with_reducible exact H
      have Ny384 := Aside0.mk hy384
      clear hy384
      simp only [Option.some.injEq, Prod.mk.injEq] at H
      obtain ⟨rfl, rfl, rfl, rfl, rfl, rfl⟩ := H
      refine hq_ ?_
      clear hq_ q_
      have hcz84_0 : w83.cell? ⟨gb367, 0, none⟩ = some (.int .i64 t380) := (blk_cell BK367.out 0).trans rfl
      have hcz84_1 : w83.cell? ⟨gb367, 1, none⟩ = some (.int .i64 t362) := (blk_cell BK367.out 1).trans rfl
      have hcz84_2 : w83.cell? ⟨gb367, 2, none⟩ = some (.slice Ao27 t363.length co27) := (blk_cell BK367.out 2).trans rfl
      have hfz84_0 := blk_frozen BK367.out 0
      have hfz84_1 := blk_frozen BK367.out 1
      have hfz84_2 := blk_frozen BK367.out 2
      replace HO365 := Aside0.mk (Kd.R_mono (ok' := (fun k_ => some k_ ≠ (.slice Ao21 t353.length co21 : Value).ownBlock)) HO365.out (fun k_ hk => hk.2))
      have q85 : (1 : Int) ≤ ((t363.length : Int) : Int) := of_decide_eq_true ‹_›
      obtain ⟨i085, hi085, _, hsz85, _⟩ := info_parts info3
      have hcut85 := cut_from (P := Tryz.prog) 22 3 .i64 Tryz.underlying22 hi085 1 hsz85 Ao27 t363.length co27 1 (by omega) q85
      have hr85 := Kd.Q_drop (k := (1 : Int).toNat) (Kd.Q_of_R HO365.out) (by first | omega | (have hn_ := (Kd.R_reads' HO365.out).1; omega))
      obtain ⟨A85, hA85⟩ : ∃ A1, A1 = (if co27 = (1 : Int).toNat then Ao27 else (Ao27 : Option Addr).map (·.add ((1 : Int).toNat * 1))) := ⟨_, rfl⟩
      obtain ⟨c85, hc85⟩ : ∃ c1, c1 = co27 - (1 : Int).toNat := ⟨_, rfl⟩
      have hy85 : y384.length = t363.length - (1 : Int).toNat := (by first | (rw [Ny384.out, List.length_drop]; done) | (have hn_ := (Kd.R_reads' HO365.out).1; rw [Ny384.out, List.length_drop]; omega))
      rw [← Ny384.out] at hr85
      rw [← hy85, ← hA85, ← hc85] at hcut85
      replace hr85 : Kd.Q (Kd.int .i64) 3 w83 w.heap.size (fun k_ => some k_ ≠ (.slice Ao21 t353.length co21 : Value).ownBlock) (.slice A85 y384.length c85) y384 := (by rw [hA85, hc85, hy85]; exact hr85)
      have HE85 : Aside0 ((Value.slice A85 y384.length c85).ownBlock = (.slice Ao27 t363.length co27 : Value).ownBlock) := ⟨by rw [hA85]; split <;> (cases (Ao27 : Option Addr) <;> rfl)⟩
      clear hy85 hi085 hsz85 HO365 hA85 hc85
      have HO386 := Aside0.mk hr85
      clear hr85
      replace q85 := eq_true q85
      replace HO355 := Aside0.mk (Kd.R_mono (ok' := fun k_ => (True ∧ some k_ ≠ (.slice A85 y384.length c85 : Value).ownBlock)) HO355.out (fun k_ hk => ⟨trivial, (by rw [HE85.out]; exact hk.2)⟩))
      try go_wp2
      replace HO355 : Aside0 (Kd.R (Kd.int .i64) 3 (w83.setCell ⟨gb367, 2, none⟩ (.slice A85 y384.length c85)) w.heap.size (fun k_ => some k_ ≠ (.slice A85 y384.length c85 : Value).ownBlock) (.slice Ao21 t353.length co21) t353) := ⟨Kd.R_mono (Kd.R_far (p := ⟨gb367, 2, none⟩) (Kd.R_types HO355.out BK367.out (by decide)) (fun _ hk => hk.2) (.slice A85 y384.length c85)) (fun _ hk => hk.1.2)⟩
      replace HO386 : Aside0 (Kd.Q (Kd.int .i64) 3 (w83.setCell ⟨gb367, 2, none⟩ (.slice A85 y384.length c85)) w.heap.size (fun k_ => some k_ ≠ (.slice Ao21 t353.length co21 : Value).ownBlock) (.slice A85 y384.length c85) y384) := ⟨Kd.Q_mono (Kd.Q_far (p := ⟨gb367, 2, none⟩) (Kd.Q_types HO386.out BK367.out (by decide)) (fun _ hk => hk.2) (.slice A85 y384.length c85)) (fun _ hk => hk.1)⟩
      replace BK351 : Aside0 ((w83.setCell ⟨gb367, 2, none⟩ (.slice A85 y384.length c85)).heap[gb351]? = some (.cells #[.int .i64 0, .int .i64 0, .slice none 0 0] 40 (0, 0))) := ⟨by refine blk_far ?_ NB351_367.out _; exact BK351.out⟩
      replace BK367 : Aside0 ((w83.setCell ⟨gb367, 2, none⟩ (.slice A85 y384.length c85)).heap[gb367]? = some (.cells #[.int .i64 t380, .int .i64 t362, .slice A85 y384.length c85] 40 (0, 0))) := ⟨by refine blk_put (cs := #[.int .i64 t380, .int .i64 t362, .slice Ao27 t363.length co27]) ?_ 2 _ rfl; exact BK367.out⟩
      replace HK : Aside0 (KeepBut w (w83.setCell ⟨gb367, 2, none⟩ (.slice A85 y384.length c85)) g none) := ⟨by repeat (with_reducible first | exact HK.out | apply KeepBut.set_ | apply keep_drewN | apply keep_drew | apply keep_alloc | refine keep_far ?_ GW351.out _ | refine keep_far ?_ GW367.out _)⟩
      replace HB : Aside0 (Below w0.heap.size w0 (w83.setCell ⟨gb367, 2, none⟩ (.slice A85 y384.length c85))) := ⟨by repeat (with_reducible first | exact HB.out | apply below_alloc | apply pw_below_drewN | apply below_drew1 | refine below_set ?_ (IsS94.ge HI0.out) | refine below_set ?_ GE351.out | refine below_set ?_ GE367.out)⟩
      replace HI0 : Aside0 (IsS94 w0 (w83.setCell ⟨gb367, 2, none⟩ (.slice A85 y384.length c85)) g s0_0 t383) := ⟨by repeat (with_reducible first | exact HI0.out | apply IsS94.alloc | apply IsS94.drewN | apply IsS94.drew | apply IsS94.set_1 | refine IsS94.far ?_ NB0_351.out _ | refine IsS94.far ?_ NB0_367.out _)⟩
      generalize (w83.setCell ⟨gb367, 2, none⟩ (.slice A85 y384.length c85)) = w86 at HO355 HO386 BK351 BK367 HI0 HK HB ⊢
      replace HO355 := Aside0.mk (Kd.R_drew HO355.out)
      replace HO386 := Aside0.mk (Kd.Q_drew HO386.out)
      replace BK351 := Aside0.mk (blk_drew BK351.out)
      replace BK367 := Aside0.mk (blk_drew BK367.out)
      replace HI0 := Aside0.mk (IsS94.drew HI0.out)
      replace HK := Aside0.mk (keep_drew HK.out)
      replace HB := Aside0.mk (below_drew1 HB.out)
      refine start_ (n := 6) (S := fun w' => w'.cell? ⟨gb367, 0, none⟩ = some (.int .i64 t380) ∧ w'.cell? ⟨gb367, 1, none⟩ = some (.int .i64 t362) ∧ w'.cell? ⟨gb367, 2, none⟩ = some (.slice A85 y384.length c85)) (ds := []) (bs 6 0) (by kernel_rfl) rfl rfl ⟨(blk_cell BK367.out 0).trans rfl, (blk_cell BK367.out 1).trans rfl, (blk_cell BK367.out 2).trans rfl⟩ (fun hHeld => ?_)
      generalize w86.drew = w87 at HO355 HO386 BK351 BK367 HI0 HK HB hHeld ⊢
      refine pZ 0 (some 65) (bs 6 1) rfl rfl (by kernel_rfl) ?_
      refine pZ 1 (some 66) (bs 6 3) rfl rfl (by kernel_rfl) ?_
      refine pZ 3 (some 2) (bs 6 11) rfl rfl (by kernel_rfl) ?_
      refine pZ 4 (some 3) (bs 6 27) rfl rfl (by kernel_rfl) ?_
      refine tZ 2 (some 67) (bs 6 31) rfl rfl (by kernel_rfl) hHeld (by rintro w' ⟨s0, s1, s2⟩; go_simp; with_reducible rfl) ?_
      refine one_ (i := 5) (N := none) (bs 6 63) rfl rfl (by kernel_rfl) (by decide) (fun K hK => ?_)
      have hs88 : w87.cell? ⟨gb351, 0, none⟩ = some (.int .i64 0) := (blk_cell BK351.out 0).trans rfl
      have hfs88 := blk_frozen BK351.out 0
      have hns88_1 := NB367_351.out
      have hms88_1 := NB351_367.out
      have hs89 : w87.cell? ⟨gb351, 1, none⟩ = some (.int .i64 0) := (blk_cell BK351.out 1).trans rfl
      have hfs89 := blk_frozen BK351.out 1
      have hns89_1 := NB367_351.out
      have hms89_1 := NB351_367.out
      have hs90 : w87.cell? ⟨gb351, 2, none⟩ = some (.slice none 0 0) := (blk_cell BK351.out 2).trans rfl
      have hfs90 := blk_frozen BK351.out 2
      have hns90_1 := NB367_351.out
      have hms90_1 := NB351_367.out
      refine skip_ (w1 := ?_) (by rfl) rfl ?_ ?_
      rotate_left
      ·go_simp
       rfl
      refine hK.out _ _ ⟨((cell_far (p := ⟨gb351, _, none⟩) NB367_351.out _).trans (((cell_far (p := ⟨gb351, _, none⟩) NB367_351.out _).trans (((cell_far (p := ⟨gb351, _, none⟩) NB367_351.out _).trans (hHeld.1)))))), ((cell_far (p := ⟨gb351, _, none⟩) NB367_351.out _).trans (((cell_far (p := ⟨gb351, _, none⟩) NB367_351.out _).trans (((cell_far (p := ⟨gb351, _, none⟩) NB367_351.out _).trans (hHeld.2.1)))))), ((cell_far (p := ⟨gb351, _, none⟩) NB367_351.out _).trans (((cell_far (p := ⟨gb351, _, none⟩) NB367_351.out _).trans (((cell_far (p := ⟨gb351, _, none⟩) NB367_351.out _).trans (hHeld.2.2))))))⟩ (fun hHeld => ?_)
      clear hK K
      refine done_ (by kernel_rfl) ?_
      try go_wp2
      refine bodyPost_ret (results_list (rs := [.tmp 2, .tmp 3, .cell 4 40]) rfl (by simp) (.tmp (.tmp (.cell gb351 40 #[.int .i64 t380, .int .i64 t362, .slice A85 y384.length c85] (0, 0) _ rfl (by refine blk_put (cs := #[.int .i64 t380, .int .i64 t362, .slice none 0 0]) ?_ 2 _ rfl; refine blk_put (cs := #[.int .i64 t380, .int .i64 0, .slice none 0 0]) ?_ 1 _ rfl; refine blk_put (cs := #[.int .i64 0, .int .i64 0, .slice none 0 0]) ?_ 0 _ rfl; exact BK351.out) Tryz.underlying40 rfl (by kernel_rfl) .nil)))) rfl ?_
      exact ⟨_, _, rfl, Kd.R_mono (Kd.R_far (p := ⟨gb351, 2, none⟩) (Kd.R_far (p := ⟨gb351, 1, none⟩) (Kd.R_far (p := ⟨gb351, 0, none⟩) (Kd.R_types HO355.out BK351.out (by decide)) (fun _ hk => hk.2) (.int .i64 t380)) (fun _ hk => hk.2) (.int .i64 t362)) (fun _ hk => hk.2) (.slice A85 y384.length c85)) (fun _ hk => hk.1), Kd.Q_mono (Kd.Q_far (p := ⟨gb351, 2, none⟩) (Kd.Q_far (p := ⟨gb351, 1, none⟩) (Kd.Q_far (p := ⟨gb351, 0, none⟩) (Kd.Q_types HO386.out BK351.out (by decide)) (fun _ hk => hk.2) (.int .i64 t380)) (fun _ hk => hk.2) (.int .i64 t362)) (fun _ hk => hk.2) (.slice A85 y384.length c85)) (fun _ hk => hk.1), by repeat (with_reducible first | exact HI0.out | apply IsS94.alloc | apply IsS94.drewN | apply IsS94.drew | apply IsS94.set_1 | refine IsS94.far ?_ NB0_351.out _ | refine IsS94.far ?_ NB0_367.out _), by repeat (with_reducible first | exact HB.out | apply below_alloc | apply pw_below_drewN | apply below_drew1 | refine below_set ?_ (IsS94.ge HI0.out) | refine below_set ?_ GE351.out | refine below_set ?_ GE367.out), by repeat (with_reducible first | exact HK.out | apply KeepBut.set_ | apply keep_drewN | apply keep_drew | apply keep_alloc | refine keep_far ?_ GW351.out _ | refine keep_far ?_ GW367.out _)⟩
     ·rw [if_neg c68] at H
      exact absurd H (by simp)
    ·rw [if_neg c67] at H
     have c67b0 : (t382 == 0) = false := beq_eq_false_iff_ne.mpr c67
     have c67b1 : (t382 != 0) = true := bne_iff_ne.mpr c67
     simp only [Option.some.injEq, Prod.mk.injEq] at H
     obtain ⟨rfl, rfl, rfl, rfl, rfl, rfl⟩ := H
     refine hq_ ?_
     clear hq_ q_
     try go_wp2
     replace HO355 := Aside0.mk (Kd.R_drew HO355.out)
     replace HO365 := Aside0.mk (Kd.R_drew HO365.out)
     replace BK351 := Aside0.mk (blk_drew BK351.out)
     replace BK367 := Aside0.mk (blk_drew BK367.out)
     replace HI0 := Aside0.mk (IsS94.drew HI0.out)
     replace HK := Aside0.mk (keep_drew HK.out)
     replace HB := Aside0.mk (below_drew1 HB.out)
     refine start_ (n := 6) (S := fun w' => w'.cell? ⟨gb367, 0, none⟩ = some (.int .i64 t380) ∧ w'.cell? ⟨gb367, 1, none⟩ = some (.int .i64 t362) ∧ w'.cell? ⟨gb367, 2, none⟩ = some (.slice Ao27 t363.length co27)) (ds := []) (bs 6 0) (by kernel_rfl) rfl rfl ⟨(blk_cell BK367.out 0).trans rfl, (blk_cell BK367.out 1).trans rfl, (blk_cell BK367.out 2).trans rfl⟩ (fun hHeld => ?_)
     generalize w83.drew = w106 at HO355 HO365 BK351 BK367 HI0 HK HB hHeld ⊢
     refine pZ 0 (some 65) (bs 6 1) rfl rfl (by kernel_rfl) ?_
     refine pZ 1 (some 66) (bs 6 3) rfl rfl (by kernel_rfl) ?_
     refine pZ 3 (some 2) (bs 6 11) rfl rfl (by kernel_rfl) ?_
     refine pZ 4 (some 3) (bs 6 27) rfl rfl (by kernel_rfl) ?_
     refine tZ 2 (some 67) (bs 6 31) rfl rfl (by kernel_rfl) hHeld (by rintro w' ⟨s0, s1, s2⟩; go_simp; with_reducible rfl) ?_
     refine one_ (i := 5) (N := none) (bs 6 63) rfl rfl (by kernel_rfl) (by decide) (fun K hK => ?_)
     have hs107 : w106.cell? ⟨gb351, 0, none⟩ = some (.int .i64 0) := (blk_cell BK351.out 0).trans rfl
     have hfs107 := blk_frozen BK351.out 0
     have hns107_1 := NB367_351.out
     have hms107_1 := NB351_367.out
     have hs108 : w106.cell? ⟨gb351, 1, none⟩ = some (.int .i64 0) := (blk_cell BK351.out 1).trans rfl
     have hfs108 := blk_frozen BK351.out 1
     have hns108_1 := NB367_351.out
     have hms108_1 := NB351_367.out
     have hs109 : w106.cell? ⟨gb351, 2, none⟩ = some (.slice none 0 0) := (blk_cell BK351.out 2).trans rfl
     have hfs109 := blk_frozen BK351.out 2
     have hns109_1 := NB367_351.out
     have hms109_1 := NB351_367.out
     refine skip_ (w1 := ?_) (by rfl) rfl ?_ ?_
     rotate_left
     ·go_simp
      rfl
     refine hK.out _ _ ⟨((cell_far (p := ⟨gb351, _, none⟩) NB367_351.out _).trans (((cell_far (p := ⟨gb351, _, none⟩) NB367_351.out _).trans (((cell_far (p := ⟨gb351, _, none⟩) NB367_351.out _).trans (hHeld.1)))))), ((cell_far (p := ⟨gb351, _, none⟩) NB367_351.out _).trans (((cell_far (p := ⟨gb351, _, none⟩) NB367_351.out _).trans (((cell_far (p := ⟨gb351, _, none⟩) NB367_351.out _).trans (hHeld.2.1)))))), ((cell_far (p := ⟨gb351, _, none⟩) NB367_351.out _).trans (((cell_far (p := ⟨gb351, _, none⟩) NB367_351.out _).trans (((cell_far (p := ⟨gb351, _, none⟩) NB367_351.out _).trans (hHeld.2.2))))))⟩ (fun hHeld => ?_)
     clear hK K
     refine done_ (by kernel_rfl) ?_
     try go_wp2
     refine bodyPost_ret (results_list (rs := [.tmp 2, .tmp 3, .cell 4 40]) rfl (by simp) (.tmp (.tmp (.cell gb351 40 #[.int .i64 t380, .int .i64 t362, .slice Ao27 t363.length co27] (0, 0) _ rfl (by refine blk_put (cs := #[.int .i64 t380, .int .i64 t362, .slice none 0 0]) ?_ 2 _ rfl; refine blk_put (cs := #[.int .i64 t380, .int .i64 0, .slice none 0 0]) ?_ 1 _ rfl; refine blk_put (cs := #[.int .i64 0, .int .i64 0, .slice none 0 0]) ?_ 0 _ rfl; exact BK351.out) Tryz.underlying40 rfl (by kernel_rfl) .nil)))) rfl ?_
     exact ⟨_, _, rfl, Kd.R_mono (Kd.R_far (p := ⟨gb351, 2, none⟩) (Kd.R_far (p := ⟨gb351, 1, none⟩) (Kd.R_far (p := ⟨gb351, 0, none⟩) (Kd.R_types HO355.out BK351.out (by decide)) (fun _ hk => hk.2) (.int .i64 t380)) (fun _ hk => hk.2) (.int .i64 t362)) (fun _ hk => hk.2) (.slice Ao27 t363.length co27)) (fun _ hk => hk.1.2), Kd.Q_of_R (Kd.R_mono (Kd.R_far (p := ⟨gb351, 2, none⟩) (Kd.R_far (p := ⟨gb351, 1, none⟩) (Kd.R_far (p := ⟨gb351, 0, none⟩) (Kd.R_types HO365.out BK351.out (by decide)) (fun _ hk => hk.2) (.int .i64 t380)) (fun _ hk => hk.2) (.int .i64 t362)) (fun _ hk => hk.2) (.slice Ao27 t363.length co27)) (fun _ hk => hk.1.2)), by repeat (with_reducible first | exact HI0.out | apply IsS94.alloc | apply IsS94.drewN | apply IsS94.drew | apply IsS94.set_1 | refine IsS94.far ?_ NB0_351.out _ | refine IsS94.far ?_ NB0_367.out _), by repeat (with_reducible first | exact HB.out | apply below_alloc | apply pw_below_drewN | apply below_drew1 | refine below_set ?_ (IsS94.ge HI0.out) | refine below_set ?_ GE351.out | refine below_set ?_ GE367.out), by repeat (with_reducible first | exact HK.out | apply KeepBut.set_ | apply keep_drewN | apply keep_drew | apply keep_alloc | refine keep_far ?_ GW351.out _ | refine keep_far ?_ GW367.out _)⟩
   ·rw [if_neg c64] at H
    have c64b0 : (t368 == 1) = false := beq_eq_false_iff_ne.mpr c64
    have c64b1 : (t368 != 1) = true := bne_iff_ne.mpr c64
    by_cases c110 : t368 = 2
    ·rw [if_pos c110] at H
     have c110b0 : (t368 == 2) = true := beq_iff_eq.mpr c110
     have c110b1 : (t368 != 2) = false := bne_eq_false_iff_eq.mpr c110
     clear c110
     replace H := bnd H
     obtain ⟨⟨t387, t388⟩, A111, H⟩ := H
     dsimp only at H
     replace H := bnd H
     obtain ⟨⟨t389, t390⟩, A112, H⟩ := H
     dsimp only at H
     by_cases c113 : 0 ≤ t387
     ·rw [if_pos c113] at H
      have c113b0 : decide (0 ≤ t387) = true := decide_eq_true c113
      clear c113
      by_cases c114 : t387 < (t353.length : Int)
      ·rw [if_pos c114] at H
       have c114b0 : decide (t387 < (t353.length : Int)) = true := decide_eq_true c114
       clear c114
       obtain ⟨y391, hy391⟩ : ∃ y_ : List Int, y_ = (t353.set (t387 : Int).toNat t389) := ⟨_, rfl⟩
       replace H : ((spec_l6Rd_pick.f k s0_0 t390 60).bind fun bt392 => (if bt392.1 = 0 then (if 1 ≤ (t363.length : Int) then (some (t352, y391, t361, t362, (t363.drop (1 : Int).toNat), bt392.2)) else (none)) else (some (t352, y391, t361, t362, t363, bt392.2)))) = some (r1, r2, r3, r4, r5, r6) := by first | (rw [hy391]; with_reducible exact H) | (have H2_ := (Option.bind_some _ _).symm.trans H; rw [hy391]; with_reducible exact H2_) | (have H2_ := (Option.bind_some _ _).symm.trans H; with_reducible exact H2_) | with_reducible exact H | (rw [hy391]; exact H) | exact H
       have Ny391 := Aside0.mk hy391
       clear hy391
       replace H := bnd H
       obtain ⟨⟨t392, t393⟩, A116, H⟩ := H
       dsimp only at H
       try go_wp2_with (first | ((with_reducible refine gate_callee (f := 45) rfl ?_); refine goesL_ (some 54) rfl rfl Tryz.func45 (by kernel_rfl) rfl #[.pointer (some ⟨g, 0, none⟩), .int .i64 (t353.length : Int)] rfl (by (try simp only [List.map_toArray, List.map_cons, List.map_nil]); first | done | rfl | (simp only [List.length_drop, List.length_take]; rfl)) ?_; (with_reducible refine (spec_l6Rd_pick.calls k g s0_0 t369 (t353.length : Int) t387 t388 w0 _ ?side1 ?side2 A111.out).mono ?_); (case side1 => repeat (with_reducible first | exact HI0.out | apply IsS94.alloc | apply IsS94.drewN | apply IsS94.drew | apply IsS94.set_1 | refine IsS94.far ?_ NB0_351.out _ | refine IsS94.far ?_ NB0_367.out _)); (case side2 => repeat (with_reducible first | exact HB.out | apply below_alloc | apply pw_below_drewN | apply below_drew1 | refine below_set ?_ (IsS94.ge HI0.out) | refine below_set ?_ GE351.out | refine below_set ?_ GE367.out)); rintro e w131 ⟨rfl, hi, hb, hk⟩; refine ⟨_, rfl, ?_⟩; replace BK351 := Aside0.mk (KeepBut.blk hk (g' := gb351) (o := .cells #[.int .i64 0, .int .i64 0, .slice none 0 0] 40 (0, 0)) (by exact BK351.out) NB351_0.out (by simp)); replace HO355 := Aside0.mk (Kd.R_mono (Kd.R_keep (IsS94.apart (show IsS94 w0 _ g s0_0 t369 from by repeat (with_reducible first | exact HI0.out | apply IsS94.alloc | apply IsS94.drewN | apply IsS94.drew | apply IsS94.set_1 | refine IsS94.far ?_ NB0_351.out _ | refine IsS94.far ?_ NB0_367.out _)) (HO355.out) (by decide)) hk (fun _ h => h.2)) (fun _ h => h.1)); replace HO365 := Aside0.mk (Kd.R_mono (Kd.R_keep (IsS94.apart (show IsS94 w0 _ g s0_0 t369 from by repeat (with_reducible first | exact HI0.out | apply IsS94.alloc | apply IsS94.drewN | apply IsS94.drew | apply IsS94.set_1 | refine IsS94.far ?_ NB0_351.out _ | refine IsS94.far ?_ NB0_367.out _)) (HO365.out) (by decide)) hk (fun _ h => h.2)) (fun _ h => h.1)); replace BK367 := Aside0.mk (KeepBut.blk hk (g' := gb367) (o := .cells #[.int .i64 t361, .int .i64 t362, .slice Ao27 t363.length co27] 40 (0, 0)) (by exact BK367.out) NB367_0.out (by simp)); replace HK := Aside0.mk (KeepBut.trans (by repeat (with_reducible first | exact HK.out | apply KeepBut.set_ | apply keep_drewN | apply keep_drew | apply keep_alloc | refine keep_far ?_ GW351.out _ | refine keep_far ?_ GW367.out _)) hk (.inl rfl)); replace HB := Aside0.mk (hb); replace HI0 := Aside0.mk (hi); clear hb hk hi) | ((with_reducible refine gate_callee (f := 45) rfl ?_); refine goesL_ (some 56) rfl rfl Tryz.func45 (by kernel_rfl) rfl #[.pointer (some ⟨g, 0, none⟩), .int .i64 3] rfl (by (try simp only [List.map_toArray, List.map_cons, List.map_nil]); first | done | rfl | (simp only [List.length_drop, List.length_take]; rfl)) ?_; (with_reducible refine (spec_l6Rd_pick.calls k g s0_0 t388 3 t389 t390 w0 _ ?side1 ?side2 A112.out).mono ?_); (case side1 => repeat (with_reducible first | exact HI0.out | apply IsS94.alloc | apply IsS94.drewN | apply IsS94.drew | apply IsS94.set_1 | refine IsS94.far ?_ NB0_351.out _ | refine IsS94.far ?_ NB0_367.out _)); (case side2 => repeat (with_reducible first | exact HB.out | apply below_alloc | apply pw_below_drewN | apply below_drew1 | refine below_set ?_ (IsS94.ge HI0.out) | refine below_set ?_ GE351.out | refine below_set ?_ GE367.out)); rintro e w132 ⟨rfl, hi, hb, hk⟩; refine ⟨_, rfl, ?_⟩; replace BK351 := Aside0.mk (KeepBut.blk hk (g' := gb351) (o := .cells #[.int .i64 0, .int .i64 0, .slice none 0 0] 40 (0, 0)) (by exact BK351.out) NB351_0.out (by simp)); replace HO355 := Aside0.mk (Kd.R_mono (Kd.R_keep (IsS94.apart (show IsS94 w0 _ g s0_0 t388 from by repeat (with_reducible first | exact HI0.out | apply IsS94.alloc | apply IsS94.drewN | apply IsS94.drew | apply IsS94.set_1 | refine IsS94.far ?_ NB0_351.out _ | refine IsS94.far ?_ NB0_367.out _)) (HO355.out) (by decide)) hk (fun _ h => h.2)) (fun _ h => h.1)); replace HO365 := Aside0.mk (Kd.R_mono (Kd.R_keep (IsS94.apart (show IsS94 w0 _ g s0_0 t388 from by repeat (with_reducible first | exact HI0.out | apply IsS94.alloc | apply IsS94.drewN | apply IsS94.drew | apply IsS94.set_1 | refine IsS94.far ?_ NB0_351.out _ | refine IsS94.far ?_ NB0_367.out _)) (HO365.out) (by decide)) hk (fun _ h => h.2)) (fun _ h => h.1)); replace BK367 := Aside0.mk (KeepBut.blk hk (g' := gb367) (o := .cells #[.int .i64 t361, .int .i64 t362, .slice Ao27 t363.length co27] 40 (0, 0)) (by exact BK367.out) NB367_0.out (by simp)); replace HK := Aside0.mk (KeepBut.trans (by repeat (with_reducible first | exact HK.out | apply KeepBut.set_ | apply keep_drewN | apply keep_drew | apply keep_alloc | refine keep_far ?_ GW351.out _ | refine keep_far ?_ GW367.out _)) hk (.inl rfl)); replace HB := Aside0.mk (hb); replace HI0 := Aside0.mk (hi); (try clear hb); (try clear hb2); (try clear hk); (try clear hi); have p115 : 0 ≤ (t387 : Int) := of_decide_eq_true ‹_›; have q115 : (t387 : Int) < ((t353.length : Int) : Int) := of_decide_eq_true ‹_›; obtain ⟨go115, co115, eo115, gb115, gl115, cl115, HG115⟩ := Kd.R_form HO355.out (by omega); (first | cases eo115 | (injection eo115 with ea_ en_ ec_; (first | subst ea_ | (injection ea_ with ea_; subst ea_)); subst ec_; clear en_)); have GB115 := Aside0.mk gb115; have GG115 := Aside0.mk HG115; clear gb115 gl115 HG115; obtain ⟨hx115_0, hf115_0⟩ := Kd.R_celln 0 HO355.out (t387 : Int) p115 q115; replace p115 := eq_true p115; replace q115 := eq_true q115; have n_ := Aside0.mk (Kd.R_mono (ok' := (fun k_ => some k_ ≠ (.slice Ao27 t363.length co27 : Value).ownBlock)) HO355.out (fun k_ hk => hk.2)); clear HO355; have HO355 := n_; clear n_; obtain ⟨hy133_, hz133_⟩ := Kd.R_celln 0 HO355.out (t387 : Int) (of_decide_eq_true ‹_›) (of_decide_eq_true ‹_›); have HP133 := Kd.R_putg HO355.out (t387 : Int) t389) | ((with_reducible refine gate_store (t := 3) (p := 57) rfl ?_); refine store_event (t := 3) (p := 57) (v := ?vo_w134) (w1 := (w132.setCell ⟨go115, (t387 : Int).toNat, none⟩ (.int .i64 t389))) ?hg ?ho ?hn ?hr ?_; (case ho => rfl); (case hg => rfl); (case hn => rfl); (case hr => first | (go_simp; done) | (go_simp; rfl)); intro w134 hw; have hg : w132.grownBy w134 (some go115) := (by rw [hw]; exact HP133.2); have hp_ : Kd.R (Kd.int .i64) 3 w134 w.heap.size (fun k_ => some k_ ≠ (.slice Ao27 t363.length co27 : Value).ownBlock) (.slice (some ⟨go115, 0, none⟩) t353.length co21) y391 := (by rw [hw, Ny391.out]; exact HP133.1); clear HP133; replace HI0 := Aside0.mk (IsS94.grown (by repeat (with_reducible first | exact HI0.out | apply IsS94.alloc | apply IsS94.drewN | apply IsS94.drew | apply IsS94.set_1 | refine IsS94.far ?_ NB0_351.out _ | refine IsS94.far ?_ NB0_367.out _)) hg (IsS94.own_ne HI0.out HO355.out (by decide))); replace BK351 := Aside0.mk (blk_grown (g := gb351) (o := .cells #[.int .i64 0, .int .i64 0, .slice none 0 0] 40 (0, 0)) (by exact BK351.out) hg (Kd.R_ne HO355.out BK351.out (by decide))); replace HO365 := Aside0.mk (Kd.R_after (v := (.slice (some ⟨go115, 0, none⟩) t353.length co21)) (v1 := (.slice (some ⟨go115, 0, none⟩) t353.length co21)) (ok := (fun _ => True)) (HO365.out) hg (.inl rfl)); replace BK367 := Aside0.mk (blk_grown (g := gb367) (o := .cells #[.int .i64 t361, .int .i64 t362, .slice Ao27 t363.length co27] 40 (0, 0)) (by exact BK367.out) hg (Kd.R_ne HO355.out BK367.out (by decide))); replace HB := Aside0.mk ((by rw [hw]; exact below_set (HB.out) (Nat.le_trans HL.out GB115.out) : Below w0.heap.size w0 w134)); replace HK := Aside0.mk (KeepBut.trans (by repeat (with_reducible first | exact HK.out | apply KeepBut.set_ | apply keep_drewN | apply keep_drew | apply keep_alloc | refine keep_far ?_ GW351.out _ | refine keep_far ?_ GW367.out _)) (KeepBut.of_grown hg g) (Kd.R_base2 HO355.out)); replace HO355 := Aside0.mk (hp_); clear hg hw hp_) | ((with_reducible refine gate_callee (f := 45) rfl ?_); refine goesL_ (some 59) rfl rfl Tryz.func45 (by kernel_rfl) rfl #[.pointer (some ⟨g, 0, none⟩), .int .i64 60] rfl (by (try simp only [List.map_toArray, List.map_cons, List.map_nil]); first | done | rfl | (simp only [List.length_drop, List.length_take]; rfl)) ?_; (with_reducible refine (spec_l6Rd_pick.calls k g s0_0 t390 60 t392 t393 w0 _ ?side1 ?side2 A116.out).mono ?_); (case side1 => repeat (with_reducible first | exact HI0.out | apply IsS94.alloc | apply IsS94.drewN | apply IsS94.drew | apply IsS94.set_1 | refine IsS94.far ?_ NB0_351.out _ | refine IsS94.far ?_ NB0_367.out _)); (case side2 => repeat (with_reducible first | exact HB.out | apply below_alloc | apply pw_below_drewN | apply below_drew1 | refine below_set ?_ (IsS94.ge HI0.out) | refine below_set ?_ GE351.out | refine below_set ?_ GE367.out)); rintro e w135 ⟨rfl, hi, hb, hk⟩; refine ⟨_, rfl, ?_⟩; replace BK351 := Aside0.mk (KeepBut.blk hk (g' := gb351) (o := .cells #[.int .i64 0, .int .i64 0, .slice none 0 0] 40 (0, 0)) (by exact BK351.out) NB351_0.out (by simp)); replace HO355 := Aside0.mk (Kd.R_mono (Kd.R_keep (IsS94.apart (show IsS94 w0 _ g s0_0 t390 from by repeat (with_reducible first | exact HI0.out | apply IsS94.alloc | apply IsS94.drewN | apply IsS94.drew | apply IsS94.set_1 | refine IsS94.far ?_ NB0_351.out _ | refine IsS94.far ?_ NB0_367.out _)) (HO355.out) (by decide)) hk (fun _ h => h.2)) (fun _ h => h.1)); replace HO365 := Aside0.mk (Kd.R_mono (Kd.R_keep (IsS94.apart (show IsS94 w0 _ g s0_0 t390 from by repeat (with_reducible first | exact HI0.out | apply IsS94.alloc | apply IsS94.drewN | apply IsS94.drew | apply IsS94.set_1 | refine IsS94.far ?_ NB0_351.out _ | refine IsS94.far ?_ NB0_367.out _)) (HO365.out) (by decide)) hk (fun _ h => h.2)) (fun _ h => h.1)); replace BK367 := Aside0.mk (KeepBut.blk hk (g' := gb367) (o := .cells #[.int .i64 t361, .int .i64 t362, .slice Ao27 t363.length co27] 40 (0, 0)) (by exact BK367.out) NB367_0.out (by simp)); replace HK := Aside0.mk (KeepBut.trans (by repeat (with_reducible first | exact HK.out | apply KeepBut.set_ | apply keep_drewN | apply keep_drew | apply keep_alloc | refine keep_far ?_ GW351.out _ | refine keep_far ?_ GW367.out _)) hk (.inl rfl)); replace HB := Aside0.mk (hb); replace HI0 := Aside0.mk (hi); (try clear hb); (try clear hb2); (try clear hk); (try clear hi); refine (show ∀ p_ : Prop, (∀ q_ : Prop, (p_ → Aside0 q_) → Aside0 q_) → p_ from fun p_ h_ => (h_ p_ Aside0.mk).out) _ (fun q_ hq_ => ?_)))
       by_cases c117 : t392 = 0
       ·rw [if_pos c117] at H
        have c117b0 : (t392 == 0) = true := beq_iff_eq.mpr c117
        have c117b1 : (t392 != 0) = false := bne_eq_false_iff_eq.mpr c117
        clear c117
        by_cases c118 : 1 ≤ (t363.length : Int)
        ·rw [if_pos c118] at H
         have c118b0 := eq_true c118
         have c118b1 : decide (1 ≤ (t363.length : Int)) = true := decide_eq_true c118
         clear c118
         obtain ⟨y394, hy394⟩ : ∃ y_ : List Int, y_ = (t363.drop (1 : Int).toNat) := ⟨_, rfl⟩
         rw [← hy394] at H
         have Ny394 := Aside0.mk hy394
         clear hy394
         simp only [Option.some.injEq, Prod.mk.injEq] at H
         obtain ⟨rfl, rfl, rfl, rfl, rfl, rfl⟩ := H
         refine hq_ ?_
         clear hq_ q_
         have hcz136_0 : w135.cell? ⟨gb367, 0, none⟩ = some (.int .i64 t361) := (blk_cell BK367.out 0).trans rfl
         have hcz136_1 : w135.cell? ⟨gb367, 1, none⟩ = some (.int .i64 t362) := (blk_cell BK367.out 1).trans rfl
         have hcz136_2 : w135.cell? ⟨gb367, 2, none⟩ = some (.slice Ao27 t363.length co27) := (blk_cell BK367.out 2).trans rfl
         have hfz136_0 := blk_frozen BK367.out 0
         have hfz136_1 := blk_frozen BK367.out 1
         have hfz136_2 := blk_frozen BK367.out 2
         replace HO365 := Aside0.mk (Kd.R_mono (ok' := (fun k_ => some k_ ≠ (.slice (some ⟨go115, 0, none⟩) t353.length co21 : Value).ownBlock)) HO365.out (fun k_ hk => hk.2))
         have q137 : (1 : Int) ≤ ((t363.length : Int) : Int) := of_decide_eq_true ‹_›
         obtain ⟨i0137, hi0137, _, hsz137, _⟩ := info_parts info3
         have hcut137 := cut_from (P := Tryz.prog) 22 3 .i64 Tryz.underlying22 hi0137 1 hsz137 Ao27 t363.length co27 1 (by omega) q137
         have hr137 := Kd.Q_drop (k := (1 : Int).toNat) (Kd.Q_of_R HO365.out) (by first | omega | (have hn_ := (Kd.R_reads' HO365.out).1; omega))
         obtain ⟨A137, hA137⟩ : ∃ A1, A1 = (if co27 = (1 : Int).toNat then Ao27 else (Ao27 : Option Addr).map (·.add ((1 : Int).toNat * 1))) := ⟨_, rfl⟩
         obtain ⟨c137, hc137⟩ : ∃ c1, c1 = co27 - (1 : Int).toNat := ⟨_, rfl⟩
         have hy137 : y394.length = t363.length - (1 : Int).toNat := (by first | (rw [Ny394.out, List.length_drop]; done) | (have hn_ := (Kd.R_reads' HO365.out).1; rw [Ny394.out, List.length_drop]; omega))
         rw [← Ny394.out] at hr137
         rw [← hy137, ← hA137, ← hc137] at hcut137
         replace hr137 : Kd.Q (Kd.int .i64) 3 w135 w.heap.size (fun k_ => some k_ ≠ (.slice (some ⟨go115, 0, none⟩) t353.length co21 : Value).ownBlock) (.slice A137 y394.length c137) y394 := (by rw [hA137, hc137, hy137]; exact hr137)
         have HE137 : Aside0 ((Value.slice A137 y394.length c137).ownBlock = (.slice Ao27 t363.length co27 : Value).ownBlock) := ⟨by rw [hA137]; split <;> (cases (Ao27 : Option Addr) <;> rfl)⟩
         clear hy137 hi0137 hsz137 HO365 hA137 hc137
         have HO396 := Aside0.mk hr137
         clear hr137
         replace q137 := eq_true q137
         replace HO355 := Aside0.mk (Kd.R_mono (ok' := fun k_ => some k_ ≠ (.slice A137 y394.length c137 : Value).ownBlock) HO355.out (fun k_ hk => (by rw [HE137.out]; exact hk)))
         try go_wp2
         replace HO355 : Aside0 (Kd.R (Kd.int .i64) 3 (w135.setCell ⟨gb367, 2, none⟩ (.slice A137 y394.length c137)) w.heap.size (fun k_ => some k_ ≠ (.slice A137 y394.length c137 : Value).ownBlock) (.slice (some ⟨go115, 0, none⟩) t353.length co21) y391) := ⟨Kd.R_mono (Kd.R_far (p := ⟨gb367, 2, none⟩) (Kd.R_types HO355.out BK367.out (by decide)) (fun _ hk => hk.2) (.slice A137 y394.length c137)) (fun _ hk => hk.1)⟩
         replace HO396 : Aside0 (Kd.Q (Kd.int .i64) 3 (w135.setCell ⟨gb367, 2, none⟩ (.slice A137 y394.length c137)) w.heap.size (fun k_ => some k_ ≠ (.slice (some ⟨go115, 0, none⟩) t353.length co21 : Value).ownBlock) (.slice A137 y394.length c137) y394) := ⟨Kd.Q_mono (Kd.Q_far (p := ⟨gb367, 2, none⟩) (Kd.Q_types HO396.out BK367.out (by decide)) (fun _ hk => hk.2) (.slice A137 y394.length c137)) (fun _ hk => hk.1)⟩
         replace BK351 : Aside0 ((w135.setCell ⟨gb367, 2, none⟩ (.slice A137 y394.length c137)).heap[gb351]? = some (.cells #[.int .i64 0, .int .i64 0, .slice none 0 0] 40 (0, 0))) := ⟨by refine blk_far ?_ NB351_367.out _; exact BK351.out⟩
         replace BK367 : Aside0 ((w135.setCell ⟨gb367, 2, none⟩ (.slice A137 y394.length c137)).heap[gb367]? = some (.cells #[.int .i64 t361, .int .i64 t362, .slice A137 y394.length c137] 40 (0, 0))) := ⟨by refine blk_put (cs := #[.int .i64 t361, .int .i64 t362, .slice Ao27 t363.length co27]) ?_ 2 _ rfl; exact BK367.out⟩
         replace HK : Aside0 (KeepBut w (w135.setCell ⟨gb367, 2, none⟩ (.slice A137 y394.length c137)) g none) := ⟨by repeat (with_reducible first | exact HK.out | apply KeepBut.set_ | apply keep_drewN | apply keep_drew | apply keep_alloc | refine keep_far ?_ GW351.out _ | refine keep_far ?_ GW367.out _)⟩
         replace HB : Aside0 (Below w0.heap.size w0 (w135.setCell ⟨gb367, 2, none⟩ (.slice A137 y394.length c137))) := ⟨by repeat (with_reducible first | exact HB.out | apply below_alloc | apply pw_below_drewN | apply below_drew1 | refine below_set ?_ (IsS94.ge HI0.out) | refine below_set ?_ GE351.out | refine below_set ?_ GE367.out)⟩
         replace HI0 : Aside0 (IsS94 w0 (w135.setCell ⟨gb367, 2, none⟩ (.slice A137 y394.length c137)) g s0_0 t393) := ⟨by repeat (with_reducible first | exact HI0.out | apply IsS94.alloc | apply IsS94.drewN | apply IsS94.drew | apply IsS94.set_1 | refine IsS94.far ?_ NB0_351.out _ | refine IsS94.far ?_ NB0_367.out _)⟩
         generalize (w135.setCell ⟨gb367, 2, none⟩ (.slice A137 y394.length c137)) = w138 at HO355 HO396 BK351 BK367 HI0 HK HB ⊢
         replace HO355 := Aside0.mk (Kd.R_drew HO355.out)
         replace HO396 := Aside0.mk (Kd.Q_drew HO396.out)
         replace BK351 := Aside0.mk (blk_drew BK351.out)
         replace BK367 := Aside0.mk (blk_drew BK367.out)
         replace HI0 := Aside0.mk (IsS94.drew HI0.out)
         replace HK := Aside0.mk (keep_drew HK.out)
         replace HB := Aside0.mk (below_drew1 HB.out)
         refine start_ (n := 6) (S := fun w' => w'.cell? ⟨gb367, 0, none⟩ = some (.int .i64 t361) ∧ w'.cell? ⟨gb367, 1, none⟩ = some (.int .i64 t362) ∧ w'.cell? ⟨gb367, 2, none⟩ = some (.slice A137 y394.length c137)) (ds := []) (bs 6 0) (by kernel_rfl) rfl rfl ⟨(blk_cell BK367.out 0).trans rfl, (blk_cell BK367.out 1).trans rfl, (blk_cell BK367.out 2).trans rfl⟩ (fun hHeld => ?_)
         generalize w138.drew = w139 at HO355 HO396 BK351 BK367 HI0 HK HB hHeld ⊢
         refine pZ 0 (some 65) (bs 6 1) rfl rfl (by kernel_rfl) ?_
         refine pZ 1 (some 66) (bs 6 3) rfl rfl (by kernel_rfl) ?_
         refine pZ 3 (some 2) (bs 6 11) rfl rfl (by kernel_rfl) ?_
         refine pZ 4 (some 3) (bs 6 27) rfl rfl (by kernel_rfl) ?_
         refine tZ 2 (some 67) (bs 6 31) rfl rfl (by kernel_rfl) hHeld (by rintro w' ⟨s0, s1, s2⟩; go_simp; with_reducible rfl) ?_
         refine one_ (i := 5) (N := none) (bs 6 63) rfl rfl (by kernel_rfl) (by decide) (fun K hK => ?_)
         have hs140 : w139.cell? ⟨gb351, 0, none⟩ = some (.int .i64 0) := (blk_cell BK351.out 0).trans rfl
         have hfs140 := blk_frozen BK351.out 0
         have hns140_1 := NB367_351.out
         have hms140_1 := NB351_367.out
         have hs141 : w139.cell? ⟨gb351, 1, none⟩ = some (.int .i64 0) := (blk_cell BK351.out 1).trans rfl
         have hfs141 := blk_frozen BK351.out 1
         have hns141_1 := NB367_351.out
         have hms141_1 := NB351_367.out
         have hs142 : w139.cell? ⟨gb351, 2, none⟩ = some (.slice none 0 0) := (blk_cell BK351.out 2).trans rfl
         have hfs142 := blk_frozen BK351.out 2
         have hns142_1 := NB367_351.out
         have hms142_1 := NB351_367.out
         refine skip_ (w1 := ?_) (by rfl) rfl ?_ ?_
         rotate_left
         ·go_simp
          rfl
         refine hK.out _ _ ⟨((cell_far (p := ⟨gb351, _, none⟩) NB367_351.out _).trans (((cell_far (p := ⟨gb351, _, none⟩) NB367_351.out _).trans (((cell_far (p := ⟨gb351, _, none⟩) NB367_351.out _).trans (hHeld.1)))))), ((cell_far (p := ⟨gb351, _, none⟩) NB367_351.out _).trans (((cell_far (p := ⟨gb351, _, none⟩) NB367_351.out _).trans (((cell_far (p := ⟨gb351, _, none⟩) NB367_351.out _).trans (hHeld.2.1)))))), ((cell_far (p := ⟨gb351, _, none⟩) NB367_351.out _).trans (((cell_far (p := ⟨gb351, _, none⟩) NB367_351.out _).trans (((cell_far (p := ⟨gb351, _, none⟩) NB367_351.out _).trans (hHeld.2.2))))))⟩ (fun hHeld => ?_)
         clear hK K
         refine done_ (by kernel_rfl) ?_
         try go_wp2
         refine bodyPost_ret (results_list (rs := [.tmp 2, .tmp 3, .cell 4 40]) rfl (by simp) (.tmp (.tmp (.cell gb351 40 #[.int .i64 t361, .int .i64 t362, .slice A137 y394.length c137] (0, 0) _ rfl (by refine blk_put (cs := #[.int .i64 t361, .int .i64 t362, .slice none 0 0]) ?_ 2 _ rfl; refine blk_put (cs := #[.int .i64 t361, .int .i64 0, .slice none 0 0]) ?_ 1 _ rfl; refine blk_put (cs := #[.int .i64 0, .int .i64 0, .slice none 0 0]) ?_ 0 _ rfl; exact BK351.out) Tryz.underlying40 rfl (by kernel_rfl) .nil)))) rfl ?_
         exact ⟨_, _, rfl, Kd.R_mono (Kd.R_far (p := ⟨gb351, 2, none⟩) (Kd.R_far (p := ⟨gb351, 1, none⟩) (Kd.R_far (p := ⟨gb351, 0, none⟩) (Kd.R_types HO355.out BK351.out (by decide)) (fun _ hk => hk.2) (.int .i64 t361)) (fun _ hk => hk.2) (.int .i64 t362)) (fun _ hk => hk.2) (.slice A137 y394.length c137)) (fun _ hk => hk.1), Kd.Q_mono (Kd.Q_far (p := ⟨gb351, 2, none⟩) (Kd.Q_far (p := ⟨gb351, 1, none⟩) (Kd.Q_far (p := ⟨gb351, 0, none⟩) (Kd.Q_types HO396.out BK351.out (by decide)) (fun _ hk => hk.2) (.int .i64 t361)) (fun _ hk => hk.2) (.int .i64 t362)) (fun _ hk => hk.2) (.slice A137 y394.length c137)) (fun _ hk => hk.1), by repeat (with_reducible first | exact HI0.out | apply IsS94.alloc | apply IsS94.drewN | apply IsS94.drew | apply IsS94.set_1 | refine IsS94.far ?_ NB0_351.out _ | refine IsS94.far ?_ NB0_367.out _), by repeat (with_reducible first | exact HB.out | apply below_alloc | apply pw_below_drewN | apply below_drew1 | refine below_set ?_ (IsS94.ge HI0.out) | refine below_set ?_ GE351.out | refine below_set ?_ GE367.out), by repeat (with_reducible first | exact HK.out | apply KeepBut.set_ | apply keep_drewN | apply keep_drew | apply keep_alloc | refine keep_far ?_ GW351.out _ | refine keep_far ?_ GW367.out _)⟩
        ·rw [if_neg c118] at H
         exact absurd H (by simp)
       ·rw [if_neg c117] at H
        have c117b0 : (t392 == 0) = false := beq_eq_false_iff_ne.mpr c117
        have c117b1 : (t392 != 0) = true := bne_iff_ne.mpr c117
        simp only [Option.some.injEq, Prod.mk.injEq] at H
        obtain ⟨rfl, rfl, rfl, rfl, rfl, rfl⟩ := H
        refine hq_ ?_
        clear hq_ q_
        try go_wp2
        replace HO355 := Aside0.mk (Kd.R_drew HO355.out)
        replace HO365 := Aside0.mk (Kd.R_drew HO365.out)
        replace BK351 := Aside0.mk (blk_drew BK351.out)
        replace BK367 := Aside0.mk (blk_drew BK367.out)
        replace HI0 := Aside0.mk (IsS94.drew HI0.out)
        replace HK := Aside0.mk (keep_drew HK.out)
        replace HB := Aside0.mk (below_drew1 HB.out)
        refine start_ (n := 6) (S := fun w' => w'.cell? ⟨gb367, 0, none⟩ = some (.int .i64 t361) ∧ w'.cell? ⟨gb367, 1, none⟩ = some (.int .i64 t362) ∧ w'.cell? ⟨gb367, 2, none⟩ = some (.slice Ao27 t363.length co27)) (ds := []) (bs 6 0) (by kernel_rfl) rfl rfl ⟨(blk_cell BK367.out 0).trans rfl, (blk_cell BK367.out 1).trans rfl, (blk_cell BK367.out 2).trans rfl⟩ (fun hHeld => ?_)
        generalize w135.drew = w160 at HO355 HO365 BK351 BK367 HI0 HK HB hHeld ⊢
        refine pZ 0 (some 65) (bs 6 1) rfl rfl (by kernel_rfl) ?_
        refine pZ 1 (some 66) (bs 6 3) rfl rfl (by kernel_rfl) ?_
        refine pZ 3 (some 2) (bs 6 11) rfl rfl (by kernel_rfl) ?_
        refine pZ 4 (some 3) (bs 6 27) rfl rfl (by kernel_rfl) ?_
        refine tZ 2 (some 67) (bs 6 31) rfl rfl (by kernel_rfl) hHeld (by rintro w' ⟨s0, s1, s2⟩; go_simp; with_reducible rfl) ?_
        refine one_ (i := 5) (N := none) (bs 6 63) rfl rfl (by kernel_rfl) (by decide) (fun K hK => ?_)
        have hs161 : w160.cell? ⟨gb351, 0, none⟩ = some (.int .i64 0) := (blk_cell BK351.out 0).trans rfl
        have hfs161 := blk_frozen BK351.out 0
        have hns161_1 := NB367_351.out
        have hms161_1 := NB351_367.out
        have hs162 : w160.cell? ⟨gb351, 1, none⟩ = some (.int .i64 0) := (blk_cell BK351.out 1).trans rfl
        have hfs162 := blk_frozen BK351.out 1
        have hns162_1 := NB367_351.out
        have hms162_1 := NB351_367.out
        have hs163 : w160.cell? ⟨gb351, 2, none⟩ = some (.slice none 0 0) := (blk_cell BK351.out 2).trans rfl
        have hfs163 := blk_frozen BK351.out 2
        have hns163_1 := NB367_351.out
        have hms163_1 := NB351_367.out
        refine skip_ (w1 := ?_) (by rfl) rfl ?_ ?_
        rotate_left
        ·go_simp
         rfl
        refine hK.out _ _ ⟨((cell_far (p := ⟨gb351, _, none⟩) NB367_351.out _).trans (((cell_far (p := ⟨gb351, _, none⟩) NB367_351.out _).trans (((cell_far (p := ⟨gb351, _, none⟩) NB367_351.out _).trans (hHeld.1)))))), ((cell_far (p := ⟨gb351, _, none⟩) NB367_351.out _).trans (((cell_far (p := ⟨gb351, _, none⟩) NB367_351.out _).trans (((cell_far (p := ⟨gb351, _, none⟩) NB367_351.out _).trans (hHeld.2.1)))))), ((cell_far (p := ⟨gb351, _, none⟩) NB367_351.out _).trans (((cell_far (p := ⟨gb351, _, none⟩) NB367_351.out _).trans (((cell_far (p := ⟨gb351, _, none⟩) NB367_351.out _).trans (hHeld.2.2))))))⟩ (fun hHeld => ?_)
        clear hK K
        refine done_ (by kernel_rfl) ?_
        try go_wp2
        refine bodyPost_ret (results_list (rs := [.tmp 2, .tmp 3, .cell 4 40]) rfl (by simp) (.tmp (.tmp (.cell gb351 40 #[.int .i64 t361, .int .i64 t362, .slice Ao27 t363.length co27] (0, 0) _ rfl (by refine blk_put (cs := #[.int .i64 t361, .int .i64 t362, .slice none 0 0]) ?_ 2 _ rfl; refine blk_put (cs := #[.int .i64 t361, .int .i64 0, .slice none 0 0]) ?_ 1 _ rfl; refine blk_put (cs := #[.int .i64 0, .int .i64 0, .slice none 0 0]) ?_ 0 _ rfl; exact BK351.out) Tryz.underlying40 rfl (by kernel_rfl) .nil)))) rfl ?_
        exact ⟨_, _, rfl, Kd.R_mono (Kd.R_far (p := ⟨gb351, 2, none⟩) (Kd.R_far (p := ⟨gb351, 1, none⟩) (Kd.R_far (p := ⟨gb351, 0, none⟩) (Kd.R_types HO355.out BK351.out (by decide)) (fun _ hk => hk.2) (.int .i64 t361)) (fun _ hk => hk.2) (.int .i64 t362)) (fun _ hk => hk.2) (.slice Ao27 t363.length co27)) (fun _ hk => hk.1), Kd.Q_of_R (Kd.R_mono (Kd.R_far (p := ⟨gb351, 2, none⟩) (Kd.R_far (p := ⟨gb351, 1, none⟩) (Kd.R_far (p := ⟨gb351, 0, none⟩) (Kd.R_types HO365.out BK351.out (by decide)) (fun _ hk => hk.2) (.int .i64 t361)) (fun _ hk => hk.2) (.int .i64 t362)) (fun _ hk => hk.2) (.slice Ao27 t363.length co27)) (fun _ hk => hk.1.2)), by repeat (with_reducible first | exact HI0.out | apply IsS94.alloc | apply IsS94.drewN | apply IsS94.drew | apply IsS94.set_1 | refine IsS94.far ?_ NB0_351.out _ | refine IsS94.far ?_ NB0_367.out _), by repeat (with_reducible first | exact HB.out | apply below_alloc | apply pw_below_drewN | apply below_drew1 | refine below_set ?_ (IsS94.ge HI0.out) | refine below_set ?_ GE351.out | refine below_set ?_ GE367.out), by repeat (with_reducible first | exact HK.out | apply KeepBut.set_ | apply keep_drewN | apply keep_drew | apply keep_alloc | refine keep_far ?_ GW351.out _ | refine keep_far ?_ GW367.out _)⟩
      ·rw [if_neg c114] at H
       exact absurd H (by simp)
     ·rw [if_neg c113] at H
      exact absurd H (by simp)
    ·rw [if_neg c110] at H
     have c110b0 : (t368 == 2) = false := beq_eq_false_iff_ne.mpr c110
     have c110b1 : (t368 != 2) = true := bne_iff_ne.mpr c110
     replace H := bnd H
     obtain ⟨⟨t397, t398⟩, A164, H⟩ := H
     dsimp only at H
     try go_wp2_with (first | ((with_reducible refine gate_callee (f := 45) rfl ?_); refine goesL_ (some 59) rfl rfl Tryz.func45 (by kernel_rfl) rfl #[.pointer (some ⟨g, 0, none⟩), .int .i64 60] rfl (by (try simp only [List.map_toArray, List.map_cons, List.map_nil]); first | done | rfl | (simp only [List.length_drop, List.length_take]; rfl)) ?_; (with_reducible refine (spec_l6Rd_pick.calls k g s0_0 t369 60 t397 t398 w0 _ ?side1 ?side2 A164.out).mono ?_); (case side1 => repeat (with_reducible first | exact HI0.out | apply IsS94.alloc | apply IsS94.drewN | apply IsS94.drew | apply IsS94.set_1 | refine IsS94.far ?_ NB0_351.out _ | refine IsS94.far ?_ NB0_367.out _)); (case side2 => repeat (with_reducible first | exact HB.out | apply below_alloc | apply pw_below_drewN | apply below_drew1 | refine below_set ?_ (IsS94.ge HI0.out) | refine below_set ?_ GE351.out | refine below_set ?_ GE367.out)); rintro e w179 ⟨rfl, hi, hb, hk⟩; refine ⟨_, rfl, ?_⟩; replace BK351 := Aside0.mk (KeepBut.blk hk (g' := gb351) (o := .cells #[.int .i64 0, .int .i64 0, .slice none 0 0] 40 (0, 0)) (by exact BK351.out) NB351_0.out (by simp)); replace HO355 := Aside0.mk (Kd.R_mono (Kd.R_keep (IsS94.apart (show IsS94 w0 _ g s0_0 t369 from by repeat (with_reducible first | exact HI0.out | apply IsS94.alloc | apply IsS94.drewN | apply IsS94.drew | apply IsS94.set_1 | refine IsS94.far ?_ NB0_351.out _ | refine IsS94.far ?_ NB0_367.out _)) (HO355.out) (by decide)) hk (fun _ h => h.2)) (fun _ h => h.1)); replace HO365 := Aside0.mk (Kd.R_mono (Kd.R_keep (IsS94.apart (show IsS94 w0 _ g s0_0 t369 from by repeat (with_reducible first | exact HI0.out | apply IsS94.alloc | apply IsS94.drewN | apply IsS94.drew | apply IsS94.set_1 | refine IsS94.far ?_ NB0_351.out _ | refine IsS94.far ?_ NB0_367.out _)) (HO365.out) (by decide)) hk (fun _ h => h.2)) (fun _ h => h.1)); replace BK367 := Aside0.mk (KeepBut.blk hk (g' := gb367) (o := .cells #[.int .i64 t361, .int .i64 t362, .slice Ao27 t363.length co27] 40 (0, 0)) (by exact BK367.out) NB367_0.out (by simp)); replace HK := Aside0.mk (KeepBut.trans (by repeat (with_reducible first | exact HK.out | apply KeepBut.set_ | apply keep_drewN | apply keep_drew | apply keep_alloc | refine keep_far ?_ GW351.out _ | refine keep_far ?_ GW367.out _)) hk (.inl rfl)); replace HB := Aside0.mk (hb); replace HI0 := Aside0.mk (hi); (try clear hb); (try clear hb2); (try clear hk); (try clear hi); refine (show ∀ p_ : Prop, (∀ q_ : Prop, (p_ → Aside0 q_) → Aside0 q_) → p_ from fun p_ h_ => (h_ p_ Aside0.mk).out) _ (fun q_ hq_ => ?_)))
     by_cases c165 : t397 = 0
     ·rw [if_pos c165] at H
      have c165b0 : (t397 == 0) = true := beq_iff_eq.mpr c165
      have c165b1 : (t397 != 0) = false := bne_eq_false_iff_eq.mpr c165
      clear c165
      by_cases c166 : 1 ≤ (t363.length : Int)
      ·rw [if_pos c166] at H
       have c166b0 := eq_true c166
       have c166b1 : decide (1 ≤ (t363.length : Int)) = true := decide_eq_true c166
       clear c166
       obtain ⟨y399, hy399⟩ : ∃ y_ : List Int, y_ = (t363.drop (1 : Int).toNat) := ⟨_, rfl⟩
       rw [← hy399] at H
       have Ny399 := Aside0.mk hy399
       clear hy399
       simp only [Option.some.injEq, Prod.mk.injEq] at H
       obtain ⟨rfl, rfl, rfl, rfl, rfl, rfl⟩ := H
       refine hq_ ?_
       clear hq_ q_
       have hcz180_0 : w179.cell? ⟨gb367, 0, none⟩ = some (.int .i64 t361) := (blk_cell BK367.out 0).trans rfl
       have hcz180_1 : w179.cell? ⟨gb367, 1, none⟩ = some (.int .i64 t362) := (blk_cell BK367.out 1).trans rfl
       have hcz180_2 : w179.cell? ⟨gb367, 2, none⟩ = some (.slice Ao27 t363.length co27) := (blk_cell BK367.out 2).trans rfl
       have hfz180_0 := blk_frozen BK367.out 0
       have hfz180_1 := blk_frozen BK367.out 1
       have hfz180_2 := blk_frozen BK367.out 2
       replace HO365 := Aside0.mk (Kd.R_mono (ok' := (fun k_ => some k_ ≠ (.slice Ao21 t353.length co21 : Value).ownBlock)) HO365.out (fun k_ hk => hk.2))
       have q181 : (1 : Int) ≤ ((t363.length : Int) : Int) := of_decide_eq_true ‹_›
       obtain ⟨i0181, hi0181, _, hsz181, _⟩ := info_parts info3
       have hcut181 := cut_from (P := Tryz.prog) 22 3 .i64 Tryz.underlying22 hi0181 1 hsz181 Ao27 t363.length co27 1 (by omega) q181
       have hr181 := Kd.Q_drop (k := (1 : Int).toNat) (Kd.Q_of_R HO365.out) (by first | omega | (have hn_ := (Kd.R_reads' HO365.out).1; omega))
       obtain ⟨A181, hA181⟩ : ∃ A1, A1 = (if co27 = (1 : Int).toNat then Ao27 else (Ao27 : Option Addr).map (·.add ((1 : Int).toNat * 1))) := ⟨_, rfl⟩
       obtain ⟨c181, hc181⟩ : ∃ c1, c1 = co27 - (1 : Int).toNat := ⟨_, rfl⟩
       have hy181 : y399.length = t363.length - (1 : Int).toNat := (by first | (rw [Ny399.out, List.length_drop]; done) | (have hn_ := (Kd.R_reads' HO365.out).1; rw [Ny399.out, List.length_drop]; omega))
       rw [← Ny399.out] at hr181
       rw [← hy181, ← hA181, ← hc181] at hcut181
       replace hr181 : Kd.Q (Kd.int .i64) 3 w179 w.heap.size (fun k_ => some k_ ≠ (.slice Ao21 t353.length co21 : Value).ownBlock) (.slice A181 y399.length c181) y399 := (by rw [hA181, hc181, hy181]; exact hr181)
       have HE181 : Aside0 ((Value.slice A181 y399.length c181).ownBlock = (.slice Ao27 t363.length co27 : Value).ownBlock) := ⟨by rw [hA181]; split <;> (cases (Ao27 : Option Addr) <;> rfl)⟩
       clear hy181 hi0181 hsz181 HO365 hA181 hc181
       have HO401 := Aside0.mk hr181
       clear hr181
       replace q181 := eq_true q181
       replace HO355 := Aside0.mk (Kd.R_mono (ok' := fun k_ => (True ∧ some k_ ≠ (.slice A181 y399.length c181 : Value).ownBlock)) HO355.out (fun k_ hk => ⟨trivial, (by rw [HE181.out]; exact hk.2)⟩))
       try go_wp2
       replace HO355 : Aside0 (Kd.R (Kd.int .i64) 3 (w179.setCell ⟨gb367, 2, none⟩ (.slice A181 y399.length c181)) w.heap.size (fun k_ => some k_ ≠ (.slice A181 y399.length c181 : Value).ownBlock) (.slice Ao21 t353.length co21) t353) := ⟨Kd.R_mono (Kd.R_far (p := ⟨gb367, 2, none⟩) (Kd.R_types HO355.out BK367.out (by decide)) (fun _ hk => hk.2) (.slice A181 y399.length c181)) (fun _ hk => hk.1.2)⟩
       replace HO401 : Aside0 (Kd.Q (Kd.int .i64) 3 (w179.setCell ⟨gb367, 2, none⟩ (.slice A181 y399.length c181)) w.heap.size (fun k_ => some k_ ≠ (.slice Ao21 t353.length co21 : Value).ownBlock) (.slice A181 y399.length c181) y399) := ⟨Kd.Q_mono (Kd.Q_far (p := ⟨gb367, 2, none⟩) (Kd.Q_types HO401.out BK367.out (by decide)) (fun _ hk => hk.2) (.slice A181 y399.length c181)) (fun _ hk => hk.1)⟩
       replace BK351 : Aside0 ((w179.setCell ⟨gb367, 2, none⟩ (.slice A181 y399.length c181)).heap[gb351]? = some (.cells #[.int .i64 0, .int .i64 0, .slice none 0 0] 40 (0, 0))) := ⟨by refine blk_far ?_ NB351_367.out _; exact BK351.out⟩
       replace BK367 : Aside0 ((w179.setCell ⟨gb367, 2, none⟩ (.slice A181 y399.length c181)).heap[gb367]? = some (.cells #[.int .i64 t361, .int .i64 t362, .slice A181 y399.length c181] 40 (0, 0))) := ⟨by refine blk_put (cs := #[.int .i64 t361, .int .i64 t362, .slice Ao27 t363.length co27]) ?_ 2 _ rfl; exact BK367.out⟩
       replace HK : Aside0 (KeepBut w (w179.setCell ⟨gb367, 2, none⟩ (.slice A181 y399.length c181)) g none) := ⟨by repeat (with_reducible first | exact HK.out | apply KeepBut.set_ | apply keep_drewN | apply keep_drew | apply keep_alloc | refine keep_far ?_ GW351.out _ | refine keep_far ?_ GW367.out _)⟩
       replace HB : Aside0 (Below w0.heap.size w0 (w179.setCell ⟨gb367, 2, none⟩ (.slice A181 y399.length c181))) := ⟨by repeat (with_reducible first | exact HB.out | apply below_alloc | apply pw_below_drewN | apply below_drew1 | refine below_set ?_ (IsS94.ge HI0.out) | refine below_set ?_ GE351.out | refine below_set ?_ GE367.out)⟩
       replace HI0 : Aside0 (IsS94 w0 (w179.setCell ⟨gb367, 2, none⟩ (.slice A181 y399.length c181)) g s0_0 t398) := ⟨by repeat (with_reducible first | exact HI0.out | apply IsS94.alloc | apply IsS94.drewN | apply IsS94.drew | apply IsS94.set_1 | refine IsS94.far ?_ NB0_351.out _ | refine IsS94.far ?_ NB0_367.out _)⟩
       generalize (w179.setCell ⟨gb367, 2, none⟩ (.slice A181 y399.length c181)) = w182 at HO355 HO401 BK351 BK367 HI0 HK HB ⊢
       replace HO355 := Aside0.mk (Kd.R_drew HO355.out)
       replace HO401 := Aside0.mk (Kd.Q_drew HO401.out)
       replace BK351 := Aside0.mk (blk_drew BK351.out)
       replace BK367 := Aside0.mk (blk_drew BK367.out)
       replace HI0 := Aside0.mk (IsS94.drew HI0.out)
       replace HK := Aside0.mk (keep_drew HK.out)
       replace HB := Aside0.mk (below_drew1 HB.out)
       refine start_ (n := 6) (S := fun w' => w'.cell? ⟨gb367, 0, none⟩ = some (.int .i64 t361) ∧ w'.cell? ⟨gb367, 1, none⟩ = some (.int .i64 t362) ∧ w'.cell? ⟨gb367, 2, none⟩ = some (.slice A181 y399.length c181)) (ds := []) (bs 6 0) (by kernel_rfl) rfl rfl ⟨(blk_cell BK367.out 0).trans rfl, (blk_cell BK367.out 1).trans rfl, (blk_cell BK367.out 2).trans rfl⟩ (fun hHeld => ?_)
       generalize w182.drew = w183 at HO355 HO401 BK351 BK367 HI0 HK HB hHeld ⊢
       refine pZ 0 (some 65) (bs 6 1) rfl rfl (by kernel_rfl) ?_
       refine pZ 1 (some 66) (bs 6 3) rfl rfl (by kernel_rfl) ?_
       refine pZ 3 (some 2) (bs 6 11) rfl rfl (by kernel_rfl) ?_
       refine pZ 4 (some 3) (bs 6 27) rfl rfl (by kernel_rfl) ?_
       refine tZ 2 (some 67) (bs 6 31) rfl rfl (by kernel_rfl) hHeld (by rintro w' ⟨s0, s1, s2⟩; go_simp; with_reducible rfl) ?_
       refine one_ (i := 5) (N := none) (bs 6 63) rfl rfl (by kernel_rfl) (by decide) (fun K hK => ?_)
       have hs184 : w183.cell? ⟨gb351, 0, none⟩ = some (.int .i64 0) := (blk_cell BK351.out 0).trans rfl
       have hfs184 := blk_frozen BK351.out 0
       have hns184_1 := NB367_351.out
       have hms184_1 := NB351_367.out
       have hs185 : w183.cell? ⟨gb351, 1, none⟩ = some (.int .i64 0) := (blk_cell BK351.out 1).trans rfl
       have hfs185 := blk_frozen BK351.out 1
       have hns185_1 := NB367_351.out
       have hms185_1 := NB351_367.out
       have hs186 : w183.cell? ⟨gb351, 2, none⟩ = some (.slice none 0 0) := (blk_cell BK351.out 2).trans rfl
       have hfs186 := blk_frozen BK351.out 2
       have hns186_1 := NB367_351.out
       have hms186_1 := NB351_367.out
       refine skip_ (w1 := ?_) (by rfl) rfl ?_ ?_
       rotate_left
       ·go_simp
        rfl
       refine hK.out _ _ ⟨((cell_far (p := ⟨gb351, _, none⟩) NB367_351.out _).trans (((cell_far (p := ⟨gb351, _, none⟩) NB367_351.out _).trans (((cell_far (p := ⟨gb351, _, none⟩) NB367_351.out _).trans (hHeld.1)))))), ((cell_far (p := ⟨gb351, _, none⟩) NB367_351.out _).trans (((cell_far (p := ⟨gb351, _, none⟩) NB367_351.out _).trans (((cell_far (p := ⟨gb351, _, none⟩) NB367_351.out _).trans (hHeld.2.1)))))), ((cell_far (p := ⟨gb351, _, none⟩) NB367_351.out _).trans (((cell_far (p := ⟨gb351, _, none⟩) NB367_351.out _).trans (((cell_far (p := ⟨gb351, _, none⟩) NB367_351.out _).trans (hHeld.2.2))))))⟩ (fun hHeld => ?_)
       clear hK K
       refine done_ (by kernel_rfl) ?_
       try go_wp2
       refine bodyPost_ret (results_list (rs := [.tmp 2, .tmp 3, .cell 4 40]) rfl (by simp) (.tmp (.tmp (.cell gb351 40 #[.int .i64 t361, .int .i64 t362, .slice A181 y399.length c181] (0, 0) _ rfl (by refine blk_put (cs := #[.int .i64 t361, .int .i64 t362, .slice none 0 0]) ?_ 2 _ rfl; refine blk_put (cs := #[.int .i64 t361, .int .i64 0, .slice none 0 0]) ?_ 1 _ rfl; refine blk_put (cs := #[.int .i64 0, .int .i64 0, .slice none 0 0]) ?_ 0 _ rfl; exact BK351.out) Tryz.underlying40 rfl (by kernel_rfl) .nil)))) rfl ?_
       exact ⟨_, _, rfl, Kd.R_mono (Kd.R_far (p := ⟨gb351, 2, none⟩) (Kd.R_far (p := ⟨gb351, 1, none⟩) (Kd.R_far (p := ⟨gb351, 0, none⟩) (Kd.R_types HO355.out BK351.out (by decide)) (fun _ hk => hk.2) (.int .i64 t361)) (fun _ hk => hk.2) (.int .i64 t362)) (fun _ hk => hk.2) (.slice A181 y399.length c181)) (fun _ hk => hk.1), Kd.Q_mono (Kd.Q_far (p := ⟨gb351, 2, none⟩) (Kd.Q_far (p := ⟨gb351, 1, none⟩) (Kd.Q_far (p := ⟨gb351, 0, none⟩) (Kd.Q_types HO401.out BK351.out (by decide)) (fun _ hk => hk.2) (.int .i64 t361)) (fun _ hk => hk.2) (.int .i64 t362)) (fun _ hk => hk.2) (.slice A181 y399.length c181)) (fun _ hk => hk.1), by repeat (with_reducible first | exact HI0.out | apply IsS94.alloc | apply IsS94.drewN | apply IsS94.drew | apply IsS94.set_1 | refine IsS94.far ?_ NB0_351.out _ | refine IsS94.far ?_ NB0_367.out _), by repeat (with_reducible first | exact HB.out | apply below_alloc | apply pw_below_drewN | apply below_drew1 | refine below_set ?_ (IsS94.ge HI0.out) | refine below_set ?_ GE351.out | refine below_set ?_ GE367.out), by repeat (with_reducible first | exact HK.out | apply KeepBut.set_ | apply keep_drewN | apply keep_drew | apply keep_alloc | refine keep_far ?_ GW351.out _ | refine keep_far ?_ GW367.out _)⟩
      ·rw [if_neg c166] at H
       exact absurd H (by simp)
     ·rw [if_neg c165] at H
      have c165b0 : (t397 == 0) = false := beq_eq_false_iff_ne.mpr c165
      have c165b1 : (t397 != 0) = true := bne_iff_ne.mpr c165
      simp only [Option.some.injEq, Prod.mk.injEq] at H
      obtain ⟨rfl, rfl, rfl, rfl, rfl, rfl⟩ := H
      refine hq_ ?_
      clear hq_ q_
      try go_wp2
      replace HO355 := Aside0.mk (Kd.R_drew HO355.out)
      replace HO365 := Aside0.mk (Kd.R_drew HO365.out)
      replace BK351 := Aside0.mk (blk_drew BK351.out)
      replace BK367 := Aside0.mk (blk_drew BK367.out)
      replace HI0 := Aside0.mk (IsS94.drew HI0.out)
      replace HK := Aside0.mk (keep_drew HK.out)
      replace HB := Aside0.mk (below_drew1 HB.out)
      refine start_ (n := 6) (S := fun w' => w'.cell? ⟨gb367, 0, none⟩ = some (.int .i64 t361) ∧ w'.cell? ⟨gb367, 1, none⟩ = some (.int .i64 t362) ∧ w'.cell? ⟨gb367, 2, none⟩ = some (.slice Ao27 t363.length co27)) (ds := []) (bs 6 0) (by kernel_rfl) rfl rfl ⟨(blk_cell BK367.out 0).trans rfl, (blk_cell BK367.out 1).trans rfl, (blk_cell BK367.out 2).trans rfl⟩ (fun hHeld => ?_)
      generalize w179.drew = w200 at HO355 HO365 BK351 BK367 HI0 HK HB hHeld ⊢
      refine pZ 0 (some 65) (bs 6 1) rfl rfl (by kernel_rfl) ?_
      refine pZ 1 (some 66) (bs 6 3) rfl rfl (by kernel_rfl) ?_
      refine pZ 3 (some 2) (bs 6 11) rfl rfl (by kernel_rfl) ?_
      refine pZ 4 (some 3) (bs 6 27) rfl rfl (by kernel_rfl) ?_
      refine tZ 2 (some 67) (bs 6 31) rfl rfl (by kernel_rfl) hHeld (by rintro w' ⟨s0, s1, s2⟩; go_simp; with_reducible rfl) ?_
      refine one_ (i := 5) (N := none) (bs 6 63) rfl rfl (by kernel_rfl) (by decide) (fun K hK => ?_)
      have hs201 : w200.cell? ⟨gb351, 0, none⟩ = some (.int .i64 0) := (blk_cell BK351.out 0).trans rfl
      have hfs201 := blk_frozen BK351.out 0
      have hns201_1 := NB367_351.out
      have hms201_1 := NB351_367.out
      have hs202 : w200.cell? ⟨gb351, 1, none⟩ = some (.int .i64 0) := (blk_cell BK351.out 1).trans rfl
      have hfs202 := blk_frozen BK351.out 1
      have hns202_1 := NB367_351.out
      have hms202_1 := NB351_367.out
      have hs203 : w200.cell? ⟨gb351, 2, none⟩ = some (.slice none 0 0) := (blk_cell BK351.out 2).trans rfl
      have hfs203 := blk_frozen BK351.out 2
      have hns203_1 := NB367_351.out
      have hms203_1 := NB351_367.out
      refine skip_ (w1 := ?_) (by rfl) rfl ?_ ?_
      rotate_left
      ·go_simp
       rfl
      refine hK.out _ _ ⟨((cell_far (p := ⟨gb351, _, none⟩) NB367_351.out _).trans (((cell_far (p := ⟨gb351, _, none⟩) NB367_351.out _).trans (((cell_far (p := ⟨gb351, _, none⟩) NB367_351.out _).trans (hHeld.1)))))), ((cell_far (p := ⟨gb351, _, none⟩) NB367_351.out _).trans (((cell_far (p := ⟨gb351, _, none⟩) NB367_351.out _).trans (((cell_far (p := ⟨gb351, _, none⟩) NB367_351.out _).trans (hHeld.2.1)))))), ((cell_far (p := ⟨gb351, _, none⟩) NB367_351.out _).trans (((cell_far (p := ⟨gb351, _, none⟩) NB367_351.out _).trans (((cell_far (p := ⟨gb351, _, none⟩) NB367_351.out _).trans (hHeld.2.2))))))⟩ (fun hHeld => ?_)
      clear hK K
      refine done_ (by kernel_rfl) ?_
      try go_wp2
      refine bodyPost_ret (results_list (rs := [.tmp 2, .tmp 3, .cell 4 40]) rfl (by simp) (.tmp (.tmp (.cell gb351 40 #[.int .i64 t361, .int .i64 t362, .slice Ao27 t363.length co27] (0, 0) _ rfl (by refine blk_put (cs := #[.int .i64 t361, .int .i64 t362, .slice none 0 0]) ?_ 2 _ rfl; refine blk_put (cs := #[.int .i64 t361, .int .i64 0, .slice none 0 0]) ?_ 1 _ rfl; refine blk_put (cs := #[.int .i64 0, .int .i64 0, .slice none 0 0]) ?_ 0 _ rfl; exact BK351.out) Tryz.underlying40 rfl (by kernel_rfl) .nil)))) rfl ?_
      exact ⟨_, _, rfl, Kd.R_mono (Kd.R_far (p := ⟨gb351, 2, none⟩) (Kd.R_far (p := ⟨gb351, 1, none⟩) (Kd.R_far (p := ⟨gb351, 0, none⟩) (Kd.R_types HO355.out BK351.out (by decide)) (fun _ hk => hk.2) (.int .i64 t361)) (fun _ hk => hk.2) (.int .i64 t362)) (fun _ hk => hk.2) (.slice Ao27 t363.length co27)) (fun _ hk => hk.1.2), Kd.Q_of_R (Kd.R_mono (Kd.R_far (p := ⟨gb351, 2, none⟩) (Kd.R_far (p := ⟨gb351, 1, none⟩) (Kd.R_far (p := ⟨gb351, 0, none⟩) (Kd.R_types HO365.out BK351.out (by decide)) (fun _ hk => hk.2) (.int .i64 t361)) (fun _ hk => hk.2) (.int .i64 t362)) (fun _ hk => hk.2) (.slice Ao27 t363.length co27)) (fun _ hk => hk.1.2)), by repeat (with_reducible first | exact HI0.out | apply IsS94.alloc | apply IsS94.drewN | apply IsS94.drew | apply IsS94.set_1 | refine IsS94.far ?_ NB0_351.out _ | refine IsS94.far ?_ NB0_367.out _), by repeat (with_reducible first | exact HB.out | apply below_alloc | apply pw_below_drewN | apply below_drew1 | refine below_set ?_ (IsS94.ge HI0.out) | refine below_set ?_ GE351.out | refine below_set ?_ GE367.out), by repeat (with_reducible first | exact HK.out | apply KeepBut.set_ | apply keep_drewN | apply keep_drew | apply keep_alloc | refine keep_far ?_ GW351.out _ | refine keep_far ?_ GW367.out _)⟩
 ·replace c6 := Bool.eq_false_iff.mpr c6
  subst c6
  rw [if_neg (show ¬ (false = true) by decide)] at H
  simp only [Option.some.injEq, Prod.mk.injEq] at H
  obtain ⟨rfl, rfl, rfl, rfl, rfl, rfl⟩ := H
  refine hq_ ?_
  clear hq_ q_
  try go_wp2_with (first | ((with_reducible refine gate_dst (N := 7) rfl ?_); refine box_event ?hg (N := 7) ?hd (cs := #[.int .i64 0, .int .i64 0, .slice none 0 0]) (t := 40) ?hr ?_; (case hd => rfl); (case hg => rfl); (case hr => first | (go_simp; done) | (go_simp; rfl)); intro gb367 hg w23 hbox hb; replace HO355 := Aside0.mk (Kd.R_below (HO355.out) hb); replace HO365 := Aside0.mk (Kd.R_below (HO365.out) hb); replace HB := Aside0.mk (below_step (by repeat (with_reducible first | exact HB.out | apply below_alloc | apply pw_below_drewN | apply below_drew1 | refine below_set ?_ (IsS94.ge HI0.out) | refine below_set ?_ GE351.out)) hb); replace BK367 := Aside0.mk (hbox); replace GW367 := Aside0.mk ((by rw [hg]; exact (keep_size (w := w) (g := g) (row := none) (by repeat (with_reducible first | exact HK.out | apply KeepBut.set_ | apply keep_drewN | apply keep_drew | apply keep_alloc | refine keep_far ?_ GW351.out _))) : w.heap.size ≤ gb367)); replace GE367 := Aside0.mk ((Nat.le_trans HW0.out (by rw [hg]; exact (keep_size (w := w) (g := g) (row := none) (by repeat (with_reducible first | exact HK.out | apply KeepBut.set_ | apply keep_drewN | apply keep_drew | apply keep_alloc | refine keep_far ?_ GW351.out _))) : w.heap.size ≤ gb367) : w0.heap.size ≤ gb367)); replace HK := Aside0.mk (KeepBut.trans (by repeat (with_reducible first | exact HK.out | apply KeepBut.set_ | apply keep_drewN | apply keep_drew | apply keep_alloc | refine keep_far ?_ GW351.out _)) (KeepBut.of_below hb g none) (.inl rfl)); replace NB351_367 := Aside0.mk ((by rw [hg]; exact Nat.ne_of_lt (blk_lt (g := gb351) (o := .cells #[.int .i64 0, .int .i64 0, .slice none 0 0] 40 (0, 0)) (by exact BK351.out)) : gb351 ≠ gb367)); replace NB367_351 := Aside0.mk ((by rw [hg]; exact Nat.ne_of_gt (blk_lt (g := gb351) (o := .cells #[.int .i64 0, .int .i64 0, .slice none 0 0] 40 (0, 0)) (by exact BK351.out)) : gb367 ≠ gb351)); replace BK351 := Aside0.mk (blk_below (g := gb351) (o := .cells #[.int .i64 0, .int .i64 0, .slice none 0 0] 40 (0, 0)) (by exact BK351.out) hb); replace NB0_367 := Aside0.mk ((by rw [hg]; exact Nat.ne_of_lt (IsS94.lt (show IsS94 w0 _ g s0_0 t360 from by repeat (with_reducible first | exact HI0.out | apply IsS94.alloc | apply IsS94.drewN | apply IsS94.drew | apply IsS94.set_1 | refine IsS94.far ?_ NB0_351.out _))) : g ≠ gb367)); replace NB367_0 := Aside0.mk ((by rw [hg]; exact Nat.ne_of_gt (IsS94.lt (show IsS94 w0 _ g s0_0 t360 from by repeat (with_reducible first | exact HI0.out | apply IsS94.alloc | apply IsS94.drewN | apply IsS94.drew | apply IsS94.set_1 | refine IsS94.far ?_ NB0_351.out _))) : gb367 ≠ g)); replace HI0 := Aside0.mk (IsS94.below (by repeat (with_reducible first | exact HI0.out | apply IsS94.alloc | apply IsS94.drewN | apply IsS94.drew | apply IsS94.set_1 | refine IsS94.far ?_ NB0_351.out _)) hb); clear hb hbox hg; have hnb24 := NB367_351.out; have hnc24 := NB351_367.out; have hnb25 := NB367_0.out; have hnc25 := NB0_367.out; have hcz26_0 : w23.cell? ⟨gb367, 0, none⟩ = some (.int .i64 0) := (blk_cell BK367.out 0).trans rfl; have hcz26_1 : w23.cell? ⟨gb367, 1, none⟩ = some (.int .i64 0) := (blk_cell BK367.out 1).trans rfl; have hcz26_2 : w23.cell? ⟨gb367, 2, none⟩ = some (.slice none 0 0) := (blk_cell BK367.out 2).trans rfl; have hfz26_0 := blk_frozen BK367.out 0; have hfz26_1 := blk_frozen BK367.out 1; have hfz26_2 := blk_frozen BK367.out 2; obtain ⟨Ao27, co27, eo27⟩ := Kd.R_slice HO365.out; subst eo27))
  replace HO355 : Aside0 (Kd.R (Kd.int .i64) 3 (((w23.setCell ⟨gb367, 0, none⟩ (.int .i64 t361)).setCell ⟨gb367, 1, none⟩ (.int .i64 t362)).setCell ⟨gb367, 2, none⟩ (.slice Ao27 t363.length co27)) w.heap.size (fun k_ => some k_ ≠ (.slice Ao27 t363.length co27 : Value).ownBlock) (.slice Ao21 t353.length co21) t353) := ⟨Kd.R_mono (Kd.R_far (p := ⟨gb367, 2, none⟩) (Kd.R_far (p := ⟨gb367, 1, none⟩) (Kd.R_far (p := ⟨gb367, 0, none⟩) (Kd.R_types HO355.out BK367.out (by decide)) (fun _ hk => hk.2) (.int .i64 t361)) (fun _ hk => hk.2) (.int .i64 t362)) (fun _ hk => hk.2) (.slice Ao27 t363.length co27)) (fun _ hk => hk.1.2)⟩
  replace HO365 : Aside0 (Kd.R (Kd.int .i64) 3 (((w23.setCell ⟨gb367, 0, none⟩ (.int .i64 t361)).setCell ⟨gb367, 1, none⟩ (.int .i64 t362)).setCell ⟨gb367, 2, none⟩ (.slice Ao27 t363.length co27)) w.heap.size (fun k_ => some k_ ≠ (.slice Ao21 t353.length co21 : Value).ownBlock) (.slice Ao27 t363.length co27) t363) := ⟨Kd.R_mono (Kd.R_far (p := ⟨gb367, 2, none⟩) (Kd.R_far (p := ⟨gb367, 1, none⟩) (Kd.R_far (p := ⟨gb367, 0, none⟩) (Kd.R_types HO365.out BK367.out (by decide)) (fun _ hk => hk.2) (.int .i64 t361)) (fun _ hk => hk.2) (.int .i64 t362)) (fun _ hk => hk.2) (.slice Ao27 t363.length co27)) (fun _ hk => hk.1.2)⟩
  replace BK351 : Aside0 ((((w23.setCell ⟨gb367, 0, none⟩ (.int .i64 t361)).setCell ⟨gb367, 1, none⟩ (.int .i64 t362)).setCell ⟨gb367, 2, none⟩ (.slice Ao27 t363.length co27)).heap[gb351]? = some (.cells #[.int .i64 0, .int .i64 0, .slice none 0 0] 40 (0, 0))) := ⟨by refine blk_far ?_ NB351_367.out _; refine blk_far ?_ NB351_367.out _; refine blk_far ?_ NB351_367.out _; exact BK351.out⟩
  replace BK367 : Aside0 ((((w23.setCell ⟨gb367, 0, none⟩ (.int .i64 t361)).setCell ⟨gb367, 1, none⟩ (.int .i64 t362)).setCell ⟨gb367, 2, none⟩ (.slice Ao27 t363.length co27)).heap[gb367]? = some (.cells #[.int .i64 t361, .int .i64 t362, .slice Ao27 t363.length co27] 40 (0, 0))) := ⟨by refine blk_put (cs := #[.int .i64 t361, .int .i64 t362, .slice none 0 0]) ?_ 2 _ rfl; refine blk_put (cs := #[.int .i64 t361, .int .i64 0, .slice none 0 0]) ?_ 1 _ rfl; refine blk_put (cs := #[.int .i64 0, .int .i64 0, .slice none 0 0]) ?_ 0 _ rfl; exact BK367.out⟩
  replace HK : Aside0 (KeepBut w (((w23.setCell ⟨gb367, 0, none⟩ (.int .i64 t361)).setCell ⟨gb367, 1, none⟩ (.int .i64 t362)).setCell ⟨gb367, 2, none⟩ (.slice Ao27 t363.length co27)) g none) := ⟨by repeat (with_reducible first | exact HK.out | apply KeepBut.set_ | apply keep_drewN | apply keep_drew | apply keep_alloc | refine keep_far ?_ GW351.out _ | refine keep_far ?_ GW367.out _)⟩
  replace HB : Aside0 (Below w0.heap.size w0 (((w23.setCell ⟨gb367, 0, none⟩ (.int .i64 t361)).setCell ⟨gb367, 1, none⟩ (.int .i64 t362)).setCell ⟨gb367, 2, none⟩ (.slice Ao27 t363.length co27))) := ⟨by repeat (with_reducible first | exact HB.out | apply below_alloc | apply pw_below_drewN | apply below_drew1 | refine below_set ?_ (IsS94.ge HI0.out) | refine below_set ?_ GE351.out | refine below_set ?_ GE367.out)⟩
  replace HI0 : Aside0 (IsS94 w0 (((w23.setCell ⟨gb367, 0, none⟩ (.int .i64 t361)).setCell ⟨gb367, 1, none⟩ (.int .i64 t362)).setCell ⟨gb367, 2, none⟩ (.slice Ao27 t363.length co27)) g s0_0 t360) := ⟨by repeat (with_reducible first | exact HI0.out | apply IsS94.alloc | apply IsS94.drewN | apply IsS94.drew | apply IsS94.set_1 | refine IsS94.far ?_ NB0_351.out _ | refine IsS94.far ?_ NB0_367.out _)⟩
  generalize (((w23.setCell ⟨gb367, 0, none⟩ (.int .i64 t361)).setCell ⟨gb367, 1, none⟩ (.int .i64 t362)).setCell ⟨gb367, 2, none⟩ (.slice Ao27 t363.length co27)) = w215 at HO355 HO365 BK351 BK367 HI0 HK HB ⊢
  replace HO355 := Aside0.mk (Kd.R_drew HO355.out)
  replace HO365 := Aside0.mk (Kd.R_drew HO365.out)
  replace BK351 := Aside0.mk (blk_drew BK351.out)
  replace BK367 := Aside0.mk (blk_drew BK367.out)
  replace HI0 := Aside0.mk (IsS94.drew HI0.out)
  replace HK := Aside0.mk (keep_drew HK.out)
  replace HB := Aside0.mk (below_drew1 HB.out)
  refine start_ (n := 6) (S := fun w' => w'.cell? ⟨gb367, 0, none⟩ = some (.int .i64 t361) ∧ w'.cell? ⟨gb367, 1, none⟩ = some (.int .i64 t362) ∧ w'.cell? ⟨gb367, 2, none⟩ = some (.slice Ao27 t363.length co27)) (ds := []) (bs 6 0) (by kernel_rfl) rfl rfl ⟨(blk_cell BK367.out 0).trans rfl, (blk_cell BK367.out 1).trans rfl, (blk_cell BK367.out 2).trans rfl⟩ (fun hHeld => ?_)
  generalize w215.drew = w216 at HO355 HO365 BK351 BK367 HI0 HK HB hHeld ⊢
  refine pZ 0 (some 26) (bs 6 1) rfl rfl (by kernel_rfl) ?_
  refine pZ 1 (some 27) (bs 6 3) rfl rfl (by kernel_rfl) ?_
  refine pZ 3 (some 2) (bs 6 11) rfl rfl (by kernel_rfl) ?_
  refine pZ 4 (some 3) (bs 6 27) rfl rfl (by kernel_rfl) ?_
  refine tZ 2 (some 28) (bs 6 31) rfl rfl (by kernel_rfl) hHeld (by rintro w' ⟨s0, s1, s2⟩; go_simp; with_reducible rfl) ?_
  refine one_ (i := 5) (N := none) (bs 6 63) rfl rfl (by kernel_rfl) (by decide) (fun K hK => ?_)
  have hs217 : w216.cell? ⟨gb351, 0, none⟩ = some (.int .i64 0) := (blk_cell BK351.out 0).trans rfl
  have hfs217 := blk_frozen BK351.out 0
  have hns217_1 := NB367_351.out
  have hms217_1 := NB351_367.out
  have hs218 : w216.cell? ⟨gb351, 1, none⟩ = some (.int .i64 0) := (blk_cell BK351.out 1).trans rfl
  have hfs218 := blk_frozen BK351.out 1
  have hns218_1 := NB367_351.out
  have hms218_1 := NB351_367.out
  have hs219 : w216.cell? ⟨gb351, 2, none⟩ = some (.slice none 0 0) := (blk_cell BK351.out 2).trans rfl
  have hfs219 := blk_frozen BK351.out 2
  have hns219_1 := NB367_351.out
  have hms219_1 := NB351_367.out
  refine skip_ (w1 := ?_) (by rfl) rfl ?_ ?_
  rotate_left
  ·go_simp
   rfl
  refine hK.out _ _ ⟨((cell_far (p := ⟨gb351, _, none⟩) NB367_351.out _).trans (((cell_far (p := ⟨gb351, _, none⟩) NB367_351.out _).trans (((cell_far (p := ⟨gb351, _, none⟩) NB367_351.out _).trans (hHeld.1)))))), ((cell_far (p := ⟨gb351, _, none⟩) NB367_351.out _).trans (((cell_far (p := ⟨gb351, _, none⟩) NB367_351.out _).trans (((cell_far (p := ⟨gb351, _, none⟩) NB367_351.out _).trans (hHeld.2.1)))))), ((cell_far (p := ⟨gb351, _, none⟩) NB367_351.out _).trans (((cell_far (p := ⟨gb351, _, none⟩) NB367_351.out _).trans (((cell_far (p := ⟨gb351, _, none⟩) NB367_351.out _).trans (hHeld.2.2))))))⟩ (fun hHeld => ?_)
  clear hK K
  refine done_ (by kernel_rfl) ?_
  try go_wp2
  refine bodyPost_ret (results_list (rs := [.tmp 2, .tmp 3, .cell 4 40]) rfl (by simp) (.tmp (.tmp (.cell gb351 40 #[.int .i64 t361, .int .i64 t362, .slice Ao27 t363.length co27] (0, 0) _ rfl (by refine blk_put (cs := #[.int .i64 t361, .int .i64 t362, .slice none 0 0]) ?_ 2 _ rfl; refine blk_put (cs := #[.int .i64 t361, .int .i64 0, .slice none 0 0]) ?_ 1 _ rfl; refine blk_put (cs := #[.int .i64 0, .int .i64 0, .slice none 0 0]) ?_ 0 _ rfl; exact BK351.out) Tryz.underlying40 rfl (by kernel_rfl) .nil)))) rfl ?_
  exact ⟨_, _, rfl, Kd.R_mono (Kd.R_far (p := ⟨gb351, 2, none⟩) (Kd.R_far (p := ⟨gb351, 1, none⟩) (Kd.R_far (p := ⟨gb351, 0, none⟩) (Kd.R_types HO355.out BK351.out (by decide)) (fun _ hk => hk.2) (.int .i64 t361)) (fun _ hk => hk.2) (.int .i64 t362)) (fun _ hk => hk.2) (.slice Ao27 t363.length co27)) (fun _ hk => hk.1), Kd.Q_of_R (Kd.R_mono (Kd.R_far (p := ⟨gb351, 2, none⟩) (Kd.R_far (p := ⟨gb351, 1, none⟩) (Kd.R_far (p := ⟨gb351, 0, none⟩) (Kd.R_types HO365.out BK351.out (by decide)) (fun _ hk => hk.2) (.int .i64 t361)) (fun _ hk => hk.2) (.int .i64 t362)) (fun _ hk => hk.2) (.slice Ao27 t363.length co27)) (fun _ hk => hk.1)), by repeat (with_reducible first | exact HI0.out | apply IsS94.alloc | apply IsS94.drewN | apply IsS94.drew | apply IsS94.set_1 | refine IsS94.far ?_ NB0_351.out _ | refine IsS94.far ?_ NB0_367.out _), by repeat (with_reducible first | exact HB.out | apply below_alloc | apply pw_below_drewN | apply below_drew1 | refine below_set ?_ (IsS94.ge HI0.out) | refine below_set ?_ GE351.out | refine below_set ?_ GE367.out), by repeat (with_reducible first | exact HK.out | apply KeepBut.set_ | apply keep_drewN | apply keep_drew | apply keep_alloc | refine keep_far ?_ GW351.out _ | refine keep_far ?_ GW367.out _)⟩
end Go.Proofs.YtlgbblaidohljaaGreatDoor.Zc
