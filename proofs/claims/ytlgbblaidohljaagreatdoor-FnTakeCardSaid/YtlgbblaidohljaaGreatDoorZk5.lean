import Derived.Test.YtlgbblaidohljaaGreatDoorZ
import Derived.Test.YtlgbblaidohljaaGreatDoorZk0
import Derived.Test.YtlgbblaidohljaaGreatDoorZk3
import Derived.Test.YtlgbblaidohljaaGreatDoorZk4
namespace Go.Proofs.YtlgbblaidohljaaGreatDoor.Zk
open Go.RowKit Go.Proofs.YtlgbblaidohljaaGreatDoorT.PrintWords Go.Proofs.YtlgbblaidohljaaGreatDoorT.PrintLast Go.Proofs.YtlgbblaidohljaaGreatDoorT.PrintMore Go.Proofs.YtlgbblaidohljaaGreatDoor.Z
attribute [local go_sem] max2_int min2_int max_two min_two max_three min_three max_four min_four
set_option linter.unusedVariables false
set_option linter.unusedSimpArgs false
theorem c82x5 : Ent Tryz.prog 82 := ent Tryz.func82 (by kernel_rfl) rfl
private theorem c80x20 : Ent Tryz.prog 80 := ent Tryz.func80 (by kernel_rfl) rfl
private theorem c81x20 : Ent Tryz.prog 81 := ent Tryz.func81 (by kernel_rfl) rfl
mutual
def spec_l13Ask.j0 : Nat → Int → Int → Int → List Int → Int → Int → Int → List Int → Option (List Int)
  | 0, _, _, _, _, _, _, _, _ => none
  | k + 1, x0, x3, x4, x11, x13, x193000, x193001, x193002 => (spec_l2Line.f k (wrap64 ((x11.length : Int) + 1)) x3).bind fun t193 => (spec_l13Ask.l0 k x0 x3 x4 x11 x13 t193 (([x193001] : List Int)) 0 1 0 0 x193000 x193001 x193002)
def spec_l13Ask.l0 : Nat → Int → Int → Int → List Int → Int → List Int → List Int → Int → Int → Int → Int → Int → Int → List Int → Option (List Int)
  | 0, _, _, _, _, _, _, _, _, _, _, _, _, _, _ => none
  | k + 1, x0, x3, x4, x11, x13, x14, x15, x16, x17, x18, x19, x193000, x193001, x193002 => if x19 < (x11.length : Int) then (if 0 ≤ x19 then ((spec_FieldDif.f (rd x11 x19) x13).bind fun t200 => (if x15.length < 17592186044416 then ((spec_l2At.f k x193002 (wrap64 (x19 + 1))).bind fun t204 => (spec_l13Ask.l0 k x0 x3 x4 x11 x13 x14 (x15 ++ [t200]) (Int.tmod (wrap64 (x16 + (wrap64 (x17 * t204)))) 31) (Int.tmod (wrap64 (x17 * x4)) 31) (Int.tmod (wrap64 (x18 + (rd x11 x19))) 31) (wrap64 (x19 + 1)) x193000 x193001 x193002)) else (none))) else (none)) else (if x0 = 2 then ((spec_FieldDif.f x18 x13).bind fun t206 => (spec_l13Ask.j2 k x3 x11 x14 x15 (Int.tmod (wrap64 (x16 + (wrap64 (x17 * t206)))) 31) x193000 x193001 x193002)) else (spec_l13Ask.j2 k x3 x11 x14 x15 x16 x193000 x193001 x193002))
def spec_l13Ask.j2 : Nat → Int → List Int → List Int → List Int → Int → Int → Int → List Int → Option (List Int)
  | 0, _, _, _, _, _, _, _, _ => none
  | k + 1, x3, x11, x14, x15, x16, x193000, x193001, x193002 => (spec_l12First.f x11 x193000).bind fun t207 => ((spec_l13Dot.f k x14 t207).bind fun t210 => ((spec_l13Dot.f k x14 x15).bind fun t211 => ((spec_l2At.f k x193002 x3).bind fun t212 => (some (([t210, t211, t212, x16] : List Int))))))
end
def spec_l13Ask.f (k : Nat) (a0 : Int) (l1 : List Int) (a2 : Bool) (a3 : Int) (a4 : Int) : Option (List Int) := (spec_l12Cut.f a0 l1).bind fun bt184 => (if a2 = true then (spec_l13Ask.j0 k a0 a3 a4 bt184.1 1 bt184.2.1 bt184.2.2.1 bt184.2.2.2) else (spec_l13Ask.j0 k a0 a3 a4 bt184.1 0 bt184.2.1 bt184.2.2.1 bt184.2.2.2))
def spec_l13Ask.T19 : Bool × List (List Nat × List Nat) := (true, [([], []), ([], []), ([], []), ([2], [2]), ([1, 3], [1, 3]), ([0, 4, 4], [0, 4]), ([], []), ([], []), ([6, 7, 5], [6, 7]), ([], []), ([9], [9]), ([], []), ([10, 11, 8], [10, 11]), ([], []), ([5, 8, 12, 13], [5, 8, 12, 13]), ([14, 12, 0, 1, 2, 3, 4, 5, 6, 7, 8, 9, 10, 11, 12, 13, 14], [14])])
def spec_l13Ask.B19 : List Nat := [0, 0, 0, 4, 14, 31, 0, 0, 255, 0, 512, 0, 4095, 0, 16383, 32767]
theorem spec_l13Ask.tab19 : rtab .any (opsOf Tryz.f40 19) = spec_l13Ask.T19 := by kernel_rfl
theorem spec_l13Ask.bits19 : waitsOk spec_l13Ask.T19.2 spec_l13Ask.B19 = true := by kernel_rfl
set_option maxHeartbeats 8000000 in
set_option maxRecDepth 100000 in
theorem spec_l13Ask.calls (k : Nat) (a0 : Int) (A1 : Option Addr) (c1 : Nat) (l1 : List Int) (a2 : Bool) (a3 : Int) (a4 : Int) (r : List Int) (w : World) (hr1 : Kd.C (Kd.int .i64) w A1 l1.length l1) (hc1 : l1.length ≤ c1) (h : spec_l13Ask.f k a0 l1 a2 a3 a4 = some r) :
  Calls Tryz.prog 40 #[.int .i64 a0, .slice A1 l1.length c1, .bool a2, .int .i64 a3, .int .i64 a4] w fun e w' => ∃ v0_ : Value, e = .returned (v0_) ∧ Kd.R (Kd.int .i64) 3 w' w.heap.size (fun _ => True) v0_ r ∧ Below w.heap.size w w' := by
 have hu40 := Tryz.underlying40
 have HR1 := Aside0.mk hr1
 have HC1 := Aside0.mk hc1
 clear hr1 hc1
 have HB := Aside0.mk (Below.refl w.heap.size w)
 have H := h
 unfold spec_l13Ask.f at H
 clear h
 replace H := bnd H
 obtain ⟨⟨t535, t538, t539, t540⟩, A6, H⟩ := H
 dsimp only at H
 have HC7 := Aside0.mk H
 clear H
 go_enter Tryz.func40, Tryz.ntmps40
 go_upto_if 26 with (first | ((with_reducible refine gate_callee (f := 79) rfl ?_); refine goesZ (some 23) Tryz.func79 #[.int .i64 a0, .slice A1 l1.length c1] ?_; (with_reducible refine (spec_l12Cut.calls a0 _ _ l1 t535 t538 t539 t540 _ ?side1 ?side2 A6.out).mono ?_); (case side1 => exact HR1.out); (case side2 => exact HC1.out); rintro e w8 ⟨v536, v541, rfl, ho0, ho1, hb⟩; refine ⟨_, rfl, ?_⟩; have n0_ := Aside0.mk (Kd.R_lower ho0 bsZ); have n1_ := Aside0.mk (Kd.R_lower ho1 bsZ); have n2_ := bnZ hb; clear HB; have HO537 := n0_; have HO542 := n1_; have HB := n2_; clear n0_ n1_ n2_; (try clear hb); (try clear hb2); (try clear hk); (try clear hi); (try clear ho0); (try clear ho1)) | ((with_reducible refine gate_dst (N := 12) rfl ?_); refine boxZ (N := 12) (cs := #[.int .i64 0, .int .i64 0, .slice none 0 0]) (t := 40) ?_; intro gb543 hg w9 hbox hb; have n0_ := Aside0.mk (Kd.R_below (HO537.out) hb); have n1_ := Aside0.mk (Kd.R_below (HO542.out) hb); have n2_ := bnZ hb; have n3_ := Aside0.mk (hbox); have n4_ := Aside0.mk ((by rw [hg]; exact bsZ : w.heap.size ≤ gb543)); have n5_ := Aside0.mk ((by rw [hg]; exact bsZ : w.heap.size ≤ gb543)); clear HO537; clear HO542; clear HB; have HO537 := n0_; have HO542 := n1_; have HB := n2_; have BK543 := n3_; have GW543 := n4_; have GE543 := n5_; clear n0_ n1_ n2_ n3_ n4_ n5_; clear hb hbox hg; have hcz10_0 : w9.cell? ⟨gb543, 0, none⟩ = some (.int .i64 0) := (blk_cell BK543.out 0).trans rfl; have hcz10_1 : w9.cell? ⟨gb543, 1, none⟩ = some (.int .i64 0) := (blk_cell BK543.out 1).trans rfl; have hcz10_2 : w9.cell? ⟨gb543, 2, none⟩ = some (.slice none 0 0) := (blk_cell BK543.out 2).trans rfl; have hfz10_0 := blk_frozen BK543.out 0; have hfz10_1 := blk_frozen BK543.out 1; have hfz10_2 := blk_frozen BK543.out 2; obtain ⟨Ao11, co11, eo11⟩ := Kd.R_slice HO542.out; subst eo11))
 (try simp only [Act.put, List.setIfInBounds_toArray, List.set_cons_zero, List.set_cons_succ])
 go_cut [13] (fun v13 wc => ∃ (kq : Nat) (x13_6 : Int), v13 = .int .i64 x13_6 ∧ Aside0 (spec_l13Ask.j0 kq a0 a3 a4 t535 x13_6 t538 t539 t540 = some r) ∧ Aside0 (kq ≤ k) ∧ Aside0 (Kd.R (Kd.int .i64) 3 wc w.heap.size (fun k_ => some k_ ≠ ((.slice Ao11 t540.length co11) : Value).ownBlock) v536 t535) ∧ Aside0 (Kd.R (Kd.int .i64) 3 wc w.heap.size (fun k_ => some k_ ≠ (v536 : Value).ownBlock) (.slice Ao11 t540.length co11) t540) ∧ Aside0 (wc.heap[gb543]? = some (.cells #[.int .i64 t538, .int .i64 t539, (.slice Ao11 t540.length co11)] 40 (0, 0))) ∧ Aside0 (Below w.heap.size w wc))
 case first =>
  have H := HC7.out
  clear HC7
  by_cases c12 : a2 = true
  ·subst c12
   rw [if_pos rfl] at H
   have H' := Aside0.mk H
   clear H
   go_wp2
   go_meet
   case rel => exact ⟨_, (1), rfl, H', ⟨by first | omega | exact Nat.le_refl _⟩, ⟨Kd.R_mono (Kd.R_far (p := ⟨gb543, 2, none⟩) (Kd.R_far (p := ⟨gb543, 1, none⟩) (Kd.R_far (p := ⟨gb543, 0, none⟩) (Kd.R_types HO537.out BK543.out (by decide)) (fun _ hk => hk.2) (.int .i64 t538)) (fun _ hk => hk.2) (.int .i64 t539)) (fun _ hk => hk.2) (.slice Ao11 t540.length co11)) (fun _ hk => hk.1)⟩, ⟨Kd.R_mono (Kd.R_far (p := ⟨gb543, 2, none⟩) (Kd.R_far (p := ⟨gb543, 1, none⟩) (Kd.R_far (p := ⟨gb543, 0, none⟩) (Kd.R_types HO542.out BK543.out (by decide)) (fun _ hk => hk.2) (.int .i64 t538)) (fun _ hk => hk.2) (.int .i64 t539)) (fun _ hk => hk.2) (.slice Ao11 t540.length co11)) (fun _ hk => hk.1)⟩, ⟨by refine blk_put (cs := #[.int .i64 t538, .int .i64 t539, .slice none 0 0]) ?_ 2 _ rfl; refine blk_put (cs := #[.int .i64 t538, .int .i64 0, .slice none 0 0]) ?_ 1 _ rfl; refine blk_put (cs := #[.int .i64 0, .int .i64 0, .slice none 0 0]) ?_ 0 _ rfl; exact BK543.out⟩, ⟨by repeat (with_reducible first | exact HB.out | apply below_alloc | apply pw_below_drewN | apply below_drew1 | refine below_set ?_ GE543.out)⟩⟩
  ·replace c12 := Bool.eq_false_iff.mpr c12
   subst c12
   rw [if_neg (show ¬ (false = true) by decide)] at H
   have H' := Aside0.mk H
   clear H
   go_wp2
   go_meet
   case rel => exact ⟨_, (0), rfl, H', ⟨by first | omega | exact Nat.le_refl _⟩, ⟨Kd.R_mono (Kd.R_far (p := ⟨gb543, 2, none⟩) (Kd.R_far (p := ⟨gb543, 1, none⟩) (Kd.R_far (p := ⟨gb543, 0, none⟩) (Kd.R_types HO537.out BK543.out (by decide)) (fun _ hk => hk.2) (.int .i64 t538)) (fun _ hk => hk.2) (.int .i64 t539)) (fun _ hk => hk.2) (.slice Ao11 t540.length co11)) (fun _ hk => hk.1)⟩, ⟨Kd.R_mono (Kd.R_far (p := ⟨gb543, 2, none⟩) (Kd.R_far (p := ⟨gb543, 1, none⟩) (Kd.R_far (p := ⟨gb543, 0, none⟩) (Kd.R_types HO542.out BK543.out (by decide)) (fun _ hk => hk.2) (.int .i64 t538)) (fun _ hk => hk.2) (.int .i64 t539)) (fun _ hk => hk.2) (.slice Ao11 t540.length co11)) (fun _ hk => hk.1)⟩, ⟨by refine blk_put (cs := #[.int .i64 t538, .int .i64 t539, .slice none 0 0]) ?_ 2 _ rfl; refine blk_put (cs := #[.int .i64 t538, .int .i64 0, .slice none 0 0]) ?_ 1 _ rfl; refine blk_put (cs := #[.int .i64 0, .int .i64 0, .slice none 0 0]) ?_ 0 _ rfl; exact BK543.out⟩, ⟨by repeat (with_reducible first | exact HB.out | apply below_alloc | apply pw_below_drewN | apply below_drew1 | refine below_set ?_ GE543.out)⟩⟩
 case rest =>
  clear HC7
  try clear c1
  try clear p2
  try clear c4
  try clear c7
  try clear c12
  try clear hcz10_0
  try clear hcz10_1
  try clear hcz10_2
  try clear hfz10_0
  try clear hfz10_1
  try clear hfz10_2
  obtain ⟨kq, x13_6, rfl, HA, HJ6, HO_11, HO_544002, BK543, HB⟩ := hcut
  cases kq with
  | zero => exact absurd HA.out (by simp [spec_l13Ask.j0])
  | succ kj6 =>
   have H := HA.out
   clear HA
   simp only [spec_l13Ask.j0] at H
   replace H := bnd H
   obtain ⟨t544, A13, H⟩ := H
   obtain ⟨y547, hy547⟩ : ∃ y_ : List Int, y_ = (([t539] : List Int)) := ⟨_, rfl⟩
   rw [← hy547] at H
   have Ny547 := Aside0.mk hy547
   clear hy547
   have H' := Aside0.mk H
   clear H
   obtain ⟨Ao14, co14, eo14⟩ := Kd.R_slice HO_11.out
   subst eo14
   go_wp2_with (first | (refine gsC c80x20 (spec_l2Line.calls kj6 (wrap64 ((t535.length : Int) + 1)) a3 t544 _ A13.out) ?_; rintro e w15 ⟨v545, rfl, ho0, hb⟩; refine ⟨_, rfl, ?_⟩; replace HO546 := Aside0.mk (Kd.R_lower (Kd.R_new' (Kd.R_new' ho0 (Kd.R_lt (HO_11.out))) (Kd.R_lt (HO_544002.out))) bsZ); replace HO_11 := Aside0.mk (Kd.R_elder' (HO_11.out) (Kd.R_base ho0) hb); replace HO_544002 := Aside0.mk (Kd.R_elder' (HO_544002.out) (Kd.R_base ho0) hb); replace BK543 := bkZ hb BK543.out; replace HB := bnZ hb; (try clear hb); (try clear hb2); (try clear hk); (try clear hi); (try clear ho0); have hcz16_0 : w15.cell? ⟨gb543, 0, none⟩ = some (.int .i64 t538) := (blk_cell BK543.out 0).trans rfl; have hcz16_1 : w15.cell? ⟨gb543, 1, none⟩ = some (.int .i64 t539) := (blk_cell BK543.out 1).trans rfl; have hcz16_2 : w15.cell? ⟨gb543, 2, none⟩ = some (.slice Ao11 t540.length co11) := (blk_cell BK543.out 2).trans rfl; have hfz16_0 := blk_frozen BK543.out 0; have hfz16_1 := blk_frozen BK543.out 1; have hfz16_2 := blk_frozen BK543.out 2) | ((with_reducible refine gate_dst (N := 34) rfl ?_); refine Kd.R_lit (Kd.int .i64) _ 3 ?hg (N := 34) ?hd (xs := ([t539] : List Int)) (inner := [.int .i64 t539]) (ok := fun _ => True) (okp := fun _ => True) ?hr ?hp (fun _ hk => hk) trivial (Below.refl _ _) (Nat.le_refl _) (by simp) ?_; (case hd => rfl); (case hg => rfl); (case hr => first | (go_simp; done) | (go_simp; rfl)); (case hp => exact (Reps.one (show Kd.M (Kd.int .i64) _ _ _ t539 [.int .i64 t539] from rfl) (Reps.none _ _))); intro v548 w17 ho18 hb hg_ hnew_; clear hg_ hnew_; (first | rw [← Ny547.out] at ho18 | (simp only [Int.reduceToNat] at ho18; rw [← Ny547.out] at ho18)); replace HO549 := Aside0.mk (Kd.R_lower (Kd.R_new' (Kd.R_new' (Kd.R_new' ho18 (Kd.R_lt (HO_11.out))) (Kd.R_lt (HO_544002.out))) (Kd.R_lt (HO546.out))) bsZ); replace HO_11 := Aside0.mk (Kd.R_elder' (HO_11.out) (Kd.R_base ho18) hb); replace HO_544002 := Aside0.mk (Kd.R_elder' (HO_544002.out) (Kd.R_base ho18) hb); replace HO546 := Aside0.mk (Kd.R_elder' (HO546.out) (Kd.R_base ho18) hb); replace BK543 := bkZ hb BK543.out; replace HB := bnZ hb; clear hb ho18))
   go_loopg [15, 16, 17, 18, 19] kj6 (fun kq v15 v16 v17 v18 v19 w' => ∃ (x15_2 : List Int) (x16_2 : Int) (x17_2 : Int) (x18_2 : Int) (x19_2 : Int), v16 = .int .i64 x16_2 ∧ v17 = .int .i64 x17_2 ∧ v18 = .int .i64 x18_2 ∧ v19 = .int .i64 x19_2 ∧ Aside0 (spec_l13Ask.l0 kq a0 a3 a4 t535 x13_6 t544 x15_2 x16_2 x17_2 x18_2 x19_2 t538 t539 t540 = some r) ∧ Aside0 (kq ≤ kj6) ∧ Aside0 (Kd.R (Kd.int .i64) 3 w' w.heap.size (fun k_ => some k_ ≠ (v545 : Value).ownBlock ∧ some k_ ≠ (v15 : Value).ownBlock ∧ some k_ ≠ ((.slice Ao11 t540.length co11) : Value).ownBlock) (.slice Ao14 t535.length co14) t535) ∧ Aside0 (Kd.R (Kd.int .i64) 3 w' w.heap.size (fun k_ => some k_ ≠ ((.slice Ao14 t535.length co14) : Value).ownBlock ∧ some k_ ≠ (v15 : Value).ownBlock ∧ some k_ ≠ ((.slice Ao11 t540.length co11) : Value).ownBlock) v545 t544) ∧ Aside0 (Kd.R (Kd.int .i64) 3 w' w.heap.size (fun k_ => some k_ ≠ ((.slice Ao14 t535.length co14) : Value).ownBlock ∧ some k_ ≠ (v545 : Value).ownBlock ∧ some k_ ≠ ((.slice Ao11 t540.length co11) : Value).ownBlock) v15 x15_2) ∧ Aside0 (Kd.R (Kd.int .i64) 3 w' w.heap.size (fun k_ => some k_ ≠ ((.slice Ao14 t535.length co14) : Value).ownBlock ∧ some k_ ≠ (v545 : Value).ownBlock ∧ some k_ ≠ (v15 : Value).ownBlock) (.slice Ao11 t540.length co11) t540) ∧ Aside0 (w'.heap[gb543]? = some (.cells #[.int .i64 t538, .int .i64 t539, (.slice Ao11 t540.length co11)] 40 (0, 0))) ∧ Aside0 (Below w.heap.size w w'))
   case atStart => exact ⟨(y547), (0), (1), (0), (0), rfl, rfl, rfl, rfl, H', ⟨Nat.le_refl _⟩, ⟨Kd.R_mono HO_11.out (fun _ hk => ⟨hk.1.2, ⟨hk.2, hk.1.1⟩⟩)⟩, ⟨Kd.R_mono HO546.out (fun _ hk => ⟨hk.1.1.2, ⟨hk.2, hk.1.2⟩⟩)⟩, ⟨Kd.R_mono HO549.out (fun _ hk => ⟨hk.1.1.2, ⟨hk.2, hk.1.2⟩⟩)⟩, ⟨Kd.R_mono HO_544002.out (fun _ hk => ⟨hk.1.1, ⟨hk.1.2, hk.2⟩⟩)⟩, ⟨by exact BK543.out⟩, ⟨by repeat (with_reducible first | exact HB.out | apply below_alloc | apply pw_below_drewN | apply below_drew1 | refine below_set ?_ GE543.out)⟩⟩
   case round =>
    clear H'
    try clear c1
    try clear p2
    try clear c4
    try clear p6
    try clear c7
    try clear c8
    try clear c12
    try clear hcz10_0
    try clear hcz10_1
    try clear hcz10_2
    try clear hcz16_0
    try clear hcz16_1
    try clear hcz16_2
    try clear hfz10_0
    try clear hfz10_1
    try clear hfz10_2
    try clear hfz16_0
    try clear hfz16_1
    try clear hfz16_2
    try clear p2
    obtain ⟨x15_2, x16_2, x17_2, x18_2, x19_2, rfl, rfl, rfl, rfl, HA, HK2, HO_11, HO_14, HO_15, HO_544002, BK543, HB⟩ := hrel
    cases gk with
    | zero => exact absurd HA.out (by simp [spec_l13Ask.l0])
    | succ k2 =>
     have H := HA.out
     clear HA
     simp only [spec_l13Ask.l0] at H
     by_cases c19 : x19_2 < (t535.length : Int)
     ·rw [if_pos c19] at H
      have c19b0 : decide (x19_2 < (t535.length : Int)) = true := decide_eq_true c19
      clear c19
      by_cases c20 : 0 ≤ x19_2
      ·rw [if_pos c20] at H
       have c20b0 : decide (0 ≤ x19_2) = true := decide_eq_true c20
       clear c20
       replace H := bnd H
       obtain ⟨t551, A21, H⟩ := H
       by_cases c22 : x15_2.length < 17592186044416
       ·rw [if_pos c22] at H
        have LMc22 := Aside0.mk c22
        clear c22
        obtain ⟨y552, hy552⟩ : ∃ y_ : List Int, y_ = (x15_2 ++ [t551]) := ⟨_, rfl⟩
        rw [← hy552] at H
        have Ny552 := Aside0.mk hy552
        clear hy552
        replace H := bnd H
        obtain ⟨t555, A23, H⟩ := H
        have H' := Aside0.mk H
        clear H
        have p550 : 0 ≤ (x19_2 : Int) := of_decide_eq_true ‹_›
        have q550 : x19_2 < (t535.length : Int) := of_decide_eq_true ‹_›
        obtain ⟨ad550, e550, hx550_0⟩ := Kd.at_int (Kd.R_reads' HO_11.out).2.2 x19_2 p550 q550
        cases e550
        replace p550 := eq_true p550
        replace q550 := eq_true q550
        go_wp2_with (first | (refine gsD c81x20 (spec_FieldDif.calls (rd t535 x19_2) x13_6 t551 _ A21.out) ?_; intro nd) | ((with_reducible refine gate_builtin (b := .append) (xs := #[.tmp 41, .tmp 48]) rfl ?_); at_builtin; refine Kd.R_append (Kd.int .i64) (w0 := w) w.heap.size rfl (.tmp 41) (.tmp 48) 22 3 (.int .i64 0) 8 rfl Tryz.underlying22 info3 rfl (by decide) (by omega) u15 x15_2 t551 [.int .i64 t551] (fun k_ => some k_ ≠ (.slice (some ad550) t535.length co14 : Value).ownBlock ∧ some k_ ≠ (v545 : Value).ownBlock ∧ some k_ ≠ (.slice Ao11 t540.length co11 : Value).ownBlock) (fun _ => False) rfl rfl ?aP (fun _ hk => hk.elim) ?aF ?aO ?aB ?aS ?aL ?_; (case aP => exact rfl); (case aB => exact bZ); (case aF => exact (fun k_ hk => ⟨Kd.fresh' (Kd.R_lt (HO_11.out)) k_ hk, Kd.fresh' (Kd.R_lt (HO_14.out)) k_ hk, Kd.fresh' (Kd.R_lt (HO_544002.out)) k_ hk⟩)); (case aO => exact (HO_15.out)); (case aS => exact bsZ); (case aL => have := LMc22.out; omega); intro v553 w24 ho hb hg hat; rw [← Ny552.out] at ho; replace HO_11 := Aside0.mk (Kd.R_after (ok := (fun k_ => some k_ ≠ (v545 : Value).ownBlock ∧ some k_ ≠ (.slice Ao11 t540.length co11 : Value).ownBlock)) (by (with_reducible repeat (first | apply Kd.R_alloc | apply Kd.R_drewN | apply Kd.R_drew)); exact Kd.R_mono HO_11.out (fun _ hk => ⟨⟨hk.1, hk.2.2⟩, hk.2.1⟩)) hg hat); replace HO_14 := Aside0.mk (Kd.R_after (ok := (fun k_ => some k_ ≠ (.slice (some ad550) t535.length co14 : Value).ownBlock ∧ some k_ ≠ (.slice Ao11 t540.length co11 : Value).ownBlock)) (by (with_reducible repeat (first | apply Kd.R_alloc | apply Kd.R_drewN | apply Kd.R_drew)); exact Kd.R_mono HO_14.out (fun _ hk => ⟨⟨hk.1, hk.2.2⟩, hk.2.1⟩)) hg hat); replace HO_544002 := Aside0.mk (Kd.R_after (ok := (fun k_ => some k_ ≠ (.slice (some ad550) t535.length co14 : Value).ownBlock ∧ some k_ ≠ (v545 : Value).ownBlock)) (by (with_reducible repeat (first | apply Kd.R_alloc | apply Kd.R_drewN | apply Kd.R_drew)); exact Kd.R_mono HO_544002.out (fun _ hk => ⟨⟨hk.1, hk.2.1⟩, hk.2.2⟩)) hg hat); replace BK543 := Aside0.mk (blk_grown (g := gb543) (o := .cells #[.int .i64 t538, .int .i64 t539, .slice Ao11 t540.length co11] 40 (0, 0)) (by (with_reducible repeat (first | refine blk_drewN ?_ _ | refine blk_drew ?_ | refine blk_alloc ?_ _)); exact BK543.out) hg (Kd.R_ne HO_15.out BK543.out (by decide))); replace HB := Aside0.mk (hb); replace HO554 := Aside0.mk (ho); clear HO_15; clear ho hb hg hat; have hcz25_0 : w24.cell? ⟨gb543, 0, none⟩ = some (.int .i64 t538) := (blk_cell BK543.out 0).trans rfl; have hcz25_1 : w24.cell? ⟨gb543, 1, none⟩ = some (.int .i64 t539) := (blk_cell BK543.out 1).trans rfl; have hcz25_2 : w24.cell? ⟨gb543, 2, none⟩ = some (.slice Ao11 t540.length co11) := (blk_cell BK543.out 2).trans rfl; have hfz25_0 := blk_frozen BK543.out 0; have hfz25_1 := blk_frozen BK543.out 1; have hfz25_2 := blk_frozen BK543.out 2) | (refine gsD c82x5 (spec_l2At.calls k2 _ _ t540 (wrap64 (x19_2 + 1)) t555 _ (Kd.R_reads' HO_544002.out).2.2 (Kd.R_reads' HO_544002.out).2.1 A23.out) ?_; intro nd; have p556 : 0 ≤ (x19_2 : Int) := of_decide_eq_true ‹_›; have q556 : x19_2 < (t535.length : Int) := of_decide_eq_true ‹_›; obtain ⟨ad556, e556, hx556_0⟩ := Kd.at_int (Kd.R_reads' HO_11.out).2.2 x19_2 p556 q556; obtain rfl : ad550 = ad556 := (by injection e556); replace p556 := eq_true p556; replace q556 := eq_true q556))
        go_roundg k2
        case measure => have := HJ6.out; have := HK2.out; omega
        case rel => exact ⟨(y552), (Int.tmod (wrap64 (x16_2 + (wrap64 (x17_2 * t555)))) 31), (Int.tmod (wrap64 (x17_2 * a4)) 31), (Int.tmod (wrap64 (x18_2 + (rd t535 x19_2))) 31), (wrap64 (x19_2 + 1)), rfl, rfl, rfl, rfl, H', ⟨by have := HJ6.out; have := HK2.out; omega⟩, ⟨Kd.R_mono HO_11.out (fun _ hk => ⟨hk.1.1, ⟨hk.2, hk.1.2⟩⟩)⟩, ⟨Kd.R_mono HO_14.out (fun _ hk => ⟨hk.1.1, ⟨hk.2, hk.1.2⟩⟩)⟩, ⟨HO554.out⟩, ⟨Kd.R_mono HO_544002.out (fun _ hk => ⟨hk.1.1, ⟨hk.1.2, hk.2⟩⟩)⟩, ⟨by exact BK543.out⟩, ⟨by repeat (with_reducible first | exact HB.out | apply below_alloc | apply pw_below_drewN | apply below_drew1 | refine below_set ?_ GE543.out)⟩⟩
       ·rw [if_neg c22] at H
        exact absurd H (by simp)
      ·rw [if_neg c20] at H
       exact absurd H (by simp)
     ·rw [if_neg c19] at H
      have c19b0 : decide (x19_2 < (t535.length : Int)) = false := decide_eq_false c19
      clear c19
      have HC26 := Aside0.mk H
      clear H
      go_upto_if 72 with (fail)
      go_cut [16] (fun v16 wc => ∃ (kq : Nat) (x16_25 : Int), v16 = .int .i64 x16_25 ∧ Aside0 (spec_l13Ask.j2 kq a3 t535 t544 x15_2 x16_25 t538 t539 t540 = some r) ∧ Aside0 (kq ≤ k2) ∧ Aside0 (Kd.R (Kd.int .i64) 3 wc w.heap.size (fun k_ => some k_ ≠ (v545 : Value).ownBlock ∧ some k_ ≠ (u15 : Value).ownBlock ∧ some k_ ≠ ((.slice Ao11 t540.length co11) : Value).ownBlock) (.slice Ao14 t535.length co14) t535) ∧ Aside0 (Kd.R (Kd.int .i64) 3 wc w.heap.size (fun k_ => some k_ ≠ ((.slice Ao14 t535.length co14) : Value).ownBlock ∧ some k_ ≠ (u15 : Value).ownBlock ∧ some k_ ≠ ((.slice Ao11 t540.length co11) : Value).ownBlock) v545 t544) ∧ Aside0 (Kd.R (Kd.int .i64) 3 wc w.heap.size (fun k_ => some k_ ≠ ((.slice Ao14 t535.length co14) : Value).ownBlock ∧ some k_ ≠ (v545 : Value).ownBlock ∧ some k_ ≠ ((.slice Ao11 t540.length co11) : Value).ownBlock) u15 x15_2) ∧ Aside0 (Kd.R (Kd.int .i64) 3 wc w.heap.size (fun k_ => some k_ ≠ ((.slice Ao14 t535.length co14) : Value).ownBlock ∧ some k_ ≠ (v545 : Value).ownBlock ∧ some k_ ≠ (u15 : Value).ownBlock) (.slice Ao11 t540.length co11) t540) ∧ Aside0 (wc.heap[gb543]? = some (.cells #[.int .i64 t538, .int .i64 t539, (.slice Ao11 t540.length co11)] 40 (0, 0))) ∧ Aside0 (Below w.heap.size w wc))
      case first =>
       have H := HC26.out
       clear HC26
       by_cases c27 : a0 = 2
       ·rw [if_pos c27] at H
        have c27b0 : (a0 == 2) = true := beq_iff_eq.mpr c27
        have c27b1 : (a0 != 2) = false := bne_eq_false_iff_eq.mpr c27
        clear c27
        (first | rw [c27b0] | (simp only [i64_w, i32_w]; rw [c27b0]) | skip)
        replace H := bnd H
        obtain ⟨t557, A28, H⟩ := H
        have H' := Aside0.mk H
        clear H
        go_wp2_with (first | (refine gsD c81x20 (spec_FieldDif.calls x18_2 x13_6 t557 _ A28.out) ?_; intro nd))
        go_meet
        case rel => exact ⟨_, (Int.tmod (wrap64 (x16_2 + (wrap64 (x17_2 * t557)))) 31), rfl, H', ⟨by have := HJ6.out; have := HK2.out; first | omega | exact Nat.le_refl _⟩, ⟨HO_11.out⟩, ⟨HO_14.out⟩, ⟨HO_15.out⟩, ⟨HO_544002.out⟩, ⟨by exact BK543.out⟩, ⟨by repeat (with_reducible first | exact HB.out | apply below_alloc | apply pw_below_drewN | apply below_drew1 | refine below_set ?_ GE543.out)⟩⟩
       ·rw [if_neg c27] at H
        have c27b0 : (a0 == 2) = false := beq_eq_false_iff_ne.mpr c27
        have c27b1 : (a0 != 2) = true := bne_iff_ne.mpr c27
        (first | rw [c27b0] | (simp only [i64_w, i32_w]; rw [c27b0]) | skip)
        have H' := Aside0.mk H
        clear H
        go_wp2
        go_meet
        case rel => exact ⟨_, (x16_2), rfl, H', ⟨by have := HJ6.out; have := HK2.out; first | omega | exact Nat.le_refl _⟩, ⟨HO_11.out⟩, ⟨HO_14.out⟩, ⟨HO_15.out⟩, ⟨HO_544002.out⟩, ⟨by exact BK543.out⟩, ⟨by repeat (with_reducible first | exact HB.out | apply below_alloc | apply pw_below_drewN | apply below_drew1 | refine below_set ?_ GE543.out)⟩⟩
      case rest =>
       clear HC26
       try clear c1
       try clear c2
       try clear p2
       try clear c4
       try clear p5
       try clear q5
       try clear hx5
       try clear p6
       try clear c7
       try clear c8
       try clear c12
       try clear c19
       try clear c19b0
       try clear c20
       try clear c20b0
       try clear c22
       try clear c27
       try clear c27b0
       try clear c27b1
       try clear hcz10_0
       try clear hcz10_1
       try clear hcz10_2
       try clear hcz16_0
       try clear hcz16_1
       try clear hcz16_2
       try clear hcz25_0
       try clear hcz25_1
       try clear hcz25_2
       try clear hfz10_0
       try clear hfz10_1
       try clear hfz10_2
       try clear hfz16_0
       try clear hfz16_1
       try clear hfz16_2
       try clear hfz25_0
       try clear hfz25_1
       try clear hfz25_2
       try clear hx550_0
       try clear hx556_0
       try clear p2
       try clear p550
       try clear p556
       try clear p6
       try clear q550
       try clear q556
       obtain ⟨kq, x16_25, rfl, HA, HJ25, HO_11, HO_14, HO_15, HO_544002, BK543, HB⟩ := hcut
       cases kq with
       | zero => exact absurd HA.out (by simp [spec_l13Ask.j2])
       | succ kj25 =>
        have H := HA.out
        clear HA
        simp only [spec_l13Ask.j2] at H
        replace H := bnd H
        obtain ⟨t558, A29, H⟩ := H
        replace H := bnd H
        obtain ⟨t561, A30, H⟩ := H
        replace H := bnd H
        obtain ⟨t562, A31, H⟩ := H
        replace H := bnd H
        obtain ⟨t563, A32, H⟩ := H
        obtain ⟨y564, hy564⟩ : ∃ y_ : List Int, y_ = (([t561, t562, t563, x16_25] : List Int)) := ⟨_, rfl⟩
        rw [← hy564] at H
        have Ny564 := Aside0.mk hy564
        clear hy564
        obtain rfl := Option.some.inj H
        try go_wp2
        replace HO_11 := Aside0.mk (Kd.R_drew HO_11.out)
        replace HO_14 := Aside0.mk (Kd.R_drew HO_14.out)
        replace HO_15 := Aside0.mk (Kd.R_drew HO_15.out)
        replace HO_544002 := Aside0.mk (Kd.R_drew HO_544002.out)
        replace BK543 := Aside0.mk (blk_drew BK543.out)
        replace HB := Aside0.mk (below_drew1 HB.out)
        refine start_ (n := 16) (S := fun w' => w'.cell? ⟨gb543, 0, none⟩ = some (.int .i64 t538) ∧ w'.cell? ⟨gb543, 1, none⟩ = some (.int .i64 t539) ∧ w'.cell? ⟨gb543, 2, none⟩ = some (.slice Ao11 t540.length co11)) (ds := []) (bs 16 0) (by kernel_rfl) rfl rfl ⟨(blk_cell BK543.out 0).trans rfl, (blk_cell BK543.out 1).trans rfl, (blk_cell BK543.out 2).trans rfl⟩ (fun hHeld => ?_); refine with_tabW spec_l13Ask.tab19 spec_l13Ask.bits19 (fun HT_ HW_ => ?_)
        generalize wc.drew = w33 at HO_11 HO_14 HO_15 HO_544002 BK543 HB hHeld ⊢
        refine pZ 0 (some 81) (bs 16 1) rfl rfl (any_of HT_.out (by kernel_rfl)) ?_
        refine pZ 1 (some 82) (bs 16 3) rfl rfl (any_of HT_.out (by kernel_rfl)) ?_
        refine pZ 2 (some 83) (bs 16 7) rfl rfl (any_of HT_.out (by kernel_rfl)) ?_
        refine pZ 6 (some 87) (bs 16 71) rfl rfl (any_of HT_.out (by kernel_rfl)) ?_
        refine pZ 7 (some 88) (bs 16 199) rfl rfl (any_of HT_.out (by kernel_rfl)) ?_
        refine pZ 9 (some 90) (bs 16 711) rfl rfl (any_of HT_.out (by kernel_rfl)) ?_
        refine pZ 11 (some 92) (bs 16 2759) rfl rfl (any_of HT_.out (by kernel_rfl)) ?_
        refine pZ 13 (some 94) (bs 16 10951) rfl rfl (any_of HT_.out (by kernel_rfl)) ?_
        refine tZ 3 (some 84) (bs 16 10959) rfl rfl (take_ofW HT_.out HW_.out (by kernel_rfl)) hHeld (by rintro w' ⟨s0, s1, s2⟩; go_simp; with_reducible rfl) ?_
        refine tZ 10 (some 91) (bs 16 11983) rfl rfl (take_ofW HT_.out HW_.out (by kernel_rfl)) hHeld (by rintro w' ⟨s0, s1, s2⟩; go_simp; with_reducible rfl) ?_
        refine one_ (i := 4) (N := some 85) (bs 16 11999) rfl rfl (one_of HT_.out (by kernel_rfl)) (by decide) (fun K hK => ?_)
        refine goes_ Tryz.func84 (by kernel_rfl) rfl #[.slice Ao14 t535.length co14, .int .i64 t538] (by rfl) rfl rfl (by (try simp only [List.map_toArray, List.map_cons, List.map_nil]); first | done | rfl | (simp only [List.length_drop, List.length_take]; rfl)) ?_
        with_reducible refine (spec_l12First.calls _ _ t535 t538 t558 _ ?side1 ?side2 A29.out).mono ?_
        (case side1 => exact (Kd.R_reads' HO_11.out).2.2)
        (case side2 => exact (Kd.R_reads' HO_11.out).2.1)
        rintro e w34 ⟨v559, rfl, ho0, hb⟩
        refine ⟨_, rfl, ?_⟩
        replace HO560 := Aside0.mk (Kd.R_lower (Kd.R_new' (Kd.R_new' (Kd.R_new' (Kd.R_new' ho0 (Kd.R_lt (HO_11.out))) (Kd.R_lt (HO_14.out))) (Kd.R_lt (HO_15.out))) (Kd.R_lt (HO_544002.out))) bsZ)
        replace HO_11 := Aside0.mk (Kd.R_elder' (HO_11.out) (Kd.R_base ho0) hb)
        replace HO_14 := Aside0.mk (Kd.R_elder' (HO_14.out) (Kd.R_base ho0) hb)
        replace HO_15 := Aside0.mk (Kd.R_elder' (HO_15.out) (Kd.R_base ho0) hb)
        replace HO_544002 := Aside0.mk (Kd.R_elder' (HO_544002.out) (Kd.R_base ho0) hb)
        replace BK543 := bkZ hb BK543.out
        replace HB := bnZ hb
        (try clear hb)
        (try clear hb2)
        (try clear hk)
        (try clear hi)
        (try clear ho0)
        obtain ⟨Ao35, co35, eo35⟩ := Kd.R_slice HO_14.out
        (first | subst eo35 | (injection eo35 with f1_ f2_ f3_; have f4_ := f1_.symm; have f5_ := f3_.symm; clear f1_ f2_ f3_; subst f4_; subst f5_))
        obtain ⟨Ao36, co36, eo36⟩ := Kd.R_slice HO560.out
        (first | subst eo36 | (injection eo36 with f1_ f2_ f3_; have f4_ := f1_.symm; have f5_ := f3_.symm; clear f1_ f2_ f3_; subst f4_; subst f5_))
        refine hK.out _ _ ⟨(blk_cell BK543.out 0).trans rfl, (blk_cell BK543.out 1).trans rfl, (blk_cell BK543.out 2).trans rfl⟩ (fun hHeld => ?_)
        clear hK K
        refine norm_ (a' := ?_) ?_ ?_
        rotate_left
        ·show Act.put _ (some 85) _ = _
         simp only [Act.put, List.setIfInBounds_toArray, List.set_cons_zero, List.set_cons_succ, i64_w, i32_w]
         rfl
        refine one_ (i := 5) (N := some 86) (bs 16 12031) rfl rfl (one_of HT_.out (by kernel_rfl)) (by decide) (fun K hK => ?_)
        refine goes_ Tryz.func83 (by kernel_rfl) rfl #[.slice Ao35 t544.length co35, .slice Ao36 t558.length co36] (by rfl) rfl rfl (by (try simp only [List.map_toArray, List.map_cons, List.map_nil]); first | done | rfl | (simp only [List.length_drop, List.length_take]; rfl)) ?_
        with_reducible refine (spec_l13Dot.calls kj25 _ _ t544 _ _ t558 t561 _ ?side1 ?side2 ?side3 ?side4 A30.out).mono ?_
        (case side1 => exact (Kd.R_reads' HO_14.out).2.2)
        (case side2 => exact (Kd.R_reads' HO_14.out).2.1)
        (case side3 => exact (Kd.R_reads' HO560.out).2.2)
        (case side4 => exact (Kd.R_reads' HO560.out).2.1)
        rintro e w' ⟨rfl, ⟨nd, rfl⟩⟩
        refine ⟨_, rfl, ?_⟩
        obtain ⟨Ao37, co37, eo37⟩ := Kd.R_slice HO_15.out
        (first | subst eo37 | (injection eo37 with f1_ f2_ f3_; have f4_ := f1_.symm; have f5_ := f3_.symm; clear f1_ f2_ f3_; subst f4_; subst f5_))
        refine hK.out _ _ ⟨(blk_cell BK543.out 0).trans rfl, (blk_cell BK543.out 1).trans rfl, (blk_cell BK543.out 2).trans rfl⟩ (fun hHeld => ?_)
        clear hK K
        refine norm_ (a' := ?_) ?_ ?_
        rotate_left
        ·show Act.put _ (some 86) _ = _
         simp only [Act.put, List.setIfInBounds_toArray, List.set_cons_zero, List.set_cons_succ, i64_w, i32_w]
         rfl
        refine one_ (i := 8) (N := some 89) (bs 16 12287) rfl rfl (one_of HT_.out (by kernel_rfl)) (by decide) (fun K hK => ?_)
        refine goes_ Tryz.func83 (by kernel_rfl) rfl #[.slice Ao35 t544.length co35, .slice Ao37 x15_2.length co37] (by rfl) rfl rfl (by (try simp only [List.map_toArray, List.map_cons, List.map_nil]); first | done | rfl | (simp only [List.length_drop, List.length_take]; rfl)) ?_
        with_reducible refine (spec_l13Dot.calls kj25 _ _ t544 _ _ x15_2 t562 _ ?side1 ?side2 ?side3 ?side4 A31.out).mono ?_
        (case side1 => exact (Kd.R_reads' HO_14.out).2.2)
        (case side2 => exact (Kd.R_reads' HO_14.out).2.1)
        (case side3 => exact (Kd.R_reads' HO_15.out).2.2)
        (case side4 => exact (Kd.R_reads' HO_15.out).2.1)
        rintro e w' ⟨rfl, ⟨nd, rfl⟩⟩
        refine ⟨_, rfl, ?_⟩
        refine hK.out _ _ ⟨(blk_cell BK543.out 0).trans rfl, (blk_cell BK543.out 1).trans rfl, (blk_cell BK543.out 2).trans rfl⟩ (fun hHeld => ?_)
        clear hK K
        refine norm_ (a' := ?_) ?_ ?_
        rotate_left
        ·show Act.put _ (some 89) _ = _
         simp only [Act.put, List.setIfInBounds_toArray, List.set_cons_zero, List.set_cons_succ, i64_w, i32_w]
         rfl
        refine one_ (i := 12) (N := some 93) (bs 16 16383) rfl rfl (one_of HT_.out (by kernel_rfl)) (by decide) (fun K hK => ?_)
        refine goes_ Tryz.func82 (by kernel_rfl) rfl #[.slice Ao11 t540.length co11, .int .i64 a3] (by rfl) rfl rfl (by (try simp only [List.map_toArray, List.map_cons, List.map_nil]); first | done | rfl | (simp only [List.length_drop, List.length_take]; rfl)) ?_
        with_reducible refine (spec_l2At.calls kj25 _ _ t540 a3 t563 _ ?side1 ?side2 A32.out).mono ?_
        (case side1 => exact (Kd.R_reads' HO_544002.out).2.2)
        (case side2 => exact (Kd.R_reads' HO_544002.out).2.1)
        rintro e w' ⟨rfl, ⟨nd, rfl⟩⟩
        refine ⟨_, rfl, ?_⟩
        refine hK.out _ _ ⟨(blk_cell BK543.out 0).trans rfl, (blk_cell BK543.out 1).trans rfl, (blk_cell BK543.out 2).trans rfl⟩ (fun hHeld => ?_)
        clear hK K
        refine norm_ (a' := ?_) ?_ ?_
        rotate_left
        ·show Act.put _ (some 93) _ = _
         simp only [Act.put, List.setIfInBounds_toArray, List.set_cons_zero, List.set_cons_succ, i64_w, i32_w]
         rfl
        refine one_ (i := 14) (N := some 95) (bs 16 32767) rfl rfl (one_of HT_.out (by kernel_rfl)) (by decide) (fun K hK => ?_)
        refine Kd.R_lit_step (Kd.int .i64) _ 3 ?hg (N := 95) ?hd (xs := ([t561, t562, t563, x16_25] : List Int)) (inner := [.int .i64 t561, .int .i64 t562, .int .i64 t563, .int .i64 x16_25]) (ok := fun _ => True) (okp := fun _ => True) ?hr ?hp (fun _ hk => hk) trivial (Below.refl _ _) (Nat.le_refl _) (by simp) ?_; (case hd => rfl); (case hg => rfl); (case hr => first | (go_simp; done) | (go_simp; rfl)); (case hp => exact (Reps.one (show Kd.M (Kd.int .i64) _ _ _ t561 [.int .i64 t561] from rfl) (Reps.one (show Kd.M (Kd.int .i64) _ _ _ t562 [.int .i64 t562] from rfl) (Reps.one (show Kd.M (Kd.int .i64) _ _ _ t563 [.int .i64 t563] from rfl) (Reps.one (show Kd.M (Kd.int .i64) _ _ _ x16_25 [.int .i64 x16_25] from rfl) (Reps.none _ _))))))
        intro v565 w38 ho39 hb hg_ hnew_
        clear hg_ hnew_
        (first | rw [← Ny564.out] at ho39 | (simp only [Int.reduceToNat] at ho39; rw [← Ny564.out] at ho39))
        replace HO566 := Aside0.mk (Kd.R_lower (Kd.R_new' (Kd.R_new' (Kd.R_new' (Kd.R_new' (Kd.R_new' ho39 (Kd.R_lt (HO_11.out))) (Kd.R_lt (HO_14.out))) (Kd.R_lt (HO_15.out))) (Kd.R_lt (HO_544002.out))) (Kd.R_lt (HO560.out))) bsZ)
        replace HO_11 := Aside0.mk (Kd.R_elder' (by (with_reducible repeat (first | apply Kd.R_alloc | apply Kd.R_drewN | apply Kd.R_drew)); exact HO_11.out) (Kd.R_base ho39) hb)
        replace HO_14 := Aside0.mk (Kd.R_elder' (by (with_reducible repeat (first | apply Kd.R_alloc | apply Kd.R_drewN | apply Kd.R_drew)); exact HO_14.out) (Kd.R_base ho39) hb)
        replace HO_15 := Aside0.mk (Kd.R_elder' (by (with_reducible repeat (first | apply Kd.R_alloc | apply Kd.R_drewN | apply Kd.R_drew)); exact HO_15.out) (Kd.R_base ho39) hb)
        replace HO_544002 := Aside0.mk (Kd.R_elder' (by (with_reducible repeat (first | apply Kd.R_alloc | apply Kd.R_drewN | apply Kd.R_drew)); exact HO_544002.out) (Kd.R_base ho39) hb)
        replace HO560 := Aside0.mk (Kd.R_elder' (by (with_reducible repeat (first | apply Kd.R_alloc | apply Kd.R_drewN | apply Kd.R_drew)); exact HO560.out) (Kd.R_base ho39) hb)
        replace BK543 := Aside0.mk (blk_below (g := gb543) (o := .cells #[.int .i64 t538, .int .i64 t539, .slice Ao11 t540.length co11] 40 (0, 0)) (by (with_reducible repeat (first | refine blk_drewN ?_ _ | refine blk_drew ?_ | refine blk_alloc ?_ _)); exact BK543.out) hb)
        replace HB := Aside0.mk (below_step (by repeat (first | (with_reducible first | exact HB.out | apply below_alloc | apply pw_below_drewN | apply below_drew1 | refine below_set ?_ GE543.out) | exact HB.out)) hb)
        clear hb ho39
        refine hK.out _ _ ⟨(blk_cell BK543.out 0).trans rfl, (blk_cell BK543.out 1).trans rfl, (blk_cell BK543.out 2).trans rfl⟩ (fun hHeld => ?_)
        clear hK K
        refine norm_ (a' := ?_) ?_ ?_
        rotate_left
        ·show Act.put _ (some 95) _ = _
         simp only [Act.put, List.setIfInBounds_toArray, List.set_cons_zero, List.set_cons_succ, i64_w, i32_w]
         rfl
        refine pZ 15 (some 10) (bs 16 65535) rfl rfl (any_of HT_.out (by kernel_rfl)) ?_
        refine done_ (done_of HT_.out (by kernel_rfl)) ?_
        try go_wp2
        go_ret
        exact ⟨_, rfl, Kd.R_mono HO566.out (fun _ hk => trivial), by repeat (with_reducible first | exact HB.out | apply below_alloc | apply pw_below_drewN | apply below_drew1 | refine below_set ?_ GE543.out)⟩
end Go.Proofs.YtlgbblaidohljaaGreatDoor.Zk
