import Derived.Test.YtlgbblaidohljaaGreatDoorZ
import Derived.Test.YtlgbblaidohljaaGreatDoorZk0
import Derived.Test.YtlgbblaidohljaaGreatDoorZk2
import Derived.Test.YtlgbblaidohljaaGreatDoorZk3
import Derived.Test.YtlgbblaidohljaaGreatDoorZk4
import Derived.Test.YtlgbblaidohljaaGreatDoorZk14
namespace Go.Proofs.YtlgbblaidohljaaGreatDoor.Zk
open Go.RowKit Go.Proofs.YtlgbblaidohljaaGreatDoorT.PrintWords Go.Proofs.YtlgbblaidohljaaGreatDoorT.PrintLast Go.Proofs.YtlgbblaidohljaaGreatDoorT.PrintMore Go.Proofs.YtlgbblaidohljaaGreatDoor.Z
attribute [local go_sem] max2_int min2_int max_two min_two max_three min_three max_four min_four
set_option linter.unusedVariables false
set_option linter.unusedSimpArgs false
theorem c84x15 : Ent Tryz.prog 84 := ent Tryz.func84 (by kernel_rfl) rfl
theorem c132x15 : Ent Tryz.prog 132 := ent Tryz.func132 (by kernel_rfl) rfl
theorem c133x15 : Ent Tryz.prog 133 := ent Tryz.func133 (by kernel_rfl) rfl
theorem c134x15 : Ent Tryz.prog 134 := ent Tryz.func134 (by kernel_rfl) rfl
private theorem c81x11 : Ent Tryz.prog 81 := ent Tryz.func81 (by kernel_rfl) rfl
private theorem c109x11 : Ent Tryz.prog 109 := ent Tryz.func109 (by kernel_rfl) rfl
private theorem c78x11 : Ent Tryz.prog 78 := ent Tryz.func78 (by kernel_rfl) rfl
mutual
def spec_l2Through.l0 : Nat → List Int → List Int → Int → Option (List Int)
  | 0, _, _, _ => none
  | k + 1, x0, x3, x4 => if x4 < (x0.length : Int) then (spec_l2Through.l1 k x0 x3 x4 (([1] : List Int)) 0) else (some x3)
def spec_l2Through.l1 : Nat → List Int → List Int → Int → List Int → Int → Option (List Int)
  | 0, _, _, _, _, _ => none
  | k + 1, x0, x3, x4, x5, x6 => if x6 < (x0.length : Int) then (if x6 = x4 then (spec_l2Through.l1 k x0 x3 x4 x5 (wrap64 (x6 + 1))) else ((spec_FieldDif.f x4 x6).bind fun t404 => ((spec_l1Inv.f k t404).bind fun t405 => ((spec_FieldDif.f 0 x6).bind fun t406 => ((spec_FieldMul.f t406 t405).bind fun t407 => ((spec_l2Mul.f k x5 (([t407, t405] : List Int))).bind fun t411 => (spec_l2Through.l1 k x0 x3 x4 t411 (wrap64 (x6 + 1))))))))) else (spec_l2Through.l2 k x0 x3 x4 x5 0)
def spec_l2Through.l2 : Nat → List Int → List Int → Int → List Int → Int → Option (List Int)
  | 0, _, _, _, _, _ => none
  | k + 1, x0, x3, x4, x5, x8 => if x8 < (x5.length : Int) then (if 0 ≤ x8 then (if x8 < (x3.length : Int) then (if 0 ≤ x4 then (if x4 < (x0.length : Int) then (spec_l2Through.l2 k x0 (x3.set (x8 : Int).toNat (Int.tmod (wrap64 ((rd x3 x8) + (wrap64 ((rd x0 x4) * (rd x5 x8))))) 31)) x4 x5 (wrap64 (x8 + 1))) else (none)) else (none)) else (none)) else (none)) else (spec_l2Through.l0 k x0 x3 (wrap64 (x4 + 1)))
end
def spec_l2Through.f (k : Nat) (l0 : List Int) : Option (List Int) := if 0 ≤ (l0.length : Int) then (if ((l0.length : Int) : Int).toNat ≤ 35184372088832 then (spec_l2Through.l0 k l0 (List.replicate ((l0.length : Int) : Int).toNat 0) 0) else (none)) else (none)
theorem spec_l2Through.mono_l : ∀ k, (∀ y0 y1 y2, LeO (spec_l2Through.l0 k y0 y1 y2) (spec_l2Through.l0 (k + 1) y0 y1 y2)) ∧ (∀ y0 y1 y2 y3 y4, LeO (spec_l2Through.l1 k y0 y1 y2 y3 y4) (spec_l2Through.l1 (k + 1) y0 y1 y2 y3 y4)) ∧ (∀ y0 y1 y2 y3 y4, LeO (spec_l2Through.l2 k y0 y1 y2 y3 y4) (spec_l2Through.l2 (k + 1) y0 y1 y2 y3 y4))
 | 0 => ⟨fun _ _ _ r h => by simp [spec_l2Through.l0] at h, fun _ _ _ _ _ r h => by simp [spec_l2Through.l1] at h, fun _ _ _ _ _ r h => by simp [spec_l2Through.l2] at h⟩
 | k + 1 => by
  obtain ⟨ih0, ih1, ih2⟩ := spec_l2Through.mono_l k
  refine ⟨?_, ?_, ?_⟩
  ·intro y0 y1 y2
   unfold spec_l2Through.l0
   repeat' first
   | exact ih0 _ _ _
   | exact ih1 _ _ _ _ _
   | exact ih2 _ _ _ _ _
   | exact spec_l1Inv.mono _ _
   | exact spec_l2Mul.mono _ _ _
   | exact LeO.none _
   | refine LeO.ite ?_ ?_
   | refine LeO.bind ?_ (fun _ => ?_)
   | exact LeO.refl _
  ·intro y0 y1 y2 y3 y4
   unfold spec_l2Through.l1
   repeat' first
   | exact ih0 _ _ _
   | exact ih1 _ _ _ _ _
   | exact ih2 _ _ _ _ _
   | exact spec_l1Inv.mono _ _
   | exact spec_l2Mul.mono _ _ _
   | exact LeO.none _
   | refine LeO.ite ?_ ?_
   | refine LeO.bind ?_ (fun _ => ?_)
   | exact LeO.refl _
  ·intro y0 y1 y2 y3 y4
   unfold spec_l2Through.l2
   repeat' first
   | exact ih0 _ _ _
   | exact ih1 _ _ _ _ _
   | exact ih2 _ _ _ _ _
   | exact spec_l1Inv.mono _ _
   | exact spec_l2Mul.mono _ _ _
   | exact LeO.none _
   | refine LeO.ite ?_ ?_
   | refine LeO.bind ?_ (fun _ => ?_)
   | exact LeO.refl _
theorem spec_l2Through.mono : ∀ a0 k, LeO (spec_l2Through.f k a0) (spec_l2Through.f (k + 1) a0) := by
 intro a0 k
 obtain ⟨ih0, ih1, ih2⟩ := spec_l2Through.mono_l k
 unfold spec_l2Through.f
 repeat' first
   | exact ih0 _ _ _
   | exact ih1 _ _ _ _ _
   | exact ih2 _ _ _ _ _
   | exact spec_l1Inv.mono _ _
   | exact spec_l2Mul.mono _ _ _
   | exact LeO.none _
   | refine LeO.ite ?_ ?_
   | refine LeO.bind ?_ (fun _ => ?_)
   | exact LeO.refl _
def spec_l2Through.T15 : Bool × List (List Nat × List Nat) := (true, [([], []), ([], []), ([], []), ([], []), ([2, 3], [2, 3]), ([4], [4]), ([], []), ([], []), ([6, 7], [6, 7]), ([8], [8]), ([], []), ([], []), ([10, 11], [10, 11]), ([12], [12]), ([9, 13], [9, 13]), ([5, 14], [5, 14]), ([15], [15]), ([0, 1, 0, 1, 2, 3, 4, 5, 6, 7, 8, 9, 10, 11, 12, 13, 14, 15, 16], [0, 1]), ([17, 16, 0, 1, 2, 3, 4, 5, 6, 7, 8, 9, 10, 11, 12, 13, 14, 15, 16], [16, 17])])
def spec_l2Through.B15 : List Nat := [0, 0, 0, 0, 12, 28, 0, 0, 192, 448, 0, 0, 3072, 7168, 16320, 32764, 65532, 131071, 262143]
theorem spec_l2Through.tab15 : rtab .any (opsOf Tryz.f133 15) = spec_l2Through.T15 := by kernel_rfl
theorem spec_l2Through.bits15 : waitsOk spec_l2Through.T15.2 spec_l2Through.B15 = true := by kernel_rfl
set_option maxHeartbeats 8000000 in
set_option maxRecDepth 100000 in
theorem spec_l2Through.calls (k : Nat) (A0 : Option Addr) (c0 : Nat) (l0 : List Int) (r : List Int) (w : World) (hr0 : Kd.C (Kd.int .i64) w A0 l0.length l0) (hc0 : l0.length ≤ c0) (h : spec_l2Through.f k l0 = some r) :
  Calls Tryz.prog 133 #[.slice A0 l0.length c0] w fun e w' => ∃ v0_ : Value, e = .returned (v0_) ∧ Kd.R (Kd.int .i64) 3 w' w.heap.size (fun _ => True) v0_ r ∧ Below w.heap.size w w' := by
 have HR0 := Aside0.mk hr0
 have HC0 := Aside0.mk hc0
 clear hr0 hc0
 have HB := Aside0.mk (Below.refl w.heap.size w)
 have H := h
 unfold spec_l2Through.f at H
 clear h
 by_cases c2 : 0 ≤ (l0.length : Int)
 ·rw [if_pos c2] at H
  have c2b0 := eq_true c2
  have c2b1 : decide (0 ≤ (l0.length : Int)) = true := decide_eq_true c2
  clear c2
  by_cases c3 : ((l0.length : Int) : Int).toNat ≤ 35184372088832
  ·rw [if_pos c3] at H
   have c3b0 := eq_true c3
   have c3b1 : decide (((l0.length : Int) : Int).toNat ≤ 35184372088832) = true := decide_eq_true c3
   clear c3
   obtain ⟨y298, hy298⟩ : ∃ y_ : List Int, y_ = (List.replicate ((l0.length : Int) : Int).toNat 0) := ⟨_, rfl⟩
   rw [← hy298] at H
   have Ny298 := Aside0.mk hy298
   clear hy298
   have H' := Aside0.mk H
   clear H
   go_enter Tryz.func133, Tryz.ntmps133
   go_wp2_with (first | ((with_reducible refine gate_dst (N := 11) rfl ?_); refine Kd.R_make (Kd.int .i64) _ 3 rfl (N := 11) rfl 22 _ _ rfl (l0.length : Int) rfl rfl Tryz.underlying22 (.int .i64 0) 8 info3 rfl (by decide) (by omega) 0 (ok := fun _ => True) (okp := fun _ => True) rfl (fun _ hk => hk) trivial (of_decide_eq_true ‹_›) (Nat.le_trans (Nat.mul_le_mul_right _ (of_decide_eq_true ‹_› : (l0.length : Int).toNat ≤ 35184372088832)) (by omega)) (Below.refl _ _) (Nat.le_refl _) ?_; intro v299 w4 ho5 hb hg_ hnew_; clear hg_ hnew_; (first | rw [← Ny298.out] at ho5 | (simp only [Int.reduceToNat] at ho5; rw [← Ny298.out] at ho5)); replace HO300 := Aside0.mk (Kd.R_lower ho5 bsZ); replace HB := bnZ hb; clear hb ho5))
   go_loopg [4] k (fun kq v4 w' => ∃ (x3_1 : List Int) (x4_1 : Int), v4 = .int .i64 x4_1 ∧ Aside0 (spec_l2Through.l0 kq l0 x3_1 x4_1 = some r) ∧ Aside0 (kq ≤ k) ∧ Aside0 (Kd.R (Kd.int .i64) 3 w' w.heap.size (fun _ => True) v299 x3_1) ∧ Aside0 (Below w.heap.size w w'))
   case atStart => exact ⟨(y298), (0), rfl, H', ⟨Nat.le_refl _⟩, ⟨HO300.out⟩, ⟨by repeat (with_reducible first | exact HB.out | apply below_alloc | apply pw_below_drewN | apply below_drew1)⟩⟩
   case round =>
    clear H'
    try clear c1
    try clear c2
    try clear c2b0
    try clear c2b1
    try clear p2
    try clear c3
    try clear c3b0
    try clear c3b1
    obtain ⟨x3_1, x4_1, rfl, HA, HK1, HO_3, HB⟩ := hrel
    cases gk with
    | zero => exact absurd HA.out (by simp [spec_l2Through.l0])
    | succ k1 =>
     have H := HA.out
     clear HA
     simp only [spec_l2Through.l0] at H
     by_cases c6 : x4_1 < (l0.length : Int)
     ·rw [if_pos c6] at H
      have c6b0 : decide (x4_1 < (l0.length : Int)) = true := decide_eq_true c6
      clear c6
      obtain ⟨y301, hy301⟩ : ∃ y_ : List Int, y_ = (([1] : List Int)) := ⟨_, rfl⟩
      rw [← hy301] at H
      have Ny301 := Aside0.mk hy301
      clear hy301
      have H' := Aside0.mk H
      clear H
      go_wp2_with (first | ((with_reducible refine gate_dst (N := 18) rfl ?_); refine Kd.R_lit (Kd.int .i64) _ 3 ?hg (N := 18) ?hd (xs := ([1] : List Int)) (inner := [.int .i64 1]) (ok := fun _ => True) (okp := fun _ => True) ?hr ?hp (fun _ hk => hk) trivial (Below.refl _ _) (Nat.le_refl _) (by simp) ?_; (case hd => rfl); (case hg => rfl); (case hr => first | (go_simp; done) | (go_simp; rfl)); (case hp => exact (Reps.one (show Kd.M (Kd.int .i64) _ _ _ 1 [.int .i64 1] from rfl) (Reps.none _ _))); intro v302 w7 ho8 hb hg_ hnew_; clear hg_ hnew_; (first | rw [← Ny301.out] at ho8 | (simp only [Int.reduceToNat] at ho8; rw [← Ny301.out] at ho8)); replace HO303 := Aside0.mk (Kd.R_lower (Kd.R_new' ho8 (Kd.R_lt (HO_3.out))) bsZ); replace HO_3 := Aside0.mk (Kd.R_elder' (HO_3.out) (Kd.R_base ho8) hb); replace HB := bnZ hb; clear hb ho8))
      go_loopg [5, 6] k1 (fun kq v5 v6 w' => ∃ (x5_2 : List Int) (x6_2 : Int), v6 = .int .i64 x6_2 ∧ Aside0 (spec_l2Through.l1 kq l0 x3_1 x4_1 x5_2 x6_2 = some r) ∧ Aside0 (kq ≤ k1) ∧ Aside0 (Kd.R (Kd.int .i64) 3 w' w.heap.size (fun k_ => some k_ ≠ (v5 : Value).ownBlock) v299 x3_1) ∧ Aside0 (Kd.R (Kd.int .i64) 3 w' w.heap.size (fun k_ => some k_ ≠ (v299 : Value).ownBlock) v5 x5_2) ∧ Aside0 (Below w.heap.size w w'))
      case atStart => exact ⟨(y301), (0), rfl, H', ⟨Nat.le_refl _⟩, ⟨Kd.R_mono HO_3.out (fun _ hk => hk.2)⟩, ⟨Kd.R_mono HO303.out (fun _ hk => hk.2)⟩, ⟨by repeat (with_reducible first | exact HB.out | apply below_alloc | apply pw_below_drewN | apply below_drew1)⟩⟩
      case round =>
       clear H'
       try clear c1
       try clear c2
       try clear c2b0
       try clear c2b1
       try clear p2
       try clear c3
       try clear c3b0
       try clear c3b1
       try clear c6
       try clear c6b0
       try clear p2
       obtain ⟨x5_2, x6_2, rfl, HA, HK2, HO_3, HO_5, HB⟩ := hrel
       cases gk with
       | zero => exact absurd HA.out (by simp [spec_l2Through.l1])
       | succ k2 =>
        have H := HA.out
        clear HA
        simp only [spec_l2Through.l1] at H
        by_cases c9 : x6_2 < (l0.length : Int)
        ·rw [if_pos c9] at H
         have c9b0 : decide (x6_2 < (l0.length : Int)) = true := decide_eq_true c9
         clear c9
         by_cases c10 : x6_2 = x4_1
         ·rw [if_pos c10] at H
          have c10b0 : (x6_2 == x4_1) = true := beq_iff_eq.mpr c10
          have c10b1 : (x6_2 != x4_1) = false := bne_eq_false_iff_eq.mpr c10
          clear c10
          have H' := Aside0.mk H
          clear H
          go_wp2
          go_roundg k2
          case measure => have := HK1.out; have := HK2.out; omega
          case rel => exact ⟨(x5_2), (wrap64 (x6_2 + 1)), rfl, H', ⟨by have := HK1.out; have := HK2.out; omega⟩, ⟨HO_3.out⟩, ⟨HO_5.out⟩, ⟨by repeat (with_reducible first | exact HB.out | apply below_alloc | apply pw_below_drewN | apply below_drew1)⟩⟩
         ·rw [if_neg c10] at H
          have c10b0 : (x6_2 == x4_1) = false := beq_eq_false_iff_ne.mpr c10
          have c10b1 : (x6_2 != x4_1) = true := bne_iff_ne.mpr c10
          replace H := bnd H
          obtain ⟨t304, A11, H⟩ := H
          replace H := bnd H
          obtain ⟨t305, A12, H⟩ := H
          replace H := bnd H
          obtain ⟨t306, A13, H⟩ := H
          replace H := bnd H
          obtain ⟨t307, A14, H⟩ := H
          obtain ⟨y308, hy308⟩ : ∃ y_ : List Int, y_ = (([t307, t305] : List Int)) := ⟨_, rfl⟩
          rw [← hy308] at H
          have Ny308 := Aside0.mk hy308
          clear hy308
          replace H := bnd H
          obtain ⟨t311, A15, H⟩ := H
          have H' := Aside0.mk H
          clear H
          go_wp2_with (first | (refine gsD c81x11 (spec_FieldDif.calls x4_1 x6_2 t304 _ A11.out) ?_; intro nd) | (refine gsD c109x11 (spec_l1Inv.calls k2 t304 t305 _ A12.out) ?_; intro nd) | (refine gsD c81x11 (spec_FieldDif.calls 0 x6_2 t306 _ A13.out) ?_; intro nd) | (refine gsD c78x11 (spec_FieldMul.calls t306 t305 t307 _ A14.out) ?_; intro nd) | ((with_reducible refine gate_dst (N := 38) rfl ?_); refine Kd.R_lit (Kd.int .i64) _ 3 ?hg (N := 38) ?hd (xs := ([t307, t305] : List Int)) (inner := [.int .i64 t307, .int .i64 t305]) (ok := fun _ => True) (okp := fun _ => True) ?hr ?hp (fun _ hk => hk) trivial (Below.refl _ _) (Nat.le_refl _) (by simp) ?_; (case hd => rfl); (case hg => rfl); (case hr => first | (go_simp; done) | (go_simp; rfl)); (case hp => exact (Reps.one (show Kd.M (Kd.int .i64) _ _ _ t307 [.int .i64 t307] from rfl) (Reps.one (show Kd.M (Kd.int .i64) _ _ _ t305 [.int .i64 t305] from rfl) (Reps.none _ _)))); intro v309 w16 ho17 hb hg_ hnew_; clear hg_ hnew_; (first | rw [← Ny308.out] at ho17 | (simp only [Int.reduceToNat] at ho17; rw [← Ny308.out] at ho17)); replace HO310 := Aside0.mk (Kd.R_lower (Kd.R_new' (Kd.R_new' ho17 (Kd.R_lt (HO_3.out))) (Kd.R_lt (HO_5.out))) (below_size (by repeat (first | (with_reducible first | exact HB.out | apply below_alloc | apply pw_below_drewN | apply below_drew1) | exact HB.out)))); replace HO_3 := Aside0.mk (Kd.R_elder' (by (with_reducible repeat (first | apply Kd.R_alloc | apply Kd.R_drewN | apply Kd.R_drew)); exact HO_3.out) (Kd.R_base ho17) hb); replace HO_5 := Aside0.mk (Kd.R_elder' (by (with_reducible repeat (first | apply Kd.R_alloc | apply Kd.R_drewN | apply Kd.R_drew)); exact HO_5.out) (Kd.R_base ho17) hb); replace HB := Aside0.mk (below_step (by repeat (first | (with_reducible first | exact HB.out | apply below_alloc | apply pw_below_drewN | apply below_drew1) | exact HB.out)) hb); clear hb ho17; obtain ⟨Ao18, co18, eo18⟩ := Kd.R_slice HO_5.out; subst eo18; obtain ⟨Ao19, co19, eo19⟩ := Kd.R_slice HO310.out; subst eo19) | (refine gsC c132x15 (spec_l2Mul.calls k2 _ _ x5_2 _ _ y308 t311 _ (Kd.R_reads' HO_5.out).2.2 (Kd.R_reads' HO_5.out).2.1 (Kd.R_reads' HO310.out).2.2 (Kd.R_reads' HO310.out).2.1 A15.out) ?_; rintro e w20 ⟨v312, rfl, ho0, hb⟩; refine ⟨_, rfl, ?_⟩; replace HO313 := Aside0.mk (Kd.R_lower (Kd.R_new' (Kd.R_new' (Kd.R_new' ho0 (Kd.R_lt (by (with_reducible repeat (first | apply Kd.R_alloc | apply Kd.R_drewN | apply Kd.R_drew)); exact HO_3.out))) (Kd.R_lt (by (with_reducible repeat (first | apply Kd.R_alloc | apply Kd.R_drewN | apply Kd.R_drew)); exact HO_5.out))) (Kd.R_lt (by (with_reducible repeat (first | apply Kd.R_alloc | apply Kd.R_drewN | apply Kd.R_drew)); exact HO310.out))) (below_size (by repeat (first | (with_reducible first | exact HB.out | apply below_alloc | apply pw_below_drewN | apply below_drew1) | exact HB.out)))); replace HO_3 := Aside0.mk (Kd.R_elder' (by (with_reducible repeat (first | apply Kd.R_alloc | apply Kd.R_drewN | apply Kd.R_drew)); exact HO_3.out) (Kd.R_base ho0) hb); replace HO_5 := Aside0.mk (Kd.R_elder' (by (with_reducible repeat (first | apply Kd.R_alloc | apply Kd.R_drewN | apply Kd.R_drew)); exact HO_5.out) (Kd.R_base ho0) hb); replace HO310 := Aside0.mk (Kd.R_elder' (by (with_reducible repeat (first | apply Kd.R_alloc | apply Kd.R_drewN | apply Kd.R_drew)); exact HO310.out) (Kd.R_base ho0) hb); replace HB := Aside0.mk (below_step (by repeat (first | (with_reducible first | exact HB.out | apply below_alloc | apply pw_below_drewN | apply below_drew1) | exact HB.out)) hb); clear hb ho0))
          go_roundg k2
          case measure => have := HK1.out; have := HK2.out; omega
          case rel => exact ⟨(t311), (wrap64 (x6_2 + 1)), rfl, H', ⟨by have := HK1.out; have := HK2.out; omega⟩, ⟨Kd.R_mono HO_3.out (fun _ hk => hk.2)⟩, ⟨Kd.R_mono HO313.out (fun _ hk => hk.1.1.2)⟩, ⟨by repeat (with_reducible first | exact HB.out | apply below_alloc | apply pw_below_drewN | apply below_drew1)⟩⟩
        ·rw [if_neg c9] at H
         have c9b0 : decide (x6_2 < (l0.length : Int)) = false := decide_eq_false c9
         clear c9
         have H' := Aside0.mk H
         clear H
         go_wp2
         go_loopg [8] k2 (fun kq v8 w' => ∃ (x3_3 : List Int) (x8_3 : Int), v8 = .int .i64 x8_3 ∧ Aside0 (spec_l2Through.l2 kq l0 x3_3 x4_1 x5_2 x8_3 = some r) ∧ Aside0 (kq ≤ k2) ∧ Aside0 (Kd.R (Kd.int .i64) 3 w' w.heap.size (fun k_ => some k_ ≠ (u5 : Value).ownBlock) v299 x3_3) ∧ Aside0 (Kd.R (Kd.int .i64) 3 w' w.heap.size (fun k_ => some k_ ≠ (v299 : Value).ownBlock) u5 x5_2) ∧ Aside0 (Below w.heap.size w w'))
         case atStart => exact ⟨(x3_1), (0), rfl, H', ⟨Nat.le_refl _⟩, ⟨HO_3.out⟩, ⟨HO_5.out⟩, ⟨by repeat (with_reducible first | exact HB.out | apply below_alloc | apply pw_below_drewN | apply below_drew1)⟩⟩
         case round =>
          clear H'
          try clear c1
          try clear c2
          try clear c2b0
          try clear c2b1
          try clear p2
          try clear c3
          try clear c3b0
          try clear c3b1
          try clear c6
          try clear c6b0
          try clear p6
          try clear c7
          try clear c8
          try clear c9
          try clear c9b0
          try clear c10
          try clear c10b0
          try clear c10b1
          try clear c13
          try clear p2
          obtain ⟨x3_3, x8_3, rfl, HA, HK3, HO_3, HO_5, HB⟩ := hrel
          cases gk with
          | zero => exact absurd HA.out (by simp [spec_l2Through.l2])
          | succ k3 =>
           have H := HA.out
           clear HA
           simp only [spec_l2Through.l2] at H
           by_cases c21 : x8_3 < (x5_2.length : Int)
           ·rw [if_pos c21] at H
            have c21b0 : decide (x8_3 < (x5_2.length : Int)) = true := decide_eq_true c21
            clear c21
            by_cases c22 : 0 ≤ x8_3
            ·rw [if_pos c22] at H
             have c22b0 : decide (0 ≤ x8_3) = true := decide_eq_true c22
             clear c22
             by_cases c23 : x8_3 < (x3_3.length : Int)
             ·rw [if_pos c23] at H
              have c23b0 : decide (x8_3 < (x3_3.length : Int)) = true := decide_eq_true c23
              clear c23
              by_cases c24 : 0 ≤ x4_1
              ·rw [if_pos c24] at H
               have c24b0 : decide (0 ≤ x4_1) = true := decide_eq_true c24
               clear c24
               by_cases c25 : x4_1 < (l0.length : Int)
               ·rw [if_pos c25] at H
                have c25b0 : decide (x4_1 < (l0.length : Int)) = true := decide_eq_true c25
                clear c25
                obtain ⟨y317, hy317⟩ : ∃ y_ : List Int, y_ = (x3_3.set (x8_3 : Int).toNat (Int.tmod (wrap64 ((rd x3_3 x8_3) + (wrap64 ((rd l0 x4_1) * (rd x5_2 x8_3))))) 31)) := ⟨_, rfl⟩
                rw [← hy317] at H
                have Ny317 := Aside0.mk hy317
                clear hy317
                have H' := Aside0.mk H
                clear H
                obtain ⟨Ao27, co27, eo27⟩ := Kd.R_slice HO_5.out
                subst eo27
                try go_wp2
                replace HO_3 := Aside0.mk (Kd.R_drew HO_3.out)
                replace HO_5 := Aside0.mk (Kd.R_drew HO_5.out)
                replace HB := Aside0.mk (below_drew1 HB.out)
                obtain ⟨Ao29, co29, eo29⟩ := Kd.R_slice HO_3.out
                (first | subst eo29 | (injection eo29 with f1_ f2_ f3_; have f4_ := f1_.symm; have f5_ := f3_.symm; clear f1_ f2_ f3_; subst f4_; subst f5_))
                have p314 : 0 ≤ (x8_3 : Int) := of_decide_eq_true ‹_›
                have q314 : x8_3 < (x3_3.length : Int) := of_decide_eq_true ‹_›
                obtain ⟨ad314, e314, hx314_0⟩ := Kd.at_int (Kd.R_reads' HO_3.out).2.2 x8_3 p314 q314
                cases e314
                replace p314 := eq_true p314
                replace q314 := eq_true q314
                have p315 : 0 ≤ (x4_1 : Int) := of_decide_eq_true ‹_›
                have q315 : x4_1 < (l0.length : Int) := of_decide_eq_true ‹_›
                obtain ⟨ad315, e315, hx315_0⟩ := Kd.at_int HR0.out x4_1 p315 q315
                have hw315_0 := hx315_0
                cases e315
                replace hx315_0 := (HB.out.cell (World.block_lt_of_cell? w _ hx315_0)).trans hx315_0
                replace p315 := eq_true p315
                replace q315 := eq_true q315
                have p316 : 0 ≤ (x8_3 : Int) := of_decide_eq_true ‹_›
                have q316 : x8_3 < (x5_2.length : Int) := of_decide_eq_true ‹_›
                obtain ⟨ad316, e316, hx316_0⟩ := Kd.at_int (Kd.R_reads' HO_5.out).2.2 x8_3 p316 q316
                cases e316
                replace p316 := eq_true p316
                replace q316 := eq_true q316
                have p26 : 0 ≤ (x8_3 : Int) := of_decide_eq_true ‹_›
                have q26 : (x8_3 : Int) < ((x3_3.length : Int) : Int) := of_decide_eq_true ‹_›
                obtain ⟨go26, co26, eo26, gb26, gl26, cl26, HG26⟩ := Kd.R_form HO_3.out (by omega)
                (first | cases eo26 | (injection eo26 with ea_ en_ ec_; (first | subst ea_ | (injection ea_ with ea_; subst ea_)); subst ec_; clear en_))
                have GB26 := Aside0.mk gb26
                have GG26 := Aside0.mk HG26
                clear gb26 gl26 HG26
                (first | simp only [add_plain] at hx314_0 | skip)
                obtain ⟨hx26_0, hf26_0⟩ := Kd.R_celln 0 HO_3.out (x8_3 : Int) p26 q26
                replace p26 := eq_true p26
                replace q26 := eq_true q26
                have HP30 := Kd.R_putn HO_3.out (x8_3 : Int) (Int.tmod (wrap64 ((rd x3_3 x8_3) + (wrap64 ((rd l0 x4_1) * (rd x5_2 x8_3))))) 31)
                rw [← Ny317.out] at HP30
                have HQ30 := Aside0.mk HP30
                clear HP30
                refine start_ (n := 19) (S := fun w' => w'.cell? ⟨go26, (x8_3).toNat, none⟩ = some (.int .i64 (rd x3_3 x8_3)) ∧ w'.cell? (ad315.add (x4_1).toNat) = some (.int .i64 (rd l0 x4_1)) ∧ w'.cell? (ad316.add (x8_3).toNat) = some (.int .i64 (rd x5_2 x8_3))) (ds := [18]) (bs 19 0) (by kernel_rfl) rfl rfl ⟨hx314_0, ((HB.out.cell (World.block_lt_of_cell? w _ hw315_0)).trans hw315_0), hx316_0⟩ (fun hHeld => ?_); refine with_tabW spec_l2Through.tab15 spec_l2Through.bits15 (fun HT_ HW_ => ?_)
                generalize wr.drew = w28 at HO_3 HO_5 HB GG26 HQ30 hf26_0 hx26_0 hx314_0 hx315_0 hx316_0 hHeld ⊢
                refine pZ 0 (some 46) (bs 19 1) rfl rfl (any_of HT_.out (by kernel_rfl)) ?_
                refine pZ 1 (some 47) (bs 19 3) rfl rfl (any_of HT_.out (by kernel_rfl)) ?_
                refine pZ 2 (some 48) (bs 19 7) rfl rfl (any_of HT_.out (by kernel_rfl)) ?_
                refine pZ 3 (some 49) (bs 19 15) rfl rfl (any_of HT_.out (by kernel_rfl)) ?_
                refine pZ 4 (some 50) (bs 19 31) rfl rfl (any_of HT_.out (by kernel_rfl)) ?_
                refine pZ 6 (some 52) (bs 19 95) rfl rfl (any_of HT_.out (by kernel_rfl)) ?_
                refine pZ 7 (some 53) (bs 19 223) rfl rfl (any_of HT_.out (by kernel_rfl)) ?_
                refine pZ 8 (some 54) (bs 19 479) rfl rfl (any_of HT_.out (by kernel_rfl)) ?_
                refine pZ 10 (some 56) (bs 19 1503) rfl rfl (any_of HT_.out (by kernel_rfl)) ?_
                refine pZ 11 (some 57) (bs 19 3551) rfl rfl (any_of HT_.out (by kernel_rfl)) ?_
                refine pZ 12 (some 58) (bs 19 7647) rfl rfl (any_of HT_.out (by kernel_rfl)) ?_
                refine tZ 5 (some 51) (bs 19 7679) rfl rfl (take_ofW HT_.out HW_.out (by kernel_rfl)) hHeld (by rintro w' ⟨s0, s1, s2⟩; go_simp; with_reducible rfl) ?_
                refine tZ 9 (some 55) (bs 19 8191) rfl rfl (take_ofW HT_.out HW_.out (by kernel_rfl)) hHeld (by rintro w' ⟨s0, s1, s2⟩; go_simp; with_reducible rfl) ?_
                refine tZ 13 (some 59) (bs 19 16383) rfl rfl (take_ofW HT_.out HW_.out (by kernel_rfl)) hHeld (by rintro w' ⟨s0, s1, s2⟩; go_simp; with_reducible rfl) ?_
                refine pZ 14 (some 60) (bs 19 32767) rfl rfl (any_of HT_.out (by kernel_rfl)) ?_
                refine pZ 15 (some 61) (bs 19 65535) rfl rfl (any_of HT_.out (by kernel_rfl)) ?_
                refine pZ 16 (some 62) (bs 19 131071) rfl rfl (any_of HT_.out (by kernel_rfl)) ?_
                refine pZ 17 (some 63) (bs 19 262143) rfl rfl (any_of HT_.out (by kernel_rfl)) ?_
                refine last_ (i := 18) (N := none) (bs 19 524287) rfl rfl (one_of HT_.out (by kernel_rfl)) (by decide) (fun K hK => ?_)
                refine skip_ (w1 := ?_) (by rfl) rfl ?_ ?_
                rotate_left
                ·go_simp
                 rfl
                refine hK.out _ _ ?_
                clear hK K
                refine done_ (done_of HT_.out (by kernel_rfl)) ?_
                try go_wp2
                go_roundg k3
                case measure => have := HK1.out; have := HK2.out; have := HK3.out; omega
                case rel => exact ⟨(y317), (wrap64 (x8_3 + 1)), rfl, H', ⟨by have := HK1.out; have := HK2.out; have := HK3.out; omega⟩, ⟨HQ30.out⟩, ⟨Kd.R_mono (Kd.R_far (p := ⟨go26, (x8_3 : Int).toNat, none⟩) (Kd.R_mono HO_5.out (fun k_ hk => (⟨hk, fun e_ => hk (by rw [e_]; rfl)⟩ : _ ∧ k_ ≠ go26))) (fun _ hk => hk.2) (.int .i64 (Int.tmod (wrap64 ((rd x3_3 x8_3) + (wrap64 ((rd l0 x4_1) * (rd x5_2 x8_3))))) 31))) (fun _ hk => hk.1)⟩, ⟨by repeat (with_reducible first | exact HB.out | apply below_alloc | apply pw_below_drewN | apply below_drew1 | refine below_set ?_ GB26.out)⟩⟩
               ·rw [if_neg c25] at H
                exact absurd H (by simp)
              ·rw [if_neg c24] at H
               exact absurd H (by simp)
             ·rw [if_neg c23] at H
              exact absurd H (by simp)
            ·rw [if_neg c22] at H
             exact absurd H (by simp)
           ·rw [if_neg c21] at H
            have c21b0 : decide (x8_3 < (x5_2.length : Int)) = false := decide_eq_false c21
            clear c21
            have H' := Aside0.mk H
            clear H
            obtain ⟨Ao31, co31, eo31⟩ := Kd.R_slice HO_5.out
            subst eo31
            go_wp2
            go_roundg k3
            case measure => have := HK1.out; have := HK2.out; have := HK3.out; omega
            case rel => exact ⟨(x3_3), (wrap64 (x4_1 + 1)), rfl, H', ⟨by have := HK1.out; have := HK2.out; have := HK3.out; omega⟩, ⟨Kd.R_mono HO_3.out (fun _ hk => trivial)⟩, ⟨by repeat (with_reducible first | exact HB.out | apply below_alloc | apply pw_below_drewN | apply below_drew1)⟩⟩
     ·rw [if_neg c6] at H
      have c6b0 : decide (x4_1 < (l0.length : Int)) = false := decide_eq_false c6
      clear c6
      obtain rfl := Option.some.inj H
      go_wp2
      go_ret
      exact ⟨_, rfl, HO_3.out, by repeat (with_reducible first | exact HB.out | apply below_alloc | apply pw_below_drewN | apply below_drew1)⟩
  ·rw [if_neg c3] at H
   exact absurd H (by simp)
 ·rw [if_neg c2] at H
  exact absurd H (by simp)
def spec_l12Second.l0 : Nat → List Int → List Int → Int → Option (List Int)
  | 0, _, _, _ => none
  | k + 1, x0, x5, x6 => if x6 < (x0.length : Int) then (if 0 ≤ x6 then ((spec_FieldDif.f (rd x0 x6) 1).bind fun t422 => (if x5.length < 17592186044416 then (spec_l12Second.l0 k x0 (x5 ++ [t422]) (wrap64 (x6 + 1))) else (none))) else (none)) else (some x5)
def spec_l12Second.f (k : Nat) (l0 : List Int) (a1 : Int) : Option (List Int) := spec_l12Second.l0 k l0 (([a1] : List Int)) 0
set_option maxHeartbeats 8000000 in
set_option maxRecDepth 100000 in
theorem spec_l12Second.calls (k : Nat) (A0 : Option Addr) (c0 : Nat) (l0 : List Int) (a1 : Int) (r : List Int) (w : World) (hr0 : Kd.C (Kd.int .i64) w A0 l0.length l0) (hc0 : l0.length ≤ c0) (h : spec_l12Second.f k l0 a1 = some r) :
  Calls Tryz.prog 134 #[.slice A0 l0.length c0, .int .i64 a1] w fun e w' => ∃ v0_ : Value, e = .returned (v0_) ∧ Kd.R (Kd.int .i64) 3 w' w.heap.size (fun _ => True) v0_ r ∧ Below w.heap.size w w' := by
 have HR0 := Aside0.mk hr0
 have HC0 := Aside0.mk hc0
 clear hr0 hc0
 have HB := Aside0.mk (Below.refl w.heap.size w)
 have H : (spec_l12Second.l0 k l0 (([a1] : List Int)) 0) = some r := h
 clear h
 obtain ⟨y318, hy318⟩ : ∃ y_ : List Int, y_ = (([a1] : List Int)) := ⟨_, rfl⟩
 rw [← hy318] at H
 have Ny318 := Aside0.mk hy318
 clear hy318
 have H' := Aside0.mk H
 clear H
 go_enter Tryz.func134, Tryz.ntmps134
 go_wp2_with (first | ((with_reducible refine gate_dst (N := 8) rfl ?_); refine Kd.R_lit (Kd.int .i64) _ 3 ?hg (N := 8) ?hd (xs := ([a1] : List Int)) (inner := [.int .i64 a1]) (ok := fun _ => True) (okp := fun _ => True) ?hr ?hp (fun _ hk => hk) trivial (Below.refl _ _) (Nat.le_refl _) (by simp) ?_; (case hd => rfl); (case hg => rfl); (case hr => first | (go_simp; done) | (go_simp; rfl)); (case hp => exact (Reps.one (show Kd.M (Kd.int .i64) _ _ _ a1 [.int .i64 a1] from rfl) (Reps.none _ _))); intro v319 w3 ho4 hb hg_ hnew_; clear hg_ hnew_; (first | rw [← Ny318.out] at ho4 | (simp only [Int.reduceToNat] at ho4; rw [← Ny318.out] at ho4)); replace HO320 := Aside0.mk (Kd.R_lower ho4 bsZ); replace HB := bnZ hb; clear hb ho4))
 go_loopg [5, 6] k (fun kq v5 v6 w' => ∃ (x5_1 : List Int) (x6_1 : Int), v6 = .int .i64 x6_1 ∧ Aside0 (spec_l12Second.l0 kq l0 x5_1 x6_1 = some r) ∧ Aside0 (kq ≤ k) ∧ Aside0 (Kd.R (Kd.int .i64) 3 w' w.heap.size (fun _ => True) v5 x5_1) ∧ Aside0 (Below w.heap.size w w'))
 case atStart => exact ⟨(y318), (0), rfl, H', ⟨Nat.le_refl _⟩, ⟨HO320.out⟩, ⟨by repeat (with_reducible first | exact HB.out | apply below_alloc | apply pw_below_drewN | apply below_drew1)⟩⟩
 case round =>
  clear H'
  try clear c1
  try clear p2
  obtain ⟨x5_1, x6_1, rfl, HA, HK1, HO_5, HB⟩ := hrel
  cases gk with
  | zero => exact absurd HA.out (by simp [spec_l12Second.l0])
  | succ k1 =>
   have H := HA.out
   clear HA
   simp only [spec_l12Second.l0] at H
   by_cases c5 : x6_1 < (l0.length : Int)
   ·rw [if_pos c5] at H
    have c5b0 : decide (x6_1 < (l0.length : Int)) = true := decide_eq_true c5
    clear c5
    by_cases c6 : 0 ≤ x6_1
    ·rw [if_pos c6] at H
     have c6b0 : decide (0 ≤ x6_1) = true := decide_eq_true c6
     clear c6
     replace H := bnd H
     obtain ⟨t322, A7, H⟩ := H
     by_cases c8 : x5_1.length < 17592186044416
     ·rw [if_pos c8] at H
      have LMc8 := Aside0.mk c8
      clear c8
      obtain ⟨y323, hy323⟩ : ∃ y_ : List Int, y_ = (x5_1 ++ [t322]) := ⟨_, rfl⟩
      rw [← hy323] at H
      have Ny323 := Aside0.mk hy323
      clear hy323
      have H' := Aside0.mk H
      clear H
      have p321 : 0 ≤ (x6_1 : Int) := of_decide_eq_true ‹_›
      have q321 : x6_1 < (l0.length : Int) := of_decide_eq_true ‹_›
      obtain ⟨ad321, e321, hx321_0⟩ := Kd.at_int HR0.out x6_1 p321 q321
      cases e321
      replace hx321_0 := (HB.out.cell (World.block_lt_of_cell? w _ hx321_0)).trans hx321_0
      replace p321 := eq_true p321
      replace q321 := eq_true q321
      go_wp2_with (first | (refine gsD c81x11 (spec_FieldDif.calls (rd l0 x6_1) 1 t322 _ A7.out) ?_; intro nd) | ((with_reducible refine gate_builtin (b := .append) (xs := #[.tmp 15, .tmp 21]) rfl ?_); at_builtin; refine Kd.R_append (Kd.int .i64) (w0 := w) w.heap.size rfl (.tmp 15) (.tmp 21) 22 3 (.int .i64 0) 8 rfl Tryz.underlying22 info3 rfl (by decide) (by omega) u5 x5_1 t322 [.int .i64 t322] (fun _ => True) (fun _ => False) rfl rfl ?aP (fun _ hk => hk.elim) ?aF ?aO ?aB ?aS ?aL ?_; (case aP => exact rfl); (case aB => exact bZ); (case aF => exact (fun _ _ => trivial)); (case aO => exact (HO_5.out)); (case aS => exact bsZ); (case aL => have := LMc8.out; omega); intro v324 w9 ho hb hg hat; rw [← Ny323.out] at ho; replace HB := Aside0.mk (hb); replace HO325 := Aside0.mk (ho); clear HO_5; clear ho hb hg hat))
      go_roundg k1
      case measure => have := HK1.out; omega
      case rel => exact ⟨(y323), (wrap64 (x6_1 + 1)), rfl, H', ⟨by have := HK1.out; omega⟩, ⟨HO325.out⟩, ⟨by repeat (with_reducible first | exact HB.out | apply below_alloc | apply pw_below_drewN | apply below_drew1)⟩⟩
     ·rw [if_neg c8] at H
      exact absurd H (by simp)
    ·rw [if_neg c6] at H
     exact absurd H (by simp)
   ·rw [if_neg c5] at H
    have c5b0 : decide (x6_1 < (l0.length : Int)) = false := decide_eq_false c5
    clear c5
    obtain rfl := Option.some.inj H
    go_wp2
    go_ret
    exact ⟨_, rfl, HO_5.out, by repeat (with_reducible first | exact HB.out | apply below_alloc | apply pw_below_drewN | apply below_drew1)⟩
def spec_l12Make.f (k : Nat) (l0 : List Int) (a1 : Int) (a2 : Int) : Option (Int × Int × List Int) := (spec_l12First.f l0 a1).bind fun t427 => ((spec_l2Through.f k t427).bind fun t430 => ((spec_l12Second.f k l0 a2).bind fun t433 => ((spec_l2Through.f k t433).bind fun t436 => ((spec_l2Mul.f k t430 t436).bind fun t439 => (some (a1, a2, t439))))))
set_option maxHeartbeats 8000000 in
set_option maxRecDepth 100000 in
theorem spec_l12Make.calls (k : Nat) (A0 : Option Addr) (c0 : Nat) (l0 : List Int) (a1 : Int) (a2 : Int) (r1 : Int) (r2 : Int) (r3 : List Int) (w : World) (hr0 : Kd.C (Kd.int .i64) w A0 l0.length l0) (hc0 : l0.length ≤ c0) (h : spec_l12Make.f k l0 a1 a2 = some (r1, r2, r3)) :
  Calls Tryz.prog 119 #[.slice A0 l0.length c0, .int .i64 a1, .int .i64 a2] w fun e w' => ∃ v2_ : Value, e = .returned (.agg #[.int .i64 r1, .int .i64 r2, v2_]) ∧ Kd.R (Kd.int .i64) 3 w' w.heap.size (fun _ => True) v2_ r3 ∧ Below w.heap.size w w' := by
 have hu40 := Tryz.underlying40
 have HR0 := Aside0.mk hr0
 have HC0 := Aside0.mk hc0
 clear hr0 hc0
 have HB := Aside0.mk (Below.refl w.heap.size w)
 have H := h
 unfold spec_l12Make.f at H
 clear h
 replace H := bnd H
 obtain ⟨t327, A4, H⟩ := H
 replace H := bnd H
 obtain ⟨t330, A5, H⟩ := H
 replace H := bnd H
 obtain ⟨t333, A6, H⟩ := H
 replace H := bnd H
 obtain ⟨t336, A7, H⟩ := H
 replace H := bnd H
 obtain ⟨t339, A8, H⟩ := H
 simp only [Option.some.injEq, Prod.mk.injEq] at H
 obtain ⟨rfl, rfl, rfl⟩ := H
 go_enter Tryz.func119, Tryz.ntmps119
 go_wp2_with (first | ((with_reducible refine gate_dst (N := 6) rfl ?_); refine boxZ (N := 6) (cs := #[.int .i64 0, .int .i64 0, .slice none 0 0]) (t := 40) ?_; intro gb326 hg w9 hbox hb; replace BK326 := Aside0.mk (hbox); replace GW326 := gwZ hg; replace GE326 := gwZ hg; replace HB := bnZ hb; clear hb hbox hg) | (refine gsC c84x15 (spec_l12First.calls _ _ l0 a1 t327 _ (Kd.C_below HR0.out HB.out) HC0.out A4.out) ?_; rintro e w10 ⟨v328, rfl, ho0, hb⟩; refine ⟨_, rfl, ?_⟩; replace HO329 := Aside0.mk (Kd.R_lower ho0 bsZ); replace BK326 := bkZ hb BK326.out; replace HB := bnZ hb; (try clear hb); (try clear hb2); (try clear hk); (try clear hi); (try clear ho0); obtain ⟨Ao11, co11, eo11⟩ := Kd.R_slice HO329.out; subst eo11) | (refine gsC c133x15 (spec_l2Through.calls k _ _ t327 t330 _ (Kd.R_reads' HO329.out).2.2 (Kd.R_reads' HO329.out).2.1 A5.out) ?_; rintro e w12 ⟨v331, rfl, ho0, hb⟩; refine ⟨_, rfl, ?_⟩; replace HO332 := Aside0.mk (Kd.R_lower (Kd.R_new' ho0 (Kd.R_lt (HO329.out))) bsZ); replace HO329 := Aside0.mk (Kd.R_elder' (HO329.out) (Kd.R_base ho0) hb); replace BK326 := bkZ hb BK326.out; replace HB := bnZ hb; clear hb ho0) | (refine gsC c134x15 (spec_l12Second.calls k _ _ l0 a2 t333 _ (Kd.C_below HR0.out HB.out) HC0.out A6.out) ?_; rintro e w13 ⟨v334, rfl, ho0, hb⟩; refine ⟨_, rfl, ?_⟩; replace HO335 := Aside0.mk (Kd.R_lower (Kd.R_new' (Kd.R_new' ho0 (Kd.R_lt (HO329.out))) (Kd.R_lt (HO332.out))) bsZ); replace HO329 := Aside0.mk (Kd.R_elder' (HO329.out) (Kd.R_base ho0) hb); replace HO332 := Aside0.mk (Kd.R_elder' (HO332.out) (Kd.R_base ho0) hb); replace BK326 := bkZ hb BK326.out; replace HB := bnZ hb; (try clear hb); (try clear hb2); (try clear hk); (try clear hi); (try clear ho0); obtain ⟨Ao14, co14, eo14⟩ := Kd.R_slice HO335.out; subst eo14) | (refine gsC c133x15 (spec_l2Through.calls k _ _ t333 t336 _ (Kd.R_reads' HO335.out).2.2 (Kd.R_reads' HO335.out).2.1 A7.out) ?_; rintro e w15 ⟨v337, rfl, ho0, hb⟩; refine ⟨_, rfl, ?_⟩; replace HO338 := Aside0.mk (Kd.R_lower (Kd.R_new' (Kd.R_new' (Kd.R_new' ho0 (Kd.R_lt (HO329.out))) (Kd.R_lt (HO332.out))) (Kd.R_lt (HO335.out))) bsZ); replace HO329 := Aside0.mk (Kd.R_elder' (HO329.out) (Kd.R_base ho0) hb); replace HO332 := Aside0.mk (Kd.R_elder' (HO332.out) (Kd.R_base ho0) hb); replace HO335 := Aside0.mk (Kd.R_elder' (HO335.out) (Kd.R_base ho0) hb); replace BK326 := bkZ hb BK326.out; replace HB := bnZ hb; (try clear hb); (try clear hb2); (try clear hk); (try clear hi); (try clear ho0); obtain ⟨Ao16, co16, eo16⟩ := Kd.R_slice HO332.out; subst eo16; obtain ⟨Ao17, co17, eo17⟩ := Kd.R_slice HO338.out; subst eo17) | (refine gsC c132x15 (spec_l2Mul.calls k _ _ t330 _ _ t336 t339 _ (Kd.R_reads' HO332.out).2.2 (Kd.R_reads' HO332.out).2.1 (Kd.R_reads' HO338.out).2.2 (Kd.R_reads' HO338.out).2.1 A8.out) ?_; rintro e w18 ⟨v340, rfl, ho0, hb⟩; refine ⟨_, rfl, ?_⟩; replace HO341 := Aside0.mk (Kd.R_lower (Kd.R_new' (Kd.R_new' (Kd.R_new' (Kd.R_new' ho0 (Kd.R_lt (HO329.out))) (Kd.R_lt (HO332.out))) (Kd.R_lt (HO335.out))) (Kd.R_lt (HO338.out))) bsZ); replace HO329 := Aside0.mk (Kd.R_elder' (HO329.out) (Kd.R_base ho0) hb); replace HO332 := Aside0.mk (Kd.R_elder' (HO332.out) (Kd.R_base ho0) hb); replace HO335 := Aside0.mk (Kd.R_elder' (HO335.out) (Kd.R_base ho0) hb); replace HO338 := Aside0.mk (Kd.R_elder' (HO338.out) (Kd.R_base ho0) hb); replace BK326 := bkZ hb BK326.out; replace HB := bnZ hb; (try clear hb); (try clear hb2); (try clear hk); (try clear hi); (try clear ho0); obtain ⟨Ao19, co19, eo19⟩ := Kd.R_slice HO341.out; subst eo19; have hcz20_0 : w18.cell? ⟨gb326, 0, none⟩ = some (.int .i64 0) := (blk_cell BK326.out 0).trans rfl; have hcz20_1 : w18.cell? ⟨gb326, 1, none⟩ = some (.int .i64 0) := (blk_cell BK326.out 1).trans rfl; have hcz20_2 : w18.cell? ⟨gb326, 2, none⟩ = some (.slice none 0 0) := (blk_cell BK326.out 2).trans rfl; have hfz20_0 := blk_frozen BK326.out 0; have hfz20_1 := blk_frozen BK326.out 1; have hfz20_2 := blk_frozen BK326.out 2))
 refine bodyPost_ret (results_cell_row rfl _ _ gb326 40 #[.int .i64 a1, .int .i64 a2, .slice Ao19 t339.length co19] (0, 0) _ rfl (by refine blk_put (cs := #[.int .i64 a1, .int .i64 a2, .slice none 0 0]) ?_ 2 _ rfl; refine blk_put (cs := #[.int .i64 a1, .int .i64 0, .slice none 0 0]) ?_ 1 _ rfl; refine blk_put (cs := #[.int .i64 0, .int .i64 0, .slice none 0 0]) ?_ 0 _ rfl; exact BK326.out) Tryz.underlying40 rfl (by kernel_rfl)) rfl ?_
 exact ⟨_, rfl, Kd.R_mono (Kd.R_far (p := ⟨gb326, 2, none⟩) (Kd.R_far (p := ⟨gb326, 1, none⟩) (Kd.R_far (p := ⟨gb326, 0, none⟩) (Kd.R_types HO341.out BK326.out (by decide)) (fun _ hk => hk.2) (.int .i64 a1)) (fun _ hk => hk.2) (.int .i64 a2)) (fun _ hk => hk.2) (.slice Ao19 t339.length co19)) (fun _ hk => trivial), by repeat (with_reducible first | exact HB.out | apply below_alloc | apply pw_below_drewN | apply below_drew1 | refine below_set ?_ GE326.out)⟩
def spec_l4At.f (a0 : Int) (a1 : Int) : Option (Int) := some (Int.tmod (wrap64 ((wrap64 ((wrap64 ((wrap64 (a0 + (wrap64 ((wrap64 (Int.tdiv a0 31)) * 7)))) + (wrap64 ((wrap64 (a1 * a1)) * 11)))) + (wrap64 ((wrap64 (a1 * (Int.tmod a0 31))) * 26)))) + (wrap64 (a1 * 3)))) 31)
set_option maxHeartbeats 8000000 in
set_option maxRecDepth 100000 in
theorem spec_l4At.calls (a0 : Int) (a1 : Int) (r : Int) (w : World) (h : spec_l4At.f a0 a1 = some r) :
    Calls Tryz.prog 120 #[.int .i64 a0, .int .i64 a1] w fun e w' => e = .returned (.int .i64 r) ∧ Drawn0 w w' := by
  have H := h
  unfold spec_l4At.f at H
  clear h
  obtain rfl := Option.some.inj H
  go_enter Tryz.func120, Tryz.ntmps120
  go_wp2
  go_ret
  exact ⟨rfl, by repeat (first | exact Drawn0.refl _ | apply Drawn0.step)⟩
end Go.Proofs.YtlgbblaidohljaaGreatDoor.Zk
