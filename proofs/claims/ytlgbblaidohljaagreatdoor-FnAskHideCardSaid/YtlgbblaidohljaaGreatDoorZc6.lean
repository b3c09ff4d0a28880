import Derived.Test.YtlgbblaidohljaaGreatDoorZ
import Derived.Test.YtlgbblaidohljaaGreatDoorZc0
import Derived.Test.YtlgbblaidohljaaGreatDoorZc1
namespace Go.Proofs.YtlgbblaidohljaaGreatDoor.Zc
open Go.RowKit Go.Proofs.YtlgbblaidohljaaGreatDoorU.PrintWords Go.Proofs.YtlgbblaidohljaaGreatDoorU.PrintLast Go.Proofs.YtlgbblaidohljaaGreatDoorU.PrintMore Go.Proofs.YtlgbblaidohljaaGreatDoor.Z
attribute [local go_sem] max2_int min2_int max_two min_two max_three min_three max_four min_four
set_option linter.unusedVariables false
set_option linter.unusedSimpArgs false
def encV (kind val : Int) : List Int := if kind = 1 then [val] else if kind = 2 then [0, 0, 0, 0].set val.toNat 1 else [val % 2, val / 2 % 2, val / 4 % 2]
theorem encBit (b : Int) (w : World) : Calls Tryz.prog 156 #[.agg #[], .int .i64 b] w fun e w' => ∃ v, e = .returned v ∧ Kd.R (Kd.int .i64) 3 w' w.heap.size (fun _ => True) v [b] ∧ Below w.heap.size w w' := by
 have HB := Aside0.mk (Below.refl w.heap.size w)
 go_enter Tryz.func156, Tryz.ntmps156
 go_wp2_with ((with_reducible refine gate_dst (N := 6) rfl ?_); refine Kd.R_lit (Kd.int .i64) _ 3 ?hg (N := 6) ?hd (xs := [b]) (inner := [.int .i64 b]) (ok := fun _ => True) (okp := fun _ => True) ?hr ?hp (fun _ hk => hk) trivial (Below.refl _ _) (Nat.le_refl _) (by simp) ?_; (case hd => rfl); (case hg => rfl); (case hr => first | (go_simp; done) | (go_simp; rfl)); (case hp => exact (Reps.one (show Kd.M (Kd.int .i64) _ _ _ b [.int .i64 b] from rfl) (Reps.none _ _))); intro v w4 ho hb hg_ hnew_; clear hg_ hnew_; have HO := Aside0.mk ho; have HN := Aside0.mk hb; clear ho hb)
 go_ret
 exact ⟨_, rfl, Kd.R_lower HO.out (below_size (below_alloc HB.out _)), below_step (below_alloc HB.out _) HN.out⟩
theorem metBit (w : World) : (method 297 103 (.agg #[]) "loop.example/scrutineer/impl.encode").run Tryz.prog w = .ok (156, .agg #[]) w := by kernel_rfl
theorem bitMeasure_values.calls (w : World) : Calls Tryz.prog 158 #[.agg #[]] w fun e w' => e = .returned (.int .i64 2) ∧ w.alloc (.cells #[] 103) = w' := by
 go_enter Tryz.func158, Tryz.ntmps158
 go_wp2
 go_ret
 exact ⟨rfl, rfl⟩
theorem bitMeasure_values.meth (w : World) : (method 297 103 (.agg #[]) "loop.example/scrutineer/impl.values").run Tryz.prog w = .ok (158, .agg #[]) w := by kernel_rfl
set_option maxHeartbeats 1000000 in
set_option maxRecDepth 100000 in
theorem encPick (b : Int) (h0 : 0 ≤ b) (h3 : b ≤ 3) (w : World) : Calls Tryz.prog 159 #[.agg #[], .int .i64 b] w fun e w' => ∃ v, e = .returned v ∧ Kd.R (Kd.int .i64) 3 w' w.heap.size (fun _ => True) v ([0, 0, 0, 0].set b.toNat 1) ∧ Below w.heap.size w w' := by
 have HB := Aside0.mk (Below.refl w.heap.size w)
 obtain ⟨z, hz⟩ : ∃ z : List Int, z = [0, 0, 0, 0] := ⟨_, rfl⟩
 have q0 : b < (z.length : Int) := by rw [hz]; show b < 4; omega
 have lz : 0 < z.length := by rw [hz]; decide
 have HZ := Aside0.mk hz
 clear hz h3
 have H0 := Aside0.mk h0
 have Q0 := Aside0.mk q0
 clear h0 q0
 go_enter Tryz.func159, Tryz.ntmps159
 go_wp2_with (first | ((with_reducible refine gate_dst (N := 6) rfl ?_); refine Kd.R_make (Kd.int .i64) _ 3 rfl (N := 6) rfl 22 _ _ rfl 4 rfl rfl Tryz.underlying22 (.int .i64 0) 8 info3 rfl (by decide) (by omega) 0 (ok := fun _ => True) (okp := fun _ => True) rfl (fun _ hk => hk) trivial (by decide) (by decide) (Below.refl _ _) (Nat.le_refl _) ?_; intro v6 w4 ho hb hg_ hnew_; clear hg_ hnew_; have ho4 : Kd.R (Kd.int .i64) 3 w4 _ (fun _ => True) v6 [0, 0, 0, 0] := ho; rw [← HZ.out] at ho4; clear ho; have HO := Aside0.mk (Kd.R_lower ho4 (below_size (below_alloc HB.out _))); have HN := Aside0.mk (below_step (below_alloc HB.out _) hb); clear ho4 hb; obtain ⟨Ao, co, eo⟩ := Kd.R_slice HO.out; subst eo; obtain ⟨g1, c1, eo, gb, gl, cl, HG⟩ := Kd.R_form HO.out (by omega); (first | cases eo | (injection eo with ea_ en_ ec_; (first | subst ea_ | (injection ea_ with ea_; subst ea_)); subst ec_; clear en_)); have GB := Aside0.mk gb; clear gb gl HG; obtain ⟨hx0, hf0⟩ := Kd.R_celln 0 HO.out b H0.out Q0.out; have p0 := eq_true H0.out; have q0 := eq_true Q0.out; have HP := Kd.R_putg HO.out b 1) | ((with_reducible refine gate_store (t := 3) (p := 9) rfl ?_); refine store_event (t := 3) (p := 9) (v := ?vo) (w1 := (w4.setCell ⟨g1, b.toNat, none⟩ (.int .i64 1))) ?hg ?ho ?hn ?hr ?_; (case ho => rfl); (case hg => rfl); (case hn => rfl); (case hr => first | (go_simp; done) | (go_simp; rfl)); intro w5 hw; have HR := Aside0.mk (show Kd.R (Kd.int .i64) 3 w5 w.heap.size (fun _ => True) (.slice (some ⟨g1, 0, none⟩) z.length co) (z.set b.toNat 1) from by rw [hw]; exact HP.1); have HE := Aside0.mk (show Below w.heap.size w w5 from by rw [hw]; exact below_set HN.out GB.out); clear HP hw))
 go_ret
 exact ⟨_, rfl, HZ.out ▸ HR.out, HE.out⟩
theorem metPick (w : World) : (method 297 104 (.agg #[]) "loop.example/scrutineer/impl.encode").run Tryz.prog w = .ok (159, .agg #[]) w := by kernel_rfl
theorem pickMeasure_values.calls (w : World) : Calls Tryz.prog 161 #[.agg #[]] w fun e w' => e = .returned (.int .i64 4) ∧ w.alloc (.cells #[] 104) = w' := by
 go_enter Tryz.func161, Tryz.ntmps161
 go_wp2
 go_ret
 exact ⟨rfl, rfl⟩
theorem pickMeasure_values.meth (w : World) : (method 297 104 (.agg #[]) "loop.example/scrutineer/impl.values").run Tryz.prog w = .ok (161, .agg #[]) w := by kernel_rfl
theorem encNum0 (w : World) : Calls Tryz.prog 162 #[.agg #[], .int .i64 0] w fun e w' => ∃ v, e = .returned v ∧ Kd.R (Kd.int .i64) 3 w' w.heap.size (fun _ => True) v [0, 0, 0] ∧ Below w.heap.size w w' := by
 have HB := Aside0.mk (Below.refl w.heap.size w)
 go_enter Tryz.func162, Tryz.ntmps162
 go_wp2_with ((with_reducible refine gate_dst (N := 13) rfl ?_); refine Kd.R_lit (Kd.int .i64) _ 3 ?hg (N := 13) ?hd (xs := [0, 0, 0]) (inner := [.int .i64 0, .int .i64 0, .int .i64 0]) (ok := fun _ => True) (okp := fun _ => True) ?hr ?hp (fun _ hk => hk) trivial (Below.refl _ _) (Nat.le_refl _) (by simp) ?_; (case hd => rfl); (case hg => rfl); (case hr => first | (go_simp; done) | (go_simp; rfl)); (case hp => exact (Reps.one (show Kd.M (Kd.int .i64) _ _ _ 0 [.int .i64 0] from rfl) (Reps.one (show Kd.M (Kd.int .i64) _ _ _ 0 [.int .i64 0] from rfl) (Reps.one (show Kd.M (Kd.int .i64) _ _ _ 0 [.int .i64 0] from rfl) (Reps.none _ _))))); intro v w4 ho hb hg_ hnew_; clear hg_ hnew_; have HO := Aside0.mk ho; have HN := Aside0.mk hb; clear ho hb)
 go_ret
 exact ⟨_, rfl, Kd.R_lower HO.out (below_size (below_alloc HB.out _)), below_step (below_alloc HB.out _) HN.out⟩
theorem encNum1 (w : World) : Calls Tryz.prog 162 #[.agg #[], .int .i64 1] w fun e w' => ∃ v, e = .returned v ∧ Kd.R (Kd.int .i64) 3 w' w.heap.size (fun _ => True) v [1, 0, 0] ∧ Below w.heap.size w w' := by
 have HB := Aside0.mk (Below.refl w.heap.size w)
 go_enter Tryz.func162, Tryz.ntmps162
 go_wp2_with ((with_reducible refine gate_dst (N := 13) rfl ?_); refine Kd.R_lit (Kd.int .i64) _ 3 ?hg (N := 13) ?hd (xs := [1, 0, 0]) (inner := [.int .i64 1, .int .i64 0, .int .i64 0]) (ok := fun _ => True) (okp := fun _ => True) ?hr ?hp (fun _ hk => hk) trivial (Below.refl _ _) (Nat.le_refl _) (by simp) ?_; (case hd => rfl); (case hg => rfl); (case hr => first | (go_simp; done) | (go_simp; rfl)); (case hp => exact (Reps.one (show Kd.M (Kd.int .i64) _ _ _ 1 [.int .i64 1] from rfl) (Reps.one (show Kd.M (Kd.int .i64) _ _ _ 0 [.int .i64 0] from rfl) (Reps.one (show Kd.M (Kd.int .i64) _ _ _ 0 [.int .i64 0] from rfl) (Reps.none _ _))))); intro v w4 ho hb hg_ hnew_; clear hg_ hnew_; have HO := Aside0.mk ho; have HN := Aside0.mk hb; clear ho hb)
 go_ret
 exact ⟨_, rfl, Kd.R_lower HO.out (below_size (below_alloc HB.out _)), below_step (below_alloc HB.out _) HN.out⟩
theorem encNum2 (w : World) : Calls Tryz.prog 162 #[.agg #[], .int .i64 2] w fun e w' => ∃ v, e = .returned v ∧ Kd.R (Kd.int .i64) 3 w' w.heap.size (fun _ => True) v [0, 1, 0] ∧ Below w.heap.size w w' := by
 have HB := Aside0.mk (Below.refl w.heap.size w)
 go_enter Tryz.func162, Tryz.ntmps162
 go_wp2_with ((with_reducible refine gate_dst (N := 13) rfl ?_); refine Kd.R_lit (Kd.int .i64) _ 3 ?hg (N := 13) ?hd (xs := [0, 1, 0]) (inner := [.int .i64 0, .int .i64 1, .int .i64 0]) (ok := fun _ => True) (okp := fun _ => True) ?hr ?hp (fun _ hk => hk) trivial (Below.refl _ _) (Nat.le_refl _) (by simp) ?_; (case hd => rfl); (case hg => rfl); (case hr => first | (go_simp; done) | (go_simp; rfl)); (case hp => exact (Reps.one (show Kd.M (Kd.int .i64) _ _ _ 0 [.int .i64 0] from rfl) (Reps.one (show Kd.M (Kd.int .i64) _ _ _ 1 [.int .i64 1] from rfl) (Reps.one (show Kd.M (Kd.int .i64) _ _ _ 0 [.int .i64 0] from rfl) (Reps.none _ _))))); intro v w4 ho hb hg_ hnew_; clear hg_ hnew_; have HO := Aside0.mk ho; have HN := Aside0.mk hb; clear ho hb)
 go_ret
 exact ⟨_, rfl, Kd.R_lower HO.out (below_size (below_alloc HB.out _)), below_step (below_alloc HB.out _) HN.out⟩
theorem encNum3 (w : World) : Calls Tryz.prog 162 #[.agg #[], .int .i64 3] w fun e w' => ∃ v, e = .returned v ∧ Kd.R (Kd.int .i64) 3 w' w.heap.size (fun _ => True) v [1, 1, 0] ∧ Below w.heap.size w w' := by
 have HB := Aside0.mk (Below.refl w.heap.size w)
 go_enter Tryz.func162, Tryz.ntmps162
 go_wp2_with ((with_reducible refine gate_dst (N := 13) rfl ?_); refine Kd.R_lit (Kd.int .i64) _ 3 ?hg (N := 13) ?hd (xs := [1, 1, 0]) (inner := [.int .i64 1, .int .i64 1, .int .i64 0]) (ok := fun _ => True) (okp := fun _ => True) ?hr ?hp (fun _ hk => hk) trivial (Below.refl _ _) (Nat.le_refl _) (by simp) ?_; (case hd => rfl); (case hg => rfl); (case hr => first | (go_simp; done) | (go_simp; rfl)); (case hp => exact (Reps.one (show Kd.M (Kd.int .i64) _ _ _ 1 [.int .i64 1] from rfl) (Reps.one (show Kd.M (Kd.int .i64) _ _ _ 1 [.int .i64 1] from rfl) (Reps.one (show Kd.M (Kd.int .i64) _ _ _ 0 [.int .i64 0] from rfl) (Reps.none _ _))))); intro v w4 ho hb hg_ hnew_; clear hg_ hnew_; have HO := Aside0.mk ho; have HN := Aside0.mk hb; clear ho hb)
 go_ret
 exact ⟨_, rfl, Kd.R_lower HO.out (below_size (below_alloc HB.out _)), below_step (below_alloc HB.out _) HN.out⟩
theorem encNum4 (w : World) : Calls Tryz.prog 162 #[.agg #[], .int .i64 4] w fun e w' => ∃ v, e = .returned v ∧ Kd.R (Kd.int .i64) 3 w' w.heap.size (fun _ => True) v [0, 0, 1] ∧ Below w.heap.size w w' := by
 have HB := Aside0.mk (Below.refl w.heap.size w)
 go_enter Tryz.func162, Tryz.ntmps162
 go_wp2_with ((with_reducible refine gate_dst (N := 13) rfl ?_); refine Kd.R_lit (Kd.int .i64) _ 3 ?hg (N := 13) ?hd (xs := [0, 0, 1]) (inner := [.int .i64 0, .int .i64 0, .int .i64 1]) (ok := fun _ => True) (okp := fun _ => True) ?hr ?hp (fun _ hk => hk) trivial (Below.refl _ _) (Nat.le_refl _) (by simp) ?_; (case hd => rfl); (case hg => rfl); (case hr => first | (go_simp; done) | (go_simp; rfl)); (case hp => exact (Reps.one (show Kd.M (Kd.int .i64) _ _ _ 0 [.int .i64 0] from rfl) (Reps.one (show Kd.M (Kd.int .i64) _ _ _ 0 [.int .i64 0] from rfl) (Reps.one (show Kd.M (Kd.int .i64) _ _ _ 1 [.int .i64 1] from rfl) (Reps.none _ _))))); intro v w4 ho hb hg_ hnew_; clear hg_ hnew_; have HO := Aside0.mk ho; have HN := Aside0.mk hb; clear ho hb)
 go_ret
 exact ⟨_, rfl, Kd.R_lower HO.out (below_size (below_alloc HB.out _)), below_step (below_alloc HB.out _) HN.out⟩
theorem encNum5 (w : World) : Calls Tryz.prog 162 #[.agg #[], .int .i64 5] w fun e w' => ∃ v, e = .returned v ∧ Kd.R (Kd.int .i64) 3 w' w.heap.size (fun _ => True) v [1, 0, 1] ∧ Below w.heap.size w w' := by
 have HB := Aside0.mk (Below.refl w.heap.size w)
 go_enter Tryz.func162, Tryz.ntmps162
 go_wp2_with ((with_reducible refine gate_dst (N := 13) rfl ?_); refine Kd.R_lit (Kd.int .i64) _ 3 ?hg (N := 13) ?hd (xs := [1, 0, 1]) (inner := [.int .i64 1, .int .i64 0, .int .i64 1]) (ok := fun _ => True) (okp := fun _ => True) ?hr ?hp (fun _ hk => hk) trivial (Below.refl _ _) (Nat.le_refl _) (by simp) ?_; (case hd => rfl); (case hg => rfl); (case hr => first | (go_simp; done) | (go_simp; rfl)); (case hp => exact (Reps.one (show Kd.M (Kd.int .i64) _ _ _ 1 [.int .i64 1] from rfl) (Reps.one (show Kd.M (Kd.int .i64) _ _ _ 0 [.int .i64 0] from rfl) (Reps.one (show Kd.M (Kd.int .i64) _ _ _ 1 [.int .i64 1] from rfl) (Reps.none _ _))))); intro v w4 ho hb hg_ hnew_; clear hg_ hnew_; have HO := Aside0.mk ho; have HN := Aside0.mk hb; clear ho hb)
 go_ret
 exact ⟨_, rfl, Kd.R_lower HO.out (below_size (below_alloc HB.out _)), below_step (below_alloc HB.out _) HN.out⟩
theorem encNum6 (w : World) : Calls Tryz.prog 162 #[.agg #[], .int .i64 6] w fun e w' => ∃ v, e = .returned v ∧ Kd.R (Kd.int .i64) 3 w' w.heap.size (fun _ => True) v [0, 1, 1] ∧ Below w.heap.size w w' := by
 have HB := Aside0.mk (Below.refl w.heap.size w)
 go_enter Tryz.func162, Tryz.ntmps162
 go_wp2_with ((with_reducible refine gate_dst (N := 13) rfl ?_); refine Kd.R_lit (Kd.int .i64) _ 3 ?hg (N := 13) ?hd (xs := [0, 1, 1]) (inner := [.int .i64 0, .int .i64 1, .int .i64 1]) (ok := fun _ => True) (okp := fun _ => True) ?hr ?hp (fun _ hk => hk) trivial (Below.refl _ _) (Nat.le_refl _) (by simp) ?_; (case hd => rfl); (case hg => rfl); (case hr => first | (go_simp; done) | (go_simp; rfl)); (case hp => exact (Reps.one (show Kd.M (Kd.int .i64) _ _ _ 0 [.int .i64 0] from rfl) (Reps.one (show Kd.M (Kd.int .i64) _ _ _ 1 [.int .i64 1] from rfl) (Reps.one (show Kd.M (Kd.int .i64) _ _ _ 1 [.int .i64 1] from rfl) (Reps.none _ _))))); intro v w4 ho hb hg_ hnew_; clear hg_ hnew_; have HO := Aside0.mk ho; have HN := Aside0.mk hb; clear ho hb)
 go_ret
 exact ⟨_, rfl, Kd.R_lower HO.out (below_size (below_alloc HB.out _)), below_step (below_alloc HB.out _) HN.out⟩
theorem encNum7 (w : World) : Calls Tryz.prog 162 #[.agg #[], .int .i64 7] w fun e w' => ∃ v, e = .returned v ∧ Kd.R (Kd.int .i64) 3 w' w.heap.size (fun _ => True) v [1, 1, 1] ∧ Below w.heap.size w w' := by
 have HB := Aside0.mk (Below.refl w.heap.size w)
 go_enter Tryz.func162, Tryz.ntmps162
 go_wp2_with ((with_reducible refine gate_dst (N := 13) rfl ?_); refine Kd.R_lit (Kd.int .i64) _ 3 ?hg (N := 13) ?hd (xs := [1, 1, 1]) (inner := [.int .i64 1, .int .i64 1, .int .i64 1]) (ok := fun _ => True) (okp := fun _ => True) ?hr ?hp (fun _ hk => hk) trivial (Below.refl _ _) (Nat.le_refl _) (by simp) ?_; (case hd => rfl); (case hg => rfl); (case hr => first | (go_simp; done) | (go_simp; rfl)); (case hp => exact (Reps.one (show Kd.M (Kd.int .i64) _ _ _ 1 [.int .i64 1] from rfl) (Reps.one (show Kd.M (Kd.int .i64) _ _ _ 1 [.int .i64 1] from rfl) (Reps.one (show Kd.M (Kd.int .i64) _ _ _ 1 [.int .i64 1] from rfl) (Reps.none _ _))))); intro v w4 ho hb hg_ hnew_; clear hg_ hnew_; have HO := Aside0.mk ho; have HN := Aside0.mk hb; clear ho hb)
 go_ret
 exact ⟨_, rfl, Kd.R_lower HO.out (below_size (below_alloc HB.out _)), below_step (below_alloc HB.out _) HN.out⟩
theorem encNum (b : Int) (h : 0 ≤ b ∧ b ≤ 7) (w : World) : Calls Tryz.prog 162 #[.agg #[], .int .i64 b] w fun e w' => ∃ v, e = .returned v ∧ Kd.R (Kd.int .i64) 3 w' w.heap.size (fun _ => True) v [b % 2, b / 2 % 2, b / 4 % 2] ∧ Below w.heap.size w w' := by
 have hc : b = 0 ∨ b = 1 ∨ b = 2 ∨ b = 3 ∨ b = 4 ∨ b = 5 ∨ b = 6 ∨ b = 7 := by omega
 rcases hc with rfl | rfl | rfl | rfl | rfl | rfl | rfl | rfl
 ·exact encNum0 w
 ·exact encNum1 w
 ·exact encNum2 w
 ·exact encNum3 w
 ·exact encNum4 w
 ·exact encNum5 w
 ·exact encNum6 w
 ·exact encNum7 w
theorem metNum (w : World) : (method 297 105 (.agg #[]) "loop.example/scrutineer/impl.encode").run Tryz.prog w = .ok (162, .agg #[]) w := by kernel_rfl
theorem numMeasure_values.calls (w : World) : Calls Tryz.prog 164 #[.agg #[]] w fun e w' => e = .returned (.int .i64 8) ∧ w.alloc (.cells #[] 105) = w' := by
 go_enter Tryz.func164, Tryz.ntmps164
 go_wp2
 go_ret
 exact ⟨rfl, rfl⟩
theorem numMeasure_values.meth (w : World) : (method 297 105 (.agg #[]) "loop.example/scrutineer/impl.values").run Tryz.prog w = .ok (164, .agg #[]) w := by kernel_rfl
def mVals (kind : Int) : Int := if kind = 1 then 2 else if kind = 2 then 4 else if kind = 3 then 8 else 0
def impl_TypeMake.f (a0 a1 : Int) : Option (List Int × Bool) := some (if kOk a0 = true then (if 0 ≤ a1 ∧ a1 < mVals a0 then (encV a0 a1, true) else ([], false)) else ([], false))
theorem within_t (a b c : Int) (h1 : b ≤ a) (h2 : a ≤ c) : impl_within.f a b c = some true := by unfold impl_within.f; rw [if_pos h1, decide_eq_true h2]
theorem within_n (a b c : Int) (h : ¬ (b ≤ a ∧ a ≤ c)) : impl_within.f a b c = some false := by
 unfold impl_within.f
 by_cases h1 : a ≥ b
 ·rw [if_pos h1, decide_eq_false (fun h2 => h ⟨h1, h2⟩)]
 ·rw [if_neg h1]
set_option maxHeartbeats 1000000 in
set_option maxRecDepth 100000 in
theorem makeBit (b : Int) (h : 0 ≤ b ∧ b < mVals 1) (w : World) : Calls Tryz.prog 19 #[.int .i64 1, .int .i64 b] w fun e w' => ∃ v0_ : Value, e = .returned (.tuple #[v0_, .bool true]) ∧ Kd.R (Kd.int .i64) 3 w' w.heap.size (fun _ => True) v0_ (encV 1 b) ∧ Below w.heap.size w w' := by
 have hv : b < 2 := h.2
 have HB := Aside0.mk (Below.refl w.heap.size w)
 have hm := bitMeasure_values.meth
 have hm2 := metBit
 have hw := within_t b 0 1 h.1 (by omega)
 have HH := Aside0.mk h
 have HV := Aside0.mk hv
 have HW := Aside0.mk hw
 clear h hv hw
 go_enter Tryz.func19, Tryz.ntmps19
 go_wp2_with (first | (go_at_call 54; refine (measureOf.c1 _).mono ?_; rintro e w' ⟨rfl, rfl⟩) | (go_at_call 158; refine (bitMeasure_values.calls _).mono ?_; rintro e w' ⟨rfl, rfl⟩) | (go_at_call 55; (with_reducible refine (impl_within.calls b 0 1 true _ HW.out).mono ?_); rintro e w' ⟨rfl, ⟨nd, rfl⟩⟩) | (go_at_call 156; refine (encBit b _).mono ?_; rintro e w5 ⟨v5, rfl, ho, hb⟩; have HO := Aside0.mk ho; have HN := Aside0.mk hb; clear ho hb))
 go_ret2
 exact ⟨_, rfl, Kd.R_lower HO.out (below_size (pw_below_drewN (below_alloc HB.out _) _)), below_step (pw_below_drewN (below_alloc HB.out _) _) HN.out⟩
set_option maxHeartbeats 1000000 in
set_option maxRecDepth 100000 in
theorem failBit (b : Int) (h : ¬ (0 ≤ b ∧ b < mVals 1)) (w : World) : Calls Tryz.prog 19 #[.int .i64 1, .int .i64 b] w fun e w' => e = .returned (.tuple #[.slice none 0 0, .bool false]) ∧ Below w.heap.size w w' := by
 have HB := Aside0.mk (Below.refl w.heap.size w)
 have hm := bitMeasure_values.meth
 have HW := Aside0.mk (within_n b 0 1 (fun x => h ⟨x.1, show b < 2 by omega⟩))
 clear h
 go_enter Tryz.func19, Tryz.ntmps19
 go_wp2_with (first | (go_at_call 54; refine (measureOf.c1 _).mono ?_; rintro e w' ⟨rfl, rfl⟩) | (go_at_call 158; refine (bitMeasure_values.calls _).mono ?_; rintro e w' ⟨rfl, rfl⟩) | (go_at_call 55; (with_reducible refine (impl_within.calls b 0 1 false _ HW.out).mono ?_); rintro e w' ⟨rfl, ⟨nd, rfl⟩⟩))
 go_ret2
 exact ⟨rfl, pw_below_drewN (below_alloc HB.out _) _⟩
set_option maxHeartbeats 1000000 in
set_option maxRecDepth 100000 in
theorem makePick (b : Int) (h : 0 ≤ b ∧ b < mVals 2) (w : World) : Calls Tryz.prog 19 #[.int .i64 2, .int .i64 b] w fun e w' => ∃ v0_ : Value, e = .returned (.tuple #[v0_, .bool true]) ∧ Kd.R (Kd.int .i64) 3 w' w.heap.size (fun _ => True) v0_ (encV 2 b) ∧ Below w.heap.size w w' := by
 have hv : b < 4 := h.2
 have HB := Aside0.mk (Below.refl w.heap.size w)
 have hm := pickMeasure_values.meth
 have hm2 := metPick
 have hw := within_t b 0 3 h.1 (by omega)
 have HH := Aside0.mk h
 have HV := Aside0.mk hv
 have HW := Aside0.mk hw
 clear h hv hw
 go_enter Tryz.func19, Tryz.ntmps19
 go_wp2_with (first | (go_at_call 54; refine (measureOf.c2 _).mono ?_; rintro e w' ⟨rfl, rfl⟩) | (go_at_call 161; refine (pickMeasure_values.calls _).mono ?_; rintro e w' ⟨rfl, rfl⟩) | (go_at_call 55; (with_reducible refine (impl_within.calls b 0 3 true _ HW.out).mono ?_); rintro e w' ⟨rfl, ⟨nd, rfl⟩⟩) | (go_at_call 159; refine (encPick b HH.out.1 (by have := HV.out; omega) _).mono ?_; rintro e w5 ⟨v5, rfl, ho, hb⟩; have HO := Aside0.mk ho; have HN := Aside0.mk hb; clear ho hb))
 go_ret2
 exact ⟨_, rfl, Kd.R_lower HO.out (below_size (pw_below_drewN (below_alloc HB.out _) _)), below_step (pw_below_drewN (below_alloc HB.out _) _) HN.out⟩
set_option maxHeartbeats 1000000 in
set_option maxRecDepth 100000 in
theorem failPick (b : Int) (h : ¬ (0 ≤ b ∧ b < mVals 2)) (w : World) : Calls Tryz.prog 19 #[.int .i64 2, .int .i64 b] w fun e w' => e = .returned (.tuple #[.slice none 0 0, .bool false]) ∧ Below w.heap.size w w' := by
 have HB := Aside0.mk (Below.refl w.heap.size w)
 have hm := pickMeasure_values.meth
 have HW := Aside0.mk (within_n b 0 3 (fun x => h ⟨x.1, show b < 4 by omega⟩))
 clear h
 go_enter Tryz.func19, Tryz.ntmps19
 go_wp2_with (first | (go_at_call 54; refine (measureOf.c2 _).mono ?_; rintro e w' ⟨rfl, rfl⟩) | (go_at_call 161; refine (pickMeasure_values.calls _).mono ?_; rintro e w' ⟨rfl, rfl⟩) | (go_at_call 55; (with_reducible refine (impl_within.calls b 0 3 false _ HW.out).mono ?_); rintro e w' ⟨rfl, ⟨nd, rfl⟩⟩))
 go_ret2
 exact ⟨rfl, pw_below_drewN (below_alloc HB.out _) _⟩
set_option maxHeartbeats 1000000 in
set_option maxRecDepth 100000 in
theorem makeNum (b : Int) (h : 0 ≤ b ∧ b < mVals 3) (w : World) : Calls Tryz.prog 19 #[.int .i64 3, .int .i64 b] w fun e w' => ∃ v0_ : Value, e = .returned (.tuple #[v0_, .bool true]) ∧ Kd.R (Kd.int .i64) 3 w' w.heap.size (fun _ => True) v0_ (encV 3 b) ∧ Below w.heap.size w w' := by
 have hv : b < 8 := h.2
 have HB := Aside0.mk (Below.refl w.heap.size w)
 have hm := numMeasure_values.meth
 have hm2 := metNum
 have hw := within_t b 0 7 h.1 (by omega)
 have HH := Aside0.mk h
 have HV := Aside0.mk hv
 have HW := Aside0.mk hw
 clear h hv hw
 go_enter Tryz.func19, Tryz.ntmps19
 go_wp2_with (first | (go_at_call 54; refine (measureOf.c3 _).mono ?_; rintro e w' ⟨rfl, rfl⟩) | (go_at_call 164; refine (numMeasure_values.calls _).mono ?_; rintro e w' ⟨rfl, rfl⟩) | (go_at_call 55; (with_reducible refine (impl_within.calls b 0 7 true _ HW.out).mono ?_); rintro e w' ⟨rfl, ⟨nd, rfl⟩⟩) | (go_at_call 162; refine (encNum b ⟨HH.out.1, by have := HV.out; omega⟩ _).mono ?_; rintro e w5 ⟨v5, rfl, ho, hb⟩; have HO := Aside0.mk ho; have HN := Aside0.mk hb; clear ho hb))
 go_ret2
 exact ⟨_, rfl, Kd.R_lower HO.out (below_size (pw_below_drewN (below_alloc HB.out _) _)), below_step (pw_below_drewN (below_alloc HB.out _) _) HN.out⟩
set_option maxHeartbeats 1000000 in
set_option maxRecDepth 100000 in
theorem failNum (b : Int) (h : ¬ (0 ≤ b ∧ b < mVals 3)) (w : World) : Calls Tryz.prog 19 #[.int .i64 3, .int .i64 b] w fun e w' => e = .returned (.tuple #[.slice none 0 0, .bool false]) ∧ Below w.heap.size w w' := by
 have HB := Aside0.mk (Below.refl w.heap.size w)
 have hm := numMeasure_values.meth
 have HW := Aside0.mk (within_n b 0 7 (fun x => h ⟨x.1, show b < 8 by omega⟩))
 clear h
 go_enter Tryz.func19, Tryz.ntmps19
 go_wp2_with (first | (go_at_call 54; refine (measureOf.c3 _).mono ?_; rintro e w' ⟨rfl, rfl⟩) | (go_at_call 164; refine (numMeasure_values.calls _).mono ?_; rintro e w' ⟨rfl, rfl⟩) | (go_at_call 55; (with_reducible refine (impl_within.calls b 0 7 false _ HW.out).mono ?_); rintro e w' ⟨rfl, ⟨nd, rfl⟩⟩))
 go_ret2
 exact ⟨rfl, pw_below_drewN (below_alloc HB.out _) _⟩
theorem impl_TypeMake.calls (a0 a1 : Int) (r1 : List Int) (r2 : Bool) (w : World) (h : impl_TypeMake.f a0 a1 = some (r1, r2)) :
  Calls Tryz.prog 19 #[.int .i64 a0, .int .i64 a1] w fun e w' => ∃ v0_ : Value, e = .returned (.tuple #[v0_, .bool r2]) ∧ Kd.R (Kd.int .i64) 3 w' w.heap.size (fun _ => True) v0_ r1 ∧ Below w.heap.size w w' := by
 have h := Option.some.inj h
 by_cases h1 : a0 = 1
 ·subst h1
  rw [show kOk 1 = true from rfl, if_pos rfl] at h
  by_cases hv : 0 ≤ a1 ∧ a1 < mVals 1
  ·rw [if_pos hv] at h; cases h; exact makeBit a1 hv w
  ·rw [if_neg hv] at h; cases h
   exact (failBit a1 hv w).mono fun e w' x => ⟨_, x.1, Kd.R_nil _ _ _ _ _, x.2⟩
 by_cases h2 : a0 = 2
 ·subst h2
  rw [show kOk 2 = true from rfl, if_pos rfl] at h
  by_cases hv : 0 ≤ a1 ∧ a1 < mVals 2
  ·rw [if_pos hv] at h; cases h; exact makePick a1 hv w
  ·rw [if_neg hv] at h; cases h
   exact (failPick a1 hv w).mono fun e w' x => ⟨_, x.1, Kd.R_nil _ _ _ _ _, x.2⟩
 by_cases h3 : a0 = 3
 ·subst h3
  rw [show kOk 3 = true from rfl, if_pos rfl] at h
  by_cases hv : 0 ≤ a1 ∧ a1 < mVals 3
  ·rw [if_pos hv] at h; cases h; exact makeNum a1 hv w
  ·rw [if_neg hv] at h; cases h
   exact (failNum a1 hv w).mono fun e w' x => ⟨_, x.1, Kd.R_nil _ _ _ _ _, x.2⟩
 ·rw [show kOk a0 = false by simp [kOk, h1, h2, h3], if_neg (by simp)] at h
  cases h
  go_enter Tryz.func19, Tryz.ntmps19
  go_wp2_with (first | (go_at_call 54; refine (measureOf.c0 a0 _ h1 h2 h3).mono ?_; rintro e w' ⟨rfl, rfl⟩))
  go_ret2
  exact ⟨_, rfl, Kd.R_nil _ _ _ _ _, Below.refl _ _⟩
end Go.Proofs.YtlgbblaidohljaaGreatDoor.Zc
