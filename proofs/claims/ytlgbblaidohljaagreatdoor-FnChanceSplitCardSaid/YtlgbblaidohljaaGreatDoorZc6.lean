import Derived.Test.YtlgbblaidohljaaGreatDoorZ
import Derived.Test.YtlgbblaidohljaaGreatDoorZc0
import Derived.Test.YtlgbblaidohljaaGreatDoorZc1
namespace Go.Proofs.YtlgbblaidohljaaGreatDoor.Zc
open Go.RowKit Go.Proofs.YtlgbblaidohljaaGreatDoorU.PrintWords Go.Proofs.YtlgbblaidohljaaGreatDoorU.PrintLast Go.Proofs.YtlgbblaidohljaaGreatDoorU.PrintMore Go.Proofs.YtlgbblaidohljaaGreatDoor.Z
attribute [local go_sem] max2_int min2_int max_two min_two max_three min_three max_four min_four
set_option linter.unusedVariables false
set_option linter.unusedSimpArgs false
theorem c19x6 : Ent Tryz.prog 19 := ent Tryz.func19 (by kernel_rfl) rfl
def encV (kind val : Int) : List Int := if kind = 1 then [val] else if kind = 2 then [0, 0, 0, 0].set val.toNat 1 else [val % 2, val / 2 % 2, val / 4 % 2]
theorem encBit (b : Int) (w : World) : Calls Tryz.prog 156 #[.agg #[], .int .i64 b] w fun e w' => ∃ v, e = .returned v ∧ Kd.R (Kd.int .i64) 3 w' w.heap.size (fun _ => True) v [b] ∧ Below w.heap.size w w' := by
 have HB := Aside0.mk (Below.refl w.heap.size w)
 go_enter Tryz.func156, Tryz.ntmps156
 go_wp2_with ((with_reducible refine gate_dst (N := 6) rfl ?_); refine Kd.R_lit (Kd.int .i64) _ 3 ?hg (N := 6) ?hd (xs := [b]) (inner := [.int .i64 b]) (ok := fun _ => True) (okp := fun _ => True) ?hr ?hp (fun _ hk => hk) trivial (Below.refl _ _) (Nat.le_refl _) (by simp) ?_; (case hd => rfl); (case hg => rfl); (case hr => first | (go_simp; done) | (go_simp; rfl)); (case hp => exact (Reps.one (show Kd.M (Kd.int .i64) _ _ _ b [.int .i64 b] from rfl) (Reps.none _ _))); intro v w4 ho hb hg_ hnew_; clear hg_ hnew_; have HO := Aside0.mk ho; have HN := Aside0.mk hb; clear ho hb)
 go_ret
 exact ⟨_, rfl, Kd.R_lower HO.out (below_size (below_alloc HB.out _)), below_step (below_alloc HB.out _) HN.out⟩
theorem metBit (w : World) : (method 297 103 (.agg #[]) "loop.example/scrutineer/impl.encode").run Tryz.prog w = .ok (156, .agg #[]) w := by kernel_rfl
theorem bitMeasure_values.calls (w : World) : Calls Tryz.prog 158 #[.agg #[]] w fun e w' => e = .returned (.int .i64 2) ∧ w.alloc (.cells #[] 103) = w' := by
 go_enter Tryz.func158, Tryz.ntmps158
 go_wp2
 go_ret
 exact ⟨rfl, rfl⟩
theorem bitMeasure_values.meth (w : World) : (method 297 103 (.agg #[]) "loop.example/scrutineer/impl.values").run Tryz.prog w = .ok (158, .agg #[]) w := by kernel_rfl
set_option maxHeartbeats 1000000 in
set_option maxRecDepth 100000 in
theorem encPick (b : Int) (h0 : 0 ≤ b) (h3 : b ≤ 3) (w : World) : Calls Tryz.prog 159 #[.agg #[], .int .i64 b] w fun e w' => ∃ v, e = .returned v ∧ Kd.R (Kd.int .i64) 3 w' w.heap.size (fun _ => True) v ([0, 0, 0, 0].set b.toNat 1) ∧ Below w.heap.size w w' := by
 have HB := Aside0.mk (Below.refl w.heap.size w)
 obtain ⟨z, hz⟩ : ∃ z : List Int, z = [0, 0, 0, 0] := ⟨_, rfl⟩
 have q0 : b < (z.length : Int) := by rw [hz]; show b < 4; omega
 have lz : 0 < z.length := by rw [hz]; decide
 have HZ := Aside0.mk hz
 clear hz h3
 have H0 := Aside0.mk h0
 have Q0 := Aside0.mk q0
 clear h0 q0
 go_enter Tryz.func159, Tryz.ntmps159
 go_wp2_with (first | ((with_reducible refine gate_dst (N := 6) rfl ?_); refine Kd.R_make (Kd.int .i64) _ 3 rfl (N := 6) rfl 22 _ _ rfl 4 rfl rfl Tryz.underlying22 (.int .i64 0) 8 info3 rfl (by decide) (by omega) 0 (ok := fun _ => True) (okp := fun _ => True) rfl (fun _ hk => hk) trivial (by decide) (by decide) (Below.refl _ _) (Nat.le_refl _) ?_; intro v6 w4 ho hb hg_ hnew_; clear hg_ hnew_; have ho4 : Kd.R (Kd.int .i64) 3 w4 _ (fun _ => True) v6 [0, 0, 0, 0] := ho; rw [← HZ.out] at ho4; clear ho; have HO := Aside0.mk (Kd.R_lower ho4 (below_size (below_alloc HB.out _))); have HN := Aside0.mk (below_step (below_alloc HB.out _) hb); clear ho4 hb; obtain ⟨Ao, co, eo⟩ := Kd.R_slice HO.out; subst eo; obtain ⟨g1, c1, eo, gb, gl, cl, HG⟩ := Kd.R_form HO.out (by omega); (first | cases eo | (injection eo with ea_ en_ ec_; (first | subst ea_ | (injection ea_ with ea_; subst ea_)); subst ec_; clear en_)); have GB := Aside0.mk gb; clear gb gl HG; obtain ⟨hx0, hf0⟩ := Kd.R_celln 0 HO.out b H0.out Q0.out; have p0 := eq_true H0.out; have q0 := eq_true Q0.out; have HP := Kd.R_putg HO.out b 1) | ((with_reducible refine gate_store (t := 3) (p := 9) rfl ?_); refine store_event (t := 3) (p := 9) (v := ?vo) (w1 := (w4.setCell ⟨g1, b.toNat, none⟩ (.int .i64 1))) ?hg ?ho ?hn ?hr ?_; (case ho => rfl); (case hg => rfl); (case hn => rfl); (case hr => first | (go_simp; done) | (go_simp; rfl)); intro w5 hw; have HR := Aside0.mk (show Kd.R (Kd.int .i64) 3 w5 w.heap.size (fun _ => True) (.slice (some ⟨g1, 0, none⟩) z.length co) (z.set b.toNat 1) from by rw [hw]; exact HP.1); have HE := Aside0.mk (show Below w.heap.size w w5 from by rw [hw]; exact below_set HN.out GB.out); clear HP hw))
 go_ret
 exact ⟨_, rfl, HZ.out ▸ HR.out, HE.out⟩
theorem metPick (w : World) : (method 297 104 (.agg #[]) "loop.example/scrutineer/impl.encode").run Tryz.prog w = .ok (159, .agg #[]) w := by kernel_rfl
theorem pickMeasure_values.calls (w : World) : Calls Tryz.prog 161 #[.agg #[]] w fun e w' => e = .returned (.int .i64 4) ∧ w.alloc (.cells #[] 104) = w' := by
 go_enter Tryz.func161, Tryz.ntmps161
 go_wp2
 go_ret
 exact ⟨rfl, rfl⟩
theorem pickMeasure_values.meth (w : World) : (method 297 104 (.agg #[]) "loop.example/scrutineer/impl.values").run Tryz.prog w = .ok (161, .agg #[]) w := by kernel_rfl
theorem encNum0 (w : World) : Calls Tryz.prog 162 #[.agg #[], .int .i64 0] w fun e w' => ∃ v, e = .returned v ∧ Kd.R (Kd.int .i64) 3 w' w.heap.size (fun _ => True) v [0, 0, 0] ∧ Below w.heap.size w w' := by
 have HB := Aside0.mk (Below.refl w.heap.size w)
 go_enter Tryz.func162, Tryz.ntmps162
 go_wp2_with ((with_reducible refine gate_dst (N := 13) rfl ?_); refine Kd.R_lit (Kd.int .i64) _ 3 ?hg (N := 13) ?hd (xs := [0, 0, 0]) (inner := [.int .i64 0, .int .i64 0, .int .i64 0]) (ok := fun _ => True) (okp := fun _ => True) ?hr ?hp (fun _ hk => hk) trivial (Below.refl _ _) (Nat.le_refl _) (by simp) ?_; (case hd => rfl); (case hg => rfl); (case hr => first | (go_simp; done) | (go_simp; rfl)); (case hp => exact (Reps.one (show Kd.M (Kd.int .i64) _ _ _ 0 [.int .i64 0] from rfl) (Reps.one (show Kd.M (Kd.int .i64) _ _ _ 0 [.int .i64 0] from rfl) (Reps.one (show Kd.M (Kd.int .i64) _ _ _ 0 [.int .i64 0] from rfl) (Reps.none _ _))))); intro v w4 ho hb hg_ hnew_; clear hg_ hnew_; have HO := Aside0.mk ho; have HN := Aside0.mk hb; clear ho hb)
 go_ret
 exact ⟨_, rfl, Kd.R_lower HO.out (below_size (below_alloc HB.out _)), below_step (below_alloc HB.out _) HN.out⟩
theorem encNum1 (w : World) : Calls Tryz.prog 162 #[.agg #[], .int .i64 1] w fun e w' => ∃ v, e = .returned v ∧ Kd.R (Kd.int .i64) 3 w' w.heap.size (fun _ => True) v [1, 0, 0] ∧ Below w.heap.size w w' := by
 have HB := Aside0.mk (Below.refl w.heap.size w)
 go_enter Tryz.func162, Tryz.ntmps162
 go_wp2_with ((with_reducible refine gate_dst (N := 13) rfl ?_); refine Kd.R_lit (Kd.int .i64) _ 3 ?hg (N := 13) ?hd (xs := [1, 0, 0]) (inner := [.int .i64 1, .int .i64 0, .int .i64 0]) (ok := fun _ => True) (okp := fun _ => True) ?hr ?hp (fun _ hk => hk) trivial (Below.refl _ _) (Nat.le_refl _) (by simp) ?_; (case hd => rfl); (case hg => rfl); (case hr => first | (go_simp; done) | (go_simp; rfl)); (case hp => exact (Reps.one (show Kd.M (Kd.int .i64) _ _ _ 1 [.int .i64 1] from rfl) (Reps.one (show Kd.M (Kd.int .i64) _ _ _ 0 [.int .i64 0] from rfl) (Reps.one (show Kd.M (Kd.int .i64) _ _ _ 0 [.int .i64 0] from rfl) (Reps.none _ _))))); intro v w4 ho hb hg_ hnew_; clear hg_ hnew_; have HO := Aside0.mk ho; have HN := Aside0.mk hb; clear ho hb)
 go_ret
 exact ⟨_, rfl, Kd.R_lower HO.out (below_size (below_alloc HB.out _)), below_step (below_alloc HB.out _) HN.out⟩
theorem encNum2 (w : World) : Calls Tryz.prog 162 #[.agg #[], .int .i64 2] w fun e w' => ∃ v, e = .returned v ∧ Kd.R (Kd.int .i64) 3 w' w.heap.size (fun _ => True) v [0, 1, 0] ∧ Below w.heap.size w w' := by
 have HB := Aside0.mk (Below.refl w.heap.size w)
 go_enter Tryz.func162, Tryz.ntmps162
 go_wp2_with ((with_reducible refine gate_dst (N := 13) rfl ?_); refine Kd.R_lit (Kd.int .i64) _ 3 ?hg (N := 13) ?hd (xs := [0, 1, 0]) (inner := [.int .i64 0, .int .i64 1, .int .i64 0]) (ok := fun _ => True) (okp := fun _ => True) ?hr ?hp (fun _ hk => hk) trivial (Below.refl _ _) (Nat.le_refl _) (by simp) ?_; (case hd => rfl); (case hg => rfl); (case hr => first | (go_simp; done) | (go_simp; rfl)); (case hp => exact (Reps.one (show Kd.M (Kd.int .i64) _ _ _ 0 [.int .i64 0] from rfl) (Reps.one (show Kd.M (Kd.int .i64) _ _ _ 1 [.int .i64 1] from rfl) (Reps.one (show Kd.M (Kd.int .i64) _ _ _ 0 [.int .i64 0] from rfl) (Reps.none _ _))))); intro v w4 ho hb hg_ hnew_; clear hg_ hnew_; have HO := Aside0.mk ho; have HN := Aside0.mk hb; clear ho hb)
 go_ret
 exact ⟨_, rfl, Kd.R_lower HO.out (below_size (below_alloc HB.out _)), below_step (below_alloc HB.out _) HN.out⟩
theorem encNum3 (w : World) : Calls Tryz.prog 162 #[.agg #[], .int .i64 3] w fun e w' => ∃ v, e = .returned v ∧ Kd.R (Kd.int .i64) 3 w' w.heap.size (fun _ => True) v [1, 1, 0] ∧ Below w.heap.size w w' := by
 have HB := Aside0.mk (Below.refl w.heap.size w)
 go_enter Tryz.func162, Tryz.ntmps162
 go_wp2_with ((with_reducible refine gate_dst (N := 13) rfl ?_); refine Kd.R_lit (Kd.int .i64) _ 3 ?hg (N := 13) ?hd (xs := [1, 1, 0]) (inner := [.int .i64 1, .int .i64 1, .int .i64 0]) (ok := fun _ => True) (okp := fun _ => True) ?hr ?hp (fun _ hk => hk) trivial (Below.refl _ _) (Nat.le_refl _) (by simp) ?_; (case hd => rfl); (case hg => rfl); (case hr => first | (go_simp; done) | (go_simp; rfl)); (case hp => exact (Reps.one (show Kd.M (Kd.int .i64) _ _ _ 1 [.int .i64 1] from rfl) (Reps.one (show Kd.M (Kd.int .i64) _ _ _ 1 [.int .i64 1] from rfl) (Reps.one (show Kd.M (Kd.int .i64) _ _ _ 0 [.int .i64 0] from rfl) (Reps.none _ _))))); intro v w4 ho hb hg_ hnew_; clear hg_ hnew_; have HO := Aside0.mk ho; have HN := Aside0.mk hb; clear ho hb)
 go_ret
 exact ⟨_, rfl, Kd.R_lower HO.out (below_size (below_alloc HB.out _)), below_step (below_alloc HB.out _) HN.out⟩
theorem encNum4 (w : World) : Calls Tryz.prog 162 #[.agg #[], .int .i64 4] w fun e w' => ∃ v, e = .returned v ∧ Kd.R (Kd.int .i64) 3 w' w.heap.size (fun _ => True) v [0, 0, 1] ∧ Below w.heap.size w w' := by
 have HB := Aside0.mk (Below.refl w.heap.size w)
 go_enter Tryz.func162, Tryz.ntmps162
 go_wp2_with ((with_reducible refine gate_dst (N := 13) rfl ?_); refine Kd.R_lit (Kd.int .i64) _ 3 ?hg (N := 13) ?hd (xs := [0, 0, 1]) (inner := [.int .i64 0, .int .i64 0, .int .i64 1]) (ok := fun _ => True) (okp := fun _ => True) ?hr ?hp (fun _ hk => hk) trivial (Below.refl _ _) (Nat.le_refl _) (by simp) ?_; (case hd => rfl); (case hg => rfl); (case hr => first | (go_simp; done) | (go_simp; rfl)); (case hp => exact (Reps.one (show Kd.M (Kd.int .i64) _ _ _ 0 [.int .i64 0] from rfl) (Reps.one (show Kd.M (Kd.int .i64) _ _ _ 0 [.int .i64 0] from rfl) (Reps.one (show Kd.M (Kd.int .i64) _ _ _ 1 [.int .i64 1] from rfl) (Reps.none _ _))))); intro v w4 ho hb hg_ hnew_; clear hg_ hnew_; have HO := Aside0.mk ho; have HN := Aside0.mk hb; clear ho hb)
 go_ret
 exact ⟨_, rfl, Kd.R_lower HO.out (below_size (below_alloc HB.out _)), below_step (below_alloc HB.out _) HN.out⟩
theorem encNum5 (w : World) : Calls Tryz.prog 162 #[.agg #[], .int .i64 5] w fun e w' => ∃ v, e = .returned v ∧ Kd.R (Kd.int .i64) 3 w' w.heap.size (fun _ => True) v [1, 0, 1] ∧ Below w.heap.size w w' := by
 have HB := Aside0.mk (Below.refl w.heap.size w)
 go_enter Tryz.func162, Tryz.ntmps162
 go_wp2_with ((with_reducible refine gate_dst (N := 13) rfl ?_); refine Kd.R_lit (Kd.int .i64) _ 3 ?hg (N := 13) ?hd (xs := [1, 0, 1]) (inner := [.int .i64 1, .int .i64 0, .int .i64 1]) (ok := fun _ => True) (okp := fun _ => True) ?hr ?hp (fun _ hk => hk) trivial (Below.refl _ _) (Nat.le_refl _) (by simp) ?_; (case hd => rfl); (case hg => rfl); (case hr => first | (go_simp; done) | (go_simp; rfl)); (case hp => exact (Reps.one (show Kd.M (Kd.int .i64) _ _ _ 1 [.int .i64 1] from rfl) (Reps.one (show Kd.M (Kd.int .i64) _ _ _ 0 [.int .i64 0] from rfl) (Reps.one (show Kd.M (Kd.int .i64) _ _ _ 1 [.int .i64 1] from rfl) (Reps.none _ _))))); intro v w4 ho hb hg_ hnew_; clear hg_ hnew_; have HO := Aside0.mk ho; have HN := Aside0.mk hb; clear ho hb)
 go_ret
 exact ⟨_, rfl, Kd.R_lower HO.out (below_size (below_alloc HB.out _)), below_step (below_alloc HB.out _) HN.out⟩
theorem encNum6 (w : World) : Calls Tryz.prog 162 #[.agg #[], .int .i64 6] w fun e w' => ∃ v, e = .returned v ∧ Kd.R (Kd.int .i64) 3 w' w.heap.size (fun _ => True) v [0, 1, 1] ∧ Below w.heap.size w w' := by
 have HB := Aside0.mk (Below.refl w.heap.size w)
 go_enter Tryz.func162, Tryz.ntmps162
 go_wp2_with ((with_reducible refine gate_dst (N := 13) rfl ?_); refine Kd.R_lit (Kd.int .i64) _ 3 ?hg (N := 13) ?hd (xs := [0, 1, 1]) (inner := [.int .i64 0, .int .i64 1, .int .i64 1]) (ok := fun _ => True) (okp := fun _ => True) ?hr ?hp (fun _ hk => hk) trivial (Below.refl _ _) (Nat.le_refl _) (by simp) ?_; (case hd => rfl); (case hg => rfl); (case hr => first | (go_simp; done) | (go_simp; rfl)); (case hp => exact (Reps.one (show Kd.M (Kd.int .i64) _ _ _ 0 [.int .i64 0] from rfl) (Reps.one (show Kd.M (Kd.int .i64) _ _ _ 1 [.int .i64 1] from rfl) (Reps.one (show Kd.M (Kd.int .i64) _ _ _ 1 [.int .i64 1] from rfl) (Reps.none _ _))))); intro v w4 ho hb hg_ hnew_; clear hg_ hnew_; have HO := Aside0.mk ho; have HN := Aside0.mk hb; clear ho hb)
 go_ret
 exact ⟨_, rfl, Kd.R_lower HO.out (below_size (below_alloc HB.out _)), below_step (below_alloc HB.out _) HN.out⟩
theorem encNum7 (w : World) : Calls Tryz.prog 162 #[.agg #[], .int .i64 7] w fun e w' => ∃ v, e = .returned v ∧ Kd.R (Kd.int .i64) 3 w' w.heap.size (fun _ => True) v [1, 1, 1] ∧ Below w.heap.size w w' := by
 have HB := Aside0.mk (Below.refl w.heap.size w)
 go_enter Tryz.func162, Tryz.ntmps162
 go_wp2_with ((with_reducible refine gate_dst (N := 13) rfl ?_); refine Kd.R_lit (Kd.int .i64) _ 3 ?hg (N := 13) ?hd (xs := [1, 1, 1]) (inner := [.int .i64 1, .int .i64 1, .int .i64 1]) (ok := fun _ => True) (okp := fun _ => True) ?hr ?hp (fun _ hk => hk) trivial (Below.refl _ _) (Nat.le_refl _) (by simp) ?_; (case hd => rfl); (case hg => rfl); (case hr => first | (go_simp; done) | (go_simp; rfl)); (case hp => exact (Reps.one (show Kd.M (Kd.int .i64) _ _ _ 1 [.int .i64 1] from rfl) (Reps.one (show Kd.M (Kd.int .i64) _ _ _ 1 [.int .i64 1] from rfl) (Reps.one (show Kd.M (Kd.int .i64) _ _ _ 1 [.int .i64 1] from rfl) (Reps.none _ _))))); intro v w4 ho hb hg_ hnew_; clear hg_ hnew_; have HO := Aside0.mk ho; have HN := Aside0.mk hb; clear ho hb)
 go_ret
 exact ⟨_, rfl, Kd.R_lower HO.out (below_size (below_alloc HB.out _)), below_step (below_alloc HB.out _) HN.out⟩
theorem encNum (b : Int) (h : 0 ≤ b ∧ b ≤ 7) (w : World) : Calls Tryz.prog 162 #[.agg #[], .int .i64 b] w fun e w' => ∃ v, e = .returned v ∧ Kd.R (Kd.int .i64) 3 w' w.heap.size (fun _ => True) v [b % 2, b / 2 % 2, b / 4 % 2] ∧ Below w.heap.size w w' := by
 have hc : b = 0 ∨ b = 1 ∨ b = 2 ∨ b = 3 ∨ b = 4 ∨ b = 5 ∨ b = 6 ∨ b = 7 := by omega
 rcases hc with rfl | rfl | rfl | rfl | rfl | rfl | rfl | rfl
 ·exact encNum0 w
 ·exact encNum1 w
 ·exact encNum2 w
 ·exact encNum3 w
 ·exact encNum4 w
 ·exact encNum5 w
 ·exact encNum6 w
 ·exact encNum7 w
theorem metNum (w : World) : (method 297 105 (.agg #[]) "loop.example/scrutineer/impl.encode").run Tryz.prog w = .ok (162, .agg #[]) w := by kernel_rfl
theorem numMeasure_values.calls (w : World) : Calls Tryz.prog 164 #[.agg #[]] w fun e w' => e = .returned (.int .i64 8) ∧ w.alloc (.cells #[] 105) = w' := by
 go_enter Tryz.func164, Tryz.ntmps164
 go_wp2
 go_ret
 exact ⟨rfl, rfl⟩
theorem numMeasure_values.meth (w : World) : (method 297 105 (.agg #[]) "loop.example/scrutineer/impl.values").run Tryz.prog w = .ok (164, .agg #[]) w := by kernel_rfl
def mVals (kind : Int) : Int := if kind = 1 then 2 else if kind = 2 then 4 else if kind = 3 then 8 else 0
def impl_TypeMake.f (a0 a1 : Int) : Option (List Int × Bool) := some (if kOk a0 = true then (if 0 ≤ a1 ∧ a1 < mVals a0 then (encV a0 a1, true) else ([], false)) else ([], false))
theorem within_t (a b c : Int) (h1 : b ≤ a) (h2 : a ≤ c) : impl_within.f a b c = some true := by unfold impl_within.f; rw [if_pos h1, decide_eq_true h2]
theorem within_n (a b c : Int) (h : ¬ (b ≤ a ∧ a ≤ c)) : impl_within.f a b c = some false := by
 unfold impl_within.f
 by_cases h1 : a ≥ b
 ·rw [if_pos h1, decide_eq_false (fun h2 => h ⟨h1, h2⟩)]
 ·rw [if_neg h1]
set_option maxHeartbeats 1000000 in
set_option maxRecDepth 100000 in
theorem makeBit (b : Int) (h : 0 ≤ b ∧ b < mVals 1) (w : World) : Calls Tryz.prog 19 #[.int .i64 1, .int .i64 b] w fun e w' => ∃ v0_ : Value, e = .returned (.tuple #[v0_, .bool true]) ∧ Kd.R (Kd.int .i64) 3 w' w.heap.size (fun _ => True) v0_ (encV 1 b) ∧ Below w.heap.size w w' := by
 have hv : b < 2 := h.2
 have HB := Aside0.mk (Below.refl w.heap.size w)
 have hm := bitMeasure_values.meth
 have hm2 := metBit
 have hw := within_t b 0 1 h.1 (by omega)
 have HH := Aside0.mk h
 have HV := Aside0.mk hv
 have HW := Aside0.mk hw
 clear h hv hw
 go_enter Tryz.func19, Tryz.ntmps19
 go_wp2_with (first | (go_at_call 54; refine (measureOf.c1 _).mono ?_; rintro e w' ⟨rfl, rfl⟩) | (go_at_call 158; refine (bitMeasure_values.calls _).mono ?_; rintro e w' ⟨rfl, rfl⟩) | (go_at_call 55; (with_reducible refine (impl_within.calls b 0 1 true _ HW.out).mono ?_); rintro e w' ⟨rfl, ⟨nd, rfl⟩⟩) | (go_at_call 156; refine (encBit b _).mono ?_; rintro e w5 ⟨v5, rfl, ho, hb⟩; have HO := Aside0.mk ho; have HN := Aside0.mk hb; clear ho hb))
 go_ret2
 exact ⟨_, rfl, Kd.R_lower HO.out (below_size (pw_below_drewN (below_alloc HB.out _) _)), below_step (pw_below_drewN (below_alloc HB.out _) _) HN.out⟩
set_option maxHeartbeats 1000000 in
set_option maxRecDepth 100000 in
theorem failBit (b : Int) (h : ¬ (0 ≤ b ∧ b < mVals 1)) (w : World) : Calls Tryz.prog 19 #[.int .i64 1, .int .i64 b] w fun e w' => e = .returned (.tuple #[.slice none 0 0, .bool false]) ∧ Below w.heap.size w w' := by
 have HB := Aside0.mk (Below.refl w.heap.size w)
 have hm := bitMeasure_values.meth
 have HW := Aside0.mk (within_n b 0 1 (fun x => h ⟨x.1, show b < 2 by omega⟩))
 clear h
 go_enter Tryz.func19, Tryz.ntmps19
 go_wp2_with (first | (go_at_call 54; refine (measureOf.c1 _).mono ?_; rintro e w' ⟨rfl, rfl⟩) | (go_at_call 158; refine (bitMeasure_values.calls _).mono ?_; rintro e w' ⟨rfl, rfl⟩) | (go_at_call 55; (with_reducible refine (impl_within.calls b 0 1 false _ HW.out).mono ?_); rintro e w' ⟨rfl, ⟨nd, rfl⟩⟩))
 go_ret2
 exact ⟨rfl, pw_below_drewN (below_alloc HB.out _) _⟩
set_option maxHeartbeats 1000000 in
set_option maxRecDepth 100000 in
theorem makePick (b : Int) (h : 0 ≤ b ∧ b < mVals 2) (w : World) : Calls Tryz.prog 19 #[.int .i64 2, .int .i64 b] w fun e w' => ∃ v0_ : Value, e = .returned (.tuple #[v0_, .bool true]) ∧ Kd.R (Kd.int .i64) 3 w' w.heap.size (fun _ => True) v0_ (encV 2 b) ∧ Below w.heap.size w w' := by
 have hv : b < 4 := h.2
 have HB := Aside0.mk (Below.refl w.heap.size w)
 have hm := pickMeasure_values.meth
 have hm2 := metPick
 have hw := within_t b 0 3 h.1 (by omega)
 have HH := Aside0.mk h
 have HV := Aside0.mk hv
 have HW := Aside0.mk hw
 clear h hv hw
 go_enter Tryz.func19, Tryz.ntmps19
 go_wp2_with (first | (go_at_call 54; refine (measureOf.c2 _).mono ?_; rintro e w' ⟨rfl, rfl⟩) | (go_at_call 161; refine (pickMeasure_values.calls _).mono ?_; rintro e w' ⟨rfl, rfl⟩) | (go_at_call 55; (with_reducible refine (impl_within.calls b 0 3 true _ HW.out).mono ?_); rintro e w' ⟨rfl, ⟨nd, rfl⟩⟩) | (go_at_call 159; refine (encPick b HH.out.1 (by have := HV.out; omega) _).mono ?_; rintro e w5 ⟨v5, rfl, ho, hb⟩; have HO := Aside0.mk ho; have HN := Aside0.mk hb; clear ho hb))
 go_ret2
 exact ⟨_, rfl, Kd.R_lower HO.out (below_size (pw_below_drewN (below_alloc HB.out _) _)), below_step (pw_below_drewN (below_alloc HB.out _) _) HN.out⟩
set_option maxHeartbeats 1000000 in
set_option maxRecDepth 100000 in
theorem failPick (b : Int) (h : ¬ (0 ≤ b ∧ b < mVals 2)) (w : World) : Calls Tryz.prog 19 #[.int .i64 2, .int .i64 b] w fun e w' => e = .returned (.tuple #[.slice none 0 0, .bool false]) ∧ Below w.heap.size w w' := by
 have HB := Aside0.mk (Below.refl w.heap.size w)
 have hm := pickMeasure_values.meth
 have HW := Aside0.mk (within_n b 0 3 (fun x => h ⟨x.1, show b < 4 by omega⟩))
 clear h
 go_enter Tryz.func19, Tryz.ntmps19
 go_wp2_with (first | (go_at_call 54; refine (measureOf.c2 _).mono ?_; rintro e w' ⟨rfl, rfl⟩) | (go_at_call 161; refine (pickMeasure_values.calls _).mono ?_; rintro e w' ⟨rfl, rfl⟩) | (go_at_call 55; (with_reducible refine (impl_within.calls b 0 3 false _ HW.out).mono ?_); rintro e w' ⟨rfl, ⟨nd, rfl⟩⟩))
 go_ret2
 exact ⟨rfl, pw_below_drewN (below_alloc HB.out _) _⟩
set_option maxHeartbeats 1000000 in
set_option maxRecDepth 100000 in
theorem makeNum (b : Int) (h : 0 ≤ b ∧ b < mVals 3) (w : World) : Calls Tryz.prog 19 #[.int .i64 3, .int .i64 b] w fun e w' => ∃ v0_ : Value, e = .returned (.tuple #[v0_, .bool true]) ∧ Kd.R (Kd.int .i64) 3 w' w.heap.size (fun _ => True) v0_ (encV 3 b) ∧ Below w.heap.size w w' := by
 have hv : b < 8 := h.2
 have HB := Aside0.mk (Below.refl w.heap.size w)
 have hm := numMeasure_values.meth
 have hm2 := metNum
 have hw := within_t b 0 7 h.1 (by omega)
 have HH := Aside0.mk h
 have HV := Aside0.mk hv
 have HW := Aside0.mk hw
 clear h hv hw
 go_enter Tryz.func19, Tryz.ntmps19
 go_wp2_with (first | (go_at_call 54; refine (measureOf.c3 _).mono ?_; rintro e w' ⟨rfl, rfl⟩) | (go_at_call 164; refine (numMeasure_values.calls _).mono ?_; rintro e w' ⟨rfl, rfl⟩) | (go_at_call 55; (with_reducible refine (impl_within.calls b 0 7 true _ HW.out).mono ?_); rintro e w' ⟨rfl, ⟨nd, rfl⟩⟩) | (go_at_call 162; refine (encNum b ⟨HH.out.1, by have := HV.out; omega⟩ _).mono ?_; rintro e w5 ⟨v5, rfl, ho, hb⟩; have HO := Aside0.mk ho; have HN := Aside0.mk hb; clear ho hb))
 go_ret2
 exact ⟨_, rfl, Kd.R_lower HO.out (below_size (pw_below_drewN (below_alloc HB.out _) _)), below_step (pw_below_drewN (below_alloc HB.out _) _) HN.out⟩
set_option maxHeartbeats 1000000 in
set_option maxRecDepth 100000 in
theorem failNum (b : Int) (h : ¬ (0 ≤ b ∧ b < mVals 3)) (w : World) : Calls Tryz.prog 19 #[.int .i64 3, .int .i64 b] w fun e w' => e = .returned (.tuple #[.slice none 0 0, .bool false]) ∧ Below w.heap.size w w' := by
 have HB := Aside0.mk (Below.refl w.heap.size w)
 have hm := numMeasure_values.meth
 have HW := Aside0.mk (within_n b 0 7 (fun x => h ⟨x.1, show b < 8 by omega⟩))
 clear h
 go_enter Tryz.func19, Tryz.ntmps19
 go_wp2_with (first | (go_at_call 54; refine (measureOf.c3 _).mono ?_; rintro e w' ⟨rfl, rfl⟩) | (go_at_call 164; refine (numMeasure_values.calls _).mono ?_; rintro e w' ⟨rfl, rfl⟩) | (go_at_call 55; (with_reducible refine (impl_within.calls b 0 7 false _ HW.out).mono ?_); rintro e w' ⟨rfl, ⟨nd, rfl⟩⟩))
 go_ret2
 exact ⟨rfl, pw_below_drewN (below_alloc HB.out _) _⟩
theorem impl_TypeMake.calls (a0 a1 : Int) (r1 : List Int) (r2 : Bool) (w : World) (h : impl_TypeMake.f a0 a1 = some (r1, r2)) :
  Calls Tryz.prog 19 #[.int .i64 a0, .int .i64 a1] w fun e w' => ∃ v0_ : Value, e = .returned (.tuple #[v0_, .bool r2]) ∧ Kd.R (Kd.int .i64) 3 w' w.heap.size (fun _ => True) v0_ r1 ∧ Below w.heap.size w w' := by
 have h := Option.some.inj h
 by_cases h1 : a0 = 1
 ·subst h1
  rw [show kOk 1 = true from rfl, if_pos rfl] at h
  by_cases hv : 0 ≤ a1 ∧ a1 < mVals 1
  ·rw [if_pos hv] at h; cases h; exact makeBit a1 hv w
  ·rw [if_neg hv] at h; cases h
   exact (failBit a1 hv w).mono fun e w' x => ⟨_, x.1, Kd.R_nil _ _ _ _ _, x.2⟩
 by_cases h2 : a0 = 2
 ·subst h2
  rw [show kOk 2 = true from rfl, if_pos rfl] at h
  by_cases hv : 0 ≤ a1 ∧ a1 < mVals 2
  ·rw [if_pos hv] at h; cases h; exact makePick a1 hv w
  ·rw [if_neg hv] at h; cases h
   exact (failPick a1 hv w).mono fun e w' x => ⟨_, x.1, Kd.R_nil _ _ _ _ _, x.2⟩
 by_cases h3 : a0 = 3
 ·subst h3
  rw [show kOk 3 = true from rfl, if_pos rfl] at h
  by_cases hv : 0 ≤ a1 ∧ a1 < mVals 3
  ·rw [if_pos hv] at h; cases h; exact makeNum a1 hv w
  ·rw [if_neg hv] at h; cases h
   exact (failNum a1 hv w).mono fun e w' x => ⟨_, x.1, Kd.R_nil _ _ _ _ _, x.2⟩
 ·rw [show kOk a0 = false by simp [kOk, h1, h2, h3], if_neg (by simp)] at h
  cases h
  go_enter Tryz.func19, Tryz.ntmps19
  go_wp2_with (first | (go_at_call 54; refine (measureOf.c0 a0 _ h1 h2 h3).mono ?_; rintro e w' ⟨rfl, rfl⟩))
  go_ret2
  exact ⟨_, rfl, Kd.R_nil _ _ _ _ _, Below.refl _ _⟩
def slices_Equal_int_int.l0 : Nat → List Int → List Int → Int → Int → Option (Bool)
 | 0, _, _, _, _ => none
 | k + 1, x0, x1, x12, x13 => if x13 < x12 then (if 0 ≤ x13 then (if x13 < (x0.length : Int) then (if x13 < (x1.length : Int) then (if (rd x0 x13) = (rd x1 x13) then (slices_Equal_int_int.l0 k x0 x1 x12 (wrap64 (x13 + 1))) else (some false)) else (none)) else (none)) else (none)) else (some true)
def slices_Equal_int_int.f (k : Nat) (l0 : List Int) (l1 : List Int) : Option (Bool) := if (l0.length : Int) = (l1.length : Int) then (slices_Equal_int_int.l0 k l0 l1 (l0.length : Int) 0) else (some false)
set_option maxHeartbeats 8000000 in
set_option maxRecDepth 100000 in
theorem slices_Equal_int_int.calls (k : Nat) (A0 : Option Addr) (c0 : Nat) (l0 : List Int) (A1 : Option Addr) (c1 : Nat) (l1 : List Int) (r : Bool) (w : World) (hr0 : Kd.C (Kd.int .i64) w A0 l0.length l0) (hc0 : l0.length ≤ c0) (hr1 : Kd.C (Kd.int .i64) w A1 l1.length l1) (hc1 : l1.length ≤ c1) (h : slices_Equal_int_int.f k l0 l1 = some r) :
  Calls Tryz.prog 66 #[.slice A0 l0.length c0, .slice A1 l1.length c1] w fun e w' => e = .returned (.bool r) ∧ Drawn0 w w' := by
 have HR0 := Aside0.mk hr0
 have HC0 := Aside0.mk hc0
 clear hr0 hc0
 have HR1 := Aside0.mk hr1
 have HC1 := Aside0.mk hc1
 clear hr1 hc1
 have H := h
 unfold slices_Equal_int_int.f at H
 clear h
 by_cases c3 : (l0.length : Int) = (l1.length : Int)
 ·rw [if_pos c3] at H
  have c3b0 : ((l0.length : Int) == (l1.length : Int)) = true := beq_iff_eq.mpr c3
  have c3b1 : ((l0.length : Int) != (l1.length : Int)) = false := bne_eq_false_iff_eq.mpr c3
  have c3b2 : (l0.length == l1.length) = true := by first | simpa using c3 | (simp at c3 ⊢; omega)
  clear c3
  have H' := Aside0.mk H
  clear H
  go_enter Tryz.func66, Tryz.ntmps66
  go_wp2
  repeat (go_quiet (fail); try go_wp2)
  go_loopg [13] k (fun kq v13 w' => ∃ (x13_1 : Int), v13 = .int .i64 x13_1 ∧ Aside0 (slices_Equal_int_int.l0 kq l0 l1 (l0.length : Int) x13_1 = some r) ∧ Aside0 (kq ≤ k) ∧ Drawn0 w w')
  case atStart => exact ⟨(0), rfl, H', ⟨Nat.le_refl _⟩, by repeat (first | exact Drawn0.refl _ | apply Drawn0.step)⟩
  case round =>
   clear H'
   try clear c1
   try clear p2
   try clear c3
   try clear c3b0
   try clear c3b1
   try clear c3b2
   obtain ⟨x13_1, rfl, HA, HK1, ⟨m1, rfl⟩⟩ := hrel
   cases gk with
   | zero => exact absurd HA.out (by simp [slices_Equal_int_int.l0])
   | succ k1 =>
    have H := HA.out
    clear HA
    simp only [slices_Equal_int_int.l0] at H
    by_cases c4 : x13_1 < (l0.length : Int)
    ·rw [if_pos c4] at H
     have c4b0 : decide (x13_1 < (l0.length : Int)) = true := decide_eq_true c4
     clear c4
     by_cases c5 : 0 ≤ x13_1
     ·rw [if_pos c5] at H
      have c5b0 : decide (0 ≤ x13_1) = true := decide_eq_true c5
      clear c5
      by_cases c6 : x13_1 < (l0.length : Int)
      ·rw [if_pos c6] at H
       have c6b0 : decide (x13_1 < (l0.length : Int)) = true := decide_eq_true c6
       clear c6
       by_cases c7 : x13_1 < (l1.length : Int)
       ·rw [if_pos c7] at H
        have c7b0 : decide (x13_1 < (l1.length : Int)) = true := decide_eq_true c7
        clear c7
        by_cases c8 : (rd l0 x13_1) = (rd l1 x13_1)
        ·rw [if_pos c8] at H
         have c8b0 : ((rd l0 x13_1) == (rd l1 x13_1)) = true := beq_iff_eq.mpr c8
         have c8b1 : ((rd l0 x13_1) != (rd l1 x13_1)) = false := bne_eq_false_iff_eq.mpr c8
         clear c8
         have H' := Aside0.mk H
         clear H
         have p187 : 0 ≤ (x13_1 : Int) := of_decide_eq_true ‹_›
         have q187 : x13_1 < (l0.length : Int) := of_decide_eq_true ‹_›
         obtain ⟨ad187, e187, hx187_0⟩ := Kd.at_int HR0.out x13_1 p187 q187
         cases e187
         replace p187 := eq_true p187
         replace q187 := eq_true q187
         have p188 : 0 ≤ (x13_1 : Int) := of_decide_eq_true ‹_›
         have q188 : x13_1 < (l1.length : Int) := of_decide_eq_true ‹_›
         obtain ⟨ad188, e188, hx188_0⟩ := Kd.at_int HR1.out x13_1 p188 q188
         cases e188
         replace p188 := eq_true p188
         replace q188 := eq_true q188
         go_wp2
         repeat (go_quiet (fail); try go_wp2)
         go_roundg k1
         case measure => have := HK1.out; omega
         case rel => exact ⟨(wrap64 (x13_1 + 1)), rfl, H', ⟨by have := HK1.out; omega⟩, ⟨_, rfl⟩⟩
        ·rw [if_neg c8] at H
         have c8b0 : ((rd l0 x13_1) == (rd l1 x13_1)) = false := beq_eq_false_iff_ne.mpr c8
         have c8b1 : ((rd l0 x13_1) != (rd l1 x13_1)) = true := bne_iff_ne.mpr c8
         obtain rfl := Option.some.inj H
         have p187 : 0 ≤ (x13_1 : Int) := of_decide_eq_true ‹_›
         have q187 : x13_1 < (l0.length : Int) := of_decide_eq_true ‹_›
         obtain ⟨ad187, e187, hx187_0⟩ := Kd.at_int HR0.out x13_1 p187 q187
         cases e187
         replace p187 := eq_true p187
         replace q187 := eq_true q187
         have p188 : 0 ≤ (x13_1 : Int) := of_decide_eq_true ‹_›
         have q188 : x13_1 < (l1.length : Int) := of_decide_eq_true ‹_›
         obtain ⟨ad188, e188, hx188_0⟩ := Kd.at_int HR1.out x13_1 p188 q188
         cases e188
         replace p188 := eq_true p188
         replace q188 := eq_true q188
         go_wp2
         repeat (go_quiet (fail); try go_wp2)
         go_ret
         exact ⟨rfl, by repeat (first | exact Drawn0.refl _ | apply Drawn0.step)⟩
       ·rw [if_neg c7] at H
        exact absurd H (by simp)
      ·rw [if_neg c6] at H
       exact absurd H (by simp)
     ·rw [if_neg c5] at H
      exact absurd H (by simp)
    ·rw [if_neg c4] at H
     have c4b0 : decide (x13_1 < (l0.length : Int)) = false := decide_eq_false c4
     clear c4
     obtain rfl := Option.some.inj H
     go_wp2
     repeat (go_quiet (fail); try go_wp2)
     go_ret
     exact ⟨rfl, ⟨_, rfl⟩⟩
 ·rw [if_neg c3] at H
  have c3b0 : ((l0.length : Int) == (l1.length : Int)) = false := beq_eq_false_iff_ne.mpr c3
  have c3b1 : ((l0.length : Int) != (l1.length : Int)) = true := bne_iff_ne.mpr c3
  have c3b2 : (l0.length == l1.length) = false := by first | simpa using c3 | (simp at c3 ⊢; omega)
  obtain rfl := Option.some.inj H
  go_enter Tryz.func66, Tryz.ntmps66
  go_wp2
  repeat (go_quiet (fail); try go_wp2)
  go_ret
  exact ⟨rfl, by repeat (first | exact Drawn0.refl _ | apply Drawn0.step)⟩
def impl_TypeVal.l0 : Nat → Int → List Int → Int → Option (Int × Bool)
 | 0, _, _, _ => none
 | k + 1, x0, x1, x6 => (impl_TypeMake.f x0 x6).bind fun bt189 => (if bt189.2 = true then ((slices_Equal_int_int.f k bt189.1 x1).bind fun t193 => (if t193 = true then (some (x6, true)) else (impl_TypeVal.l0 k x0 x1 (wrap64 (x6 + 1))))) else (some (0, false)))
def impl_TypeVal.f (k : Nat) (a0 : Int) (l1 : List Int) : Option (Int × Bool) := impl_TypeVal.l0 k a0 l1 0
set_option maxHeartbeats 8000000 in
set_option maxRecDepth 100000 in
theorem impl_TypeVal.calls (k : Nat) (a0 : Int) (A1 : Option Addr) (c1 : Nat) (l1 : List Int) (r1 : Int) (r2 : Bool) (w : World) (hr1 : Kd.C (Kd.int .i64) w A1 l1.length l1) (hc1 : l1.length ≤ c1) (h : impl_TypeVal.f k a0 l1 = some (r1, r2)) :
  Calls Tryz.prog 101 #[.int .i64 a0, .slice A1 l1.length c1] w fun e w' => e = .returned (.tuple #[.int .i64 r1, .bool r2]) ∧ Below w.heap.size w w' := by
 have HR1 := Aside0.mk hr1
 have HC1 := Aside0.mk hc1
 clear hr1 hc1
 have HB := Aside0.mk (Below.refl w.heap.size w)
 have H : (impl_TypeVal.l0 k a0 l1 0) = some (r1, r2) := h
 clear h
 have H' := Aside0.mk H
 clear H
 go_enter Tryz.func101, Tryz.ntmps101
 go_wp2
 go_loopg [6] k (fun kq v6 w' => ∃ (x6_1 : Int), v6 = .int .i64 x6_1 ∧ Aside0 (impl_TypeVal.l0 kq a0 l1 x6_1 = some (r1, r2)) ∧ Aside0 (kq ≤ k) ∧ Aside0 (Below w.heap.size w w'))
 case atStart => exact ⟨(0), rfl, H', ⟨Nat.le_refl _⟩, ⟨by repeat (with_reducible first | exact HB.out | apply below_alloc | apply pw_below_drewN | apply below_drew1)⟩⟩
 case round =>
  clear H'
  try clear c1
  try clear p2
  obtain ⟨x6_1, rfl, HA, HK1, HB⟩ := hrel
  cases gk with
  | zero => exact absurd HA.out (by simp [impl_TypeVal.l0])
  | succ k1 =>
   have H := HA.out
   clear HA
   simp only [impl_TypeVal.l0] at H
   replace H := bnd H
   obtain ⟨⟨t189, t190⟩, A3, H⟩ := H
   dsimp only at H
   by_cases c4 : t190 = true
   ·subst c4
    rw [if_pos rfl] at H
    replace H := bnd H
    obtain ⟨t193, A5, H⟩ := H
    by_cases c6 : t193 = true
    ·subst c6
     rw [if_pos rfl] at H
     simp only [Option.some.injEq, Prod.mk.injEq] at H
     obtain ⟨rfl, rfl⟩ := H
     go_wp2_with (first | (refine gsC c19x6 (impl_TypeMake.calls a0 x6_1 t189 true _ A3.out) ?_; rintro e w7 ⟨v191, rfl, ho0, hb⟩; refine ⟨_, rfl, ?_⟩; replace HO192 := Aside0.mk (Kd.R_lower ho0 (below_size (by repeat (with_reducible first | exact HB.out | apply below_alloc | apply pw_below_drewN | apply below_drew1)))); replace HB := Aside0.mk (below_step (by repeat (with_reducible first | exact HB.out | apply below_alloc | apply pw_below_drewN | apply below_drew1)) hb); (try clear hb); (try clear hb2); (try clear hk); (try clear hi); (try clear ho0); obtain ⟨Ao8, co8, eo8⟩ := Kd.R_slice HO192.out; subst eo8) | ((with_reducible refine gate_callee (f := 66) rfl ?_); refine goesL_ (some 21) rfl rfl Tryz.func66 (by kernel_rfl) rfl #[.slice Ao8 t189.length co8, .slice A1 l1.length c1] rfl (by (try simp only [List.map_toArray, List.map_cons, List.map_nil]); first | done | rfl | (simp only [List.length_drop, List.length_take]; rfl)) ?_; (with_reducible refine (slices_Equal_int_int.calls k1 _ _ t189 _ _ l1 true _ ?side1 ?side2 ?side3 ?side4 A5.out).mono ?_); (case side1 => exact (Kd.R_reads' HO192.out).2.2); (case side2 => exact (Kd.R_reads' HO192.out).2.1); (case side3 => exact (Kd.C_below HR1.out HB.out)); (case side4 => exact HC1.out); rintro e w' ⟨rfl, ⟨nd, rfl⟩⟩; refine ⟨_, rfl, ?_⟩))
     go_ret2
     exact ⟨rfl, by repeat (with_reducible first | exact HB.out | apply below_alloc | apply pw_below_drewN | apply below_drew1)⟩
    ·replace c6 := Bool.eq_false_iff.mpr c6
     subst c6
     rw [if_neg (show ¬ (false = true) by decide)] at H
     have H' := Aside0.mk H
     clear H
     go_wp2_with (first | (refine gsC c19x6 (impl_TypeMake.calls a0 x6_1 t189 true _ A3.out) ?_; rintro e w9 ⟨v191, rfl, ho0, hb⟩; refine ⟨_, rfl, ?_⟩; replace HO192 := Aside0.mk (Kd.R_lower ho0 (below_size (by repeat (with_reducible first | exact HB.out | apply below_alloc | apply pw_below_drewN | apply below_drew1)))); replace HB := Aside0.mk (below_step (by repeat (with_reducible first | exact HB.out | apply below_alloc | apply pw_below_drewN | apply below_drew1)) hb); (try clear hb); (try clear hb2); (try clear hk); (try clear hi); (try clear ho0); obtain ⟨Ao10, co10, eo10⟩ := Kd.R_slice HO192.out; subst eo10) | ((with_reducible refine gate_callee (f := 66) rfl ?_); refine goesL_ (some 21) rfl rfl Tryz.func66 (by kernel_rfl) rfl #[.slice Ao10 t189.length co10, .slice A1 l1.length c1] rfl (by (try simp only [List.map_toArray, List.map_cons, List.map_nil]); first | done | rfl | (simp only [List.length_drop, List.length_take]; rfl)) ?_; (with_reducible refine (slices_Equal_int_int.calls k1 _ _ t189 _ _ l1 false _ ?side1 ?side2 ?side3 ?side4 A5.out).mono ?_); (case side1 => exact (Kd.R_reads' HO192.out).2.2); (case side2 => exact (Kd.R_reads' HO192.out).2.1); (case side3 => exact (Kd.C_below HR1.out HB.out)); (case side4 => exact HC1.out); rintro e w' ⟨rfl, ⟨nd, rfl⟩⟩; refine ⟨_, rfl, ?_⟩))
     go_roundg k1
     case measure => have := HK1.out; omega
     case rel => exact ⟨(wrap64 (x6_1 + 1)), rfl, H', ⟨by have := HK1.out; omega⟩, ⟨by repeat (with_reducible first | exact HB.out | apply below_alloc | apply pw_below_drewN | apply below_drew1)⟩⟩
   ·replace c4 := Bool.eq_false_iff.mpr c4
    subst c4
    rw [if_neg (show ¬ (false = true) by decide)] at H
    simp only [Option.some.injEq, Prod.mk.injEq] at H
    obtain ⟨rfl, rfl⟩ := H
    go_wp2_with (first | (refine gsC c19x6 (impl_TypeMake.calls a0 x6_1 t189 false _ A3.out) ?_; rintro e w11 ⟨v191, rfl, ho0, hb⟩; refine ⟨_, rfl, ?_⟩; replace HO192 := Aside0.mk (Kd.R_lower ho0 (below_size (by repeat (with_reducible first | exact HB.out | apply below_alloc | apply pw_below_drewN | apply below_drew1)))); replace HB := Aside0.mk (below_step (by repeat (with_reducible first | exact HB.out | apply below_alloc | apply pw_below_drewN | apply below_drew1)) hb); clear hb ho0))
    go_ret2
    exact ⟨rfl, by repeat (with_reducible first | exact HB.out | apply below_alloc | apply pw_below_drewN | apply below_drew1)⟩
def impl_TypeOk.f (k : Nat) (a0 : Int) (l1 : List Int) : Option (Bool) := (impl_TypeVal.f k a0 l1).bind fun bt194 => (some bt194.2)
set_option maxHeartbeats 8000000 in
set_option maxRecDepth 100000 in
theorem impl_TypeOk.calls (k : Nat) (a0 : Int) (A1 : Option Addr) (c1 : Nat) (l1 : List Int) (r : Bool) (w : World) (hr1 : Kd.C (Kd.int .i64) w A1 l1.length l1) (hc1 : l1.length ≤ c1) (h : impl_TypeOk.f k a0 l1 = some r) :
  Calls Tryz.prog 65 #[.int .i64 a0, .slice A1 l1.length c1] w fun e w' => e = .returned (.bool r) ∧ Below w.heap.size w w' := by
 have HR1 := Aside0.mk hr1
 have HC1 := Aside0.mk hc1
 clear hr1 hc1
 have HB := Aside0.mk (Below.refl w.heap.size w)
 have H : ((impl_TypeVal.f k a0 l1).bind fun bt194 => (some bt194.2)) = some r := h
 clear h
 replace H := bnd H
 obtain ⟨⟨t194, t195⟩, A3, H⟩ := H
 dsimp only at H
 obtain rfl := Option.some.inj H
 go_enter Tryz.func65, Tryz.ntmps65
 go_wp2_with (first | ((with_reducible refine gate_callee (f := 101) rfl ?_); refine goesL_ (some 10) rfl rfl Tryz.func101 (by kernel_rfl) rfl #[.int .i64 a0, .slice A1 l1.length c1] rfl (by (try simp only [List.map_toArray, List.map_cons, List.map_nil]); first | done | rfl | (simp only [List.length_drop, List.length_take]; rfl)) ?_; (with_reducible refine (impl_TypeVal.calls k a0 _ _ l1 t194 t195 _ ?side1 ?side2 A3.out).mono ?_); (case side1 => exact HR1.out); (case side2 => exact HC1.out); rintro e w4 ⟨rfl, hb⟩; refine ⟨_, rfl, ?_⟩; replace HB := Aside0.mk (below_step (by repeat (with_reducible first | exact HB.out | apply below_alloc | apply pw_below_drewN | apply below_drew1)) hb); clear hb))
 go_ret
 exact ⟨rfl, by repeat (with_reducible first | exact HB.out | apply below_alloc | apply pw_below_drewN | apply below_drew1)⟩
end Go.Proofs.YtlgbblaidohljaaGreatDoor.Zc
