import Derived.Test.YtlgbblaidohljaaGreatDoorZc0
namespace Go.Proofs.YtlgbblaidohljaaGreatDoor.Zc
open Go.RowKit Go.Proofs.YtlgbblaidohljaaGreatDoorU.PrintWords Go.Proofs.YtlgbblaidohljaaGreatDoorU.PrintLast Go.Proofs.YtlgbblaidohljaaGreatDoorU.PrintMore
attribute [local go_sem] max2_int min2_int max_two min_two max_three min_three max_four min_four
set_option linter.unusedVariables false
set_option linter.unusedSimpArgs false
theorem zc_size (z : Array Value) (n : Nat) (h : z.size = 1) : (Builtin.zeroCells z n).size = n := by simp [Builtin.zeroCells, h]
set_option maxHeartbeats 2000000 in
set_option maxRecDepth 100000 in
theorem growNil (n : Nat) (h0 : 0 < n) (hn : n ≤ 1000) (w : World) : Calls Tryz.prog 99 #[.slice none 0 0, .int .i64 (n : Int)] w fun e w' => ∃ v, e = .returned v ∧ Kd.R (Kd.int .i64) 3 w' w.heap.size (fun _ => True) v [] ∧ Below w.heap.size w w' := by
  obtain ⟨i, hi, hzz⟩ := Option.map_eq_some_iff.1 info3
  simp only [Prod.mk.injEq] at hzz
  obtain ⟨hz, hs, hb⟩ := hzz
  have hr := fun W : World => Lib.run_append_nil_zeros (P := Tryz.prog) W 22 3 22 3 i (.int .i64 0) .i64 .i64 Tryz.underlying22 Tryz.underlying3 hi hz n h0 (by omega) (by omega) (by rw [hb]; omega)
  have h1 : ¬ ((n : Int) < 0) := by omega
  have h2 : wrap64 ((n : Int) - 0) = n := by unfold wrap64; omega
  have h4 : (n : Int) > 0 := by omega
  have g1 : ∀ W : World, n ≤ grownCap W n 0 3 := fun W => grownCap_ge W n 0 3
  have g2 : ∀ W : World, grownCap W n 0 3 ≤ maxLen := fun W => grownCap_le_maxLen W n 0 3 (by simp only [maxLen]; omega)
  have G1 := Aside0.mk g1
  have G2 := Aside0.mk g2
  clear g1 g2 hz hs hb hi
  go_enter Tryz.func99, Tryz.ntmps99
  go_wp2_with (at_builtin; refine Lib.wpList_append_run _ rfl _ _ _ _ rfl _ _ rfl rfl _ _ (hr _) ?_)
  go_ret
  refine ⟨_, rfl, ⟨fun k hk => trivial, [], ⟨by simp, .inr ⟨_, _, _, rfl, Nat.le_refl _, heap_alloc_new _ _, Nat.zero_le _, G2.out _, ?_, by simp⟩⟩, Reps.none _ _⟩, below_alloc (below_drew1 (Below.refl _ _)) _⟩
  rw [Array.size_append, zc_size _ _ rfl, zc_size _ _ rfl]
  have := G1.out w
  show _ = _ * 1
  omega
set_option maxHeartbeats 4000000 in
set_option maxRecDepth 100000 in
theorem concat3 (A1 A2 A3 : Option Addr) (c1 c2 c3 : Nat) (l1 l2 l3 : List Int) (g : Nat) (w : World) (hg : w.heap[g]? = some (.cells #[.slice A1 l1.length c1, .slice A2 l2.length c2, .slice A3 l3.length c3] 22 (0, 0)))
    (hr1 : Kd.C (Kd.int .i64) w A1 l1.length l1) (hr2 : Kd.C (Kd.int .i64) w A2 l2.length l2) (hr3 : Kd.C (Kd.int .i64) w A3 l3.length l3) (hn0 : 0 < l1.length + l2.length + l3.length) (hn : l1.length + l2.length + l3.length ≤ 1000) :
    Calls Tryz.prog 63 #[.slice (some ⟨g, 0, none⟩) 3 3] w fun e w' => ∃ v, e = .returned v ∧ Kd.R (Kd.int .i64) 3 w' w.heap.size (fun _ => True) v (l1 ++ l2 ++ l3) ∧ Below w.heap.size w w' := by
  obtain ⟨N, hN⟩ : ∃ N : Nat, N = l1.length + l2.length + l3.length := ⟨_, rfl⟩
  have e1 : wrap64 (0 + (l1.length : Int)) = (l1.length : Int) := by unfold wrap64; omega
  have e1' : wrap64 (l1.length : Int) = (l1.length : Int) := by unfold wrap64; omega
  have e2 : wrap64 ((l1.length : Int) + (l2.length : Int)) = (l1.length : Int) + (l2.length : Int) := by unfold wrap64; omega
  have e3 : wrap64 ((l1.length : Int) + (l2.length : Int) + (l3.length : Int)) = (N : Int) := by unfold wrap64; omega
  have d1 : ¬ ((l1.length : Int) < 0) := by omega
  have d2 : ¬ ((l1.length : Int) + (l2.length : Int) < 0) := by omega
  have d3 : ¬ ((N : Int) < 0) := by omega
  have k0 : w.cell? ⟨g, 0, none⟩ = some (.slice A1 l1.length c1) := (blk_cell hg 0).trans rfl
  have k1 : w.cell? ⟨g, 1, none⟩ = some (.slice A2 l2.length c2) := (blk_cell hg 1).trans rfl
  have k2 : w.cell? ⟨g, 2, none⟩ = some (.slice A3 l3.length c3) := (blk_cell hg 2).trans rfl
  have HG := Aside0.mk hg
  have HR1 := Aside0.mk hr1
  have HR2 := Aside0.mk hr2
  have HR3 := Aside0.mk hr3
  have HN0 := Aside0.mk (show 0 < N by omega)
  have HN1 := Aside0.mk (show N ≤ 1000 by omega)
  have HL := Aside0.mk hn
  clear hr1 hr2 hr3 hn0 hn hN hg
  go_enter Tryz.func63, Tryz.ntmps63
  go_wp2
  refine wp_loop_rounds 4 ?_
  rw [rounds_succ]
  go_wp2
  rw [rounds_succ]
  go_wp2
  rw [rounds_succ]
  go_wp2
  rw [rounds_succ]
  go_wp2_with (go_at_call 99; refine (growNil N HN0.out HN1.out _).mono ?_; rintro e w5 ⟨v5, rfl, ho, hb⟩; have k0 : w5.cell? ⟨g, 0, none⟩ = some (.slice A1 l1.length c1) := (blk_cell (blk_below HG.out hb) 0).trans rfl; have HO := Aside0.mk ho; have HB := Aside0.mk hb; clear ho hb)
  refine wp_loop_rounds 4 ?_
  rw [rounds_succ]
  go_wp2_with ((with_reducible refine gate_builtin (b := .append) (xs := #[.tmp 31, .tmp 32]) rfl ?_); at_builtin; refine Kd.R_append_rows (Kd.int .i64) (w0 := w) w.heap.size rfl (.tmp 31) (.tmp 32) 22 3 (.int .i64 0) 8 rfl Tryz.underlying22 info3 rfl (by decide) (by omega) v5 ([] : List Int) l1 _ _ _ (fun _ => True) (fun _ => False) rfl rfl ?aO ?aR (fun _ _ h => h) (fun _ h => h.elim) ?aF ?aB ?aS ?aL ?_; (case aR => exact Kd.C_below HR1.out HB.out); (case aB => exact HB.out); (case aF => exact (fun _ _ => trivial)); (case aO => exact HO.out); (case aS => exact (below_size HB.out)); (case aL => have := HL.out; simp; omega); intro v6 w6 ho hb hg hat; have k1 : w6.cell? ⟨g, 1, none⟩ = some (.slice A2 l2.length c2) := (blk_cell (blk_below HG.out hb) 1).trans rfl; have HO := Aside0.mk ho; have HB := Aside0.mk hb; clear ho hb hg hat)
  rw [rounds_succ]
  go_wp2_with ((with_reducible refine gate_builtin (b := .append) (xs := #[.tmp 31, .tmp 32]) rfl ?_); at_builtin; refine Kd.R_append_rows (Kd.int .i64) (w0 := w) w.heap.size rfl (.tmp 31) (.tmp 32) 22 3 (.int .i64 0) 8 rfl Tryz.underlying22 info3 rfl (by decide) (by omega) v6 ([] ++ l1 : List Int) l2 _ _ _ (fun _ => True) (fun _ => False) rfl rfl ?aO ?aR (fun _ _ h => h) (fun _ h => h.elim) ?aF ?aB ?aS ?aL ?_; (case aR => exact Kd.C_below HR2.out HB.out); (case aB => exact HB.out); (case aF => exact (fun _ _ => trivial)); (case aO => exact HO.out); (case aS => exact (below_size HB.out)); (case aL => have := HL.out; simp; omega); intro v7 w7 ho hb hg hat; have k2 : w7.cell? ⟨g, 2, none⟩ = some (.slice A3 l3.length c3) := (blk_cell (blk_below HG.out hb) 2).trans rfl; have HO := Aside0.mk ho; have HB := Aside0.mk hb; clear ho hb hg hat)
  rw [rounds_succ]
  go_wp2_with ((with_reducible refine gate_builtin (b := .append) (xs := #[.tmp 31, .tmp 32]) rfl ?_); at_builtin; refine Kd.R_append_rows (Kd.int .i64) (w0 := w) w.heap.size rfl (.tmp 31) (.tmp 32) 22 3 (.int .i64 0) 8 rfl Tryz.underlying22 info3 rfl (by decide) (by omega) v7 ([] ++ l1 ++ l2 : List Int) l3 _ _ _ (fun _ => True) (fun _ => False) rfl rfl ?aO ?aR (fun _ _ h => h) (fun _ h => h.elim) ?aF ?aB ?aS ?aL ?_; (case aR => exact Kd.C_below HR3.out HB.out); (case aB => exact HB.out); (case aF => exact (fun _ _ => trivial)); (case aO => exact HO.out); (case aS => exact (below_size HB.out)); (case aL => have := HL.out; simp; omega); intro v8 w8 ho hb hg hat; have HO := Aside0.mk ho; have HB := Aside0.mk hb; clear ho hb hg hat)
  rw [rounds_succ]
  go_wp2
  go_ret
  exact ⟨_, rfl, by simpa using HO.out, HB.out⟩
end Go.Proofs.YtlgbblaidohljaaGreatDoor.Zc
