import Derived.Test.YtlgbblaidohljaaGreatDoorZc0
import Derived.Test.YtlgbblaidohljaaGreatDoorZc1
import Derived.Test.YtlgbblaidohljaaGreatDoorZc4
import Derived.Test.YtlgbblaidohljaaGreatDoorZc5
import Derived.Test.YtlgbblaidohljaaGreatDoorZc34
namespace Go.Proofs.YtlgbblaidohljaaGreatDoor.Zc
open Go.RowKit Go.Proofs.YtlgbblaidohljaaGreatDoorU.PrintWords Go.Proofs.YtlgbblaidohljaaGreatDoorU.PrintLast Go.Proofs.YtlgbblaidohljaaGreatDoorU.PrintMore
attribute [local go_sem] max2_int min2_int max_two min_two max_three min_three max_four min_four
set_option linter.unusedVariables false
set_option linter.unusedSimpArgs false
def impl_ProofAll.f (a0 : Int) (l1 : List Int) (a2_0 a2_1 : Int) (l2_2 : List Int) : Option (List Int × Bool) := (impl_sized.f a0 l1 (tLen a0)).bind fun t => some (if t = true then (if formOk a0 a2_0 a2_1 l2_2 = true then (l1 ++ [a2_0, a2_1] ++ l2_2, true) else ([], false)) else ([], false))
theorem formOk_len {kind u v : Int} {h : List Int} (hf : formOk kind u v h = true) : h.length ≤ 9 := by
  simp only [formOk, Bool.and_eq_true, decide_eq_true_eq] at hf
  have := hf.1.2.1
  omega
theorem sized_len {kind n : Int} {l : List Int} (h : impl_sized.f kind l n = some true) (hn : n ≤ 4) : l.length ≤ 20 := by
  unfold impl_sized.f at h
  obtain ⟨t, _, h⟩ := Option.bind_eq_some_iff.1 h
  by_cases ht : t = true
  · rw [if_pos ht] at h
    by_cases hl : (l.length : Int) = n
    · omega
    · rw [if_neg hl] at h; cases h
  · rw [if_neg ht] at h; cases h
set_option maxHeartbeats 4000000 in
set_option maxRecDepth 100000 in
theorem proofAll_s (a : Addr) (kind u v : Int) (A1 : Option Addr) (c1 : Nat) (l1 : List Int) (A : Option Addr) (c : Nat) (h : List Int) (w : World) (hE : errAt a w) (hv1 : Kd.C (Kd.int .i64) w A1 l1.length l1) (hc1 : l1.length ≤ c1) (hr : Kd.C (Kd.int .i64) w A h.length h) (hc : h.length ≤ c) (hs : impl_sized.f kind l1 (tLen kind) = some false) :
    Calls Tryz.prog 22 #[.int .i64 kind, .slice A1 l1.length c1, .agg #[.int .i64 u, .int .i64 v, .slice A h.length c]] w fun e w' => e = .returned (.tuple #[.slice none 0 0, .bool false]) ∧ Below w.heap.size w w' := by
  have HE := Aside0.mk hE
  have HR := Aside0.mk hr
  have HV := Aside0.mk hv1
  have FS := Aside0.mk hs
  clear hs
  clear hE hr hv1
  go_enter Tryz.func22, Tryz.ntmps22
  go_wp2_with ((with_reducible refine gate_dst (N := 5) rfl ?_); refine box_event ?hg (N := 5) ?hd (cs := #[.int .i64 u, .int .i64 v, .slice A h.length c]) (t := 40) ?hr ?_; (case hd => rfl); (case hg => rfl); (case hr => first | (go_simp; done) | (go_simp; rfl)); intro gb hgb w1 hbox hb; have HB1 := Aside0.mk hb; have HX := Aside0.mk hbox; have HG1 := Aside0.mk (errAt_below HE.out hb (Nat.le_refl _)); have HR1 := Aside0.mk (Kd.C_below HR.out hb); have HV1 := Aside0.mk (Kd.C_below HV.out hb); clear hbox hb hgb)
  (first | (go_region_with (first
    | (go_at_call 29; refine (impl_TypeLen.calls kind (tLen kind) _ rfl).mono ?_; rintro e w5 ⟨rfl, hb5⟩; have HX5 := Aside0.mk (blk_below (blk_drew HX.out) hb5); have HB5 := Aside0.mk (below_step (below_drew1 HB1.out) hb5); have HG5 := Aside0.mk (errAt_below (errAt_drew HG1.out) hb5 (Nat.le_refl _)); have HR5 := Aside0.mk (Kd.C_below (Kd.C_drew HR1.out) hb5); have HV5 := Aside0.mk (Kd.C_below (Kd.C_drew HV1.out) hb5); have c0w5 : w5.cell? ⟨gb, 0, none⟩ = some (.int .i64 u) := (blk_cell HX5.out 0).trans rfl; have c1w5 : w5.cell? ⟨gb, 1, none⟩ = some (.int .i64 v) := (blk_cell HX5.out 1).trans rfl; have c2w5 : w5.cell? ⟨gb, 2, none⟩ = some (.slice A h.length c) := (blk_cell HX5.out 2).trans rfl; have hgw5 : w5.cell? ⟨0, 0, none⟩ = some (.iface 163 (.pointer (some a))) := HG5.out; clear hb5)
    | (go_at_call 51; refine (impl_sized.calls kind A1 c1 l1 (tLen kind) false _ ?sS hc1 FS.out).mono ?_; (case sS => repeat (first | exact HV5.out | (with_reducible refine Kd.C_drewN ?_ _) | (with_reducible refine Kd.C_drew ?_))); rintro e w' ⟨rfl, ⟨nd, rfl⟩⟩))) | skip)
  all_goals (try go_wp2)
  all_goals (go_ret2; exact ⟨rfl, pw_below_drewN HB5.out _⟩)
set_option maxHeartbeats 4000000 in
set_option maxRecDepth 100000 in
theorem proofAll_f (a : Addr) (kind u v : Int) (A1 : Option Addr) (c1 : Nat) (l1 : List Int) (A : Option Addr) (c : Nat) (h : List Int) (w : World) (hE : errAt a w) (hv1 : Kd.C (Kd.int .i64) w A1 l1.length l1) (hc1 : l1.length ≤ c1) (hr : Kd.C (Kd.int .i64) w A h.length h) (hc : h.length ≤ c) (hs : impl_sized.f kind l1 (tLen kind) = some true) (hf : ¬ formOk kind u v h = true) :
    Calls Tryz.prog 22 #[.int .i64 kind, .slice A1 l1.length c1, .agg #[.int .i64 u, .int .i64 v, .slice A h.length c]] w fun e w' => e = .returned (.tuple #[.slice none 0 0, .bool false]) ∧ Below w.heap.size w w' := by
  have HE := Aside0.mk hE
  have HR := Aside0.mk hr
  have HV := Aside0.mk hv1
  have FS := Aside0.mk hs
  clear hs
  have HF := Aside0.mk hf
  clear hf
  clear hE hr hv1
  go_enter Tryz.func22, Tryz.ntmps22
  go_wp2_with ((with_reducible refine gate_dst (N := 5) rfl ?_); refine box_event ?hg (N := 5) ?hd (cs := #[.int .i64 u, .int .i64 v, .slice A h.length c]) (t := 40) ?hr ?_; (case hd => rfl); (case hg => rfl); (case hr => first | (go_simp; done) | (go_simp; rfl)); intro gb hgb w1 hbox hb; have HB1 := Aside0.mk hb; have HX := Aside0.mk hbox; have HG1 := Aside0.mk (errAt_below HE.out hb (Nat.le_refl _)); have HR1 := Aside0.mk (Kd.C_below HR.out hb); have HV1 := Aside0.mk (Kd.C_below HV.out hb); clear hbox hb hgb)
  (first | (go_region_with (first
    | (go_at_call 29; refine (impl_TypeLen.calls kind (tLen kind) _ rfl).mono ?_; rintro e w5 ⟨rfl, hb5⟩; have HX5 := Aside0.mk (blk_below (blk_drew HX.out) hb5); have HB5 := Aside0.mk (below_step (below_drew1 HB1.out) hb5); have HG5 := Aside0.mk (errAt_below (errAt_drew HG1.out) hb5 (Nat.le_refl _)); have HR5 := Aside0.mk (Kd.C_below (Kd.C_drew HR1.out) hb5); have HV5 := Aside0.mk (Kd.C_below (Kd.C_drew HV1.out) hb5); have c0w5 : w5.cell? ⟨gb, 0, none⟩ = some (.int .i64 u) := (blk_cell HX5.out 0).trans rfl; have c1w5 : w5.cell? ⟨gb, 1, none⟩ = some (.int .i64 v) := (blk_cell HX5.out 1).trans rfl; have c2w5 : w5.cell? ⟨gb, 2, none⟩ = some (.slice A h.length c) := (blk_cell HX5.out 2).trans rfl; have hgw5 : w5.cell? ⟨0, 0, none⟩ = some (.iface 163 (.pointer (some a))) := HG5.out; clear hb5)
    | (go_at_call 51; refine (impl_sized.calls kind A1 c1 l1 (tLen kind) true _ ?sS hc1 FS.out).mono ?_; (case sS => repeat (first | exact HV5.out | (with_reducible refine Kd.C_drewN ?_ _) | (with_reducible refine Kd.C_drew ?_))); rintro e w' ⟨rfl, ⟨nd, rfl⟩⟩)
    | (go_at_call 61; refine (formed_calls a kind u v A c h _ ?sE ?sC hc).mono ?_; (case sE => repeat (first | exact HG5.out | apply errAt_drewN | apply errAt_drew)); (case sC => repeat (first | exact HR5.out | (with_reducible refine Kd.C_drewN ?_ _) | (with_reducible refine Kd.C_drew ?_))); rintro e w6 ⟨he, hb6⟩; rw [if_neg HF.out] at he; subst he; have HX6 := Aside0.mk (blk_below (blk_drewN HX5.out _) hb6); have HB6 := Aside0.mk (below_step (pw_below_drewN HB5.out _) hb6); have HG6 := Aside0.mk (errAt_below (by repeat (first | exact HG5.out | apply errAt_drewN | apply errAt_drew)) hb6 (Nat.le_refl _)); have HR6 := Aside0.mk (Kd.C_below (Kd.C_drewN HR5.out _) hb6); have HV6 := Aside0.mk (Kd.C_below (Kd.C_drewN HV5.out _) hb6); have c0w6 : w6.cell? ⟨gb, 0, none⟩ = some (.int .i64 u) := (blk_cell HX6.out 0).trans rfl; have c1w6 : w6.cell? ⟨gb, 1, none⟩ = some (.int .i64 v) := (blk_cell HX6.out 1).trans rfl; have c2w6 : w6.cell? ⟨gb, 2, none⟩ = some (.slice A h.length c) := (blk_cell HX6.out 2).trans rfl; have hgw6 : w6.cell? ⟨0, 0, none⟩ = some (.iface 163 (.pointer (some a))) := HG6.out; clear hb6)
    | (go_at_call 60; refine (is_same a _).mono ?_; rintro e w' ⟨rfl, rfl⟩))) | skip)
  all_goals (try go_wp2)
  all_goals (go_ret2; exact ⟨rfl, HB6.out⟩)
set_option maxHeartbeats 4000000 in
set_option maxRecDepth 100000 in
theorem proofAll_y (a : Addr) (kind u v : Int) (A1 : Option Addr) (c1 : Nat) (l1 : List Int) (A : Option Addr) (c : Nat) (h : List Int) (w : World) (hE : errAt a w) (hv1 : Kd.C (Kd.int .i64) w A1 l1.length l1) (hc1 : l1.length ≤ c1) (hr : Kd.C (Kd.int .i64) w A h.length h) (hc : h.length ≤ c) (hs : impl_sized.f kind l1 (tLen kind) = some true) (hf : formOk kind u v h = true) (hn : l1.length + h.length ≤ 100) :
    Calls Tryz.prog 22 #[.int .i64 kind, .slice A1 l1.length c1, .agg #[.int .i64 u, .int .i64 v, .slice A h.length c]] w fun e w' => ∃ v0_ : Value, e = .returned (.tuple #[v0_, .bool true]) ∧ Kd.V (Kd.int .i64) 3 w' w.heap.size (fun k_ => (w.heap.size ≤ k_)) v0_ (l1 ++ [u, v] ++ h) ∧ Below w.heap.size w w' := by
  have HE := Aside0.mk hE
  have HR := Aside0.mk hr
  have HV := Aside0.mk hv1
  have FS := Aside0.mk hs
  clear hs
  have HF := Aside0.mk hf
  have HN := Aside0.mk hn
  clear hf hn
  clear hE hr hv1
  go_enter Tryz.func22, Tryz.ntmps22
  go_wp2_with ((with_reducible refine gate_dst (N := 5) rfl ?_); refine box_event ?hg (N := 5) ?hd (cs := #[.int .i64 u, .int .i64 v, .slice A h.length c]) (t := 40) ?hr ?_; (case hd => rfl); (case hg => rfl); (case hr => first | (go_simp; done) | (go_simp; rfl)); intro gb hgb w1 hbox hb; have HB1 := Aside0.mk hb; have HX := Aside0.mk hbox; have HG1 := Aside0.mk (errAt_below HE.out hb (Nat.le_refl _)); have HR1 := Aside0.mk (Kd.C_below HR.out hb); have HV1 := Aside0.mk (Kd.C_below HV.out hb); clear hbox hb hgb)
  (first | (go_region_with (first
    | (go_at_call 29; refine (impl_TypeLen.calls kind (tLen kind) _ rfl).mono ?_; rintro e w5 ⟨rfl, hb5⟩; have HX5 := Aside0.mk (blk_below (blk_drew HX.out) hb5); have HB5 := Aside0.mk (below_step (below_drew1 HB1.out) hb5); have HG5 := Aside0.mk (errAt_below (errAt_drew HG1.out) hb5 (Nat.le_refl _)); have HR5 := Aside0.mk (Kd.C_below (Kd.C_drew HR1.out) hb5); have HV5 := Aside0.mk (Kd.C_below (Kd.C_drew HV1.out) hb5); have c0w5 : w5.cell? ⟨gb, 0, none⟩ = some (.int .i64 u) := (blk_cell HX5.out 0).trans rfl; have c1w5 : w5.cell? ⟨gb, 1, none⟩ = some (.int .i64 v) := (blk_cell HX5.out 1).trans rfl; have c2w5 : w5.cell? ⟨gb, 2, none⟩ = some (.slice A h.length c) := (blk_cell HX5.out 2).trans rfl; have hgw5 : w5.cell? ⟨0, 0, none⟩ = some (.iface 163 (.pointer (some a))) := HG5.out; clear hb5)
    | (go_at_call 51; refine (impl_sized.calls kind A1 c1 l1 (tLen kind) true _ ?sS hc1 FS.out).mono ?_; (case sS => repeat (first | exact HV5.out | (with_reducible refine Kd.C_drewN ?_ _) | (with_reducible refine Kd.C_drew ?_))); rintro e w' ⟨rfl, ⟨nd, rfl⟩⟩)
    | (go_at_call 61; refine (formed_calls a kind u v A c h _ ?sE ?sC hc).mono ?_; (case sE => repeat (first | exact HG5.out | apply errAt_drewN | apply errAt_drew)); (case sC => repeat (first | exact HR5.out | (with_reducible refine Kd.C_drewN ?_ _) | (with_reducible refine Kd.C_drew ?_))); rintro e w6 ⟨he, hb6⟩; rw [if_pos HF.out] at he; subst he; have HX6 := Aside0.mk (blk_below (blk_drewN HX5.out _) hb6); have HB6 := Aside0.mk (below_step (pw_below_drewN HB5.out _) hb6); have HG6 := Aside0.mk (errAt_below (by repeat (first | exact HG5.out | apply errAt_drewN | apply errAt_drew)) hb6 (Nat.le_refl _)); have HR6 := Aside0.mk (Kd.C_below (Kd.C_drewN HR5.out _) hb6); have HV6 := Aside0.mk (Kd.C_below (Kd.C_drewN HV5.out _) hb6); have c0w6 : w6.cell? ⟨gb, 0, none⟩ = some (.int .i64 u) := (blk_cell HX6.out 0).trans rfl; have c1w6 : w6.cell? ⟨gb, 1, none⟩ = some (.int .i64 v) := (blk_cell HX6.out 1).trans rfl; have c2w6 : w6.cell? ⟨gb, 2, none⟩ = some (.slice A h.length c) := (blk_cell HX6.out 2).trans rfl; have hgw6 : w6.cell? ⟨0, 0, none⟩ = some (.iface 163 (.pointer (some a))) := HG6.out; clear hb6)
    | (go_at_call 60; refine (is_nil a _).mono ?_; rintro e w' ⟨rfl, rfl⟩))) | skip)
  all_goals (go_wp2_with (first
    | ((with_reducible refine gate_dst (N := 26) rfl ?_); refine Kd.R_lit (Kd.int .i64) _ 3 ?hg (N := 26) ?hd (xs := [u, v]) (inner := [.int .i64 u, .int .i64 v]) (ok := fun _ => True) (okp := fun _ => True) ?hr ?hp (fun _ hk => hk) trivial (Below.refl _ _) (Nat.le_refl _) (by simp) ?_; (case hd => rfl); (case hg => rfl); (case hr => first | (go_simp; done) | (go_simp; rfl)); (case hp => exact (Reps.one (show Kd.M (Kd.int .i64) _ _ _ u [.int .i64 u] from rfl) (Reps.one (show Kd.M (Kd.int .i64) _ _ _ v [.int .i64 v] from rfl) (Reps.none _ _)))); intro v26 w7 ho hb hg_ hnew_; clear hg_ hnew_; obtain ⟨A2, c2, e2⟩ := Kd.R_slice ho; subst e2; have HU7 := Aside0.mk (Kd.R_reads' ho).2.2; have HB7 := Aside0.mk (below_step HB6.out hb); have HR7 := Aside0.mk (Kd.C_below HR6.out hb); have HV7 := Aside0.mk (Kd.C_below HV6.out hb); have c2w7 : w7.cell? ⟨gb, 2, none⟩ = some (.slice A h.length c) := (blk_cell (blk_below HX6.out hb) 2).trans rfl; clear ho hb)
    | (go_at_call 63; refine (concat3 A1 A2 A c1 c2 c l1 [u, v] h w7.heap.size _ ?k1 ?k2 ?k3 ?k4 ?k5 ?k6).mono ?_; (case k1 => exact blk_new w7 _); (case k2 => exact Kd.C_alloc HV7.out _); (case k3 => exact Kd.C_alloc HU7.out _); (case k4 => exact Kd.C_alloc HR7.out _); (case k5 => simp; omega); (case k6 => have := HN.out; simp; omega); rintro e w8 ⟨v8, rfl, ho, hb⟩; have HO := Aside0.mk ho; have HB8 := Aside0.mk (below_step (below_alloc HB7.out _) hb); clear ho hb; obtain ⟨A8, c8, e8⟩ := Kd.R_slice HO.out; subst e8; obtain ⟨g8, c8', e8, gb8, gl8, cl8, HG8⟩ := Kd.R_form HO.out (by simp; omega); (first | cases e8 | (injection e8 with ea_ en_ ec_; (first | subst ea_ | (injection ea_ with ea_; subst ea_)); subst ec_; clear en_)); clear gl8 cl8 HG8)
    | (go_at_call 62; refine (slices_Clip_int_int.some_ ⟨g8, 0, none⟩ _ _ (by have hle_ := (Kd.R_reads' HO.out).2.1; simp at hle_ ⊢; omega) _).mono ?_; rintro e w' ⟨rfl, rfl⟩)))
  all_goals (go_ret2; refine ⟨_, rfl, ?_, HB8.out⟩)
  all_goals
    have hR : Kd.R (Kd.int .i64) 3 _ w.heap.size (fun k_ => w.heap.size ≤ k_) _ _ := Kd.R_mono (Kd.R_bound (Kd.R_lower HO.out (below_size (below_alloc HB7.out _)))) (fun k hk => hk.2.1)
    obtain ⟨_, hle, hF⟩ := Kd.V_at (Kd.R_V (base' := w.heap.size) hR)
    have hn_ : (l1 ++ [u, v] ++ h).length = l1.length + (h.length + 1 + 1) := by simp
    exact ⟨some ⟨g8, 0, none⟩, l1.length + (h.length + 1 + 1), congrArg (fun n_ => Value.slice (some ⟨g8, 0, none⟩) n_ (l1.length + (h.length + 1 + 1))) hn_.symm, Nat.le_of_eq hn_, hF⟩
theorem impl_ProofAll.calls {a : Addr} {w0 : World} (a0 : Int) (A1 : Option Addr) (c1 : Nat) (l1 : List Int) (a2_0 : Int) (a2_1 : Int) (A2_2 : Option Addr) (c2_2 : Nat) (l2_2 : List Int) (r1 : List Int) (r2 : Bool) (w : World) (hr1 : Kd.C (Kd.int .i64) w A1 l1.length l1) (hc1 : l1.length ≤ c1) (hr2_2 : Kd.C (Kd.int .i64) w A2_2 l2_2.length l2_2) (hc2_2 : l2_2.length ≤ c2_2) (h : impl_ProofAll.f a0 l1 a2_0 a2_1 l2_2 = some (r1, r2)) (hE : errAt a w0) (hB0 : Below w0.heap.size w0 w) :
    Calls Tryz.prog 22 #[.int .i64 a0, .slice A1 l1.length c1, .agg #[.int .i64 a2_0, .int .i64 a2_1, .slice A2_2 l2_2.length c2_2]] w fun e w' => ∃ v0_ : Value, e = .returned (.tuple #[v0_, .bool r2]) ∧ Kd.V (Kd.int .i64) 3 w' w.heap.size (fun k_ => (w.heap.size ≤ k_)) v0_ r1 ∧ Below w.heap.size w w' := by
  have hE' := errAt_below hE hB0 (Nat.le_refl _)
  unfold impl_ProofAll.f at h
  obtain ⟨t, ht, h⟩ := Option.bind_eq_some_iff.1 h
  have h := Option.some.inj h
  cases t
  · rw [if_neg (by simp)] at h; cases h
    exact (proofAll_s a a0 a2_0 a2_1 A1 c1 l1 A2_2 c2_2 l2_2 w hE' hr1 hc1 hr2_2 hc2_2 ht).mono fun e w' x => ⟨_, x.1, Kd.V_nil _ _ _ _ _, x.2⟩
  · rw [if_pos rfl] at h
    by_cases hf : formOk a0 a2_0 a2_1 l2_2 = true
    · rw [if_pos hf] at h; cases h
      refine proofAll_y a a0 a2_0 a2_1 A1 c1 l1 A2_2 c2_2 l2_2 w hE' hr1 hc1 hr2_2 hc2_2 ht hf ?_
      have h1 : l1.length ≤ 20 := sized_len ht (tLen_rng a0).2
      have h2 : l2_2.length ≤ 9 := formOk_len hf
      omega
    · rw [if_neg hf] at h; cases h
      exact (proofAll_f a a0 a2_0 a2_1 A1 c1 l1 A2_2 c2_2 l2_2 w hE' hr1 hc1 hr2_2 hc2_2 ht hf).mono fun e w' x => ⟨_, x.1, Kd.V_nil _ _ _ _ _, x.2⟩
end Go.Proofs.YtlgbblaidohljaaGreatDoor.Zc
