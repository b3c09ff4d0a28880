import Derived.Test.YtlgbblaidohljaaGreatDoorZc0
import Derived.Test.YtlgbblaidohljaaGreatDoorZc1
import Derived.Test.YtlgbblaidohljaaGreatDoorZc4
namespace Go.Proofs.YtlgbblaidohljaaGreatDoor.Zc
open Go.RowKit Go.Proofs.YtlgbblaidohljaaGreatDoorU.PrintWords Go.Proofs.YtlgbblaidohljaaGreatDoorU.PrintLast Go.Proofs.YtlgbblaidohljaaGreatDoorU.PrintMore
attribute [local go_sem] max2_int min2_int max_two min_two max_three min_three max_four min_four
set_option linter.unusedVariables false
set_option linter.unusedSimpArgs false
def formOk (kind u v : Int) (h : List Int) : Bool := fOk u && fOk v && (decide ((h.length : Int) ≤ 9) && h.all fOk) && decide ((h.length : Int) = 2 * tLen kind + 1)
theorem polyOk_eq (h : List Int) : impl_PolyOk.f h = some (decide ((h.length : Int) ≤ 9) && h.all fOk) := by unfold impl_PolyOk.f impl_elementsOk.f; rfl
theorem fieldOk_eq (a : Int) : impl_FieldOk.f a = some (fOk a) := by
  unfold impl_FieldOk.f impl_within.f fOk
  by_cases h : a ≥ 0
  · rw [if_pos h, decide_eq_true (show 0 ≤ a from h)]; simp
  · rw [if_neg h, decide_eq_false (show ¬ 0 ≤ a from h)]; simp
theorem tLen_rng (kind : Int) : 0 ≤ tLen kind ∧ tLen kind ≤ 4 := by unfold tLen; split <;> (try split) <;> (try split) <;> omega
set_option maxHeartbeats 2000000 in
set_option maxRecDepth 100000 in
theorem formed_u (a : Addr) (kind u v : Int) (A : Option Addr) (c : Nat) (h : List Int) (w : World) (hE : errAt a w) (hr : Kd.C (Kd.int .i64) w A h.length h) (hc : h.length ≤ c) (hu : fOk u = false) :
    Calls Tryz.prog 61 #[.agg #[.int .i64 u, .int .i64 v, .slice A h.length c], .int .i64 kind] w fun e w' => e = .returned (.iface 163 (.pointer (some a))) ∧ Below w.heap.size w w' := by
  have HE := Aside0.mk hE
  have HR := Aside0.mk hr
  have FU := Aside0.mk (show impl_FieldOk.f u = some false from (fieldOk_eq u).trans (congrArg some hu))
  clear hu
  clear hE hr
  go_enter Tryz.func61, Tryz.ntmps61
  go_wp2_with ((with_reducible refine gate_dst (N := 2) rfl ?_); refine box_event ?hg (N := 2) ?hd (cs := #[.int .i64 u, .int .i64 v, .slice A h.length c]) (t := 40) ?hr ?_; (case hd => rfl); (case hg => rfl); (case hr => first | (go_simp; done) | (go_simp; rfl)); intro gb hgb w1 hbox hb; have HB1 := Aside0.mk hb; have HX := Aside0.mk hbox; have c0 : w1.cell? ⟨gb, 0, none⟩ = some (.int .i64 u) := (blk_cell hbox 0).trans rfl; have c1 : w1.cell? ⟨gb, 1, none⟩ = some (.int .i64 v) := (blk_cell hbox 1).trans rfl; have c2 : w1.cell? ⟨gb, 2, none⟩ = some (.slice A h.length c) := (blk_cell hbox 2).trans rfl; have hg1 : w1.cell? ⟨0, 0, none⟩ = some (.iface 163 (.pointer (some a))) := errAt_below HE.out hb (Nat.le_refl _); have HR1 := Aside0.mk (Kd.C_below HR.out hb); clear hbox hb hgb)
  (first | (go_region_with (first
    | (go_at_call 50; (with_reducible refine (impl_FieldOk.calls u false _ FU.out).mono ?_); rintro e w' ⟨rfl, ⟨nd, rfl⟩⟩))) | skip)
  all_goals (try go_wp2)
  all_goals (go_ret; exact ⟨rfl, by repeat (first | exact HB1.out | apply pw_below_drewN | apply below_drew1)⟩)
set_option maxHeartbeats 2000000 in
set_option maxRecDepth 100000 in
theorem formed_v (a : Addr) (kind u v : Int) (A : Option Addr) (c : Nat) (h : List Int) (w : World) (hE : errAt a w) (hr : Kd.C (Kd.int .i64) w A h.length h) (hc : h.length ≤ c) (hu : fOk u = true) (hv : fOk v = false) :
    Calls Tryz.prog 61 #[.agg #[.int .i64 u, .int .i64 v, .slice A h.length c], .int .i64 kind] w fun e w' => e = .returned (.iface 163 (.pointer (some a))) ∧ Below w.heap.size w w' := by
  have HE := Aside0.mk hE
  have HR := Aside0.mk hr
  have FU := Aside0.mk (show impl_FieldOk.f u = some true from (fieldOk_eq u).trans (congrArg some hu))
  have FV := Aside0.mk (show impl_FieldOk.f v = some false from (fieldOk_eq v).trans (congrArg some hv))
  clear hu hv
  clear hE hr
  go_enter Tryz.func61, Tryz.ntmps61
  go_wp2_with ((with_reducible refine gate_dst (N := 2) rfl ?_); refine box_event ?hg (N := 2) ?hd (cs := #[.int .i64 u, .int .i64 v, .slice A h.length c]) (t := 40) ?hr ?_; (case hd => rfl); (case hg => rfl); (case hr => first | (go_simp; done) | (go_simp; rfl)); intro gb hgb w1 hbox hb; have HB1 := Aside0.mk hb; have HX := Aside0.mk hbox; have c0 : w1.cell? ⟨gb, 0, none⟩ = some (.int .i64 u) := (blk_cell hbox 0).trans rfl; have c1 : w1.cell? ⟨gb, 1, none⟩ = some (.int .i64 v) := (blk_cell hbox 1).trans rfl; have c2 : w1.cell? ⟨gb, 2, none⟩ = some (.slice A h.length c) := (blk_cell hbox 2).trans rfl; have hg1 : w1.cell? ⟨0, 0, none⟩ = some (.iface 163 (.pointer (some a))) := errAt_below HE.out hb (Nat.le_refl _); have HR1 := Aside0.mk (Kd.C_below HR.out hb); clear hbox hb hgb)
  (first | (go_region_with (first
    | (go_at_call 50; (with_reducible refine (impl_FieldOk.calls u true _ FU.out).mono ?_); rintro e w' ⟨rfl, ⟨nd, rfl⟩⟩)
    | (go_at_call 50; (with_reducible refine (impl_FieldOk.calls v false _ FV.out).mono ?_); rintro e w' ⟨rfl, ⟨nd2, rfl⟩⟩))) | skip)
  all_goals (try go_wp2)
  all_goals (go_ret; exact ⟨rfl, by repeat (first | exact HB1.out | apply pw_below_drewN | apply below_drew1)⟩)
set_option maxHeartbeats 2000000 in
set_option maxRecDepth 100000 in
theorem formed_p (a : Addr) (kind u v : Int) (A : Option Addr) (c : Nat) (h : List Int) (w : World) (hE : errAt a w) (hr : Kd.C (Kd.int .i64) w A h.length h) (hc : h.length ≤ c) (hu : fOk u = true) (hv : fOk v = true) (hp : (decide ((h.length : Int) ≤ 9) && h.all fOk) = false) :
    Calls Tryz.prog 61 #[.agg #[.int .i64 u, .int .i64 v, .slice A h.length c], .int .i64 kind] w fun e w' => e = .returned (.iface 163 (.pointer (some a))) ∧ Below w.heap.size w w' := by
  have HE := Aside0.mk hE
  have HR := Aside0.mk hr
  have FU := Aside0.mk (show impl_FieldOk.f u = some true from (fieldOk_eq u).trans (congrArg some hu))
  have FV := Aside0.mk (show impl_FieldOk.f v = some true from (fieldOk_eq v).trans (congrArg some hv))
  have FP := Aside0.mk (show impl_PolyOk.f h = some false from (polyOk_eq h).trans (congrArg some hp))
  clear hu hv hp
  clear hE hr
  go_enter Tryz.func61, Tryz.ntmps61
  go_wp2_with ((with_reducible refine gate_dst (N := 2) rfl ?_); refine box_event ?hg (N := 2) ?hd (cs := #[.int .i64 u, .int .i64 v, .slice A h.length c]) (t := 40) ?hr ?_; (case hd => rfl); (case hg => rfl); (case hr => first | (go_simp; done) | (go_simp; rfl)); intro gb hgb w1 hbox hb; have HB1 := Aside0.mk hb; have HX := Aside0.mk hbox; have c0 : w1.cell? ⟨gb, 0, none⟩ = some (.int .i64 u) := (blk_cell hbox 0).trans rfl; have c1 : w1.cell? ⟨gb, 1, none⟩ = some (.int .i64 v) := (blk_cell hbox 1).trans rfl; have c2 : w1.cell? ⟨gb, 2, none⟩ = some (.slice A h.length c) := (blk_cell hbox 2).trans rfl; have hg1 : w1.cell? ⟨0, 0, none⟩ = some (.iface 163 (.pointer (some a))) := errAt_below HE.out hb (Nat.le_refl _); have HR1 := Aside0.mk (Kd.C_below HR.out hb); clear hbox hb hgb)
  (first | (go_region_with (first
    | (go_at_call 50; (with_reducible refine (impl_FieldOk.calls u true _ FU.out).mono ?_); rintro e w' ⟨rfl, ⟨nd, rfl⟩⟩)
    | (go_at_call 50; (with_reducible refine (impl_FieldOk.calls v true _ FV.out).mono ?_); rintro e w' ⟨rfl, ⟨nd2, rfl⟩⟩)
    | (go_at_call 98; refine (impl_PolyOk.calls A c h false _ ?sC hc FP.out).mono ?_; (case sC => repeat (first | exact HR1.out | (with_reducible refine Kd.C_drewN ?_ _) | (with_reducible refine Kd.C_drew ?_))); rintro e w' ⟨rfl, ⟨nd3, rfl⟩⟩))) | skip)
  all_goals (try go_wp2)
  all_goals (go_ret; exact ⟨rfl, by repeat (first | exact HB1.out | apply pw_below_drewN | apply below_drew1)⟩)
set_option maxHeartbeats 2000000 in
set_option maxRecDepth 100000 in
theorem formed_n (a : Addr) (kind u v : Int) (A : Option Addr) (c : Nat) (h : List Int) (w : World) (hE : errAt a w) (hr : Kd.C (Kd.int .i64) w A h.length h) (hc : h.length ≤ c) (hu : fOk u = true) (hv : fOk v = true) (hp : (decide ((h.length : Int) ≤ 9) && h.all fOk) = true) (hl : (h.length : Int) ≠ 2 * tLen kind + 1) :
    Calls Tryz.prog 61 #[.agg #[.int .i64 u, .int .i64 v, .slice A h.length c], .int .i64 kind] w fun e w' => e = .returned (.iface 163 (.pointer (some a))) ∧ Below w.heap.size w w' := by
  have HE := Aside0.mk hE
  have HR := Aside0.mk hr
  have FU := Aside0.mk (show impl_FieldOk.f u = some true from (fieldOk_eq u).trans (congrArg some hu))
  have FV := Aside0.mk (show impl_FieldOk.f v = some true from (fieldOk_eq v).trans (congrArg some hv))
  have FP := Aside0.mk (show impl_PolyOk.f h = some true from (polyOk_eq h).trans (congrArg some hp))
  have ht := tLen_rng kind
  have e3 : ((h.length : Int) != IntKind.i64.wrap (IntKind.i64.wrap (2 * tLen kind) + 1)) = true := by
    have e1 : IntKind.i64.wrap (2 * tLen kind) = 2 * tLen kind := by rw [IntKind.wrap_i64]; omega
    have e2 : IntKind.i64.wrap (2 * tLen kind + 1) = 2 * tLen kind + 1 := by rw [IntKind.wrap_i64]; omega
    rw [e1, e2]; simpa using hl
  have E3 := Aside0.mk e3
  clear hu hv hp hl ht e3
  clear hE hr
  go_enter Tryz.func61, Tryz.ntmps61
  go_wp2_with ((with_reducible refine gate_dst (N := 2) rfl ?_); refine box_event ?hg (N := 2) ?hd (cs := #[.int .i64 u, .int .i64 v, .slice A h.length c]) (t := 40) ?hr ?_; (case hd => rfl); (case hg => rfl); (case hr => first | (go_simp; done) | (go_simp; rfl)); intro gb hgb w1 hbox hb; have HB1 := Aside0.mk hb; have HX := Aside0.mk hbox; have c0 : w1.cell? ⟨gb, 0, none⟩ = some (.int .i64 u) := (blk_cell hbox 0).trans rfl; have c1 : w1.cell? ⟨gb, 1, none⟩ = some (.int .i64 v) := (blk_cell hbox 1).trans rfl; have c2 : w1.cell? ⟨gb, 2, none⟩ = some (.slice A h.length c) := (blk_cell hbox 2).trans rfl; have hg1 : w1.cell? ⟨0, 0, none⟩ = some (.iface 163 (.pointer (some a))) := errAt_below HE.out hb (Nat.le_refl _); have HR1 := Aside0.mk (Kd.C_below HR.out hb); clear hbox hb hgb)
  (first | (go_region_with (first
    | (go_at_call 50; (with_reducible refine (impl_FieldOk.calls u true _ FU.out).mono ?_); rintro e w' ⟨rfl, ⟨nd, rfl⟩⟩)
    | (go_at_call 50; (with_reducible refine (impl_FieldOk.calls v true _ FV.out).mono ?_); rintro e w' ⟨rfl, ⟨nd2, rfl⟩⟩)
    | (go_at_call 98; refine (impl_PolyOk.calls A c h true _ ?sC hc FP.out).mono ?_; (case sC => repeat (first | exact HR1.out | (with_reducible refine Kd.C_drewN ?_ _) | (with_reducible refine Kd.C_drew ?_))); rintro e w' ⟨rfl, ⟨nd3, rfl⟩⟩)
    | (go_at_call 29; refine (impl_TypeLen.calls kind (tLen kind) _ rfl).mono ?_; rintro e w5 ⟨rfl, hb5⟩; have d2 : w5.cell? ⟨gb, 2, none⟩ = some (.slice A h.length c) := (blk_cell (blk_below (by repeat (first | exact HX.out | refine blk_drewN ?_ _ | refine blk_drew ?_)) hb5) 2).trans rfl; have hg5 : w5.cell? ⟨0, 0, none⟩ = some (.iface 163 (.pointer (some a))) := errAt_below (by first | exact hg1 | (show World.cell? _ _ = _; go_simp)) hb5 (Nat.le_refl _); have HB5 := Aside0.mk hb5; clear hb5))) | skip)
  all_goals (try go_wp2)
  all_goals (first | (go_ret; exact ⟨rfl, by first | exact below_step (by repeat (first | exact HB1.out | apply pw_below_drewN | apply below_drew1)) HB5.out | exact HB5.out⟩) | (exfalso; rename_i hq; first | exact absurd (hq.symm.trans E3.out) (by decide) | exact hq E3.out))
set_option maxHeartbeats 2000000 in
set_option maxRecDepth 100000 in
theorem formed_y (a : Addr) (kind u v : Int) (A : Option Addr) (c : Nat) (h : List Int) (w : World) (hE : errAt a w) (hr : Kd.C (Kd.int .i64) w A h.length h) (hc : h.length ≤ c) (hu : fOk u = true) (hv : fOk v = true) (hp : (decide ((h.length : Int) ≤ 9) && h.all fOk) = true) (hl : (h.length : Int) = 2 * tLen kind + 1) :
    Calls Tryz.prog 61 #[.agg #[.int .i64 u, .int .i64 v, .slice A h.length c], .int .i64 kind] w fun e w' => e = .returned (.nilIface) ∧ Below w.heap.size w w' := by
  have HE := Aside0.mk hE
  have HR := Aside0.mk hr
  have FU := Aside0.mk (show impl_FieldOk.f u = some true from (fieldOk_eq u).trans (congrArg some hu))
  have FV := Aside0.mk (show impl_FieldOk.f v = some true from (fieldOk_eq v).trans (congrArg some hv))
  have FP := Aside0.mk (show impl_PolyOk.f h = some true from (polyOk_eq h).trans (congrArg some hp))
  have ht := tLen_rng kind
  have e3 : ((h.length : Int) != IntKind.i64.wrap (IntKind.i64.wrap (2 * tLen kind) + 1)) = false := by
    have e1 : IntKind.i64.wrap (2 * tLen kind) = 2 * tLen kind := by rw [IntKind.wrap_i64]; omega
    have e2 : IntKind.i64.wrap (2 * tLen kind + 1) = 2 * tLen kind + 1 := by rw [IntKind.wrap_i64]; omega
    rw [e1, e2]; simp [hl]
  have E3 := Aside0.mk e3
  clear hu hv hp hl ht e3
  clear hE hr
  go_enter Tryz.func61, Tryz.ntmps61
  go_wp2_with ((with_reducible refine gate_dst (N := 2) rfl ?_); refine box_event ?hg (N := 2) ?hd (cs := #[.int .i64 u, .int .i64 v, .slice A h.length c]) (t := 40) ?hr ?_; (case hd => rfl); (case hg => rfl); (case hr => first | (go_simp; done) | (go_simp; rfl)); intro gb hgb w1 hbox hb; have HB1 := Aside0.mk hb; have HX := Aside0.mk hbox; have c0 : w1.cell? ⟨gb, 0, none⟩ = some (.int .i64 u) := (blk_cell hbox 0).trans rfl; have c1 : w1.cell? ⟨gb, 1, none⟩ = some (.int .i64 v) := (blk_cell hbox 1).trans rfl; have c2 : w1.cell? ⟨gb, 2, none⟩ = some (.slice A h.length c) := (blk_cell hbox 2).trans rfl; have hg1 : w1.cell? ⟨0, 0, none⟩ = some (.iface 163 (.pointer (some a))) := errAt_below HE.out hb (Nat.le_refl _); have HR1 := Aside0.mk (Kd.C_below HR.out hb); clear hbox hb hgb)
  (first | (go_region_with (first
    | (go_at_call 50; (with_reducible refine (impl_FieldOk.calls u true _ FU.out).mono ?_); rintro e w' ⟨rfl, ⟨nd, rfl⟩⟩)
    | (go_at_call 50; (with_reducible refine (impl_FieldOk.calls v true _ FV.out).mono ?_); rintro e w' ⟨rfl, ⟨nd2, rfl⟩⟩)
    | (go_at_call 98; refine (impl_PolyOk.calls A c h true _ ?sC hc FP.out).mono ?_; (case sC => repeat (first | exact HR1.out | (with_reducible refine Kd.C_drewN ?_ _) | (with_reducible refine Kd.C_drew ?_))); rintro e w' ⟨rfl, ⟨nd3, rfl⟩⟩)
    | (go_at_call 29; refine (impl_TypeLen.calls kind (tLen kind) _ rfl).mono ?_; rintro e w5 ⟨rfl, hb5⟩; have d2 : w5.cell? ⟨gb, 2, none⟩ = some (.slice A h.length c) := (blk_cell (blk_below (by repeat (first | exact HX.out | refine blk_drewN ?_ _ | refine blk_drew ?_)) hb5) 2).trans rfl; have hg5 : w5.cell? ⟨0, 0, none⟩ = some (.iface 163 (.pointer (some a))) := errAt_below (by first | exact hg1 | (show World.cell? _ _ = _; go_simp)) hb5 (Nat.le_refl _); have HB5 := Aside0.mk hb5; clear hb5))) | skip)
  all_goals (try go_wp2)
  all_goals (first | (go_ret; exact ⟨rfl, by first | exact below_step (by repeat (first | exact HB1.out | apply pw_below_drewN | apply below_drew1)) HB5.out | exact HB5.out⟩) | (exfalso; rename_i hq; first | exact absurd (hq.symm.trans E3.out) (by decide) | exact hq E3.out))
theorem formed_calls (a : Addr) (kind u v : Int) (A : Option Addr) (c : Nat) (h : List Int) (w : World) (hE : errAt a w) (hr : Kd.C (Kd.int .i64) w A h.length h) (hc : h.length ≤ c) :
    Calls Tryz.prog 61 #[.agg #[.int .i64 u, .int .i64 v, .slice A h.length c], .int .i64 kind] w fun e w' => e = .returned (if formOk kind u v h = true then .nilIface else .iface 163 (.pointer (some a))) ∧ Below w.heap.size w w' := by
  cases hu : fOk u
  · rw [show formOk kind u v h = false by simp [formOk, hu]]; exact formed_u a kind u v A c h w hE hr hc hu
  cases hv : fOk v
  · rw [show formOk kind u v h = false by simp [formOk, hv]]; exact formed_v a kind u v A c h w hE hr hc hu hv
  cases hp : (decide ((h.length : Int) ≤ 9) && h.all fOk)
  · rw [show formOk kind u v h = false by simp [formOk, hp]]; exact formed_p a kind u v A c h w hE hr hc hu hv hp
  by_cases hl : (h.length : Int) = 2 * tLen kind + 1
  · rw [show formOk kind u v h = true by simp only [formOk, hu, hv, hp, decide_eq_true hl]; rfl]; exact formed_y a kind u v A c h w hE hr hc hu hv hp hl
  · rw [show formOk kind u v h = false by simp [formOk, hl]]; exact formed_n a kind u v A c h w hE hr hc hu hv hp hl
end Go.Proofs.YtlgbblaidohljaaGreatDoor.Zc
