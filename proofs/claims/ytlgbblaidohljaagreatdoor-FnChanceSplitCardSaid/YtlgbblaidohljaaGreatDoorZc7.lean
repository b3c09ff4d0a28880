import Derived.Test.YtlgbblaidohljaaGreatDoorZ
import Derived.Test.YtlgbblaidohljaaGreatDoorZc0
import Derived.Test.YtlgbblaidohljaaGreatDoorZc4
import Derived.Test.YtlgbblaidohljaaGreatDoorZc5
import Derived.Test.YtlgbblaidohljaaGreatDoorZc6
namespace Go.Proofs.YtlgbblaidohljaaGreatDoor.Zc
open Go.RowKit Go.Proofs.YtlgbblaidohljaaGreatDoorU.PrintWords Go.Proofs.YtlgbblaidohljaaGreatDoorU.PrintLast Go.Proofs.YtlgbblaidohljaaGreatDoorU.PrintMore Go.Proofs.YtlgbblaidohljaaGreatDoor.Z
attribute [local go_sem] max2_int min2_int max_two min_two max_three min_three max_four min_four
set_option linter.unusedVariables false
set_option linter.unusedSimpArgs false
def impl_ProofOk.f (k : Nat) (a0 : Int) (l1 : List Int) (a2_0 a2_1 : Int) (l2_2 : List Int) : Option Bool := (impl_TypeOk.f k a0 l1).bind fun t => (if t = true then (if formOk a0 a2_0 a2_1 l2_2 = true then ((impl_ProofMake.f k a0 l1 a2_0 a2_1).bind fun q => (if q.2.2.2 = true then ((slices_Equal_int_int.f k q.2.2.1 l2_2).bind fun t => (some t)) else (some false))) else (some false)) else (some false))
set_option maxHeartbeats 4000000 in
set_option maxRecDepth 100000 in
theorem proofOk_s (k : Nat) (a : Addr) (kind u v : Int) (A1 : Option Addr) (c1 : Nat) (l1 : List Int) (A : Option Addr) (c : Nat) (h : List Int) (w : World) (hE : errAt a w) (hv1 : Kd.C (Kd.int .i64) w A1 l1.length l1) (hc1 : l1.length ≤ c1) (hr : Kd.C (Kd.int .i64) w A h.length h) (hc : h.length ≤ c) (hs : impl_TypeOk.f k kind l1 = some false) :
  Calls Tryz.prog 24 #[.int .i64 kind, .slice A1 l1.length c1, .agg #[.int .i64 u, .int .i64 v, .slice A h.length c]] w fun e w' => e = .returned (.bool false) ∧ Below w.heap.size w w' := by
 have HE := Aside0.mk hE
 have HR := Aside0.mk hr
 have HV := Aside0.mk hv1
 have FS := Aside0.mk hs
 clear hs
 clear hE hr hv1
 go_enter Tryz.func24, Tryz.ntmps24
 go_wp2_with ((with_reducible refine gate_dst (N := 5) rfl ?_); refine box_event ?hg (N := 5) ?hd (cs := #[.int .i64 u, .int .i64 v, .slice A h.length c]) (t := 40) ?hr ?_; (case hd => rfl); (case hg => rfl); (case hr => first | (go_simp; done) | (go_simp; rfl)); intro gb hgb w1 hbox hb; have HB1 := Aside0.mk hb; have HX := Aside0.mk hbox; have HG1 := Aside0.mk (errAt_below HE.out hb (Nat.le_refl _)); have HR1 := Aside0.mk (Kd.C_below HR.out hb); have HV1 := Aside0.mk (Kd.C_below HV.out hb); clear hbox hb hgb)
 (first | (go_region_with (first
  | (go_at_call 65; refine (impl_TypeOk.calls k kind A1 c1 l1 false _ ?sS hc1 FS.out).mono ?_; (case sS => repeat (first | exact HV1.out | (with_reducible refine Kd.C_drewN ?_ _) | (with_reducible refine Kd.C_drew ?_))); rintro e w5 ⟨rfl, hb5⟩; have HX5 := Aside0.mk (blk_below (by repeat (first | exact HX.out | refine blk_drew ?_)) hb5); have HB5 := Aside0.mk (below_step (by repeat (first | exact HB1.out | apply below_drew1)) hb5); have HG5 := Aside0.mk (errAt_below (by repeat (first | exact HG1.out | apply errAt_drew)) hb5 (Nat.le_refl _)); have HR5 := Aside0.mk (Kd.C_below (by repeat (first | exact HR1.out | (with_reducible refine Kd.C_drewN ?_ _) | (with_reducible refine Kd.C_drew ?_))) hb5); have HV5 := Aside0.mk (Kd.C_below (by repeat (first | exact HV1.out | (with_reducible refine Kd.C_drewN ?_ _) | (with_reducible refine Kd.C_drew ?_))) hb5); have c0w5 : w5.cell? ⟨gb, 0, none⟩ = some (.int .i64 u) := (blk_cell HX5.out 0).trans rfl; have c1w5 : w5.cell? ⟨gb, 1, none⟩ = some (.int .i64 v) := (blk_cell HX5.out 1).trans rfl; have c2w5 : w5.cell? ⟨gb, 2, none⟩ = some (.slice A h.length c) := (blk_cell HX5.out 2).trans rfl; have hgw5 : w5.cell? ⟨0, 0, none⟩ = some (.iface 163 (.pointer (some a))) := HG5.out; clear hb5))) | skip)
 all_goals (try go_wp2)
 all_goals (go_ret; exact ⟨rfl, HB5.out⟩)
set_option maxHeartbeats 4000000 in
set_option maxRecDepth 100000 in
theorem proofOk_f (k : Nat) (a : Addr) (kind u v : Int) (A1 : Option Addr) (c1 : Nat) (l1 : List Int) (A : Option Addr) (c : Nat) (h : List Int) (w : World) (hE : errAt a w) (hv1 : Kd.C (Kd.int .i64) w A1 l1.length l1) (hc1 : l1.length ≤ c1) (hr : Kd.C (Kd.int .i64) w A h.length h) (hc : h.length ≤ c) (hs : impl_TypeOk.f k kind l1 = some true) (hf : ¬ formOk kind u v h = true) :
  Calls Tryz.prog 24 #[.int .i64 kind, .slice A1 l1.length c1, .agg #[.int .i64 u, .int .i64 v, .slice A h.length c]] w fun e w' => e = .returned (.bool false) ∧ Below w.heap.size w w' := by
 have HE := Aside0.mk hE
 have HR := Aside0.mk hr
 have HV := Aside0.mk hv1
 have FS := Aside0.mk hs
 clear hs
 have HF := Aside0.mk hf
 clear hf
 clear hE hr hv1
 go_enter Tryz.func24, Tryz.ntmps24
 go_wp2_with ((with_reducible refine gate_dst (N := 5) rfl ?_); refine box_event ?hg (N := 5) ?hd (cs := #[.int .i64 u, .int .i64 v, .slice A h.length c]) (t := 40) ?hr ?_; (case hd => rfl); (case hg => rfl); (case hr => first | (go_simp; done) | (go_simp; rfl)); intro gb hgb w1 hbox hb; have HB1 := Aside0.mk hb; have HX := Aside0.mk hbox; have HG1 := Aside0.mk (errAt_below HE.out hb (Nat.le_refl _)); have HR1 := Aside0.mk (Kd.C_below HR.out hb); have HV1 := Aside0.mk (Kd.C_below HV.out hb); clear hbox hb hgb)
 (first | (go_region_with (first
  | (go_at_call 65; refine (impl_TypeOk.calls k kind A1 c1 l1 true _ ?sS hc1 FS.out).mono ?_; (case sS => repeat (first | exact HV1.out | (with_reducible refine Kd.C_drewN ?_ _) | (with_reducible refine Kd.C_drew ?_))); rintro e w5 ⟨rfl, hb5⟩; have HX5 := Aside0.mk (blk_below (by repeat (first | exact HX.out | refine blk_drew ?_)) hb5); have HB5 := Aside0.mk (below_step (by repeat (first | exact HB1.out | apply below_drew1)) hb5); have HG5 := Aside0.mk (errAt_below (by repeat (first | exact HG1.out | apply errAt_drew)) hb5 (Nat.le_refl _)); have HR5 := Aside0.mk (Kd.C_below (by repeat (first | exact HR1.out | (with_reducible refine Kd.C_drewN ?_ _) | (with_reducible refine Kd.C_drew ?_))) hb5); have HV5 := Aside0.mk (Kd.C_below (by repeat (first | exact HV1.out | (with_reducible refine Kd.C_drewN ?_ _) | (with_reducible refine Kd.C_drew ?_))) hb5); have c0w5 : w5.cell? ⟨gb, 0, none⟩ = some (.int .i64 u) := (blk_cell HX5.out 0).trans rfl; have c1w5 : w5.cell? ⟨gb, 1, none⟩ = some (.int .i64 v) := (blk_cell HX5.out 1).trans rfl; have c2w5 : w5.cell? ⟨gb, 2, none⟩ = some (.slice A h.length c) := (blk_cell HX5.out 2).trans rfl; have hgw5 : w5.cell? ⟨0, 0, none⟩ = some (.iface 163 (.pointer (some a))) := HG5.out; clear hb5)
  | (go_at_call 61; refine (formed_calls a kind u v A c h _ ?sE ?sC hc).mono ?_; (case sE => exact HG5.out); (case sC => exact HR5.out); rintro e w6 ⟨he, hb6⟩; rw [if_neg HF.out] at he; subst he; have HX6 := Aside0.mk (blk_below HX5.out hb6); have HB6 := Aside0.mk (below_step HB5.out hb6); have HG6 := Aside0.mk (errAt_below HG5.out hb6 (Nat.le_refl _)); have HR6 := Aside0.mk (Kd.C_below HR5.out hb6); have HV6 := Aside0.mk (Kd.C_below HV5.out hb6); have c0w6 : w6.cell? ⟨gb, 0, none⟩ = some (.int .i64 u) := (blk_cell HX6.out 0).trans rfl; have c1w6 : w6.cell? ⟨gb, 1, none⟩ = some (.int .i64 v) := (blk_cell HX6.out 1).trans rfl; have c2w6 : w6.cell? ⟨gb, 2, none⟩ = some (.slice A h.length c) := (blk_cell HX6.out 2).trans rfl; have hgw6 : w6.cell? ⟨0, 0, none⟩ = some (.iface 163 (.pointer (some a))) := HG6.out; clear hb6)
  | (go_at_call 60; refine (is_same a _).mono ?_; rintro e w' ⟨rfl, rfl⟩))) | skip)
 all_goals (try go_wp2)
 all_goals (go_ret; exact ⟨rfl, HB6.out⟩)
set_option maxHeartbeats 4000000 in
set_option maxRecDepth 100000 in
theorem proofOk_m (k : Nat) (a : Addr) (kind u v : Int) (A1 : Option Addr) (c1 : Nat) (l1 : List Int) (A : Option Addr) (c : Nat) (h : List Int) (w : World) (hE : errAt a w) (hv1 : Kd.C (Kd.int .i64) w A1 l1.length l1) (hc1 : l1.length ≤ c1) (hr : Kd.C (Kd.int .i64) w A h.length h) (hc : h.length ≤ c) (hs : impl_TypeOk.f k kind l1 = some true) (hf : formOk kind u v h = true) (q1 q2 : Int) (q3 : List Int) (hm : impl_ProofMake.f k kind l1 u v = some (q1, q2, q3, false)) :
  Calls Tryz.prog 24 #[.int .i64 kind, .slice A1 l1.length c1, .agg #[.int .i64 u, .int .i64 v, .slice A h.length c]] w fun e w' => e = .returned (.bool false) ∧ Below w.heap.size w w' := by
 have HE := Aside0.mk hE
 have HR := Aside0.mk hr
 have HV := Aside0.mk hv1
 have FS := Aside0.mk hs
 clear hs
 have HF := Aside0.mk hf
 have FM := Aside0.mk hm
 clear hf hm
 clear hE hr hv1
 go_enter Tryz.func24, Tryz.ntmps24
 go_wp2_with ((with_reducible refine gate_dst (N := 5) rfl ?_); refine box_event ?hg (N := 5) ?hd (cs := #[.int .i64 u, .int .i64 v, .slice A h.length c]) (t := 40) ?hr ?_; (case hd => rfl); (case hg => rfl); (case hr => first | (go_simp; done) | (go_simp; rfl)); intro gb hgb w1 hbox hb; have HB1 := Aside0.mk hb; have HX := Aside0.mk hbox; have HG1 := Aside0.mk (errAt_below HE.out hb (Nat.le_refl _)); have HR1 := Aside0.mk (Kd.C_below HR.out hb); have HV1 := Aside0.mk (Kd.C_below HV.out hb); clear hbox hb hgb)
 (first | (go_region_with (first
  | (go_at_call 65; refine (impl_TypeOk.calls k kind A1 c1 l1 true _ ?sS hc1 FS.out).mono ?_; (case sS => repeat (first | exact HV1.out | (with_reducible refine Kd.C_drewN ?_ _) | (with_reducible refine Kd.C_drew ?_))); rintro e w5 ⟨rfl, hb5⟩; have HX5 := Aside0.mk (blk_below (by repeat (first | exact HX.out | refine blk_drew ?_)) hb5); have HB5 := Aside0.mk (below_step (by repeat (first | exact HB1.out | apply below_drew1)) hb5); have HG5 := Aside0.mk (errAt_below (by repeat (first | exact HG1.out | apply errAt_drew)) hb5 (Nat.le_refl _)); have HR5 := Aside0.mk (Kd.C_below (by repeat (first | exact HR1.out | (with_reducible refine Kd.C_drewN ?_ _) | (with_reducible refine Kd.C_drew ?_))) hb5); have HV5 := Aside0.mk (Kd.C_below (by repeat (first | exact HV1.out | (with_reducible refine Kd.C_drewN ?_ _) | (with_reducible refine Kd.C_drew ?_))) hb5); have c0w5 : w5.cell? ⟨gb, 0, none⟩ = some (.int .i64 u) := (blk_cell HX5.out 0).trans rfl; have c1w5 : w5.cell? ⟨gb, 1, none⟩ = some (.int .i64 v) := (blk_cell HX5.out 1).trans rfl; have c2w5 : w5.cell? ⟨gb, 2, none⟩ = some (.slice A h.length c) := (blk_cell HX5.out 2).trans rfl; have hgw5 : w5.cell? ⟨0, 0, none⟩ = some (.iface 163 (.pointer (some a))) := HG5.out; clear hb5)
  | (go_at_call 61; refine (formed_calls a kind u v A c h _ ?sE ?sC hc).mono ?_; (case sE => exact HG5.out); (case sC => exact HR5.out); rintro e w6 ⟨he, hb6⟩; rw [if_pos HF.out] at he; subst he; have HX6 := Aside0.mk (blk_below HX5.out hb6); have HB6 := Aside0.mk (below_step HB5.out hb6); have HG6 := Aside0.mk (errAt_below HG5.out hb6 (Nat.le_refl _)); have HR6 := Aside0.mk (Kd.C_below HR5.out hb6); have HV6 := Aside0.mk (Kd.C_below HV5.out hb6); have c0w6 : w6.cell? ⟨gb, 0, none⟩ = some (.int .i64 u) := (blk_cell HX6.out 0).trans rfl; have c1w6 : w6.cell? ⟨gb, 1, none⟩ = some (.int .i64 v) := (blk_cell HX6.out 1).trans rfl; have c2w6 : w6.cell? ⟨gb, 2, none⟩ = some (.slice A h.length c) := (blk_cell HX6.out 2).trans rfl; have hgw6 : w6.cell? ⟨0, 0, none⟩ = some (.iface 163 (.pointer (some a))) := HG6.out; clear hb6)
  | (go_at_call 60; refine (is_nil a _).mono ?_; rintro e w' ⟨rfl, rfl⟩))) | skip)
 all_goals (go_wp2_with (first
  | (go_at_call 21; refine (impl_ProofMake.calls k kind A1 c1 l1 u v q1 q2 q3 false _ ?s1 hc1 FM.out).mono ?_; (case s1 => exact HV6.out); rintro e w7 ⟨v7, rfl, ho, hb⟩; obtain ⟨A7, c7, e7⟩ := Kd.R_slice ho; subst e7; have HQ7 := Aside0.mk (Kd.R_reads' ho).2.2; have HL7 := Aside0.mk (Kd.R_reads' ho).2.1; have HB7 := Aside0.mk (below_step HB6.out hb); have HX7 := Aside0.mk (blk_below HX6.out hb); have HR7 := Aside0.mk (Kd.C_below HR6.out hb); clear ho hb)
  | ((with_reducible refine gate_dst (N := 7) rfl ?_); refine box_event ?hg (N := 7) ?hd (cs := #[.int .i64 0, .int .i64 0, .slice none 0 0]) (t := 40) ?hr ?_; (case hd => rfl); (case hg => rfl); (case hr => first | (go_simp; done) | (go_simp; rfl)); intro g7 hg7 w8 hbox hb; have z0 : w8.cell? ⟨g7, 0, none⟩ = some (.int .i64 0) := (blk_cell hbox 0).trans rfl; have z1 : w8.cell? ⟨g7, 1, none⟩ = some (.int .i64 0) := (blk_cell hbox 1).trans rfl; have z2 : w8.cell? ⟨g7, 2, none⟩ = some (.slice none 0 0) := (blk_cell hbox 2).trans rfl; have f0 := blk_frozen hbox 0; have f1 := blk_frozen hbox 1; have f2 := blk_frozen hbox 2; have c2w8 : w8.cell? ⟨gb, 2, none⟩ = some (.slice A h.length c) := (blk_cell (blk_below HX7.out hb) 2).trans rfl; have hne1 : gb ≠ g7 := (by rw [hg7]; exact Nat.ne_of_lt (blk_lt HX7.out)); have hne2 : g7 ≠ gb := Ne.symm hne1; have HS := Aside0.mk (show w7.heap.size ≤ g7 from (by rw [hg7]; exact Nat.le_refl _)); have HW := Aside0.mk (show w.heap.size ≤ g7 from (by rw [hg7]; exact below_size HB7.out)); have HK := Aside0.mk hb; have HB8 := Aside0.mk (below_step HB7.out hb); clear hbox hb hg7)))
 all_goals (go_ret; exact ⟨rfl, by repeat (first | exact HB8.out | apply pw_below_drewN | refine below_set ?_ HW.out)⟩)
set_option maxHeartbeats 4000000 in
set_option maxRecDepth 100000 in
theorem proofOk_y (k : Nat) (a : Addr) (kind u v : Int) (A1 : Option Addr) (c1 : Nat) (l1 : List Int) (A : Option Addr) (c : Nat) (h : List Int) (w : World) (hE : errAt a w) (hv1 : Kd.C (Kd.int .i64) w A1 l1.length l1) (hc1 : l1.length ≤ c1) (hr : Kd.C (Kd.int .i64) w A h.length h) (hc : h.length ≤ c) (hs : impl_TypeOk.f k kind l1 = some true) (hf : formOk kind u v h = true) (q1 q2 : Int) (q3 : List Int) (hm : impl_ProofMake.f k kind l1 u v = some (q1, q2, q3, true)) (b : Bool) (hq : slices_Equal_int_int.f k q3 h = some b) :
  Calls Tryz.prog 24 #[.int .i64 kind, .slice A1 l1.length c1, .agg #[.int .i64 u, .int .i64 v, .slice A h.length c]] w fun e w' => e = .returned (.bool b) ∧ Below w.heap.size w w' := by
 have HE := Aside0.mk hE
 have HR := Aside0.mk hr
 have HV := Aside0.mk hv1
 have FS := Aside0.mk hs
 clear hs
 have HF := Aside0.mk hf
 have FM := Aside0.mk hm
 have FQ := Aside0.mk hq
 clear hf hm hq
 clear hE hr hv1
 go_enter Tryz.func24, Tryz.ntmps24
 go_wp2_with ((with_reducible refine gate_dst (N := 5) rfl ?_); refine box_event ?hg (N := 5) ?hd (cs := #[.int .i64 u, .int .i64 v, .slice A h.length c]) (t := 40) ?hr ?_; (case hd => rfl); (case hg => rfl); (case hr => first | (go_simp; done) | (go_simp; rfl)); intro gb hgb w1 hbox hb; have HB1 := Aside0.mk hb; have HX := Aside0.mk hbox; have HG1 := Aside0.mk (errAt_below HE.out hb (Nat.le_refl _)); have HR1 := Aside0.mk (Kd.C_below HR.out hb); have HV1 := Aside0.mk (Kd.C_below HV.out hb); clear hbox hb hgb)
 (first | (go_region_with (first
  | (go_at_call 65; refine (impl_TypeOk.calls k kind A1 c1 l1 true _ ?sS hc1 FS.out).mono ?_; (case sS => repeat (first | exact HV1.out | (with_reducible refine Kd.C_drewN ?_ _) | (with_reducible refine Kd.C_drew ?_))); rintro e w5 ⟨rfl, hb5⟩; have HX5 := Aside0.mk (blk_below (by repeat (first | exact HX.out | refine blk_drew ?_)) hb5); have HB5 := Aside0.mk (below_step (by repeat (first | exact HB1.out | apply below_drew1)) hb5); have HG5 := Aside0.mk (errAt_below (by repeat (first | exact HG1.out | apply errAt_drew)) hb5 (Nat.le_refl _)); have HR5 := Aside0.mk (Kd.C_below (by repeat (first | exact HR1.out | (with_reducible refine Kd.C_drewN ?_ _) | (with_reducible refine Kd.C_drew ?_))) hb5); have HV5 := Aside0.mk (Kd.C_below (by repeat (first | exact HV1.out | (with_reducible refine Kd.C_drewN ?_ _) | (with_reducible refine Kd.C_drew ?_))) hb5); have c0w5 : w5.cell? ⟨gb, 0, none⟩ = some (.int .i64 u) := (blk_cell HX5.out 0).trans rfl; have c1w5 : w5.cell? ⟨gb, 1, none⟩ = some (.int .i64 v) := (blk_cell HX5.out 1).trans rfl; have c2w5 : w5.cell? ⟨gb, 2, none⟩ = some (.slice A h.length c) := (blk_cell HX5.out 2).trans rfl; have hgw5 : w5.cell? ⟨0, 0, none⟩ = some (.iface 163 (.pointer (some a))) := HG5.out; clear hb5)
  | (go_at_call 61; refine (formed_calls a kind u v A c h _ ?sE ?sC hc).mono ?_; (case sE => exact HG5.out); (case sC => exact HR5.out); rintro e w6 ⟨he, hb6⟩; rw [if_pos HF.out] at he; subst he; have HX6 := Aside0.mk (blk_below HX5.out hb6); have HB6 := Aside0.mk (below_step HB5.out hb6); have HG6 := Aside0.mk (errAt_below HG5.out hb6 (Nat.le_refl _)); have HR6 := Aside0.mk (Kd.C_below HR5.out hb6); have HV6 := Aside0.mk (Kd.C_below HV5.out hb6); have c0w6 : w6.cell? ⟨gb, 0, none⟩ = some (.int .i64 u) := (blk_cell HX6.out 0).trans rfl; have c1w6 : w6.cell? ⟨gb, 1, none⟩ = some (.int .i64 v) := (blk_cell HX6.out 1).trans rfl; have c2w6 : w6.cell? ⟨gb, 2, none⟩ = some (.slice A h.length c) := (blk_cell HX6.out 2).trans rfl; have hgw6 : w6.cell? ⟨0, 0, none⟩ = some (.iface 163 (.pointer (some a))) := HG6.out; clear hb6)
  | (go_at_call 60; refine (is_nil a _).mono ?_; rintro e w' ⟨rfl, rfl⟩))) | skip)
 all_goals (go_wp2_with (first
  | (go_at_call 21; refine (impl_ProofMake.calls k kind A1 c1 l1 u v q1 q2 q3 true _ ?s1 hc1 FM.out).mono ?_; (case s1 => exact HV6.out); rintro e w7 ⟨v7, rfl, ho, hb⟩; obtain ⟨A7, c7, e7⟩ := Kd.R_slice ho; subst e7; have HQ7 := Aside0.mk (Kd.R_reads' ho).2.2; have HL7 := Aside0.mk (Kd.R_reads' ho).2.1; have HB7 := Aside0.mk (below_step HB6.out hb); have HX7 := Aside0.mk (blk_below HX6.out hb); have HR7 := Aside0.mk (Kd.C_below HR6.out hb); clear ho hb)
  | ((with_reducible refine gate_dst (N := 7) rfl ?_); refine box_event ?hg (N := 7) ?hd (cs := #[.int .i64 0, .int .i64 0, .slice none 0 0]) (t := 40) ?hr ?_; (case hd => rfl); (case hg => rfl); (case hr => first | (go_simp; done) | (go_simp; rfl)); intro g7 hg7 w8 hbox hb; have z0 : w8.cell? ⟨g7, 0, none⟩ = some (.int .i64 0) := (blk_cell hbox 0).trans rfl; have z1 : w8.cell? ⟨g7, 1, none⟩ = some (.int .i64 0) := (blk_cell hbox 1).trans rfl; have z2 : w8.cell? ⟨g7, 2, none⟩ = some (.slice none 0 0) := (blk_cell hbox 2).trans rfl; have f0 := blk_frozen hbox 0; have f1 := blk_frozen hbox 1; have f2 := blk_frozen hbox 2; have c2w8 : w8.cell? ⟨gb, 2, none⟩ = some (.slice A h.length c) := (blk_cell (blk_below HX7.out hb) 2).trans rfl; have hne1 : gb ≠ g7 := (by rw [hg7]; exact Nat.ne_of_lt (blk_lt HX7.out)); have hne2 : g7 ≠ gb := Ne.symm hne1; have HS := Aside0.mk (show w7.heap.size ≤ g7 from (by rw [hg7]; exact Nat.le_refl _)); have HW := Aside0.mk (show w.heap.size ≤ g7 from (by rw [hg7]; exact below_size HB7.out)); have HK := Aside0.mk hb; have HB8 := Aside0.mk (below_step HB7.out hb); clear hbox hb hg7)
  | (go_at_call 66; refine (slices_Equal_int_int.calls k A7 c7 q3 A c h b _ ?e1 ?e2 ?e3 hc FQ.out).mono ?_; (case e1 => exact Kd.C_below HQ7.out (by repeat (first | exact HK.out | refine below_set ?_ HS.out))); (case e2 => exact HL7.out); (case e3 => exact Kd.C_below HR7.out (by repeat (first | exact HK.out | refine below_set ?_ HS.out))); rintro e w' ⟨rfl, ⟨nd, rfl⟩⟩)))
 all_goals (go_ret; exact ⟨rfl, by repeat (first | exact HB8.out | apply pw_below_drewN | refine below_set ?_ HW.out)⟩)
theorem impl_ProofOk.calls {a : Addr} {w0 : World} (k : Nat) (a0 : Int) (A1 : Option Addr) (c1 : Nat) (l1 : List Int) (a2_0 : Int) (a2_1 : Int) (A2_2 : Option Addr) (c2_2 : Nat) (l2_2 : List Int) (r : Bool) (w : World) (hr1 : Kd.C (Kd.int .i64) w A1 l1.length l1) (hc1 : l1.length ≤ c1) (hr2_2 : Kd.C (Kd.int .i64) w A2_2 l2_2.length l2_2) (hc2_2 : l2_2.length ≤ c2_2) (h : impl_ProofOk.f k a0 l1 a2_0 a2_1 l2_2 = some r) (hE : errAt a w0) (hB0 : Below w0.heap.size w0 w) :
  Calls Tryz.prog 24 #[.int .i64 a0, .slice A1 l1.length c1, .agg #[.int .i64 a2_0, .int .i64 a2_1, .slice A2_2 l2_2.length c2_2]] w fun e w' => e = .returned (.bool r) ∧ Below w.heap.size w w' := by
 have hE' := errAt_below hE hB0 (Nat.le_refl _)
 unfold impl_ProofOk.f at h
 obtain ⟨t, ht, h⟩ := Option.bind_eq_some_iff.1 h
 cases t
 ·rw [if_neg (by simp)] at h; cases h
  exact proofOk_s k a a0 a2_0 a2_1 A1 c1 l1 A2_2 c2_2 l2_2 w hE' hr1 hc1 hr2_2 hc2_2 ht
 rw [if_pos rfl] at h
 by_cases hf : formOk a0 a2_0 a2_1 l2_2 = true
 ·rw [if_pos hf] at h
  obtain ⟨⟨q1, q2, q3, q4⟩, hm, h⟩ := Option.bind_eq_some_iff.1 h
  cases q4
  ·rw [if_neg (by simp)] at h; cases h
   exact proofOk_m k a a0 a2_0 a2_1 A1 c1 l1 A2_2 c2_2 l2_2 w hE' hr1 hc1 hr2_2 hc2_2 ht hf q1 q2 q3 hm
  ·rw [if_pos rfl] at h
   obtain ⟨b, hq, h⟩ := Option.bind_eq_some_iff.1 h
   cases h
   exact proofOk_y k a a0 a2_0 a2_1 A1 c1 l1 A2_2 c2_2 l2_2 w hE' hr1 hc1 hr2_2 hc2_2 ht hf q1 q2 q3 hm _ hq
 ·rw [if_neg hf] at h; cases h
  exact proofOk_f k a a0 a2_0 a2_1 A1 c1 l1 A2_2 c2_2 l2_2 w hE' hr1 hc1 hr2_2 hc2_2 ht hf
end Go.Proofs.YtlgbblaidohljaaGreatDoor.Zc
