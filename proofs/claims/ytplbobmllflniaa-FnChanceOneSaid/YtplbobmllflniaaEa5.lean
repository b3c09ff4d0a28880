import Derived.Test.YtplbobmllflniaaZ
import Derived.Test.YtplbobmllflniaaEa0
import Derived.Test.YtplbobmllflniaaEa4
namespace Go.Proofs.Ytplbobmllflniaa.Ea
open Go.RowKit Go.Proofs.YtplbobmllflniaaW.PrintWords Go.Proofs.YtplbobmllflniaaW.PrintLast Go.Proofs.YtplbobmllflniaaW.PrintMore Go.Proofs.Ytplbobmllflniaa.Z
attribute [local go_sem] max2_int min2_int max_two min_two max_three min_three max_four min_four
set_option linter.unusedVariables false
set_option linter.unusedSimpArgs false
theorem c85x5 : Ent Try.prog 85 := ent Try.func85 (by kernel_rfl) rfl
theorem c86x5 : Ent Try.prog 86 := ent Try.func86 (by kernel_rfl) rfl
theorem c108x5 : Ent Try.prog 108 := ent Try.func108 (by kernel_rfl) rfl
def spec_ShareOk.l0 : Nat → List Int → Int → Option (Bool)
 | 0, _, _ => none
 | k + 1, x0, x3 => if x3 < (x0.length : Int) then (if 0 ≤ x3 then ((spec_FieldOk.f (rd x0 x3)).bind fun t158 => (if t158 = true then (spec_ShareOk.l0 k x0 (wrap64 (x3 + 1))) else (some false))) else (none)) else (some (decide ((x0.length : Int) ≤ 20)))
def spec_ShareOk.f (k : Nat) (l0 : List Int) : Option (Bool) := spec_ShareOk.l0 k l0 0
theorem spec_ShareOk.mono_l : ∀ k, (∀ y0 y1, LeO (spec_ShareOk.l0 k y0 y1) (spec_ShareOk.l0 (k + 1) y0 y1))
 | 0 => fun _ _ r h => by simp [spec_ShareOk.l0] at h
 | k + 1 => by
  have ih0 := spec_ShareOk.mono_l k
  ·intro y0 y1
   unfold spec_ShareOk.l0
   repeat' first
   | exact ih0 _ _
   | exact LeO.none _
   | refine LeO.ite ?_ ?_
   | refine LeO.bind ?_ (fun _ => ?_)
   | exact LeO.refl _
theorem spec_ShareOk.mono : ∀ a0 k, LeO (spec_ShareOk.f k a0) (spec_ShareOk.f (k + 1) a0) := by
 intro a0 k
 have ih0 := spec_ShareOk.mono_l k
 unfold spec_ShareOk.f
 repeat' first
   | exact ih0 _ _
   | exact LeO.none _
   | refine LeO.ite ?_ ?_
   | refine LeO.bind ?_ (fun _ => ?_)
   | exact LeO.refl _
set_option maxHeartbeats 8000000 in
set_option maxRecDepth 100000 in
theorem spec_ShareOk.calls (k : Nat) (A0 : Option Addr) (c0 : Nat) (l0 : List Int) (r : Bool) (w : World) (hr0 : Kd.C (Kd.int .i64) w A0 l0.length l0) (hc0 : l0.length ≤ c0) (h : spec_ShareOk.f k l0 = some r) :
  Calls Try.prog 94 #[.slice A0 l0.length c0] w fun e w' => e = .returned (.bool r) ∧ Drawn0 w w' := by
 have HR0 := Aside0.mk hr0
 have HC0 := Aside0.mk hc0
 clear hr0 hc0
 have H : (spec_ShareOk.l0 k l0 0) = some r := h
 clear h
 have H' := Aside0.mk H
 clear H
 go_enter Try.func94, Try.ntmps94
 go_wp2
 go_loopg [3] k (fun kq v3 w' => ∃ (x3_1 : Int), v3 = .int .i64 x3_1 ∧ Aside0 (spec_ShareOk.l0 kq l0 x3_1 = some r) ∧ Aside0 (kq ≤ k) ∧ Drawn0 w w')
 case atStart => exact ⟨(0), rfl, H', ⟨Nat.le_refl _⟩, by repeat (first | exact Drawn0.refl _ | apply Drawn0.step)⟩
 case round =>
  clear H'
  obtain ⟨x3_1, rfl, HA, HK1, ⟨m1, rfl⟩⟩ := hrel
  cases gk with
  | zero => exact absurd HA.out (by simp [spec_ShareOk.l0])
  | succ k1 =>
   have H := HA.out
   clear HA
   simp only [spec_ShareOk.l0] at H
   by_cases c2 : x3_1 < (l0.length : Int)
   ·rw [if_pos c2] at H
    have c2b0 : decide (x3_1 < (l0.length : Int)) = true := decide_eq_true c2
    clear c2
    by_cases c3 : 0 ≤ x3_1
    ·rw [if_pos c3] at H
     have c3b0 : decide (0 ≤ x3_1) = true := decide_eq_true c3
     clear c3
     replace H := bnd H
     obtain ⟨t158, A4, H⟩ := H
     by_cases c5 : t158 = true
     ·subst c5
      rw [if_pos rfl] at H
      have H' := Aside0.mk H
      clear H
      have p157 : 0 ≤ (x3_1 : Int) := of_decide_eq_true ‹_›
      have q157 : x3_1 < (l0.length : Int) := of_decide_eq_true ‹_›
      obtain ⟨ad157, e157, hx157_0⟩ := Kd.at_int HR0.out x3_1 p157 q157
      cases e157
      replace p157 := eq_true p157
      replace q157 := eq_true q157
      go_wp2_with (first | (refine gsD c108x5 (spec_FieldOk.calls (rd l0 x3_1) true _ A4.out) ?_; intro nd))
      go_roundg k1
      case measure => have := HK1.out; omega
      case rel => exact ⟨(wrap64 (x3_1 + 1)), rfl, H', ⟨by have := HK1.out; omega⟩, ⟨_, rfl⟩⟩
     ·replace c5 := Bool.eq_false_iff.mpr c5
      subst c5
      rw [if_neg (show ¬ (false = true) by decide)] at H
      obtain rfl := Option.some.inj H
      have p157 : 0 ≤ (x3_1 : Int) := of_decide_eq_true ‹_›
      have q157 : x3_1 < (l0.length : Int) := of_decide_eq_true ‹_›
      obtain ⟨ad157, e157, hx157_0⟩ := Kd.at_int HR0.out x3_1 p157 q157
      cases e157
      replace p157 := eq_true p157
      replace q157 := eq_true q157
      go_wp2_with (first | (refine gsD c108x5 (spec_FieldOk.calls (rd l0 x3_1) false _ A4.out) ?_; intro nd))
      go_ret
      exact ⟨rfl, ⟨_, rfl⟩⟩
    ·rw [if_neg c3] at H
     exact absurd H (by simp)
   ·rw [if_neg c2] at H
    have c2b0 : decide (x3_1 < (l0.length : Int)) = false := decide_eq_false c2
    clear c2
    obtain rfl := Option.some.inj H
    go_wp2
    go_ret
    exact ⟨rfl, ⟨_, rfl⟩⟩
def spec_FieldSum.f (a0 : Int) (a1 : Int) : Option (Int) := (spec_FieldOk.f a0).bind fun t159 => (if t159 = true then ((spec_FieldOk.f a1).bind fun t160 => (if t160 = true then (some (Int.tmod (wrap64 (a0 + a1)) 31)) else (some 0))) else (some 0))
set_option maxHeartbeats 8000000 in
set_option maxRecDepth 100000 in
theorem spec_FieldSum.calls (a0 : Int) (a1 : Int) (r : Int) (w : World) (h : spec_FieldSum.f a0 a1 = some r) :
  Calls Try.prog 157 #[.int .i64 a0, .int .i64 a1] w fun e w' => e = .returned (.int .i64 r) ∧ Drawn0 w w' := by
 have H := h
 unfold spec_FieldSum.f at H
 clear h
 replace H := bnd H
 obtain ⟨t159, A3, H⟩ := H
 by_cases c4 : t159 = true
 ·subst c4
  rw [if_pos rfl] at H
  replace H := bnd H
  obtain ⟨t160, A5, H⟩ := H
  by_cases c6 : t160 = true
  ·subst c6
   rw [if_pos rfl] at H
   obtain rfl := Option.some.inj H
   go_enter Try.func157, Try.ntmps157
   go_wp2_with (first | (refine gsD c108x5 (spec_FieldOk.calls a0 true _ A3.out) ?_; intro nd) | (go_at_call 108; (with_reducible refine (spec_FieldOk.calls a1 true _ A5.out).mono ?_); rintro e w' ⟨rfl, ⟨nd, rfl⟩⟩))
   go_ret
   exact ⟨rfl, ⟨_, rfl⟩⟩
  ·replace c6 := Bool.eq_false_iff.mpr c6
   subst c6
   rw [if_neg (show ¬ (false = true) by decide)] at H
   obtain rfl := Option.some.inj H
   go_enter Try.func157, Try.ntmps157
   go_wp2_with (first | (refine gsD c108x5 (spec_FieldOk.calls a0 true _ A3.out) ?_; intro nd) | (go_at_call 108; (with_reducible refine (spec_FieldOk.calls a1 false _ A5.out).mono ?_); rintro e w' ⟨rfl, ⟨nd, rfl⟩⟩))
   go_ret
   exact ⟨rfl, ⟨_, rfl⟩⟩
 ·replace c4 := Bool.eq_false_iff.mpr c4
  subst c4
  rw [if_neg (show ¬ (false = true) by decide)] at H
  obtain rfl := Option.some.inj H
  go_enter Try.func157, Try.ntmps157
  go_wp2_with (first | (refine gsD c108x5 (spec_FieldOk.calls a0 false _ A3.out) ?_; intro nd))
  go_ret
  exact ⟨rfl, ⟨_, rfl⟩⟩
def spec_l3Sum.l0 : Nat → List Int → List Int → List Int → Int → Option (List Int)
 | 0, _, _, _, _ => none
 | k + 1, x0, x1, x5, x6 => if x6 < (x0.length : Int) then (if 0 ≤ x6 then (if x6 < (x1.length : Int) then ((spec_FieldSum.f (rd x0 x6) (rd x1 x6)).bind fun t166 => (if x5.length < 17592186044416 then (spec_l3Sum.l0 k x0 x1 (x5 ++ [t166]) (wrap64 (x6 + 1))) else (none))) else (none)) else (none)) else (some x5)
def spec_l3Sum.f (k : Nat) (l0 : List Int) (l1 : List Int) : Option (List Int) := spec_l3Sum.l0 k l0 l1 (([] : List Int)) 0
theorem spec_l3Sum.mono_l : ∀ k, (∀ y0 y1 y2 y3, LeO (spec_l3Sum.l0 k y0 y1 y2 y3) (spec_l3Sum.l0 (k + 1) y0 y1 y2 y3))
 | 0 => fun _ _ _ _ r h => by simp [spec_l3Sum.l0] at h
 | k + 1 => by
  have ih0 := spec_l3Sum.mono_l k
  ·intro y0 y1 y2 y3
   unfold spec_l3Sum.l0
   repeat' first
   | exact ih0 _ _ _ _
   | exact LeO.none _
   | refine LeO.ite ?_ ?_
   | refine LeO.bind ?_ (fun _ => ?_)
   | exact LeO.refl _
theorem spec_l3Sum.mono : ∀ a0 a1 k, LeO (spec_l3Sum.f k a0 a1) (spec_l3Sum.f (k + 1) a0 a1) := by
 intro a0 a1 k
 have ih0 := spec_l3Sum.mono_l k
 unfold spec_l3Sum.f
 repeat' first
   | exact ih0 _ _ _ _
   | exact LeO.none _
   | refine LeO.ite ?_ ?_
   | refine LeO.bind ?_ (fun _ => ?_)
   | exact LeO.refl _
def spec_l3Sum.T5 : Bool × List (List Nat × List Nat) := (true, [([], []), ([], []), ([], []), ([1, 2], [1, 2]), ([3], [3]), ([], []), ([], []), ([5, 6], [5, 6]), ([7], [7]), ([4, 8], [4, 8]), ([9], [9]), ([0, 10, 9], [0, 10]), ([11, 11, 0, 1, 2, 3, 4, 5, 6, 7, 8, 9, 10, 11], [0, 11])])
def spec_l3Sum.B5 : List Nat := [0, 0, 0, 6, 14, 0, 0, 96, 224, 510, 1022, 2047, 4095]
theorem spec_l3Sum.tab5 : rtab .any (opsOf Try.f130 5) = spec_l3Sum.T5 := by kernel_rfl
theorem spec_l3Sum.bits5 : waitsOk spec_l3Sum.T5.2 spec_l3Sum.B5 = true := by kernel_rfl
set_option maxHeartbeats 8000000 in
set_option maxRecDepth 100000 in
theorem spec_l3Sum.calls (k : Nat) (A0 : Option Addr) (c0 : Nat) (l0 : List Int) (A1 : Option Addr) (c1 : Nat) (l1 : List Int) (r : List Int) (w : World) (hr0 : Kd.C (Kd.int .i64) w A0 l0.length l0) (hc0 : l0.length ≤ c0) (hr1 : Kd.C (Kd.int .i64) w A1 l1.length l1) (hc1 : l1.length ≤ c1) (h : spec_l3Sum.f k l0 l1 = some r) :
  Calls Try.prog 130 #[.slice A0 l0.length c0, .slice A1 l1.length c1] w fun e w' => ∃ v0_ : Value, e = .returned (v0_) ∧ Kd.R (Kd.int .i64) 3 w' w.heap.size (fun _ => True) v0_ r ∧ Below w.heap.size w w' := by
 have HR0 := Aside0.mk hr0
 have HC0 := Aside0.mk hc0
 clear hr0 hc0
 have HR1 := Aside0.mk hr1
 have HC1 := Aside0.mk hc1
 clear hr1 hc1
 have HB := Aside0.mk (Below.refl w.heap.size w)
 have H : (spec_l3Sum.l0 k l0 l1 (([] : List Int)) 0) = some r := h
 clear h
 obtain ⟨y161, hy161⟩ : ∃ y_ : List Int, y_ = (([] : List Int)) := ⟨_, rfl⟩
 rw [← hy161] at H
 have Ny161 := Aside0.mk hy161
 clear hy161
 have H' := Aside0.mk H
 clear H
 go_enter Try.func130, Try.ntmps130
 go_wp2_with (first | ((with_reducible refine gate_dst (N := 7) rfl ?_); refine Kd.R_lit (Kd.int .i64) _ 3 ?hg (N := 7) ?hd (xs := ([] : List Int)) (inner := []) (ok := fun _ => True) (okp := fun _ => True) ?hr ?hp (fun _ hk => hk) trivial (Below.refl _ _) (Nat.le_refl _) (by simp) ?_; (case hd => rfl); (case hg => rfl); (case hr => first | (go_simp; done) | (go_simp; rfl)); (case hp => exact (Reps.none _ _)); intro v162 w3 ho4 hb hg_ hnew_; clear hg_ hnew_; (first | rw [← Ny161.out] at ho4 | (simp only [Int.reduceToNat] at ho4; rw [← Ny161.out] at ho4)); replace HO163 := Aside0.mk (Kd.R_lower ho4 (below_size (HB.out))); replace HB := Aside0.mk (below_step (HB.out) hb); clear hb ho4))
 go_loopg [5, 6] k (fun kq v5 v6 w' => ∃ (x5_1 : List Int) (x6_1 : Int), v6 = .int .i64 x6_1 ∧ Aside0 (spec_l3Sum.l0 kq l0 l1 x5_1 x6_1 = some r) ∧ Aside0 (kq ≤ k) ∧ Aside0 (Kd.R (Kd.int .i64) 3 w' w.heap.size (fun _ => True) v5 x5_1) ∧ Aside0 (Below w.heap.size w w'))
 case atStart => exact ⟨(y161), (0), rfl, H', ⟨Nat.le_refl _⟩, ⟨HO163.out⟩, ⟨HB.out⟩⟩
 case round =>
  clear H'
  try clear c1
  try clear p2
  obtain ⟨x5_1, x6_1, rfl, HA, HK1, HO_5, HB⟩ := hrel
  cases gk with
  | zero => exact absurd HA.out (by simp [spec_l3Sum.l0])
  | succ k1 =>
   have H := HA.out
   clear HA
   simp only [spec_l3Sum.l0] at H
   by_cases c5 : x6_1 < (l0.length : Int)
   ·rw [if_pos c5] at H
    have c5b0 : decide (x6_1 < (l0.length : Int)) = true := decide_eq_true c5
    clear c5
    by_cases c6 : 0 ≤ x6_1
    ·rw [if_pos c6] at H
     have c6b0 : decide (0 ≤ x6_1) = true := decide_eq_true c6
     clear c6
     by_cases c7 : x6_1 < (l1.length : Int)
     ·rw [if_pos c7] at H
      have c7b0 : decide (x6_1 < (l1.length : Int)) = true := decide_eq_true c7
      clear c7
      replace H := bnd H
      obtain ⟨t166, A8, H⟩ := H
      by_cases c9 : x5_1.length < 17592186044416
      ·rw [if_pos c9] at H
       have LMc9 := Aside0.mk c9
       clear c9
       obtain ⟨y167, hy167⟩ : ∃ y_ : List Int, y_ = (x5_1 ++ [t166]) := ⟨_, rfl⟩
       rw [← hy167] at H
       have Ny167 := Aside0.mk hy167
       clear hy167
       have H' := Aside0.mk H
       clear H
       try go_wp2
       replace HO_5 := Aside0.mk (Kd.R_drew HO_5.out)
       replace HB := Aside0.mk (below_drew1 HB.out)
       have p164 : 0 ≤ (x6_1 : Int) := of_decide_eq_true ‹_›
       have q164 : x6_1 < (l0.length : Int) := of_decide_eq_true ‹_›
       obtain ⟨ad164, e164, hx164_0⟩ := Kd.at_int HR0.out x6_1 p164 q164
       have hw164_0 := hx164_0
       cases e164
       replace hx164_0 := (HB.out.cell (World.block_lt_of_cell? w _ hx164_0)).trans hx164_0
       replace p164 := eq_true p164
       replace q164 := eq_true q164
       have p165 : 0 ≤ (x6_1 : Int) := of_decide_eq_true ‹_›
       have q165 : x6_1 < (l1.length : Int) := of_decide_eq_true ‹_›
       obtain ⟨ad165, e165, hx165_0⟩ := Kd.at_int HR1.out x6_1 p165 q165
       have hw165_0 := hx165_0
       cases e165
       replace hx165_0 := (HB.out.cell (World.block_lt_of_cell? w _ hx165_0)).trans hx165_0
       replace p165 := eq_true p165
       replace q165 := eq_true q165
       refine start_ (n := 13) (S := fun w' => w'.cell? (ad164.add (x6_1).toNat) = some (.int .i64 (rd l0 x6_1)) ∧ w'.cell? (ad165.add (x6_1).toNat) = some (.int .i64 (rd l1 x6_1))) (ds := []) (bs 13 0) (by kernel_rfl) rfl rfl ⟨((HB.out.cell (World.block_lt_of_cell? w _ hw164_0)).trans hw164_0), ((HB.out.cell (World.block_lt_of_cell? w _ hw165_0)).trans hw165_0)⟩ (fun hHeld => ?_); refine with_tabW spec_l3Sum.tab5 spec_l3Sum.bits5 (fun HT_ HW_ => ?_)
       generalize wr.drew = w10 at HO_5 HB hx164_0 hx165_0 hHeld ⊢
       refine pZ 0 (some 14) (bs 13 1) rfl rfl (any_of HT_.out (by kernel_rfl)) ?_
       refine pZ 1 (some 15) (bs 13 3) rfl rfl (any_of HT_.out (by kernel_rfl)) ?_
       refine pZ 2 (some 16) (bs 13 7) rfl rfl (any_of HT_.out (by kernel_rfl)) ?_
       refine pZ 3 (some 17) (bs 13 15) rfl rfl (any_of HT_.out (by kernel_rfl)) ?_
       refine pZ 5 (some 19) (bs 13 47) rfl rfl (any_of HT_.out (by kernel_rfl)) ?_
       refine pZ 6 (some 20) (bs 13 111) rfl rfl (any_of HT_.out (by kernel_rfl)) ?_
       refine pZ 7 (some 21) (bs 13 239) rfl rfl (any_of HT_.out (by kernel_rfl)) ?_
       refine tZ 4 (some 18) (bs 13 255) rfl rfl (take_ofW HT_.out HW_.out (by kernel_rfl)) hHeld (by rintro w' ⟨s0, s1⟩; go_simp; with_reducible rfl) ?_
       refine tZ 8 (some 22) (bs 13 511) rfl rfl (take_ofW HT_.out HW_.out (by kernel_rfl)) hHeld (by rintro w' ⟨s0, s1⟩; go_simp; with_reducible rfl) ?_
       refine one_ (i := 9) (N := some 23) (bs 13 1023) rfl rfl (one_of HT_.out (by kernel_rfl)) (by decide) (fun K hK => ?_)
       refine goes_ Try.func157 (by kernel_rfl) rfl #[.int .i64 (rd l0 x6_1), .int .i64 (rd l1 x6_1)] (by rfl) rfl rfl (by (try simp only [List.map_toArray, List.map_cons, List.map_nil]); first | done | rfl | (simp only [List.length_drop, List.length_take]; rfl)) ?_
       with_reducible refine (spec_FieldSum.calls (rd l0 x6_1) (rd l1 x6_1) t166 _ A8.out).mono ?_
       rintro e w' ⟨rfl, ⟨nd, rfl⟩⟩
       refine ⟨_, rfl, ?_⟩
       refine hK.out _ _ ⟨((HB.out.cell (World.block_lt_of_cell? w _ hw164_0)).trans hw164_0), ((HB.out.cell (World.block_lt_of_cell? w _ hw165_0)).trans hw165_0)⟩ (fun hHeld => ?_)
       clear hK K
       refine norm_ (a' := ?_) ?_ ?_
       rotate_left
       ·show Act.put _ (some 23) _ = _
        simp only [Act.put, List.setIfInBounds_toArray, List.set_cons_zero, List.set_cons_succ, i64_w, i32_w]
        rfl
       refine one_ (i := 10) (N := some 24) (bs 13 2047) rfl rfl (one_of HT_.out (by kernel_rfl)) (by decide) (fun K hK => ?_)
       refine value_ (w1 := ?_) (v := ?_) (by rfl) rfl ?_ ?_
       rotate_left 2
       ·go_simp
        constructor
        ·rfl
        ·rfl
       refine hK.out _ _ ⟨(World.cell?_alloc_lt _ _ _ (World.block_lt_of_cell? _ _ (((HB.out.cell (World.block_lt_of_cell? w _ hw164_0)).trans hw164_0)))).trans (((HB.out.cell (World.block_lt_of_cell? w _ hw164_0)).trans hw164_0)), (World.cell?_alloc_lt _ _ _ (World.block_lt_of_cell? _ _ (((HB.out.cell (World.block_lt_of_cell? w _ hw165_0)).trans hw165_0)))).trans (((HB.out.cell (World.block_lt_of_cell? w _ hw165_0)).trans hw165_0))⟩ (fun hHeld => ?_)
       clear hK K
       refine norm_ (a' := ?_) ?_ ?_
       rotate_left
       ·show Act.put _ (some 24) _ = _
        simp only [Act.put, List.setIfInBounds_toArray, List.set_cons_zero, List.set_cons_succ, i64_w, i32_w]
        rfl
       refine one_ (i := 11) (N := some 25) (bs 13 4095) rfl rfl (one_of HT_.out (by kernel_rfl)) (by decide) (fun K hK => ?_)
       refine Kd.R_append_step (Kd.int .i64) (w0 := w) w.heap.size (by rfl) (.tmp 14) (.tmp 24) 30 3 (.int .i64 0) 8 rfl Try.underlying30 info3 rfl (by decide) (by omega) u5 x5_1 t166 [.int .i64 t166] (fun _ => True) (fun _ => False) rfl rfl ?aP (fun _ hk => hk.elim) ?aF ?aO ?aB ?aS ?aL ?_
       (case aP => exact rfl)
       (case aB => exact (by repeat (with_reducible first | exact HB.out | apply below_alloc | apply pw_below_drewN | apply below_drew1)))
       (case aF => exact (fun _ _ => trivial))
       (case aO => exact (HO_5.out))
       (case aS => exact (below_size (by repeat (with_reducible first | exact HB.out | apply below_alloc | apply pw_below_drewN | apply below_drew1))))
       (case aL => have := LMc9.out; omega)
       intro v168 w11 ho hb hg hat
       rw [← Ny167.out] at ho
       have n0_ := Aside0.mk (hb)
       have n1_ := Aside0.mk (ho)
       clear HB
       clear HO_5
       have HB := n0_
       have HO169 := n1_
       clear n0_ n1_
       clear ho hb hg hat
       refine hK.out _ _ ⟨((HB.out.cell (World.block_lt_of_cell? w _ hw164_0)).trans hw164_0), ((HB.out.cell (World.block_lt_of_cell? w _ hw165_0)).trans hw165_0)⟩ (fun hHeld => ?_)
       clear hK K
       refine norm_ (a' := ?_) ?_ ?_
       rotate_left
       ·show Act.put _ (some 25) _ = _
        simp only [Act.put, List.setIfInBounds_toArray, List.set_cons_zero, List.set_cons_succ, i64_w, i32_w]
        rfl
       refine pZ 12 (some 5) (bs 13 8191) rfl rfl (any_of HT_.out (by kernel_rfl)) ?_
       refine done_ (done_of HT_.out (by kernel_rfl)) ?_
       try go_wp2
       go_roundg k1
       case measure => have := HK1.out; omega
       case rel => exact ⟨(y167), (wrap64 (x6_1 + 1)), rfl, H', ⟨by have := HK1.out; omega⟩, ⟨HO169.out⟩, ⟨HB.out⟩⟩
      ·rw [if_neg c9] at H
       exact absurd H (by simp)
     ·rw [if_neg c7] at H
      exact absurd H (by simp)
    ·rw [if_neg c6] at H
     exact absurd H (by simp)
   ·rw [if_neg c5] at H
    have c5b0 : decide (x6_1 < (l0.length : Int)) = false := decide_eq_false c5
    clear c5
    obtain rfl := Option.some.inj H
    go_wp2
    go_ret
    exact ⟨_, rfl, HO_5.out, HB.out⟩
def spec_FieldMul.f (a0 : Int) (a1 : Int) : Option (Int) := (spec_FieldOk.f a0).bind fun t170 => (if t170 = true then ((spec_FieldOk.f a1).bind fun t171 => (if t171 = true then (some (Int.tmod (wrap64 (a0 * a1)) 31)) else (some 0))) else (some 0))
set_option maxHeartbeats 8000000 in
set_option maxRecDepth 100000 in
theorem spec_FieldMul.calls (a0 : Int) (a1 : Int) (r : Int) (w : World) (h : spec_FieldMul.f a0 a1 = some r) :
  Calls Try.prog 131 #[.int .i64 a0, .int .i64 a1] w fun e w' => e = .returned (.int .i64 r) ∧ Drawn0 w w' := by
 have H := h
 unfold spec_FieldMul.f at H
 clear h
 replace H := bnd H
 obtain ⟨t170, A3, H⟩ := H
 by_cases c4 : t170 = true
 ·subst c4
  rw [if_pos rfl] at H
  replace H := bnd H
  obtain ⟨t171, A5, H⟩ := H
  by_cases c6 : t171 = true
  ·subst c6
   rw [if_pos rfl] at H
   obtain rfl := Option.some.inj H
   go_enter Try.func131, Try.ntmps131
   go_wp2_with (first | (refine gsD c108x5 (spec_FieldOk.calls a0 true _ A3.out) ?_; intro nd) | (go_at_call 108; (with_reducible refine (spec_FieldOk.calls a1 true _ A5.out).mono ?_); rintro e w' ⟨rfl, ⟨nd, rfl⟩⟩))
   go_ret
   exact ⟨rfl, ⟨_, rfl⟩⟩
  ·replace c6 := Bool.eq_false_iff.mpr c6
   subst c6
   rw [if_neg (show ¬ (false = true) by decide)] at H
   obtain rfl := Option.some.inj H
   go_enter Try.func131, Try.ntmps131
   go_wp2_with (first | (refine gsD c108x5 (spec_FieldOk.calls a0 true _ A3.out) ?_; intro nd) | (go_at_call 108; (with_reducible refine (spec_FieldOk.calls a1 false _ A5.out).mono ?_); rintro e w' ⟨rfl, ⟨nd, rfl⟩⟩))
   go_ret
   exact ⟨rfl, ⟨_, rfl⟩⟩
 ·replace c4 := Bool.eq_false_iff.mpr c4
  subst c4
  rw [if_neg (show ¬ (false = true) by decide)] at H
  obtain rfl := Option.some.inj H
  go_enter Try.func131, Try.ntmps131
  go_wp2_with (first | (refine gsD c108x5 (spec_FieldOk.calls a0 false _ A3.out) ?_; intro nd))
  go_ret
  exact ⟨rfl, ⟨_, rfl⟩⟩
def spec_l13Decide.f (k : Nat) (l0 : List Int) (l1 : List Int) : Option (Bool) := (spec_l3Sum.f k l0 l1).bind fun t172 => (if 0 < (t172.length : Int) then (if 1 < (t172.length : Int) then ((spec_FieldMul.f (rd t172 0) (rd t172 1)).bind fun t177 => (if 2 < (t172.length : Int) then (if t177 = (rd t172 2) then (if 3 < (t172.length : Int) then (some ((rd t172 3) == 0)) else (none)) else (some false)) else (none))) else (none)) else (none))
theorem spec_l13Decide.mono : ∀ a0 a1 k, LeO (spec_l13Decide.f k a0 a1) (spec_l13Decide.f (k + 1) a0 a1) := by
 intro a0 a1 k
 unfold spec_l13Decide.f
 repeat' first
   | exact spec_l3Sum.mono _ _ _
   | exact LeO.none _
   | refine LeO.ite ?_ ?_
   | refine LeO.bind ?_ (fun _ => ?_)
   | exact LeO.refl _
set_option maxHeartbeats 8000000 in
set_option maxRecDepth 100000 in
theorem spec_l13Decide.calls (k : Nat) (A0 : Option Addr) (c0 : Nat) (l0 : List Int) (A1 : Option Addr) (c1 : Nat) (l1 : List Int) (r : Bool) (w : World) (hr0 : Kd.C (Kd.int .i64) w A0 l0.length l0) (hc0 : l0.length ≤ c0) (hr1 : Kd.C (Kd.int .i64) w A1 l1.length l1) (hc1 : l1.length ≤ c1) (h : spec_l13Decide.f k l0 l1 = some r) :
  Calls Try.prog 95 #[.slice A0 l0.length c0, .slice A1 l1.length c1] w fun e w' => e = .returned (.bool r) ∧ Below w.heap.size w w' := by
 have HR0 := Aside0.mk hr0
 have HC0 := Aside0.mk hc0
 clear hr0 hc0
 have HR1 := Aside0.mk hr1
 have HC1 := Aside0.mk hc1
 clear hr1 hc1
 have HB := Aside0.mk (Below.refl w.heap.size w)
 have H := h
 unfold spec_l13Decide.f at H
 clear h
 replace H := bnd H
 obtain ⟨t172, A3, H⟩ := H
 by_cases c4 : 0 < (t172.length : Int)
 ·rw [if_pos c4] at H
  have c4b0 : decide (0 < (t172.length : Int)) = true := decide_eq_true c4
  have c4b1 : decide (0 < t172.length) = true := decide_eq_true (by omega)
  clear c4
  by_cases c5 : 1 < (t172.length : Int)
  ·rw [if_pos c5] at H
   have c5b0 : decide (1 < (t172.length : Int)) = true := decide_eq_true c5
   have c5b1 : decide (1 < t172.length) = true := decide_eq_true (by omega)
   clear c5
   replace H := bnd H
   obtain ⟨t177, A6, H⟩ := H
   by_cases c7 : 2 < (t172.length : Int)
   ·rw [if_pos c7] at H
    have c7b0 : decide (2 < (t172.length : Int)) = true := decide_eq_true c7
    have c7b1 : decide (2 < t172.length) = true := decide_eq_true (by omega)
    clear c7
    by_cases c8 : t177 = (rd t172 2)
    ·rw [if_pos c8] at H
     have c8b0 : (t177 == (rd t172 2)) = true := beq_iff_eq.mpr c8
     have c8b1 : (t177 != (rd t172 2)) = false := bne_eq_false_iff_eq.mpr c8
     clear c8
     by_cases c9 : 3 < (t172.length : Int)
     ·rw [if_pos c9] at H
      have c9b0 : decide (3 < (t172.length : Int)) = true := decide_eq_true c9
      have c9b1 : decide (3 < t172.length) = true := decide_eq_true (by omega)
      clear c9
      obtain rfl := Option.some.inj H
      go_enter Try.func95, Try.ntmps95
      go_wp2_with (first | (go_at_call 130; (with_reducible refine (spec_l3Sum.calls k _ _ l0 _ _ l1 t172 _ ?side1 ?side2 ?side3 ?side4 A3.out).mono ?_); (case side1 => exact HR0.out); (case side2 => exact HC0.out); (case side3 => exact HR1.out); (case side4 => exact HC1.out); rintro e w10 ⟨v173, rfl, ho0, hb⟩; replace HO174 := Aside0.mk (Kd.R_lower ho0 (below_size (HB.out))); replace HB := Aside0.mk (below_step (HB.out) hb); (try clear hb); (try clear hb2); (try clear hk); (try clear hi); (try clear ho0); obtain ⟨Ao11, co11, eo11⟩ := Kd.R_slice HO174.out; subst eo11; have p175 : 0 ≤ (0 : Int) := (by omega); have q175 : 0 < (t172.length : Int) := of_decide_eq_true ‹_›; obtain ⟨ad175, e175, hx175_0⟩ := Kd.at_int (Kd.R_reads' HO174.out).2.2 0 p175 q175; cases e175; have qi175 : (0 < t172.length) = True := eq_true (by omega); (try rw [show ((0 : Int)).toNat = 0 from rfl] at hx175_0); (try rw [Addr.add_zero'] at hx175_0); replace p175 := eq_true p175; replace q175 := eq_true q175; have p176 : 0 ≤ (1 : Int) := (by omega); have q176 : 1 < (t172.length : Int) := of_decide_eq_true ‹_›; obtain ⟨ad176, e176, hx176_0⟩ := Kd.at_int (Kd.R_reads' HO174.out).2.2 1 p176 q176; obtain rfl : ad175 = ad176 := (by injection e176); (try simp only [show (1 : Int).toNat = 1 from rfl, Nat.reduceMul, Nat.reduceEqDiff, Go.Addr.add, ↓reduceIte] at hx176_0); have qi176 : (1 < t172.length) = True := eq_true (by omega); (try rw [show ((1 : Int)).toNat = 1 from rfl] at hx176_0); replace p176 := eq_true p176; replace q176 := eq_true q176) | (go_at_call 131; (with_reducible refine (spec_FieldMul.calls (rd t172 0) (rd t172 1) t177 _ A6.out).mono ?_); rintro e w' ⟨rfl, ⟨nd, rfl⟩⟩; (try first | exact ⟨rfl, _, World.drewN_drewN _ _ _⟩ | exact ⟨rfl, _, Eq.trans (World.drewN_drewN _ _ _) (congrArg (World.drewN _) (Nat.add_assoc _ _ _))⟩); have p178 : 0 ≤ (2 : Int) := (by omega); have q178 : 2 < (t172.length : Int) := of_decide_eq_true ‹_›; obtain ⟨ad178, e178, hx178_0⟩ := Kd.at_int (Kd.R_reads' HO174.out).2.2 2 p178 q178; obtain rfl : ad175 = ad178 := (by injection e178); (try simp only [show (2 : Int).toNat = 2 from rfl, Nat.reduceMul, Nat.reduceEqDiff, Go.Addr.add, ↓reduceIte] at hx178_0); have qi178 : (2 < t172.length) = True := eq_true (by omega); (try rw [show ((2 : Int)).toNat = 2 from rfl] at hx178_0); replace p178 := eq_true p178; replace q178 := eq_true q178; have p179 : 0 ≤ (3 : Int) := (by omega); have q179 : 3 < (t172.length : Int) := of_decide_eq_true ‹_›; obtain ⟨ad179, e179, hx179_0⟩ := Kd.at_int (Kd.R_reads' HO174.out).2.2 3 p179 q179; obtain rfl : ad175 = ad179 := (by injection e179); (try simp only [show (3 : Int).toNat = 3 from rfl, Nat.reduceMul, Nat.reduceEqDiff, Go.Addr.add, ↓reduceIte] at hx179_0); have qi179 : (3 < t172.length) = True := eq_true (by omega); (try rw [show ((3 : Int)).toNat = 3 from rfl] at hx179_0); replace p179 := eq_true p179; replace q179 := eq_true q179))
      repeat (go_quiet (first | (go_at_call 130; (with_reducible refine (spec_l3Sum.calls k _ _ l0 _ _ l1 t172 _ ?side1 ?side2 ?side3 ?side4 A3.out).mono ?_); (case side1 => exact HR0.out); (case side2 => exact HC0.out); (case side3 => exact HR1.out); (case side4 => exact HC1.out); rintro e w10 ⟨v173, rfl, ho0, hb⟩; have n0_ := Aside0.mk (Kd.R_lower ho0 (below_size (HB.out))); have n1_ := Aside0.mk (below_step (HB.out) hb); clear HB; have HO174 := n0_; have HB := n1_; clear n0_ n1_; (try clear hb); (try clear hb2); (try clear hk); (try clear hi); (try clear ho0); obtain ⟨Ao11, co11, eo11⟩ := Kd.R_slice HO174.out; subst eo11; have p175 : 0 ≤ (0 : Int) := (by omega); have q175 : 0 < (t172.length : Int) := of_decide_eq_true ‹_›; obtain ⟨ad175, e175, hx175_0⟩ := Kd.at_int (Kd.R_reads' HO174.out).2.2 0 p175 q175; cases e175; have qi175 : (0 < t172.length) = True := eq_true (by omega); (try rw [show ((0 : Int)).toNat = 0 from rfl] at hx175_0); (try rw [Addr.add_zero'] at hx175_0); replace p175 := eq_true p175; replace q175 := eq_true q175; have p176 : 0 ≤ (1 : Int) := (by omega); have q176 : 1 < (t172.length : Int) := of_decide_eq_true ‹_›; obtain ⟨ad176, e176, hx176_0⟩ := Kd.at_int (Kd.R_reads' HO174.out).2.2 1 p176 q176; obtain rfl : ad175 = ad176 := (by injection e176); (try simp only [show (1 : Int).toNat = 1 from rfl, Nat.reduceMul, Nat.reduceEqDiff, Go.Addr.add, ↓reduceIte] at hx176_0); have qi176 : (1 < t172.length) = True := eq_true (by omega); (try rw [show ((1 : Int)).toNat = 1 from rfl] at hx176_0); replace p176 := eq_true p176; replace q176 := eq_true q176) | (go_at_call 131; (with_reducible refine (spec_FieldMul.calls (rd t172 0) (rd t172 1) t177 _ A6.out).mono ?_); rintro e w' ⟨rfl, ⟨nd, rfl⟩⟩; (try first | exact ⟨rfl, _, World.drewN_drewN _ _ _⟩ | exact ⟨rfl, _, Eq.trans (World.drewN_drewN _ _ _) (congrArg (World.drewN _) (Nat.add_assoc _ _ _))⟩); have p178 : 0 ≤ (2 : Int) := (by omega); have q178 : 2 < (t172.length : Int) := of_decide_eq_true ‹_›; obtain ⟨ad178, e178, hx178_0⟩ := Kd.at_int (Kd.R_reads' HO174.out).2.2 2 p178 q178; obtain rfl : ad175 = ad178 := (by injection e178); (try simp only [show (2 : Int).toNat = 2 from rfl, Nat.reduceMul, Nat.reduceEqDiff, Go.Addr.add, ↓reduceIte] at hx178_0); have qi178 : (2 < t172.length) = True := eq_true (by omega); (try rw [show ((2 : Int)).toNat = 2 from rfl] at hx178_0); replace p178 := eq_true p178; replace q178 := eq_true q178; have p179 : 0 ≤ (3 : Int) := (by omega); have q179 : 3 < (t172.length : Int) := of_decide_eq_true ‹_›; obtain ⟨ad179, e179, hx179_0⟩ := Kd.at_int (Kd.R_reads' HO174.out).2.2 3 p179 q179; obtain rfl : ad175 = ad179 := (by injection e179); (try simp only [show (3 : Int).toNat = 3 from rfl, Nat.reduceMul, Nat.reduceEqDiff, Go.Addr.add, ↓reduceIte] at hx179_0); have qi179 : (3 < t172.length) = True := eq_true (by omega); (try rw [show ((3 : Int)).toNat = 3 from rfl] at hx179_0); replace p179 := eq_true p179; replace q179 := eq_true q179)); try go_wp2_with (first | (go_at_call 130; (with_reducible refine (spec_l3Sum.calls k _ _ l0 _ _ l1 t172 _ ?side1 ?side2 ?side3 ?side4 A3.out).mono ?_); (case side1 => exact HR0.out); (case side2 => exact HC0.out); (case side3 => exact HR1.out); (case side4 => exact HC1.out); rintro e w10 ⟨v173, rfl, ho0, hb⟩; replace HO174 := Aside0.mk (Kd.R_lower ho0 (below_size (HB.out))); replace HB := Aside0.mk (below_step (HB.out) hb); (try clear hb); (try clear hb2); (try clear hk); (try clear hi); (try clear ho0); obtain ⟨Ao11, co11, eo11⟩ := Kd.R_slice HO174.out; subst eo11; have p175 : 0 ≤ (0 : Int) := (by omega); have q175 : 0 < (t172.length : Int) := of_decide_eq_true ‹_›; obtain ⟨ad175, e175, hx175_0⟩ := Kd.at_int (Kd.R_reads' HO174.out).2.2 0 p175 q175; cases e175; have qi175 : (0 < t172.length) = True := eq_true (by omega); (try rw [show ((0 : Int)).toNat = 0 from rfl] at hx175_0); (try rw [Addr.add_zero'] at hx175_0); replace p175 := eq_true p175; replace q175 := eq_true q175; have p176 : 0 ≤ (1 : Int) := (by omega); have q176 : 1 < (t172.length : Int) := of_decide_eq_true ‹_›; obtain ⟨ad176, e176, hx176_0⟩ := Kd.at_int (Kd.R_reads' HO174.out).2.2 1 p176 q176; obtain rfl : ad175 = ad176 := (by injection e176); (try simp only [show (1 : Int).toNat = 1 from rfl, Nat.reduceMul, Nat.reduceEqDiff, Go.Addr.add, ↓reduceIte] at hx176_0); have qi176 : (1 < t172.length) = True := eq_true (by omega); (try rw [show ((1 : Int)).toNat = 1 from rfl] at hx176_0); replace p176 := eq_true p176; replace q176 := eq_true q176) | (go_at_call 131; (with_reducible refine (spec_FieldMul.calls (rd t172 0) (rd t172 1) t177 _ A6.out).mono ?_); rintro e w' ⟨rfl, ⟨nd, rfl⟩⟩; (try first | exact ⟨rfl, _, World.drewN_drewN _ _ _⟩ | exact ⟨rfl, _, Eq.trans (World.drewN_drewN _ _ _) (congrArg (World.drewN _) (Nat.add_assoc _ _ _))⟩); have p178 : 0 ≤ (2 : Int) := (by omega); have q178 : 2 < (t172.length : Int) := of_decide_eq_true ‹_›; obtain ⟨ad178, e178, hx178_0⟩ := Kd.at_int (Kd.R_reads' HO174.out).2.2 2 p178 q178; obtain rfl : ad175 = ad178 := (by injection e178); (try simp only [show (2 : Int).toNat = 2 from rfl, Nat.reduceMul, Nat.reduceEqDiff, Go.Addr.add, ↓reduceIte] at hx178_0); have qi178 : (2 < t172.length) = True := eq_true (by omega); (try rw [show ((2 : Int)).toNat = 2 from rfl] at hx178_0); replace p178 := eq_true p178; replace q178 := eq_true q178; have p179 : 0 ≤ (3 : Int) := (by omega); have q179 : 3 < (t172.length : Int) := of_decide_eq_true ‹_›; obtain ⟨ad179, e179, hx179_0⟩ := Kd.at_int (Kd.R_reads' HO174.out).2.2 3 p179 q179; obtain rfl : ad175 = ad179 := (by injection e179); (try simp only [show (3 : Int).toNat = 3 from rfl, Nat.reduceMul, Nat.reduceEqDiff, Go.Addr.add, ↓reduceIte] at hx179_0); have qi179 : (3 < t172.length) = True := eq_true (by omega); (try rw [show ((3 : Int)).toNat = 3 from rfl] at hx179_0); replace p179 := eq_true p179; replace q179 := eq_true q179)))
      go_ret
      exact ⟨rfl, by repeat (with_reducible first | exact HB.out | apply below_alloc | apply pw_below_drewN | apply below_drew1)⟩
     ·rw [if_neg c9] at H
      exact absurd H (by simp)
    ·rw [if_neg c8] at H
     have c8b0 : (t177 == (rd t172 2)) = false := beq_eq_false_iff_ne.mpr c8
     have c8b1 : (t177 != (rd t172 2)) = true := bne_iff_ne.mpr c8
     obtain rfl := Option.some.inj H
     go_enter Try.func95, Try.ntmps95
     go_wp2_with (first | (go_at_call 130; (with_reducible refine (spec_l3Sum.calls k _ _ l0 _ _ l1 t172 _ ?side1 ?side2 ?side3 ?side4 A3.out).mono ?_); (case side1 => exact HR0.out); (case side2 => exact HC0.out); (case side3 => exact HR1.out); (case side4 => exact HC1.out); rintro e w12 ⟨v173, rfl, ho0, hb⟩; replace HO174 := Aside0.mk (Kd.R_lower ho0 (below_size (HB.out))); replace HB := Aside0.mk (below_step (HB.out) hb); (try clear hb); (try clear hb2); (try clear hk); (try clear hi); (try clear ho0); obtain ⟨Ao13, co13, eo13⟩ := Kd.R_slice HO174.out; subst eo13; have p175 : 0 ≤ (0 : Int) := (by omega); have q175 : 0 < (t172.length : Int) := of_decide_eq_true ‹_›; obtain ⟨ad175, e175, hx175_0⟩ := Kd.at_int (Kd.R_reads' HO174.out).2.2 0 p175 q175; cases e175; have qi175 : (0 < t172.length) = True := eq_true (by omega); (try rw [show ((0 : Int)).toNat = 0 from rfl] at hx175_0); (try rw [Addr.add_zero'] at hx175_0); replace p175 := eq_true p175; replace q175 := eq_true q175; have p176 : 0 ≤ (1 : Int) := (by omega); have q176 : 1 < (t172.length : Int) := of_decide_eq_true ‹_›; obtain ⟨ad176, e176, hx176_0⟩ := Kd.at_int (Kd.R_reads' HO174.out).2.2 1 p176 q176; obtain rfl : ad175 = ad176 := (by injection e176); (try simp only [show (1 : Int).toNat = 1 from rfl, Nat.reduceMul, Nat.reduceEqDiff, Go.Addr.add, ↓reduceIte] at hx176_0); have qi176 : (1 < t172.length) = True := eq_true (by omega); (try rw [show ((1 : Int)).toNat = 1 from rfl] at hx176_0); replace p176 := eq_true p176; replace q176 := eq_true q176) | (go_at_call 131; (with_reducible refine (spec_FieldMul.calls (rd t172 0) (rd t172 1) t177 _ A6.out).mono ?_); rintro e w' ⟨rfl, ⟨nd, rfl⟩⟩; (try first | exact ⟨rfl, _, World.drewN_drewN _ _ _⟩ | exact ⟨rfl, _, Eq.trans (World.drewN_drewN _ _ _) (congrArg (World.drewN _) (Nat.add_assoc _ _ _))⟩); have p178 : 0 ≤ (2 : Int) := (by omega); have q178 : 2 < (t172.length : Int) := of_decide_eq_true ‹_›; obtain ⟨ad178, e178, hx178_0⟩ := Kd.at_int (Kd.R_reads' HO174.out).2.2 2 p178 q178; obtain rfl : ad175 = ad178 := (by injection e178); (try simp only [show (2 : Int).toNat = 2 from rfl, Nat.reduceMul, Nat.reduceEqDiff, Go.Addr.add, ↓reduceIte] at hx178_0); have qi178 : (2 < t172.length) = True := eq_true (by omega); (try rw [show ((2 : Int)).toNat = 2 from rfl] at hx178_0); replace p178 := eq_true p178; replace q178 := eq_true q178))
     repeat (go_quiet (first | (go_at_call 130; (with_reducible refine (spec_l3Sum.calls k _ _ l0 _ _ l1 t172 _ ?side1 ?side2 ?side3 ?side4 A3.out).mono ?_); (case side1 => exact HR0.out); (case side2 => exact HC0.out); (case side3 => exact HR1.out); (case side4 => exact HC1.out); rintro e w12 ⟨v173, rfl, ho0, hb⟩; have n0_ := Aside0.mk (Kd.R_lower ho0 (below_size (HB.out))); have n1_ := Aside0.mk (below_step (HB.out) hb); clear HB; have HO174 := n0_; have HB := n1_; clear n0_ n1_; (try clear hb); (try clear hb2); (try clear hk); (try clear hi); (try clear ho0); obtain ⟨Ao13, co13, eo13⟩ := Kd.R_slice HO174.out; subst eo13; have p175 : 0 ≤ (0 : Int) := (by omega); have q175 : 0 < (t172.length : Int) := of_decide_eq_true ‹_›; obtain ⟨ad175, e175, hx175_0⟩ := Kd.at_int (Kd.R_reads' HO174.out).2.2 0 p175 q175; cases e175; have qi175 : (0 < t172.length) = True := eq_true (by omega); (try rw [show ((0 : Int)).toNat = 0 from rfl] at hx175_0); (try rw [Addr.add_zero'] at hx175_0); replace p175 := eq_true p175; replace q175 := eq_true q175; have p176 : 0 ≤ (1 : Int) := (by omega); have q176 : 1 < (t172.length : Int) := of_decide_eq_true ‹_›; obtain ⟨ad176, e176, hx176_0⟩ := Kd.at_int (Kd.R_reads' HO174.out).2.2 1 p176 q176; obtain rfl : ad175 = ad176 := (by injection e176); (try simp only [show (1 : Int).toNat = 1 from rfl, Nat.reduceMul, Nat.reduceEqDiff, Go.Addr.add, ↓reduceIte] at hx176_0); have qi176 : (1 < t172.length) = True := eq_true (by omega); (try rw [show ((1 : Int)).toNat = 1 from rfl] at hx176_0); replace p176 := eq_true p176; replace q176 := eq_true q176) | (go_at_call 131; (with_reducible refine (spec_FieldMul.calls (rd t172 0) (rd t172 1) t177 _ A6.out).mono ?_); rintro e w' ⟨rfl, ⟨nd, rfl⟩⟩; (try first | exact ⟨rfl, _, World.drewN_drewN _ _ _⟩ | exact ⟨rfl, _, Eq.trans (World.drewN_drewN _ _ _) (congrArg (World.drewN _) (Nat.add_assoc _ _ _))⟩); have p178 : 0 ≤ (2 : Int) := (by omega); have q178 : 2 < (t172.length : Int) := of_decide_eq_true ‹_›; obtain ⟨ad178, e178, hx178_0⟩ := Kd.at_int (Kd.R_reads' HO174.out).2.2 2 p178 q178; obtain rfl : ad175 = ad178 := (by injection e178); (try simp only [show (2 : Int).toNat = 2 from rfl, Nat.reduceMul, Nat.reduceEqDiff, Go.Addr.add, ↓reduceIte] at hx178_0); have qi178 : (2 < t172.length) = True := eq_true (by omega); (try rw [show ((2 : Int)).toNat = 2 from rfl] at hx178_0); replace p178 := eq_true p178; replace q178 := eq_true q178)); try go_wp2_with (first | (go_at_call 130; (with_reducible refine (spec_l3Sum.calls k _ _ l0 _ _ l1 t172 _ ?side1 ?side2 ?side3 ?side4 A3.out).mono ?_); (case side1 => exact HR0.out); (case side2 => exact HC0.out); (case side3 => exact HR1.out); (case side4 => exact HC1.out); rintro e w12 ⟨v173, rfl, ho0, hb⟩; replace HO174 := Aside0.mk (Kd.R_lower ho0 (below_size (HB.out))); replace HB := Aside0.mk (below_step (HB.out) hb); (try clear hb); (try clear hb2); (try clear hk); (try clear hi); (try clear ho0); obtain ⟨Ao13, co13, eo13⟩ := Kd.R_slice HO174.out; subst eo13; have p175 : 0 ≤ (0 : Int) := (by omega); have q175 : 0 < (t172.length : Int) := of_decide_eq_true ‹_›; obtain ⟨ad175, e175, hx175_0⟩ := Kd.at_int (Kd.R_reads' HO174.out).2.2 0 p175 q175; cases e175; have qi175 : (0 < t172.length) = True := eq_true (by omega); (try rw [show ((0 : Int)).toNat = 0 from rfl] at hx175_0); (try rw [Addr.add_zero'] at hx175_0); replace p175 := eq_true p175; replace q175 := eq_true q175; have p176 : 0 ≤ (1 : Int) := (by omega); have q176 : 1 < (t172.length : Int) := of_decide_eq_true ‹_›; obtain ⟨ad176, e176, hx176_0⟩ := Kd.at_int (Kd.R_reads' HO174.out).2.2 1 p176 q176; obtain rfl : ad175 = ad176 := (by injection e176); (try simp only [show (1 : Int).toNat = 1 from rfl, Nat.reduceMul, Nat.reduceEqDiff, Go.Addr.add, ↓reduceIte] at hx176_0); have qi176 : (1 < t172.length) = True := eq_true (by omega); (try rw [show ((1 : Int)).toNat = 1 from rfl] at hx176_0); replace p176 := eq_true p176; replace q176 := eq_true q176) | (go_at_call 131; (with_reducible refine (spec_FieldMul.calls (rd t172 0) (rd t172 1) t177 _ A6.out).mono ?_); rintro e w' ⟨rfl, ⟨nd, rfl⟩⟩; (try first | exact ⟨rfl, _, World.drewN_drewN _ _ _⟩ | exact ⟨rfl, _, Eq.trans (World.drewN_drewN _ _ _) (congrArg (World.drewN _) (Nat.add_assoc _ _ _))⟩); have p178 : 0 ≤ (2 : Int) := (by omega); have q178 : 2 < (t172.length : Int) := of_decide_eq_true ‹_›; obtain ⟨ad178, e178, hx178_0⟩ := Kd.at_int (Kd.R_reads' HO174.out).2.2 2 p178 q178; obtain rfl : ad175 = ad178 := (by injection e178); (try simp only [show (2 : Int).toNat = 2 from rfl, Nat.reduceMul, Nat.reduceEqDiff, Go.Addr.add, ↓reduceIte] at hx178_0); have qi178 : (2 < t172.length) = True := eq_true (by omega); (try rw [show ((2 : Int)).toNat = 2 from rfl] at hx178_0); replace p178 := eq_true p178; replace q178 := eq_true q178)))
     go_ret
     exact ⟨rfl, by repeat (with_reducible first | exact HB.out | apply below_alloc | apply pw_below_drewN | apply below_drew1)⟩
   ·rw [if_neg c7] at H
    exact absurd H (by simp)
  ·rw [if_neg c5] at H
   exact absurd H (by simp)
 ·rw [if_neg c4] at H
  exact absurd H (by simp)
def spec_ProofLen.f (a0 : Int) : Option (Int) := (spec_l11Kind.f a0).bind fun t180 => (if t180 = true then ((spec_TypeLen.f a0).bind fun t181 => (some (wrap64 ((wrap64 (3 * t181)) + 3)))) else (some 0))
set_option maxHeartbeats 8000000 in
set_option maxRecDepth 100000 in
theorem spec_ProofLen.calls (a0 : Int) (r : Int) (w : World) (h : spec_ProofLen.f a0 = some r) :
  Calls Try.prog 119 #[.int .i64 a0] w fun e w' => e = .returned (.int .i64 r) ∧ Drawn0 w w' := by
 have H := h
 unfold spec_ProofLen.f at H
 clear h
 replace H := bnd H
 obtain ⟨t180, A2, H⟩ := H
 by_cases c3 : t180 = true
 ·subst c3
  rw [if_pos rfl] at H
  replace H := bnd H
  obtain ⟨t181, A4, H⟩ := H
  obtain rfl := Option.some.inj H
  go_enter Try.func119, Try.ntmps119
  go_wp2_with (first | (refine gsD c85x5 (spec_l11Kind.calls a0 true _ A2.out) ?_; intro nd) | (refine gsD c86x5 (spec_TypeLen.calls a0 t181 _ A4.out) ?_; intro nd))
  go_ret
  exact ⟨rfl, ⟨_, rfl⟩⟩
 ·replace c3 := Bool.eq_false_iff.mpr c3
  subst c3
  rw [if_neg (show ¬ (false = true) by decide)] at H
  obtain rfl := Option.some.inj H
  go_enter Try.func119, Try.ntmps119
  go_wp2_with (first | (refine gsD c85x5 (spec_l11Kind.calls a0 false _ A2.out) ?_; intro nd))
  go_ret
  exact ⟨rfl, ⟨_, rfl⟩⟩
def spec_l12First.f (l0 : List Int) (a1 : Int) : Option (List Int) := (some (([a1] : List Int) : List Int)).bind fun y182 => (if y182.length + l0.length < 17592186044416 then (some (y182 ++ l0)) else (none))
set_option maxHeartbeats 8000000 in
set_option maxRecDepth 100000 in
theorem spec_l12First.calls (A0 : Option Addr) (c0 : Nat) (l0 : List Int) (a1 : Int) (r : List Int) (w : World) (hr0 : Kd.C (Kd.int .i64) w A0 l0.length l0) (hc0 : l0.length ≤ c0) (h : spec_l12First.f l0 a1 = some r) :
  Calls Try.prog 139 #[.slice A0 l0.length c0, .int .i64 a1] w fun e w' => ∃ v0_ : Value, e = .returned (v0_) ∧ Kd.R (Kd.int .i64) 3 w' w.heap.size (fun _ => True) v0_ r ∧ Below w.heap.size w w' := by
 have HR0 := Aside0.mk hr0
 have HC0 := Aside0.mk hc0
 clear hr0 hc0
 have HB := Aside0.mk (Below.refl w.heap.size w)
 have H := h
 unfold spec_l12First.f at H
 clear h
 obtain ⟨y182, hy182⟩ : ∃ y_ : List Int, y_ = (([a1] : List Int)) := ⟨_, rfl⟩
 replace H : (if y182.length + l0.length < 17592186044416 then (some (y182 ++ l0)) else (none)) = some r := by first | (rw [hy182]; with_reducible exact H) | (have H2_ := (Option.bind_some _ _).symm.trans H; rw [hy182]; with_reducible exact H2_) | (have H2_ := (Option.bind_some _ _).symm.trans H; with_reducible exact H2_) | with_reducible exact H | (rw [hy182]; exact H) | exact H
 have Ny182 := Aside0.mk hy182
 clear hy182
 by_cases c3 : y182.length + l0.length < 17592186044416
 ·rw [if_pos c3] at H
  have LMc3 := Aside0.mk c3
  clear c3
  obtain ⟨y185, hy185⟩ : ∃ y_ : List Int, y_ = (y182 ++ l0) := ⟨_, rfl⟩
  replace H : (some y185) = some r := by rw [hy185]; with_reducible exact H
  have Ny185 := Aside0.mk hy185
  clear hy185
  obtain rfl := Option.some.inj H
  go_enter Try.func139, Try.ntmps139
  go_wp2_with (first | ((with_reducible refine gate_dst (N := 6) rfl ?_); refine Kd.R_lit (Kd.int .i64) _ 3 ?hg (N := 6) ?hd (xs := ([a1] : List Int)) (inner := [.int .i64 a1]) (ok := fun _ => True) (okp := fun _ => True) ?hr ?hp (fun _ hk => hk) trivial (Below.refl _ _) (Nat.le_refl _) (by simp) ?_; (case hd => rfl); (case hg => rfl); (case hr => first | (go_simp; done) | (go_simp; rfl)); (case hp => exact (Reps.one (show Kd.M (Kd.int .i64) _ _ _ a1 [.int .i64 a1] from rfl) (Reps.none _ _))); intro v183 w4 ho5 hb hg_ hnew_; clear hg_ hnew_; (first | rw [← Ny182.out] at ho5 | (simp only [Int.reduceToNat] at ho5; rw [← Ny182.out] at ho5)); replace HO184 := Aside0.mk (Kd.R_lower ho5 (below_size (HB.out))); replace HB := Aside0.mk (below_step (HB.out) hb); clear hb ho5) | ((with_reducible refine gate_builtin (b := .append) (xs := #[.tmp 6, .tmp 7]) rfl ?_); at_builtin; refine Kd.R_append_rows (Kd.int .i64) (w0 := w) w.heap.size rfl (.tmp 6) (.tmp 7) 30 3 (.int .i64 0) 8 rfl Try.underlying30 info3 rfl (by decide) (by omega) v183 y182 l0 _ _ _ (fun _ => True) (fun _ => False) rfl rfl ?aO ?aR (fun _ _ h => h) (fun _ h => h.elim) ?aF ?aB ?aS ?aL ?_; (case aR => exact (Kd.C_below HR0.out HB.out)); (case aB => exact (HB.out)); (case aF => exact (fun _ _ => trivial)); (case aO => exact (HO184.out)); (case aS => exact (below_size (HB.out))); (case aL => have := LMc3.out; omega); intro v186 w6 ho hb hg hat; rw [← Ny185.out] at ho; replace HB := Aside0.mk (hb); replace HO187 := Aside0.mk (ho); clear HO184; clear ho hb hg hat))
  go_ret
  exact ⟨_, rfl, HO187.out, HB.out⟩
 ·rw [if_neg c3] at H
  exact absurd H (by simp)
end Go.Proofs.Ytplbobmllflniaa.Ea
