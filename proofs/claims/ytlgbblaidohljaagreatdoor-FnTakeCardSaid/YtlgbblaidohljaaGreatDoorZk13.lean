import Derived.Test.YtlgbblaidohljaaGreatDoorZ
import Derived.Test.YtlgbblaidohljaaGreatDoorZk0
import Derived.Test.YtlgbblaidohljaaGreatDoorZk1
import Derived.Test.YtlgbblaidohljaaGreatDoorZk12
namespace Go.Proofs.YtlgbblaidohljaaGreatDoor.Zk
open Go.RowKit Go.Proofs.YtlgbblaidohljaaGreatDoorT.PrintWords Go.Proofs.YtlgbblaidohljaaGreatDoorT.PrintLast Go.Proofs.YtlgbblaidohljaaGreatDoorT.PrintMore Go.Proofs.YtlgbblaidohljaaGreatDoor.Z
attribute [local go_sem] max2_int min2_int max_two min_two max_three min_three max_four min_four
set_option linter.unusedVariables false
set_option linter.unusedSimpArgs false
theorem c68x13 : Ent Tryz.prog 68 := ent Tryz.func68 (by kernel_rfl) rfl
theorem c129x13 : Ent Tryz.prog 129 := ent Tryz.func129 (by kernel_rfl) rfl
private theorem c69x9 : Ent Tryz.prog 69 := ent Tryz.func69 (by kernel_rfl) rfl
mutual
def spec_l11Make.l0 : Nat → Int → Int → List Int → Int → Option (List Int)
  | 0, _, _, _, _ => none
  | k + 1, x0, x1, x5, x6 => if x6 < (x5.length : Int) then (if x0 = 2 then (if x6 = x1 then (spec_l11Make.j1 k x0 x1 x5 x6 true) else (spec_l11Make.j1 k x0 x1 x5 x6 false)) else (spec_l11Make.j1 k x0 x1 x5 x6 ((Int.tmod x1 2) == 1))) else (some x5)
def spec_l11Make.j1 : Nat → Int → Int → List Int → Int → Bool → Option (List Int)
  | 0, _, _, _, _, _ => none
  | k + 1, x0, x1, x5, x6, x31 => if x31 = true then (if 0 ≤ x6 then (if x6 < (x5.length : Int) then ((some (x5.set (x6 : Int).toNat 1 : List Int)).bind fun y375 => (if x0 = 2 then (spec_l11Make.l0 k x0 x1 y375 (wrap64 (x6 + 1))) else (spec_l11Make.l0 k x0 (wrap64 (Int.tdiv x1 2)) y375 (wrap64 (x6 + 1))))) else (none)) else (none)) else (if x0 = 2 then (spec_l11Make.l0 k x0 x1 x5 (wrap64 (x6 + 1))) else (spec_l11Make.l0 k x0 (wrap64 (Int.tdiv x1 2)) x5 (wrap64 (x6 + 1))))
end
def spec_l11Make.f (k : Nat) (a0 : Int) (a1 : Int) : Option (List Int) := (spec_TypeLen.f a0).bind fun t371 => (if 0 ≤ t371 then (if (t371 : Int).toNat ≤ 35184372088832 then (spec_l11Make.l0 k a0 a1 (List.replicate (t371 : Int).toNat 0) 0) else (none)) else (none))
theorem spec_l11Make.mono_l : ∀ k, (∀ y0 y1 y2 y3, LeO (spec_l11Make.l0 k y0 y1 y2 y3) (spec_l11Make.l0 (k + 1) y0 y1 y2 y3)) ∧ (∀ y0 y1 y2 y3 y4, LeO (spec_l11Make.j1 k y0 y1 y2 y3 y4) (spec_l11Make.j1 (k + 1) y0 y1 y2 y3 y4))
 | 0 => ⟨fun _ _ _ _ r h => by simp [spec_l11Make.l0] at h, fun _ _ _ _ _ r h => by simp [spec_l11Make.j1] at h⟩
 | k + 1 => by
  obtain ⟨ih0, ih1⟩ := spec_l11Make.mono_l k
  refine ⟨?_, ?_⟩
  ·intro y0 y1 y2 y3
   unfold spec_l11Make.l0
   repeat' first
   | exact ih0 _ _ _ _
   | exact ih1 _ _ _ _ _
   | exact LeO.none _
   | refine LeO.ite ?_ ?_
   | refine LeO.bind ?_ (fun _ => ?_)
   | exact LeO.refl _
  ·intro y0 y1 y2 y3 y4
   unfold spec_l11Make.j1
   repeat' first
   | exact ih0 _ _ _ _
   | exact ih1 _ _ _ _ _
   | exact LeO.none _
   | refine LeO.ite ?_ ?_
   | refine LeO.bind ?_ (fun _ => ?_)
   | exact LeO.refl _
theorem spec_l11Make.mono : ∀ a0 a1 k, LeO (spec_l11Make.f k a0 a1) (spec_l11Make.f (k + 1) a0 a1) := by
 intro a0 a1 k
 obtain ⟨ih0, ih1⟩ := spec_l11Make.mono_l k
 unfold spec_l11Make.f
 repeat' first
   | exact ih0 _ _ _ _
   | exact ih1 _ _ _ _ _
   | exact LeO.none _
   | refine LeO.ite ?_ ?_
   | refine LeO.bind ?_ (fun _ => ?_)
   | exact LeO.refl _
set_option maxHeartbeats 8000000 in
set_option maxRecDepth 100000 in
theorem spec_l11Make.calls (k : Nat) (a0 : Int) (a1 : Int) (r : List Int) (w : World) (h : spec_l11Make.f k a0 a1 = some r) :
  Calls Tryz.prog 129 #[.int .i64 a0, .int .i64 a1] w fun e w' => ∃ v0_ : Value, e = .returned (v0_) ∧ Kd.R (Kd.int .i64) 3 w' w.heap.size (fun _ => True) v0_ r ∧ Below w.heap.size w w' := by
 have HB := Aside0.mk (Below.refl w.heap.size w)
 have H := h
 unfold spec_l11Make.f at H
 clear h
 replace H := bnd H
 obtain ⟨t237, A3, H⟩ := H
 by_cases c4 : 0 ≤ t237
 ·rw [if_pos c4] at H
  have c4b0 := eq_true c4
  have c4b1 : decide (0 ≤ t237) = true := decide_eq_true c4
  clear c4
  by_cases c5 : (t237 : Int).toNat ≤ 35184372088832
  ·rw [if_pos c5] at H
   have c5b0 := eq_true c5
   have c5b1 : decide ((t237 : Int).toNat ≤ 35184372088832) = true := decide_eq_true c5
   clear c5
   obtain ⟨y238, hy238⟩ : ∃ y_ : List Int, y_ = (List.replicate (t237 : Int).toNat 0) := ⟨_, rfl⟩
   rw [← hy238] at H
   have Ny238 := Aside0.mk hy238
   clear hy238
   have H' := Aside0.mk H
   clear H
   go_enter Tryz.func129, Tryz.ntmps129
   go_wp2_with (first | (refine gsD c69x9 (spec_TypeLen.calls a0 t237 _ A3.out) ?_; intro nd) | ((with_reducible refine gate_dst (N := 9) rfl ?_); refine Kd.R_make (Kd.int .i64) _ 3 rfl (N := 9) rfl 22 _ _ rfl t237 rfl rfl Tryz.underlying22 (.int .i64 0) 8 info3 rfl (by decide) (by omega) 0 (ok := fun _ => True) (okp := fun _ => True) rfl (fun _ hk => hk) trivial (of_decide_eq_true ‹_›) (Nat.le_trans (Nat.mul_le_mul_right _ (of_decide_eq_true ‹_› : t237.toNat ≤ 35184372088832)) (by omega)) (Below.refl _ _) (Nat.le_refl _) ?_; intro v239 w6 ho7 hb hg_ hnew_; clear hg_ hnew_; (first | rw [← Ny238.out] at ho7 | (simp only [Int.reduceToNat] at ho7; rw [← Ny238.out] at ho7)); replace HO240 := Aside0.mk (Kd.R_lower ho7 bsZ); replace HB := bnZ hb; clear hb ho7))
   go_loopg [1, 6] k (fun kq v1 v6 w' => ∃ (x1_1 : Int) (x5_1 : List Int) (x6_1 : Int), v1 = .int .i64 x1_1 ∧ v6 = .int .i64 x6_1 ∧ Aside0 (spec_l11Make.l0 kq a0 x1_1 x5_1 x6_1 = some r) ∧ Aside0 (kq ≤ k) ∧ Aside0 (Kd.R (Kd.int .i64) 3 w' w.heap.size (fun _ => True) v239 x5_1) ∧ Aside0 (Below w.heap.size w w'))
   case atStart => exact ⟨(a1), (y238), (0), rfl, rfl, H', ⟨Nat.le_refl _⟩, ⟨HO240.out⟩, ⟨by repeat (with_reducible first | exact HB.out | apply below_alloc | apply pw_below_drewN | apply below_drew1)⟩⟩
   case round =>
    clear H'
    try clear c1
    try clear p2
    try clear c4
    try clear c4b0
    try clear c4b1
    try clear c5
    try clear c5b0
    try clear c5b1
    try clear c6
    obtain ⟨x1_1, x5_1, x6_1, rfl, rfl, HA, HK1, HO_5, HB⟩ := hrel
    cases gk with
    | zero => exact absurd HA.out (by simp [spec_l11Make.l0])
    | succ k1 =>
     have H := HA.out
     clear HA
     simp only [spec_l11Make.l0] at H
     by_cases c8 : x6_1 < (x5_1.length : Int)
     ·rw [if_pos c8] at H
      have c8b0 : decide (x6_1 < (x5_1.length : Int)) = true := decide_eq_true c8
      clear c8
      have HC9 := Aside0.mk H
      clear H
      obtain ⟨Ao10, co10, eo10⟩ := Kd.R_slice HO_5.out
      subst eo10
      go_upto_region 5 with (fail)
      go_cut [31] (fun v31 wc => ∃ (kq : Nat) (x31_8 : Bool), v31 = .bool x31_8 ∧ Aside0 (spec_l11Make.j1 kq a0 x1_1 x5_1 x6_1 x31_8 = some r) ∧ Aside0 (kq ≤ k1) ∧ Aside0 (Kd.R (Kd.int .i64) 3 wc w.heap.size (fun _ => True) (.slice Ao10 x5_1.length co10) x5_1) ∧ Aside0 (Below w.heap.size w wc))
      case first =>
       have H := HC9.out
       clear HC9
       by_cases c11 : a0 = 2
       ·rw [if_pos c11] at H
        have c11b0 : (a0 == 2) = true := beq_iff_eq.mpr c11
        have c11b1 : (a0 != 2) = false := bne_eq_false_iff_eq.mpr c11
        clear c11
        (first | rw [c11b0] | (simp only [i64_w, i32_w]; rw [c11b0]) | skip)
        by_cases c12 : x6_1 = x1_1
        ·rw [if_pos c12] at H
         have c12b0 : (x6_1 == x1_1) = true := beq_iff_eq.mpr c12
         have c12b1 : (x6_1 != x1_1) = false := bne_eq_false_iff_eq.mpr c12
         clear c12
         have H' := Aside0.mk H
         clear H
         go_wp2
         go_meet
         case rel => exact ⟨_, (true), rfl, H', ⟨by have := HK1.out; first | omega | exact Nat.le_refl _⟩, ⟨HO_5.out⟩, ⟨by repeat (with_reducible first | exact HB.out | apply below_alloc | apply pw_below_drewN | apply below_drew1)⟩⟩
        ·rw [if_neg c12] at H
         have c12b0 : (x6_1 == x1_1) = false := beq_eq_false_iff_ne.mpr c12
         have c12b1 : (x6_1 != x1_1) = true := bne_iff_ne.mpr c12
         have H' := Aside0.mk H
         clear H
         go_wp2
         go_meet
         case rel => exact ⟨_, (false), rfl, H', ⟨by have := HK1.out; first | omega | exact Nat.le_refl _⟩, ⟨HO_5.out⟩, ⟨by repeat (with_reducible first | exact HB.out | apply below_alloc | apply pw_below_drewN | apply below_drew1)⟩⟩
       ·rw [if_neg c11] at H
        have c11b0 : (a0 == 2) = false := beq_eq_false_iff_ne.mpr c11
        have c11b1 : (a0 != 2) = true := bne_iff_ne.mpr c11
        (first | rw [c11b0] | (simp only [i64_w, i32_w]; rw [c11b0]) | skip)
        have H' := Aside0.mk H
        clear H
        go_wp2
        go_meet
        case rel => exact ⟨_, (((Int.tmod x1_1 2) == 1)), rfl, H', ⟨by have := HK1.out; first | omega | exact Nat.le_refl _⟩, ⟨HO_5.out⟩, ⟨by repeat (with_reducible first | exact HB.out | apply below_alloc | apply pw_below_drewN | apply below_drew1)⟩⟩
      case rest =>
       clear HC9
       try clear c1
       try clear p2
       try clear c4
       try clear c4b0
       try clear c4b1
       try clear c5
       try clear c5b0
       try clear c5b1
       try clear c6
       try clear c8
       try clear c8b0
       try clear c11
       try clear c11b0
       try clear c11b1
       try clear c12
       try clear c12b0
       try clear c12b1
       try clear p2
       obtain ⟨kq, x31_8, rfl, HA, HJ8, HO_5, HB⟩ := hcut
       cases kq with
       | zero => exact absurd HA.out (by simp [spec_l11Make.j1])
       | succ kj8 =>
        have H := HA.out
        clear HA
        simp only [spec_l11Make.j1] at H
        by_cases c13 : x31_8 = true
        ·subst c13
         rw [if_pos rfl] at H
         by_cases c14 : 0 ≤ x6_1
         ·rw [if_pos c14] at H
          have c14b0 : decide (0 ≤ x6_1) = true := decide_eq_true c14
          clear c14
          by_cases c15 : x6_1 < (x5_1.length : Int)
          ·rw [if_pos c15] at H
           have c15b0 : decide (x6_1 < (x5_1.length : Int)) = true := decide_eq_true c15
           clear c15
           replace H := bndS H
           obtain ⟨y241, Ny241, H⟩ := H
           by_cases c17 : a0 = 2
           ·rw [if_pos c17] at H
            have c17b0 : (a0 == 2) = true := beq_iff_eq.mpr c17
            have c17b1 : (a0 != 2) = false := bne_eq_false_iff_eq.mpr c17
            clear c17
            have H' := Aside0.mk H
            clear H
            have p16 : 0 ≤ (x6_1 : Int) := of_decide_eq_true ‹_›
            have q16 : (x6_1 : Int) < ((x5_1.length : Int) : Int) := of_decide_eq_true ‹_›
            obtain ⟨go16, co16, eo16, gb16, gl16, cl16, HG16⟩ := Kd.R_form HO_5.out (by omega)
            (first | cases eo16 | (injection eo16 with ea_ en_ ec_; (first | subst ea_ | (injection ea_ with ea_; subst ea_)); subst ec_; clear en_))
            have GB16 := Aside0.mk gb16
            have GG16 := Aside0.mk HG16
            clear gb16 gl16 HG16
            obtain ⟨hx16_0, hf16_0⟩ := Kd.R_celln 0 HO_5.out (x6_1 : Int) p16 q16
            replace p16 := eq_true p16
            replace q16 := eq_true q16
            have HP18 := Kd.R_putg HO_5.out (x6_1 : Int) 1
            go_wp2_with (first | ((with_reducible refine gate_store (t := 3) (p := 34) rfl ?_); refine store_event (t := 3) (p := 34) (v := ?vo_w19) (w1 := (wc.setCell ⟨go16, (x6_1 : Int).toNat, none⟩ (.int .i64 1))) ?hg ?ho ?hn ?hr ?_; (case ho => rfl); (case hg => rfl); (case hn => rfl); (case hr => first | (go_simp; done) | (go_simp; rfl)); intro w19 hw; have hg : wc.grownBy w19 (some go16) := (by rw [hw]; exact HP18.2); have hp_ : Kd.R (Kd.int .i64) 3 w19 w.heap.size (fun _ => True) (.slice (some ⟨go16, 0, none⟩) x5_1.length co10) y241 := (by rw [hw, Ny241.out]; exact HP18.1); clear HP18; replace HO_5 := Aside0.mk (hp_); replace HB := Aside0.mk ((by rw [hw]; exact below_set (HB.out) GB16.out : Below w.heap.size w w19)); clear hg hw hp_))
            go_roundg kj8
            case measure => have := HK1.out; have := HJ8.out; omega
            case rel => exact ⟨(x1_1), (y241), (wrap64 (x6_1 + 1)), rfl, rfl, H', ⟨by have := HK1.out; have := HJ8.out; omega⟩, ⟨HO_5.out⟩, ⟨by repeat (with_reducible first | exact HB.out | apply below_alloc | apply pw_below_drewN | apply below_drew1)⟩⟩
           ·rw [if_neg c17] at H
            have c17b0 : (a0 == 2) = false := beq_eq_false_iff_ne.mpr c17
            have c17b1 : (a0 != 2) = true := bne_iff_ne.mpr c17
            have H' := Aside0.mk H
            clear H
            have p16 : 0 ≤ (x6_1 : Int) := of_decide_eq_true ‹_›
            have q16 : (x6_1 : Int) < ((x5_1.length : Int) : Int) := of_decide_eq_true ‹_›
            obtain ⟨go16, co16, eo16, gb16, gl16, cl16, HG16⟩ := Kd.R_form HO_5.out (by omega)
            (first | cases eo16 | (injection eo16 with ea_ en_ ec_; (first | subst ea_ | (injection ea_ with ea_; subst ea_)); subst ec_; clear en_))
            have GB16 := Aside0.mk gb16
            have GG16 := Aside0.mk HG16
            clear gb16 gl16 HG16
            obtain ⟨hx16_0, hf16_0⟩ := Kd.R_celln 0 HO_5.out (x6_1 : Int) p16 q16
            replace p16 := eq_true p16
            replace q16 := eq_true q16
            have HP20 := Kd.R_putg HO_5.out (x6_1 : Int) 1
            go_wp2_with (first | ((with_reducible refine gate_store (t := 3) (p := 34) rfl ?_); refine store_event (t := 3) (p := 34) (v := ?vo_w21) (w1 := (wc.setCell ⟨go16, (x6_1 : Int).toNat, none⟩ (.int .i64 1))) ?hg ?ho ?hn ?hr ?_; (case ho => rfl); (case hg => rfl); (case hn => rfl); (case hr => first | (go_simp; done) | (go_simp; rfl)); intro w21 hw; have hg : wc.grownBy w21 (some go16) := (by rw [hw]; exact HP20.2); have hp_ : Kd.R (Kd.int .i64) 3 w21 w.heap.size (fun _ => True) (.slice (some ⟨go16, 0, none⟩) x5_1.length co10) y241 := (by rw [hw, Ny241.out]; exact HP20.1); clear HP20; replace HO_5 := Aside0.mk (hp_); replace HB := Aside0.mk ((by rw [hw]; exact below_set (HB.out) GB16.out : Below w.heap.size w w21)); clear hg hw hp_))
            go_roundg kj8
            case measure => have := HK1.out; have := HJ8.out; omega
            case rel => exact ⟨(wrap64 (Int.tdiv x1_1 2)), (y241), (wrap64 (x6_1 + 1)), rfl, rfl, H', ⟨by have := HK1.out; have := HJ8.out; omega⟩, ⟨HO_5.out⟩, ⟨by repeat (with_reducible first | exact HB.out | apply below_alloc | apply pw_below_drewN | apply below_drew1)⟩⟩
          ·rw [if_neg c15] at H
           exact absurd H (by simp)
         ·rw [if_neg c14] at H
          exact absurd H (by simp)
        ·replace c13 := Bool.eq_false_iff.mpr c13
         subst c13
         rw [if_neg (show ¬ (false = true) by decide)] at H
         by_cases c22 : a0 = 2
         ·rw [if_pos c22] at H
          have c22b0 : (a0 == 2) = true := beq_iff_eq.mpr c22
          have c22b1 : (a0 != 2) = false := bne_eq_false_iff_eq.mpr c22
          clear c22
          have H' := Aside0.mk H
          clear H
          go_wp2
          go_roundg kj8
          case measure => have := HK1.out; have := HJ8.out; omega
          case rel => exact ⟨(x1_1), (x5_1), (wrap64 (x6_1 + 1)), rfl, rfl, H', ⟨by have := HK1.out; have := HJ8.out; omega⟩, ⟨HO_5.out⟩, ⟨by repeat (with_reducible first | exact HB.out | apply below_alloc | apply pw_below_drewN | apply below_drew1)⟩⟩
         ·rw [if_neg c22] at H
          have c22b0 : (a0 == 2) = false := beq_eq_false_iff_ne.mpr c22
          have c22b1 : (a0 != 2) = true := bne_iff_ne.mpr c22
          have H' := Aside0.mk H
          clear H
          go_wp2
          go_roundg kj8
          case measure => have := HK1.out; have := HJ8.out; omega
          case rel => exact ⟨(wrap64 (Int.tdiv x1_1 2)), (x5_1), (wrap64 (x6_1 + 1)), rfl, rfl, H', ⟨by have := HK1.out; have := HJ8.out; omega⟩, ⟨HO_5.out⟩, ⟨by repeat (with_reducible first | exact HB.out | apply below_alloc | apply pw_below_drewN | apply below_drew1)⟩⟩
     ·rw [if_neg c8] at H
      have c8b0 : decide (x6_1 < (x5_1.length : Int)) = false := decide_eq_false c8
      clear c8
      obtain rfl := Option.some.inj H
      obtain ⟨Ao23, co23, eo23⟩ := Kd.R_slice HO_5.out
      subst eo23
      go_wp2
      go_ret
      exact ⟨_, rfl, HO_5.out, by repeat (with_reducible first | exact HB.out | apply below_alloc | apply pw_below_drewN | apply below_drew1)⟩
  ·rw [if_neg c5] at H
   exact absurd H (by simp)
 ·rw [if_neg c4] at H
  exact absurd H (by simp)
def spec_TypeMake.f (k : Nat) (a0 : Int) (a1 : Int) : Option (List Int × Bool) := (spec_l11Kind.f a0).bind fun t376 => (if t376 = true then ((spec_l11Most.f a0).bind fun t377 => ((spec_l6In.f a1 0 t377).bind fun t378 => (if t378 = true then ((spec_l11Make.f k a0 a1).bind fun t379 => (some (t379, true))) else (some ((([] : List Int)), false))))) else (some ((([] : List Int)), false)))
set_option maxHeartbeats 8000000 in
set_option maxRecDepth 100000 in
theorem spec_TypeMake.calls (k : Nat) (a0 : Int) (a1 : Int) (r1 : List Int) (r2 : Bool) (w : World) (h : spec_TypeMake.f k a0 a1 = some (r1, r2)) :
    Calls Tryz.prog 118 #[.int .i64 a0, .int .i64 a1] w fun e w' => ∃ v0_ : Value, e = .returned (.tuple #[v0_, .bool r2]) ∧ Kd.R (Kd.int .i64) 3 w' w.heap.size (fun _ => True) v0_ r1 ∧ Below w.heap.size w w' := by
  have HB := Aside0.mk (Below.refl w.heap.size w)
  have H := h
  unfold spec_TypeMake.f at H
  clear h
  replace H := bnd H
  obtain ⟨t376, A3, H⟩ := H
  by_cases c4 : t376 = true
  · subst c4
    rw [if_pos rfl] at H
    replace H := bnd H
    obtain ⟨t377, A5, H⟩ := H
    replace H := bnd H
    obtain ⟨t378, A6, H⟩ := H
    by_cases c7 : t378 = true
    · subst c7
      rw [if_pos rfl] at H
      replace H := bnd H
      obtain ⟨t379, A8, H⟩ := H
      simp only [Option.some.injEq, Prod.mk.injEq] at H
      obtain ⟨rfl, rfl⟩ := H
      go_enter Tryz.func118, Tryz.ntmps118
      go_wp2_with (first | (refine gsD c68x13 (spec_l11Kind.calls a0 true _ A3.out) ?_; intro nd) | (go_at_call 116; (with_reducible refine (spec_l11Most.calls a0 t377 _ A5.out).mono ?_); rintro e w9 ⟨rfl, hb⟩; replace HB := bnZ hb; clear hb) | (go_at_call 76; (with_reducible refine (spec_l6In.calls a1 0 t377 true _ A6.out).mono ?_); rintro e w' ⟨rfl, ⟨nd, rfl⟩⟩) | (refine gsC c129x13 (spec_l11Make.calls k a0 a1 t379 _ A8.out) ?_; rintro e w10 ⟨v380, rfl, ho0, hb⟩; refine ⟨_, rfl, ?_⟩; replace HO381 := Aside0.mk (Kd.R_lower ho0 bsZ); replace HB := bnZ hb; clear hb ho0))
      go_ret2
      exact ⟨_, rfl, HO381.out, by repeat (with_reducible first | exact HB.out | apply below_alloc | apply pw_below_drewN | apply below_drew1)⟩
    · replace c7 := Bool.eq_false_iff.mpr c7
      subst c7
      rw [if_neg (show ¬ (false = true) by decide)] at H
      obtain ⟨y382, hy382⟩ : ∃ y_ : List Int, y_ = (([] : List Int)) := ⟨_, rfl⟩
      rw [← hy382] at H
      have Ny382 := Aside0.mk hy382
      clear hy382
      simp only [Option.some.injEq, Prod.mk.injEq] at H
      obtain ⟨rfl, rfl⟩ := H
      go_enter Tryz.func118, Tryz.ntmps118
      go_wp2_with (first | (refine gsD c68x13 (spec_l11Kind.calls a0 true _ A3.out) ?_; intro nd) | (go_at_call 116; (with_reducible refine (spec_l11Most.calls a0 t377 _ A5.out).mono ?_); rintro e w11 ⟨rfl, hb⟩; replace HB := bnZ hb; clear hb) | (go_at_call 76; (with_reducible refine (spec_l6In.calls a1 0 t377 false _ A6.out).mono ?_); rintro e w' ⟨rfl, ⟨nd, rfl⟩⟩) | ((with_reducible refine gate_dst (N := 16) rfl ?_); refine Kd.R_lit (Kd.int .i64) _ 3 ?hg (N := 16) ?hd (xs := ([] : List Int)) (inner := []) (ok := fun _ => True) (okp := fun _ => True) ?hr ?hp (fun _ hk => hk) trivial (Below.refl _ _) (Nat.le_refl _) (by simp) ?_; (case hd => rfl); (case hg => rfl); (case hr => first | (go_simp; done) | (go_simp; rfl)); (case hp => exact (Reps.none _ _)); intro v383 w12 ho13 hb hg_ hnew_; clear hg_ hnew_; (first | rw [← Ny382.out] at ho13 | (simp only [Int.reduceToNat] at ho13; rw [← Ny382.out] at ho13)); replace HO384 := Aside0.mk (Kd.R_lower ho13 bsZ); replace HB := bnZ hb; clear hb ho13))
      go_ret2
      exact ⟨_, rfl, HO384.out, by repeat (with_reducible first | exact HB.out | apply below_alloc | apply pw_below_drewN | apply below_drew1)⟩
  · replace c4 := Bool.eq_false_iff.mpr c4
    subst c4
    rw [if_neg (show ¬ (false = true) by decide)] at H
    obtain ⟨y385, hy385⟩ : ∃ y_ : List Int, y_ = (([] : List Int)) := ⟨_, rfl⟩
    rw [← hy385] at H
    have Ny385 := Aside0.mk hy385
    clear hy385
    simp only [Option.some.injEq, Prod.mk.injEq] at H
    obtain ⟨rfl, rfl⟩ := H
    go_enter Tryz.func118, Tryz.ntmps118
    go_wp2_with (first | (refine gsD c68x13 (spec_l11Kind.calls a0 false _ A3.out) ?_; intro nd) | ((with_reducible refine gate_dst (N := 16) rfl ?_); refine Kd.R_lit (Kd.int .i64) _ 3 ?hg (N := 16) ?hd (xs := ([] : List Int)) (inner := []) (ok := fun _ => True) (okp := fun _ => True) ?hr ?hp (fun _ hk => hk) trivial (Below.refl _ _) (Nat.le_refl _) (by simp) ?_; (case hd => rfl); (case hg => rfl); (case hr => first | (go_simp; done) | (go_simp; rfl)); (case hp => exact (Reps.none _ _)); intro v386 w14 ho15 hb hg_ hnew_; clear hg_ hnew_; (first | rw [← Ny385.out] at ho15 | (simp only [Int.reduceToNat] at ho15; rw [← Ny385.out] at ho15)); replace HO387 := Aside0.mk (Kd.R_lower ho15 bsZ); replace HB := bnZ hb; clear hb ho15))
    go_ret2
    exact ⟨_, rfl, HO387.out, by repeat (with_reducible first | exact HB.out | apply below_alloc | apply pw_below_drewN | apply below_drew1)⟩
end Go.Proofs.YtlgbblaidohljaaGreatDoor.Zk
