import Derived.Test.YtplbobmllflniaaZ
import Derived.Test.YtplbobmllflniaaEa0
import Derived.Test.YtplbobmllflniaaEa1
import Derived.Test.YtplbobmllflniaaEa2
import Derived.Test.YtplbobmllflniaaEa18
namespace Go.Proofs.Ytplbobmllflniaa.Ea
open Go.RowKit Go.Proofs.YtplbobmllflniaaW.PrintWords Go.Proofs.YtplbobmllflniaaW.PrintLast Go.Proofs.YtplbobmllflniaaW.PrintMore Go.Proofs.Ytplbobmllflniaa.Z
attribute [local go_sem] max2_int min2_int max_two min_two max_three min_three max_four min_four
set_option linter.unusedVariables false
set_option linter.unusedSimpArgs false
theorem c30x20 : Ent Try.prog 30 := ent Try.func30 (by kernel_rfl) rfl
mutual
def impl_product.j0 : Nat → List Int → List Int → Bool → Option (List Int)
 | 0, _, _, _ => none
 | k + 1, x0, x1, x17 => if x17 = true then (some ([] : List Int)) else (if 0 ≤ (wrap64 ((wrap64 ((x0.length : Int) + (x1.length : Int))) - 1)) then (if (wrap64 ((wrap64 ((x0.length : Int) + (x1.length : Int))) - 1) : Int).toNat ≤ 35184372088832 then (impl_product.l0 k x1 (List.replicate (wrap64 ((wrap64 ((x0.length : Int) + (x1.length : Int))) - 1) : Int).toNat 0) x0 (x0.length : Int) 0) else (none)) else (none))
def impl_product.l0 : Nat → List Int → List Int → List Int → Int → Int → Option (List Int)
 | 0, _, _, _, _, _ => none
 | k + 1, x1, x5, x25, x26, x27 => if x27 < x26 then (if 0 ≤ x27 then (if x27 < (x25.length : Int) then (impl_product.l1 k x1 x5 x27 (rd x25 x27) x25 x26 x27 x1 (x1.length : Int) 0) else (none)) else (none)) else (some x5)
def impl_product.l1 : Nat → List Int → List Int → Int → Int → List Int → Int → Int → List Int → Int → Int → Option (List Int)
 | 0, _, _, _, _, _, _, _, _, _, _ => none
 | k + 1, x1, x5, x6, x7, x25, x26, x27, x32, x33, x34 => if x34 < x33 then (if 0 ≤ x34 then (if x34 < (x32.length : Int) then (if 0 ≤ (wrap64 (x6 + x34)) then (if (wrap64 (x6 + x34)) < (x5.length : Int) then ((impl_element_times.f x7 (rd x32 x34)).bind fun t713 => ((impl_element_plus.f (rd x5 (wrap64 (x6 + x34))) t713).bind fun t714 => (impl_product.l1 k x1 (x5.set ((wrap64 (x6 + x34)) : Int).toNat t714) x6 x7 x25 x26 x27 x32 x33 (wrap64 (x34 + 1))))) else (none)) else (none)) else (none)) else (none)) else (impl_product.l0 k x1 x5 x25 x26 (wrap64 (x27 + 1)))
end
def impl_product.f (k : Nat) (l0 : List Int) (l1 : List Int) : Option (List Int) := if (l0.length : Int) = 0 then (impl_product.j0 k l0 l1 true) else (impl_product.j0 k l0 l1 ((l1.length : Int) == 0))
def impl_product.T10 : Bool × List (List Nat × List Nat) := (true, [([], []), ([], []), ([], []), ([1, 2], [1, 2]), ([], []), ([], []), ([], []), ([5, 6], [5, 6]), ([4, 7], [4, 7]), ([8], [8]), ([], []), ([], []), ([10, 11], [10, 11]), ([9, 12, 12], [9, 12]), ([0, 3, 0, 1, 2, 3, 4, 5, 6, 7, 8, 9, 10, 11, 12, 13], [0, 3]), ([14, 13, 13, 0, 1, 2, 3, 4, 5, 6, 7, 8, 9, 10, 11, 12, 13], [13, 14])])
def impl_product.B10 : List Nat := [0, 0, 0, 6, 0, 0, 0, 96, 240, 496, 0, 0, 3072, 8176, 16383, 32767]
theorem impl_product.tab10 : rtab .any (opsOf Try.f114 10) = impl_product.T10 := by kernel_rfl
theorem impl_product.bits10 : waitsOk impl_product.T10.2 impl_product.B10 = true := by kernel_rfl
set_option maxHeartbeats 8000000 in
set_option maxRecDepth 100000 in
theorem impl_product.calls (k : Nat) (A0 : Option Addr) (c0 : Nat) (l0 : List Int) (A1 : Option Addr) (c1 : Nat) (l1 : List Int) (r : List Int) (w : World) (hr0 : Kd.C (Kd.int .i64) w A0 l0.length l0) (hc0 : l0.length ≤ c0) (hr1 : Kd.C (Kd.int .i64) w A1 l1.length l1) (hc1 : l1.length ≤ c1) (h : impl_product.f k l0 l1 = some r) :
  Calls Try.prog 114 #[.slice A0 l0.length c0, .slice A1 l1.length c1] w fun e w' => ∃ v0_ : Value, e = .returned (v0_) ∧ Kd.R (Kd.int .i64) 3 w' w.heap.size (fun _ => True) v0_ r ∧ Below w.heap.size w w' := by
 have HR0 := Aside0.mk hr0
 have HC0 := Aside0.mk hc0
 clear hr0 hc0
 have HR1 := Aside0.mk hr1
 have HC1 := Aside0.mk hc1
 clear hr1 hc1
 have HB := Aside0.mk (Below.refl w.heap.size w)
 have H := h
 unfold impl_product.f at H
 clear h
 have HC3 := Aside0.mk H
 clear H
 go_enter Try.func114, Try.ntmps114
 go_upto_region 1 with (fail)
 go_cut [17] (fun v17 wc => ∃ (kq : Nat) (x17_2 : Bool), v17 = .bool x17_2 ∧ Aside0 (impl_product.j0 kq l0 l1 x17_2 = some r) ∧ Aside0 (kq ≤ k) ∧ Aside0 (Below w.heap.size w wc))
 case first =>
  have H := HC3.out
  clear HC3
  by_cases c4 : (l0.length : Int) = 0
  ·rw [if_pos c4] at H
   have c4b0 : ((l0.length : Int) == 0) = true := beq_iff_eq.mpr c4
   have c4b1 : ((l0.length : Int) != 0) = false := bne_eq_false_iff_eq.mpr c4
   clear c4
   (first | rw [c4b0] | (simp only [i64_w, i32_w]; rw [c4b0]) | skip)
   have H' := Aside0.mk H
   clear H
   go_wp2
   go_meet
   case rel => exact ⟨_, (true), rfl, H', ⟨by first | omega | exact Nat.le_refl _⟩, ⟨HB.out⟩⟩
  ·rw [if_neg c4] at H
   have c4b0 : ((l0.length : Int) == 0) = false := beq_eq_false_iff_ne.mpr c4
   have c4b1 : ((l0.length : Int) != 0) = true := bne_iff_ne.mpr c4
   have c4b2 : ¬ (l0 = []) := fun h_ => c4 (by rw [h_]; rfl)
   (first | rw [c4b0] | (simp only [i64_w, i32_w]; rw [c4b0]) | skip)
   have H' := Aside0.mk H
   clear H
   go_wp2
   go_meet
   case rel => exact ⟨_, (((l1.length : Int) == 0)), rfl, H', ⟨by first | omega | exact Nat.le_refl _⟩, ⟨HB.out⟩⟩
 case rest =>
  clear HC3
  try clear c1
  try clear p2
  try clear c4
  try clear c4b0
  try clear c4b1
  try clear c4b2
  obtain ⟨kq, x17_2, rfl, HA, HJ2, HB⟩ := hcut
  cases kq with
  | zero => exact absurd HA.out (by simp [impl_product.j0])
  | succ kj2 =>
   have H := HA.out
   clear HA
   simp only [impl_product.j0] at H
   by_cases c5 : x17_2 = true
   ·subst c5
    rw [if_pos rfl] at H
    obtain rfl := Option.some.inj H
    go_wp2
    go_ret
    exact ⟨_, rfl, by first | exact Kd.R_nil _ _ _ _ _ | exact Kd.N_nil _ _ _ _ _ | exact Kd.V_nil _ _ _ _ _ | exact Kd.Q_nil _ _ _ _ _ | exact Kd.S_nil _ _ _ _ _, HB.out⟩
   ·replace c5 := Bool.eq_false_iff.mpr c5
    subst c5
    rw [if_neg (show ¬ (false = true) by decide)] at H
    obtain ⟨ji6, hji6⟩ : ∃ j_ : Int, (wrap64 ((wrap64 ((l0.length : Int) + (l1.length : Int))) - 1)) = j_ := ⟨_, rfl⟩
    replace H : (if 0 ≤ (ji6) then (if (ji6 : Int).toNat ≤ 35184372088832 then (impl_product.l0 kj2 l1 (List.replicate (ji6 : Int).toNat 0) l0 (l0.length : Int) 0) else (none)) else (none)) = some r := by first | (rw [hji6] at H; exact H) | (simp only [hji6] at H ⊢; exact H)
    have hji6w : (IntKind.i64.wrap ((wrap64 ((l0.length : Int) + (l1.length : Int))) - 1)) = ji6 := (i64_w _).trans hji6
    by_cases c7 : 0 ≤ (ji6)
    ·rw [if_pos c7] at H
     have c7b0 := eq_true c7
     have c7b1 : decide (0 ≤ (ji6)) = true := decide_eq_true c7
     clear c7
     by_cases c8 : (ji6 : Int).toNat ≤ 35184372088832
     ·rw [if_pos c8] at H
      have c8b0 := eq_true c8
      have c8b1 : decide ((ji6 : Int).toNat ≤ 35184372088832) = true := decide_eq_true c8
      clear c8
      obtain ⟨y707, hy707⟩ : ∃ y_ : List Int, y_ = (List.replicate (ji6 : Int).toNat 0) := ⟨_, rfl⟩
      rw [← hy707] at H
      have Ny707 := Aside0.mk hy707
      clear hy707
      have H' := Aside0.mk H
      clear H
      go_wp2_with (first | ((with_reducible refine gate_dst (N := 24) rfl ?_); (try (refine gate_guard (by rfl) ?_; dsimp only)); refine Kd.R_make (Kd.int .i64) _ 3 rfl (N := 24) rfl 30 _ _ rfl ji6 rfl rfl Try.underlying30 (.int .i64 0) 8 info3 rfl (by decide) (by omega) 0 (ok := fun _ => True) (okp := fun _ => True) rfl (fun _ hk => hk) trivial (of_decide_eq_true ‹_›) (Nat.le_trans (Nat.mul_le_mul_right _ (of_decide_eq_true ‹_› : ji6.toNat ≤ 35184372088832)) (by omega)) (Below.refl _ _) (Nat.le_refl _) ?_; intro v708 w9 ho10 hb hg_ hnew_; clear hg_ hnew_; (first | rw [← Ny707.out] at ho10 | (simp only [Int.reduceToNat] at ho10; rw [← Ny707.out] at ho10)); replace HO709 := Aside0.mk (Kd.R_lower ho10 (below_size (HB.out))); replace HB := Aside0.mk (below_step (HB.out) hb); clear hb ho10))
      go_loopg [27] kj2 (fun kq v27 w' => ∃ (x5_2 : List Int) (x27_2 : Int), v27 = .int .i64 x27_2 ∧ Aside0 (impl_product.l0 kq l1 x5_2 l0 (l0.length : Int) x27_2 = some r) ∧ Aside0 (kq ≤ kj2) ∧ Aside0 (Kd.R (Kd.int .i64) 3 w' w.heap.size (fun _ => True) v708 x5_2) ∧ Aside0 (Below w.heap.size w w'))
      case atStart => exact ⟨(y707), (0), rfl, H', ⟨Nat.le_refl _⟩, ⟨HO709.out⟩, ⟨HB.out⟩⟩
      case round =>
       clear H'
       try clear c1
       try clear p2
       try clear c4
       try clear c4b0
       try clear c4b1
       try clear c4b2
       try clear c5
       try clear p6
       try clear c7
       try clear c7b0
       try clear c7b1
       try clear c8
       try clear c8b0
       try clear c8b1
       try clear p2
       obtain ⟨x5_2, x27_2, rfl, HA, HK2, HO_5, HB⟩ := hrel
       cases gk with
       | zero => exact absurd HA.out (by simp [impl_product.l0])
       | succ k2 =>
        have H := HA.out
        clear HA
        simp only [impl_product.l0] at H
        by_cases c11 : x27_2 < (l0.length : Int)
        ·rw [if_pos c11] at H
         have c11b0 : decide (x27_2 < (l0.length : Int)) = true := decide_eq_true c11
         clear c11
         by_cases c12 : 0 ≤ x27_2
         ·rw [if_pos c12] at H
          have c12b0 : decide (0 ≤ x27_2) = true := decide_eq_true c12
          clear c12
          by_cases c13 : x27_2 < (l0.length : Int)
          ·rw [if_pos c13] at H
           have c13b0 : decide (x27_2 < (l0.length : Int)) = true := decide_eq_true c13
           clear c13
           have H' := Aside0.mk H
           clear H
           have p710 : 0 ≤ (x27_2 : Int) := of_decide_eq_true ‹_›
           have q710 : x27_2 < (l0.length : Int) := of_decide_eq_true ‹_›
           obtain ⟨ad710, e710, hx710_0⟩ := Kd.at_int HR0.out x27_2 p710 q710
           cases e710
           replace hx710_0 := (HB.out.cell (World.block_lt_of_cell? w _ hx710_0)).trans hx710_0
           replace p710 := eq_true p710
           replace q710 := eq_true q710
           go_wp2
           go_loopg [34] k2 (fun kq v34 w' => ∃ (x5_3 : List Int) (x34_3 : Int), v34 = .int .i64 x34_3 ∧ Aside0 (impl_product.l1 kq l1 x5_3 x27_2 (rd l0 x27_2) l0 (l0.length : Int) x27_2 l1 (l1.length : Int) x34_3 = some r) ∧ Aside0 (kq ≤ k2) ∧ Aside0 (Kd.R (Kd.int .i64) 3 w' w.heap.size (fun _ => True) v708 x5_3) ∧ Aside0 (Below w.heap.size w w'))
           case atStart => exact ⟨(x5_2), (0), rfl, H', ⟨Nat.le_refl _⟩, ⟨HO_5.out⟩, ⟨HB.out⟩⟩
           case round =>
            clear H'
            try clear c1
            try clear p2
            try clear c4
            try clear c4b0
            try clear c4b1
            try clear c4b2
            try clear c5
            try clear p6
            try clear c7
            try clear c7b0
            try clear c7b1
            try clear p7
            try clear q7
            try clear hx7
            try clear c8
            try clear c8b0
            try clear c8b1
            try clear c11
            try clear c11b0
            try clear c12
            try clear c12b0
            try clear c13
            try clear c13b0
            try clear hx710_0
            try clear p2
            try clear p6
            try clear p710
            try clear q710
            obtain ⟨x5_3, x34_3, rfl, HA, HK3, HO_5, HB⟩ := hrel
            cases gk with
            | zero => exact absurd HA.out (by simp [impl_product.l1])
            | succ k3 =>
             have H := HA.out
             clear HA
             simp only [impl_product.l1] at H
             by_cases c14 : x34_3 < (l1.length : Int)
             ·rw [if_pos c14] at H
              have c14b0 : decide (x34_3 < (l1.length : Int)) = true := decide_eq_true c14
              clear c14
              by_cases c15 : 0 ≤ x34_3
              ·rw [if_pos c15] at H
               have c15b0 : decide (0 ≤ x34_3) = true := decide_eq_true c15
               clear c15
               by_cases c16 : x34_3 < (l1.length : Int)
               ·rw [if_pos c16] at H
                have c16b0 : decide (x34_3 < (l1.length : Int)) = true := decide_eq_true c16
                clear c16
                obtain ⟨ji17, hji17⟩ : ∃ j_ : Int, (wrap64 (x27_2 + x34_3)) = j_ := ⟨_, rfl⟩
                replace H : (if 0 ≤ (ji17) then (if (ji17) < (x5_3.length : Int) then ((impl_element_times.f (rd l0 x27_2) (rd l1 x34_3)).bind fun t713 => ((impl_element_plus.f (rd x5_3 (ji17)) t713).bind fun t714 => (impl_product.l1 k3 l1 (x5_3.set ((ji17) : Int).toNat t714) x27_2 (rd l0 x27_2) l0 (l0.length : Int) x27_2 l1 (l1.length : Int) (wrap64 (x34_3 + 1))))) else (none)) else (none)) = some r := by first | (rw [hji17] at H; exact H) | (simp only [hji17] at H ⊢; exact H)
                have hji17w : (IntKind.i64.wrap (x27_2 + x34_3)) = ji17 := (i64_w _).trans hji17
                by_cases c18 : 0 ≤ (ji17)
                ·rw [if_pos c18] at H
                 have c18b0 : decide (0 ≤ (ji17)) = true := decide_eq_true c18
                 clear c18
                 by_cases c19 : (ji17) < (x5_3.length : Int)
                 ·rw [if_pos c19] at H
                  have c19b0 : decide ((ji17) < (x5_3.length : Int)) = true := decide_eq_true c19
                  clear c19
                  replace H := bnd H
                  obtain ⟨t713, A20, H⟩ := H
                  replace H := bnd H
                  obtain ⟨t714, A21, H⟩ := H
                  obtain ⟨y715, hy715⟩ : ∃ y_ : List Int, y_ = (x5_3.set ((ji17) : Int).toNat t714) := ⟨_, rfl⟩
                  rw [← hy715] at H
                  have Ny715 := Aside0.mk hy715
                  clear hy715
                  have H' := Aside0.mk H
                  clear H
                  have p711 : 0 ≤ (x34_3 : Int) := of_decide_eq_true ‹_›
                  have q711 : x34_3 < (l1.length : Int) := of_decide_eq_true ‹_›
                  obtain ⟨ad711, e711, hx711_0⟩ := Kd.at_int HR1.out x34_3 p711 q711
                  cases e711
                  replace hx711_0 := (HB.out.cell (World.block_lt_of_cell? w _ hx711_0)).trans hx711_0
                  replace p711 := eq_true p711
                  replace q711 := eq_true q711
                  try go_wp2
                  replace HO_5 := Aside0.mk (Kd.R_drew HO_5.out)
                  replace HB := Aside0.mk (below_drew1 HB.out)
                  obtain ⟨Ao24, co24, eo24⟩ := Kd.R_slice HO_5.out
                  (first | subst eo24 | (injection eo24 with f1_ f2_ f3_; have f4_ := f1_.symm; have f5_ := f3_.symm; clear f1_ f2_ f3_; subst f4_; subst f5_))
                  have p712 : 0 ≤ ((ji17) : Int) := of_decide_eq_true ‹_›
                  have q712 : (ji17) < (x5_3.length : Int) := of_decide_eq_true ‹_›
                  obtain ⟨ad712, e712, hx712_0⟩ := Kd.at_int (Kd.R_reads' HO_5.out).2.2 (ji17) p712 q712
                  cases e712
                  replace p712 := eq_true p712
                  replace q712 := eq_true q712
                  refine start_ (n := 16) (S := fun w' => w'.cell? (ad712.add ((ji17)).toNat) = some (.int .i64 (rd x5_3 (ji17)))) (ds := [15]) (bs 16 0) (by kernel_rfl) rfl rfl (hx712_0) (fun hHeld => ?_); refine with_tabW impl_product.tab10 impl_product.bits10 (fun HT_ HW_ => ?_)
                  generalize wr.drew = w23 at HO_5 HB hx712_0 hHeld ⊢
                  refine pZ 0 (some 39) (bs 16 1) rfl rfl (any_of HT_.out (by kernel_rfl)) ?_
                  refine pZ 1 (some 40) (bs 16 3) rfl rfl (any_of HT_.out (by kernel_rfl)) ?_
                  refine pZ 2 (some 41) (bs 16 7) rfl rfl (any_of HT_.out (by kernel_rfl)) ?_
                  refine pZ 3 (some 42) (bs 16 15) rfl rfl (any_of HT_.out (by kernel_rfl)) ?_
                  refine pZ 4 (some 43) (bs 16 31) rfl rfl (any_of HT_.out (by kernel_rfl)) ?_
                  refine pZ 5 (some 44) (bs 16 63) rfl rfl (any_of HT_.out (by kernel_rfl)) ?_
                  refine pZ 6 (some 45) (bs 16 127) rfl rfl (any_of HT_.out (by kernel_rfl)) ?_
                  refine pZ 7 (some 46) (bs 16 255) rfl rfl (any_of HT_.out (by kernel_rfl)) ?_
                  refine pZ 8 (some 47) (bs 16 511) rfl rfl (any_of HT_.out (by kernel_rfl)) ?_
                  refine pZ 10 (some 49) (bs 16 1535) rfl rfl (any_of HT_.out (by kernel_rfl)) ?_
                  refine pZ 11 (some 50) (bs 16 3583) rfl rfl (any_of HT_.out (by kernel_rfl)) ?_
                  refine tZ 9 (some 48) (bs 16 4095) rfl rfl (take_ofW HT_.out HW_.out (by kernel_rfl)) hHeld (by intro w' s0; go_simp; with_reducible rfl) ?_
                  refine one_ (i := 12) (N := some 51) (bs 16 8191) rfl rfl (one_of HT_.out (by kernel_rfl)) (by decide) (fun K hK => ?_)
                  refine goes_ Try.func98 (by kernel_rfl) rfl #[.int .i64 (rd l0 x27_2), .int .i64 (rd l1 x34_3)] (by rfl) rfl rfl (by (try simp only [List.map_toArray, List.map_cons, List.map_nil]); first | done | rfl | (simp only [List.length_drop, List.length_take]; rfl)) ?_
                  with_reducible refine (impl_element_times.calls (rd l0 x27_2) (rd l1 x34_3) t713 _ A20.out).mono ?_
                  rintro e w' ⟨rfl, ⟨nd, rfl⟩⟩
                  refine ⟨_, rfl, ?_⟩
                  refine hK.out _ _ (hHeld) (fun hHeld => ?_)
                  clear hK K
                  refine norm_ (a' := ?_) ?_ ?_
                  rotate_left
                  ·show Act.put _ (some 51) _ = _
                   simp only [Act.put, List.setIfInBounds_toArray, List.set_cons_zero, List.set_cons_succ, i64_w, i32_w]
                   rfl
                  refine one_ (i := 13) (N := some 52) (bs 16 16383) rfl rfl (one_of HT_.out (by kernel_rfl)) (by decide) (fun K hK => ?_)
                  refine goes_ Try.func97 (by kernel_rfl) rfl #[.int .i64 (rd x5_3 (ji17)), .int .i64 t713] (by rfl) rfl rfl (by (try simp only [List.map_toArray, List.map_cons, List.map_nil]); first | done | (simp only [hji17]; rfl) | rfl | (simp only [List.length_drop, List.length_take]; rfl)) ?_
                  with_reducible refine (impl_element_plus.calls (rd x5_3 (ji17)) t713 t714 _ A21.out).mono ?_
                  rintro e w' ⟨rfl, ⟨nd, rfl⟩⟩
                  refine ⟨_, rfl, ?_⟩
                  have p22 : 0 ≤ ((ji17) : Int) := of_decide_eq_true ‹_›
                  have q22 : ((ji17) : Int) < ((x5_3.length : Int) : Int) := of_decide_eq_true ‹_›
                  obtain ⟨go22, co22, eo22, gb22, gl22, cl22, HG22⟩ := Kd.R_form HO_5.out (by omega)
                  (first | cases eo22 | (injection eo22 with ea_ en_ ec_; (first | subst ea_ | (injection ea_ with ea_; subst ea_)); subst ec_; clear en_))
                  have GB22 := Aside0.mk gb22
                  have GG22 := Aside0.mk HG22
                  clear gb22 gl22 HG22
                  (first | simp only [add_plain] at hx712_0 | skip)
                  obtain ⟨hx22_0, hf22_0⟩ := Kd.R_celln 0 HO_5.out ((ji17) : Int) p22 q22
                  replace p22 := eq_true p22
                  replace q22 := eq_true q22
                  have HP25 := Kd.R_putn HO_5.out ((ji17) : Int) t714
                  rw [← Ny715.out] at HP25
                  have HQ25 := Aside0.mk HP25
                  clear HP25
                  refine hK.out _ _ (hHeld) (fun hHeld => ?_)
                  clear hK K
                  refine norm_ (a' := ?_) ?_ ?_
                  rotate_left
                  ·show Act.put _ (some 52) _ = _
                   simp only [Act.put, List.setIfInBounds_toArray, List.set_cons_zero, List.set_cons_succ, i64_w, i32_w]
                   rfl
                  refine pZ 14 (some 53) (bs 16 32767) rfl rfl (any_of HT_.out (by kernel_rfl)) ?_
                  refine last_ (i := 15) (N := none) (bs 16 65535) rfl rfl (one_of HT_.out (by kernel_rfl)) (by decide) (fun K hK => ?_)
                  refine skip_ (w1 := ?_) (by rfl) rfl ?_ ?_
                  rotate_left
                  ·go_simp
                   rfl
                  refine hK.out _ _ ?_
                  clear hK K
                  refine done_ (done_of HT_.out (by kernel_rfl)) ?_
                  try go_wp2
                  go_roundg k3
                  case measure => have := HJ2.out; have := HK2.out; have := HK3.out; omega
                  case rel => exact ⟨(y715), (wrap64 (x34_3 + 1)), rfl, H', ⟨by have := HJ2.out; have := HK2.out; have := HK3.out; omega⟩, ⟨HQ25.out⟩, ⟨by repeat (with_reducible first | exact HB.out | apply below_alloc | apply pw_below_drewN | apply below_drew1 | refine below_set ?_ GB22.out)⟩⟩
                 ·rw [if_neg c19] at H
                  exact absurd H (by simp)
                ·rw [if_neg c18] at H
                 exact absurd H (by simp)
               ·rw [if_neg c16] at H
                exact absurd H (by simp)
              ·rw [if_neg c15] at H
               exact absurd H (by simp)
             ·rw [if_neg c14] at H
              have c14b0 : decide (x34_3 < (l1.length : Int)) = false := decide_eq_false c14
              clear c14
              have H' := Aside0.mk H
              clear H
              go_wp2
              go_roundg k3
              case measure => have := HJ2.out; have := HK2.out; have := HK3.out; omega
              case rel => exact ⟨(x5_3), (wrap64 (x27_2 + 1)), rfl, H', ⟨by have := HJ2.out; have := HK2.out; have := HK3.out; omega⟩, ⟨HO_5.out⟩, ⟨HB.out⟩⟩
          ·rw [if_neg c13] at H
           exact absurd H (by simp)
         ·rw [if_neg c12] at H
          exact absurd H (by simp)
        ·rw [if_neg c11] at H
         have c11b0 : decide (x27_2 < (l0.length : Int)) = false := decide_eq_false c11
         clear c11
         obtain rfl := Option.some.inj H
         go_wp2
         go_ret
         exact ⟨_, by first | rfl | (simp [errW_none, errW_some] <;> rfl) | (simp only [← hji6]; first | rfl | (simp [errW_none, errW_some] <;> rfl)) | (simp [*, errW_none, errW_some] <;> rfl), HO_5.out, HB.out⟩
     ·rw [if_neg c8] at H
      exact absurd H (by simp)
    ·rw [if_neg c7] at H
     exact absurd H (by simp)
def impl_ProofMake.j0 : Nat → List Int → Int → Int → Bool → Option (Int × Int × List Int × Bool)
 | 0, _, _, _, _ => none
 | k + 1, x1, x2, x3, x27 => if x27 = true then (some (0, 0, ([] : List Int), false)) else ((impl_ahead.f x2 x1).bind fun t721 => ((impl_through.f t721).bind fun t724 => ((impl_lowered.f k x1 1).bind fun t727 => ((impl_ahead.f x3 t727).bind fun t730 => ((impl_through.f t730).bind fun t733 => ((impl_product.f k t724 t733).bind fun t736 => (some (x2, x3, t736, true))))))))
def impl_ProofMake.f (k : Nat) (a0 : Int) (l1 : List Int) (a2 : Int) (a3 : Int) : Option (Int × Int × List Int × Bool) := (impl_TypeLen.f a0).bind fun t717 => ((impl_sized.f a0 l1 t717).bind fun t718 => (if t718 = true then ((impl_FieldOk.f a2).bind fun t719 => (if t719 = true then ((impl_FieldOk.f a3).bind fun t720 => (impl_ProofMake.j0 k l1 a2 a3 (!t720))) else (impl_ProofMake.j0 k l1 a2 a3 true))) else (impl_ProofMake.j0 k l1 a2 a3 true)))
set_option maxHeartbeats 8000000 in
set_option maxRecDepth 100000 in
theorem impl_ProofMake.calls (k : Nat) (a0 : Int) (A1 : Option Addr) (c1 : Nat) (l1 : List Int) (a2 : Int) (a3 : Int) (r1 : Int) (r2 : Int) (r3 : List Int) (r4 : Bool) (w : World) (hr1 : Kd.C (Kd.int .i64) w A1 l1.length l1) (hc1 : l1.length ≤ c1) (h : impl_ProofMake.f k a0 l1 a2 a3 = some (r1, r2, r3, r4)) :
  Calls Try.prog 59 #[.int .i64 a0, .slice A1 l1.length c1, .int .i64 a2, .int .i64 a3] w fun e w' => ∃ v2_ : Value, e = .returned (.tuple #[.agg #[.int .i64 r1, .int .i64 r2, v2_], .bool r4]) ∧ Kd.R (Kd.int .i64) 3 w' w.heap.size (fun _ => True) v2_ r3 ∧ Below w.heap.size w w' := by
 have hu59 := Try.underlying59
 have HR1 := Aside0.mk hr1
 have HC1 := Aside0.mk hc1
 clear hr1 hc1
 have HB := Aside0.mk (Below.refl w.heap.size w)
 have H := h
 unfold impl_ProofMake.f at H
 clear h
 have HC5 := Aside0.mk H
 clear H
 go_enter Try.func59, Try.ntmps59
 go_upto_region 1 with (first | ((with_reducible refine gate_dst (N := 8) rfl ?_); refine box_event ?hg (N := 8) ?hd (cs := #[.int .i64 0, .int .i64 0, .slice none 0 0]) (t := 59) ?hr ?_; (case hd => rfl); (case hg => rfl); (case hr => first | (go_simp; done) | (go_simp; rfl)); intro gb716 hg w6 hbox hb; have n0_ := Aside0.mk (below_step (HB.out) hb); have n1_ := Aside0.mk (hbox); have n2_ := Aside0.mk ((by rw [hg]; exact (below_size (HB.out)) : w.heap.size ≤ gb716)); have n3_ := Aside0.mk ((by rw [hg]; exact (below_size (HB.out)) : w.heap.size ≤ gb716)); clear HB; have HB := n0_; have BK716 := n1_; have GW716 := n2_; have GE716 := n3_; clear n0_ n1_ n2_ n3_; clear hb hbox hg))
 (try simp only [Act.put, List.setIfInBounds_toArray, List.set_cons_zero, List.set_cons_succ])
 go_cut [27] (fun v27 wc => ∃ (kq : Nat) (x27_4 : Bool), v27 = .bool x27_4 ∧ Aside0 (impl_ProofMake.j0 kq l1 a2 a3 x27_4 = some (r1, r2, r3, r4)) ∧ Aside0 (kq ≤ k) ∧ Aside0 (wc.heap[gb716]? = some (.cells #[.int .i64 0, .int .i64 0, (.slice none 0 0)] 59 (0, 0))) ∧ Aside0 (Below w.heap.size w wc))
 case first =>
  have H := HC5.out
  clear HC5
  replace H := bnd H
  obtain ⟨t717, A7, H⟩ := H
  replace H := bnd H
  obtain ⟨t718, A8, H⟩ := H
  by_cases c9 : t718 = true
  ·subst c9
   rw [if_pos rfl] at H
   replace H := bnd H
   obtain ⟨t719, A10, H⟩ := H
   by_cases c11 : t719 = true
   ·subst c11
    rw [if_pos rfl] at H
    replace H := bnd H
    obtain ⟨t720, A12, H⟩ := H
    have H' := Aside0.mk H
    clear H
    go_wp2_with (first | (refine gsC c30x20 (impl_TypeLen.calls a0 t717 _ A7.out) ?_; rintro e w13 ⟨rfl, hb⟩; refine ⟨_, rfl, ?_⟩; replace BK716 := Aside0.mk (blk_below (g := gb716) (o := .cells #[.int .i64 0, .int .i64 0, .slice none 0 0] 59 (0, 0)) (by exact BK716.out) hb); replace HB := Aside0.mk (below_step (HB.out) hb); clear hb) | ((with_reducible refine gate_callee (f := 99) rfl ?_); refine goesL_ (some 16) rfl rfl Try.func99 (by kernel_rfl) rfl #[.int .i64 a0, .slice A1 l1.length c1, .int .i64 t717] rfl (by (try simp only [List.map_toArray, List.map_cons, List.map_nil]); first | done | rfl | (simp only [List.length_drop, List.length_take]; rfl)) ?_; (with_reducible refine (impl_sized.calls a0 _ _ l1 t717 true _ ?side1 ?side2 A8.out).mono ?_); (case side1 => exact (Kd.C_below HR1.out HB.out)); (case side2 => exact HC1.out); rintro e w' ⟨rfl, ⟨nd, rfl⟩⟩; refine ⟨_, rfl, ?_⟩) | (go_at_call 110; (with_reducible refine (impl_FieldOk.calls a2 true _ A10.out).mono ?_); rintro e w' ⟨rfl, ⟨nd, rfl⟩⟩) | (go_at_call 110; (with_reducible refine (impl_FieldOk.calls a3 t720 _ A12.out).mono ?_); rintro e w' ⟨rfl, ⟨nd, rfl⟩⟩))
    go_meet
    case rel => exact ⟨_, (!t720), rfl, H', ⟨by first | omega | exact Nat.le_refl _⟩, ⟨by exact BK716.out⟩, ⟨by repeat (with_reducible first | exact HB.out | apply below_alloc | apply pw_below_drewN | apply below_drew1 | refine below_set ?_ GE716.out)⟩⟩
   ·replace c11 := Bool.eq_false_iff.mpr c11
    subst c11
    rw [if_neg (show ¬ (false = true) by decide)] at H
    have H' := Aside0.mk H
    clear H
    go_wp2_with (first | (refine gsC c30x20 (impl_TypeLen.calls a0 t717 _ A7.out) ?_; rintro e w14 ⟨rfl, hb⟩; refine ⟨_, rfl, ?_⟩; replace BK716 := Aside0.mk (blk_below (g := gb716) (o := .cells #[.int .i64 0, .int .i64 0, .slice none 0 0] 59 (0, 0)) (by exact BK716.out) hb); replace HB := Aside0.mk (below_step (HB.out) hb); clear hb) | ((with_reducible refine gate_callee (f := 99) rfl ?_); refine goesL_ (some 16) rfl rfl Try.func99 (by kernel_rfl) rfl #[.int .i64 a0, .slice A1 l1.length c1, .int .i64 t717] rfl (by (try simp only [List.map_toArray, List.map_cons, List.map_nil]); first | done | rfl | (simp only [List.length_drop, List.length_take]; rfl)) ?_; (with_reducible refine (impl_sized.calls a0 _ _ l1 t717 true _ ?side1 ?side2 A8.out).mono ?_); (case side1 => exact (Kd.C_below HR1.out HB.out)); (case side2 => exact HC1.out); rintro e w' ⟨rfl, ⟨nd, rfl⟩⟩; refine ⟨_, rfl, ?_⟩) | (go_at_call 110; (with_reducible refine (impl_FieldOk.calls a2 false _ A10.out).mono ?_); rintro e w' ⟨rfl, ⟨nd, rfl⟩⟩))
    go_meet
    case rel => exact ⟨_, (true), rfl, H', ⟨by first | omega | exact Nat.le_refl _⟩, ⟨by exact BK716.out⟩, ⟨by repeat (with_reducible first | exact HB.out | apply below_alloc | apply pw_below_drewN | apply below_drew1 | refine below_set ?_ GE716.out)⟩⟩
  ·replace c9 := Bool.eq_false_iff.mpr c9
   subst c9
   rw [if_neg (show ¬ (false = true) by decide)] at H
   have H' := Aside0.mk H
   clear H
   go_wp2_with (first | (refine gsC c30x20 (impl_TypeLen.calls a0 t717 _ A7.out) ?_; rintro e w15 ⟨rfl, hb⟩; refine ⟨_, rfl, ?_⟩; replace BK716 := Aside0.mk (blk_below (g := gb716) (o := .cells #[.int .i64 0, .int .i64 0, .slice none 0 0] 59 (0, 0)) (by exact BK716.out) hb); replace HB := Aside0.mk (below_step (HB.out) hb); clear hb) | ((with_reducible refine gate_callee (f := 99) rfl ?_); refine goesL_ (some 16) rfl rfl Try.func99 (by kernel_rfl) rfl #[.int .i64 a0, .slice A1 l1.length c1, .int .i64 t717] rfl (by (try simp only [List.map_toArray, List.map_cons, List.map_nil]); first | done | rfl | (simp only [List.length_drop, List.length_take]; rfl)) ?_; (with_reducible refine (impl_sized.calls a0 _ _ l1 t717 false _ ?side1 ?side2 A8.out).mono ?_); (case side1 => exact (Kd.C_below HR1.out HB.out)); (case side2 => exact HC1.out); rintro e w' ⟨rfl, ⟨nd, rfl⟩⟩; refine ⟨_, rfl, ?_⟩))
   go_meet
   case rel => exact ⟨_, (true), rfl, H', ⟨by first | omega | exact Nat.le_refl _⟩, ⟨by exact BK716.out⟩, ⟨by repeat (with_reducible first | exact HB.out | apply below_alloc | apply pw_below_drewN | apply below_drew1 | refine below_set ?_ GE716.out)⟩⟩
 case rest =>
  clear HC5
  try clear c1
  try clear p2
  try clear c3
  try clear c5
  try clear c9
  try clear c11
  obtain ⟨kq, x27_4, rfl, HA, HJ4, BK716, HB⟩ := hcut
  cases kq with
  | zero => exact absurd HA.out (by simp [impl_ProofMake.j0])
  | succ kj4 =>
   have H := HA.out
   clear HA
   simp only [impl_ProofMake.j0] at H
   by_cases c16 : x27_4 = true
   ·subst c16
    rw [if_pos rfl] at H
    simp only [Option.some.injEq, Prod.mk.injEq] at H
    obtain ⟨rfl, rfl, rfl, rfl⟩ := H
    have hcz17_0 : wc.cell? ⟨gb716, 0, none⟩ = some (.int .i64 0) := (blk_cell BK716.out 0).trans rfl
    have hcz17_1 : wc.cell? ⟨gb716, 1, none⟩ = some (.int .i64 0) := (blk_cell BK716.out 1).trans rfl
    have hcz17_2 : wc.cell? ⟨gb716, 2, none⟩ = some (.slice none 0 0) := (blk_cell BK716.out 2).trans rfl
    have hfz17_0 := blk_frozen BK716.out 0
    have hfz17_1 := blk_frozen BK716.out 1
    have hfz17_2 := blk_frozen BK716.out 2
    go_wp2
    refine bodyPost_ret (results_ct rfl _ _ gb716 59 #[.int .i64 0, .int .i64 0, .slice none 0 0] (0, 0) _ rfl (by refine blk_put (cs := #[.int .i64 0, .int .i64 0, .slice none 0 0]) ?_ 2 _ rfl; refine blk_put (cs := #[.int .i64 0, .int .i64 0, .slice none 0 0]) ?_ 1 _ rfl; refine blk_put (cs := #[.int .i64 0, .int .i64 0, .slice none 0 0]) ?_ 0 _ rfl; exact BK716.out) Try.underlying59 rfl (by kernel_rfl)) rfl ?_
    exact ⟨_, rfl, by first | exact Kd.R_nil _ _ _ _ _ | exact Kd.N_nil _ _ _ _ _ | exact Kd.V_nil _ _ _ _ _ | exact Kd.Q_nil _ _ _ _ _ | exact Kd.S_nil _ _ _ _ _, by repeat (with_reducible first | exact HB.out | apply below_alloc | apply pw_below_drewN | apply below_drew1 | refine below_set ?_ GE716.out)⟩
   ·replace c16 := Bool.eq_false_iff.mpr c16
    subst c16
    rw [if_neg (show ¬ (false = true) by decide)] at H
    replace H := bnd H
    obtain ⟨t721, A18, H⟩ := H
    replace H := bnd H
    obtain ⟨t724, A19, H⟩ := H
    replace H := bnd H
    obtain ⟨t727, A20, H⟩ := H
    replace H := bnd H
    obtain ⟨t730, A21, H⟩ := H
    replace H := bnd H
    obtain ⟨t733, A22, H⟩ := H
    replace H := bnd H
    obtain ⟨t736, A23, H⟩ := H
    simp only [Option.some.injEq, Prod.mk.injEq] at H
    obtain ⟨rfl, rfl, rfl, rfl⟩ := H
    go_wp2_with (first | ((with_reducible refine gate_callee (f := 112) rfl ?_); refine goesL_ (some 31) rfl rfl Try.func112 (by kernel_rfl) rfl #[.int .i64 a2, .slice A1 l1.length c1] rfl (by (try simp only [List.map_toArray, List.map_cons, List.map_nil]); first | done | rfl | (simp only [List.length_drop, List.length_take]; rfl)) ?_; (with_reducible refine (impl_ahead.calls a2 _ _ l1 t721 _ ?side1 ?side2 A18.out).mono ?_); (case side1 => exact (Kd.C_below HR1.out HB.out)); (case side2 => exact HC1.out); rintro e w24 ⟨v722, rfl, ho0, hb⟩; refine ⟨_, rfl, ?_⟩; replace HO723 := Aside0.mk (Kd.R_lower ho0 (below_size (HB.out))); replace BK716 := Aside0.mk (blk_below (g := gb716) (o := .cells #[.int .i64 0, .int .i64 0, .slice none 0 0] 59 (0, 0)) (by exact BK716.out) hb); replace HB := Aside0.mk (below_step (HB.out) hb); (try clear hb); (try clear hb2); (try clear hk); (try clear hi); (try clear ho0); obtain ⟨Ao25, co25, eo25⟩ := Kd.R_slice HO723.out; subst eo25) | ((with_reducible refine gate_callee (f := 111) rfl ?_); refine goesL_ (some 32) rfl rfl Try.func111 (by kernel_rfl) rfl #[.slice Ao25 t721.length co25] rfl (by (try simp only [List.map_toArray, List.map_cons, List.map_nil]); first | done | rfl | (simp only [List.length_drop, List.length_take]; rfl)) ?_; (with_reducible refine (impl_through.calls _ _ t721 t724 _ ?side1 ?side2 A19.out).mono ?_); (case side1 => exact (Kd.R_reads' HO723.out).2.2); (case side2 => exact (Kd.R_reads' HO723.out).2.1); rintro e w26 ⟨v725, rfl, ho0, hb⟩; refine ⟨_, rfl, ?_⟩; replace HO726 := Aside0.mk (Kd.R_lower (Kd.R_new' ho0 (Kd.R_lt (HO723.out))) (below_size (HB.out))); replace HO723 := Aside0.mk (Kd.R_elder' (HO723.out) (Kd.R_base ho0) hb); replace BK716 := Aside0.mk (blk_below (g := gb716) (o := .cells #[.int .i64 0, .int .i64 0, .slice none 0 0] 59 (0, 0)) (by exact BK716.out) hb); replace HB := Aside0.mk (below_step (HB.out) hb); clear hb ho0) | ((with_reducible refine gate_callee (f := 113) rfl ?_); refine goesL_ (some 35) rfl rfl Try.func113 (by kernel_rfl) rfl #[.slice A1 l1.length c1, .int .i64 1] rfl (by (try simp only [List.map_toArray, List.map_cons, List.map_nil]); first | done | rfl | (simp only [List.length_drop, List.length_take]; rfl)) ?_; (with_reducible refine (impl_lowered.calls kj4 _ _ l1 1 t727 _ ?side1 ?side2 A20.out).mono ?_); (case side1 => exact (Kd.C_below HR1.out HB.out)); (case side2 => exact HC1.out); rintro e w27 ⟨v728, rfl, ho0, hb⟩; refine ⟨_, rfl, ?_⟩; replace HO729 := Aside0.mk (Kd.R_lower (Kd.R_new' (Kd.R_new' ho0 (Kd.R_lt (HO723.out))) (Kd.R_lt (HO726.out))) (below_size (HB.out))); replace HO723 := Aside0.mk (Kd.R_elder' (HO723.out) (Kd.R_base ho0) hb); replace HO726 := Aside0.mk (Kd.R_elder' (HO726.out) (Kd.R_base ho0) hb); replace BK716 := Aside0.mk (blk_below (g := gb716) (o := .cells #[.int .i64 0, .int .i64 0, .slice none 0 0] 59 (0, 0)) (by exact BK716.out) hb); replace HB := Aside0.mk (below_step (HB.out) hb); (try clear hb); (try clear hb2); (try clear hk); (try clear hi); (try clear ho0); obtain ⟨Ao28, co28, eo28⟩ := Kd.R_slice HO729.out; subst eo28) | ((with_reducible refine gate_callee (f := 112) rfl ?_); refine goesL_ (some 36) rfl rfl Try.func112 (by kernel_rfl) rfl #[.int .i64 a3, .slice Ao28 t727.length co28] rfl (by (try simp only [List.map_toArray, List.map_cons, List.map_nil]); first | done | rfl | (simp only [List.length_drop, List.length_take]; rfl)) ?_; (with_reducible refine (impl_ahead.calls a3 _ _ t727 t730 _ ?side1 ?side2 A21.out).mono ?_); (case side1 => exact (Kd.R_reads' HO729.out).2.2); (case side2 => exact (Kd.R_reads' HO729.out).2.1); rintro e w29 ⟨v731, rfl, ho0, hb⟩; refine ⟨_, rfl, ?_⟩; replace HO732 := Aside0.mk (Kd.R_lower (Kd.R_new' (Kd.R_new' (Kd.R_new' ho0 (Kd.R_lt (HO723.out))) (Kd.R_lt (HO726.out))) (Kd.R_lt (HO729.out))) (below_size (HB.out))); replace HO723 := Aside0.mk (Kd.R_elder' (HO723.out) (Kd.R_base ho0) hb); replace HO726 := Aside0.mk (Kd.R_elder' (HO726.out) (Kd.R_base ho0) hb); replace HO729 := Aside0.mk (Kd.R_elder' (HO729.out) (Kd.R_base ho0) hb); replace BK716 := Aside0.mk (blk_below (g := gb716) (o := .cells #[.int .i64 0, .int .i64 0, .slice none 0 0] 59 (0, 0)) (by exact BK716.out) hb); replace HB := Aside0.mk (below_step (HB.out) hb); (try clear hb); (try clear hb2); (try clear hk); (try clear hi); (try clear ho0); obtain ⟨Ao30, co30, eo30⟩ := Kd.R_slice HO732.out; subst eo30) | ((with_reducible refine gate_callee (f := 111) rfl ?_); refine goesL_ (some 37) rfl rfl Try.func111 (by kernel_rfl) rfl #[.slice Ao30 t730.length co30] rfl (by (try simp only [List.map_toArray, List.map_cons, List.map_nil]); first | done | rfl | (simp only [List.length_drop, List.length_take]; rfl)) ?_; (with_reducible refine (impl_through.calls _ _ t730 t733 _ ?side1 ?side2 A22.out).mono ?_); (case side1 => exact (Kd.R_reads' HO732.out).2.2); (case side2 => exact (Kd.R_reads' HO732.out).2.1); rintro e w31 ⟨v734, rfl, ho0, hb⟩; refine ⟨_, rfl, ?_⟩; replace HO735 := Aside0.mk (Kd.R_lower (Kd.R_new' (Kd.R_new' (Kd.R_new' (Kd.R_new' ho0 (Kd.R_lt (HO723.out))) (Kd.R_lt (HO726.out))) (Kd.R_lt (HO729.out))) (Kd.R_lt (HO732.out))) (below_size (HB.out))); replace HO723 := Aside0.mk (Kd.R_elder' (HO723.out) (Kd.R_base ho0) hb); replace HO726 := Aside0.mk (Kd.R_elder' (HO726.out) (Kd.R_base ho0) hb); replace HO729 := Aside0.mk (Kd.R_elder' (HO729.out) (Kd.R_base ho0) hb); replace HO732 := Aside0.mk (Kd.R_elder' (HO732.out) (Kd.R_base ho0) hb); replace BK716 := Aside0.mk (blk_below (g := gb716) (o := .cells #[.int .i64 0, .int .i64 0, .slice none 0 0] 59 (0, 0)) (by exact BK716.out) hb); replace HB := Aside0.mk (below_step (HB.out) hb); (try clear hb); (try clear hb2); (try clear hk); (try clear hi); (try clear ho0); obtain ⟨Ao32, co32, eo32⟩ := Kd.R_slice HO726.out; subst eo32; obtain ⟨Ao33, co33, eo33⟩ := Kd.R_slice HO735.out; subst eo33) | ((with_reducible refine gate_callee (f := 114) rfl ?_); refine goesL_ (some 42) rfl rfl Try.func114 (by kernel_rfl) rfl #[.slice Ao32 t724.length co32, .slice Ao33 t733.length co33] rfl (by (try simp only [List.map_toArray, List.map_cons, List.map_nil]); first | done | rfl | (simp only [List.length_drop, List.length_take]; rfl)) ?_; (with_reducible refine (impl_product.calls kj4 _ _ t724 _ _ t733 t736 _ ?side1 ?side2 ?side3 ?side4 A23.out).mono ?_); (case side1 => exact (Kd.R_reads' HO726.out).2.2); (case side2 => exact (Kd.R_reads' HO726.out).2.1); (case side3 => exact (Kd.R_reads' HO735.out).2.2); (case side4 => exact (Kd.R_reads' HO735.out).2.1); rintro e w34 ⟨v737, rfl, ho0, hb⟩; refine ⟨_, rfl, ?_⟩; replace HO738 := Aside0.mk (Kd.R_lower (Kd.R_new' (Kd.R_new' (Kd.R_new' (Kd.R_new' (Kd.R_new' ho0 (Kd.R_lt (HO723.out))) (Kd.R_lt (HO726.out))) (Kd.R_lt (HO729.out))) (Kd.R_lt (HO732.out))) (Kd.R_lt (HO735.out))) (below_size (HB.out))); replace HO723 := Aside0.mk (Kd.R_elder' (HO723.out) (Kd.R_base ho0) hb); replace HO726 := Aside0.mk (Kd.R_elder' (HO726.out) (Kd.R_base ho0) hb); replace HO729 := Aside0.mk (Kd.R_elder' (HO729.out) (Kd.R_base ho0) hb); replace HO732 := Aside0.mk (Kd.R_elder' (HO732.out) (Kd.R_base ho0) hb); replace HO735 := Aside0.mk (Kd.R_elder' (HO735.out) (Kd.R_base ho0) hb); replace BK716 := Aside0.mk (blk_below (g := gb716) (o := .cells #[.int .i64 0, .int .i64 0, .slice none 0 0] 59 (0, 0)) (by exact BK716.out) hb); replace HB := Aside0.mk (below_step (HB.out) hb); (try clear hb); (try clear hb2); (try clear hk); (try clear hi); (try clear ho0); obtain ⟨Ao35, co35, eo35⟩ := Kd.R_slice HO738.out; subst eo35; have hcz36_0 : w34.cell? ⟨gb716, 0, none⟩ = some (.int .i64 0) := (blk_cell BK716.out 0).trans rfl; have hcz36_1 : w34.cell? ⟨gb716, 1, none⟩ = some (.int .i64 0) := (blk_cell BK716.out 1).trans rfl; have hcz36_2 : w34.cell? ⟨gb716, 2, none⟩ = some (.slice none 0 0) := (blk_cell BK716.out 2).trans rfl; have hfz36_0 := blk_frozen BK716.out 0; have hfz36_1 := blk_frozen BK716.out 1; have hfz36_2 := blk_frozen BK716.out 2))
    refine bodyPost_ret (results_ct rfl _ _ gb716 59 #[.int .i64 a2, .int .i64 a3, .slice Ao35 t736.length co35] (0, 0) _ rfl (by refine blk_put (cs := #[.int .i64 a2, .int .i64 a3, .slice none 0 0]) ?_ 2 _ rfl; refine blk_put (cs := #[.int .i64 a2, .int .i64 0, .slice none 0 0]) ?_ 1 _ rfl; refine blk_put (cs := #[.int .i64 0, .int .i64 0, .slice none 0 0]) ?_ 0 _ rfl; exact BK716.out) Try.underlying59 rfl (by kernel_rfl)) rfl ?_
    exact ⟨_, rfl, Kd.R_mono (Kd.R_far (p := ⟨gb716, 2, none⟩) (Kd.R_far (p := ⟨gb716, 1, none⟩) (Kd.R_far (p := ⟨gb716, 0, none⟩) (Kd.R_types HO738.out BK716.out (by decide)) (fun _ hk => hk.2) (.int .i64 a2)) (fun _ hk => hk.2) (.int .i64 a3)) (fun _ hk => hk.2) (.slice Ao35 t736.length co35)) (fun _ hk => trivial), by repeat (with_reducible first | exact HB.out | apply below_alloc | apply pw_below_drewN | apply below_drew1 | refine below_set ?_ GE716.out)⟩
def laws_loProof.f (k : Nat) (a0_0 : Int) (a0_1 : Int) (l0_2 : List Int) (a1_0 : Int) (a1_1 : Int) (l1_2 : List Int) : Option (Bool) := if a0_0 = a1_0 then (if a0_1 = a1_1 then ((laws_loInts.f k l0_2 l1_2).bind fun t741 => (some t741)) else (some false)) else (some false)
set_option maxHeartbeats 8000000 in
set_option maxRecDepth 100000 in
theorem laws_loProof.calls (k : Nat) (a0_0 : Int) (a0_1 : Int) (A0_2 : Option Addr) (c0_2 : Nat) (l0_2 : List Int) (a1_0 : Int) (a1_1 : Int) (A1_2 : Option Addr) (c1_2 : Nat) (l1_2 : List Int) (r : Bool) (w : World) (hr0_2 : Kd.C (Kd.int .i64) w A0_2 l0_2.length l0_2) (hc0_2 : l0_2.length ≤ c0_2) (hr1_2 : Kd.C (Kd.int .i64) w A1_2 l1_2.length l1_2) (hc1_2 : l1_2.length ≤ c1_2) (h : laws_loProof.f k a0_0 a0_1 l0_2 a1_0 a1_1 l1_2 = some r) :
  Calls Try.prog 65 #[.agg #[.int .i64 a0_0, .int .i64 a0_1, .slice A0_2 l0_2.length c0_2], .agg #[.int .i64 a1_0, .int .i64 a1_1, .slice A1_2 l1_2.length c1_2]] w fun e w' => e = .returned (.bool r) ∧ Below w.heap.size w w' := by
 have hu59 := Try.underlying59
 have HR0_2 := Aside0.mk hr0_2
 have HC0_2 := Aside0.mk hc0_2
 clear hr0_2 hc0_2
 have HR1_2 := Aside0.mk hr1_2
 have HC1_2 := Aside0.mk hc1_2
 clear hr1_2 hc1_2
 have HB := Aside0.mk (Below.refl w.heap.size w)
 have H := h
 unfold laws_loProof.f at H
 clear h
 by_cases c3 : a0_0 = a1_0
 ·rw [if_pos c3] at H
  have c3b0 : (a0_0 == a1_0) = true := beq_iff_eq.mpr c3
  have c3b1 : (a0_0 != a1_0) = false := bne_eq_false_iff_eq.mpr c3
  clear c3
  by_cases c4 : a0_1 = a1_1
  ·rw [if_pos c4] at H
   have c4b0 : (a0_1 == a1_1) = true := beq_iff_eq.mpr c4
   have c4b1 : (a0_1 != a1_1) = false := bne_eq_false_iff_eq.mpr c4
   clear c4
   replace H := bnd H
   obtain ⟨t741, A5, H⟩ := H
   obtain rfl := Option.some.inj H
   go_enter Try.func65, Try.ntmps65
   go_wp2_with (first | ((with_reducible refine gate_dst (N := 2) rfl ?_); refine box_event ?hg (N := 2) ?hd (cs := #[.int .i64 a0_0, .int .i64 a0_1, .slice A0_2 l0_2.length c0_2]) (t := 59) ?hr ?_; (case hd => rfl); (case hg => rfl); (case hr => first | (go_simp; done) | (go_simp; rfl)); intro gb739 hg w6 hbox hb; replace BK739 := Aside0.mk (hbox); replace GW739 := Aside0.mk ((by rw [hg]; exact (below_size (HB.out)) : w.heap.size ≤ gb739)); replace GE739 := Aside0.mk ((by rw [hg]; exact (below_size (HB.out)) : w.heap.size ≤ gb739)); replace HB := Aside0.mk (below_step (HB.out) hb); clear hb hbox hg) | ((with_reducible refine gate_dst (N := 3) rfl ?_); refine box_event ?hg (N := 3) ?hd (cs := #[.int .i64 a1_0, .int .i64 a1_1, .slice A1_2 l1_2.length c1_2]) (t := 59) ?hr ?_; (case hd => rfl); (case hg => rfl); (case hr => first | (go_simp; done) | (go_simp; rfl)); intro gb740 hg w7 hbox hb; replace BK740 := Aside0.mk (hbox); replace GW740 := Aside0.mk ((by rw [hg]; exact (below_size (HB.out)) : w.heap.size ≤ gb740)); replace GE740 := Aside0.mk ((by rw [hg]; exact (below_size (HB.out)) : w.heap.size ≤ gb740)); replace HB := Aside0.mk (below_step (HB.out) hb); replace NB739_740 := Aside0.mk ((by rw [hg]; exact Nat.ne_of_lt (blk_lt (g := gb739) (o := .cells #[.int .i64 a0_0, .int .i64 a0_1, .slice A0_2 l0_2.length c0_2] 59 (0, 0)) (by exact BK739.out)) : gb739 ≠ gb740)); replace NB740_739 := Aside0.mk ((by rw [hg]; exact Nat.ne_of_gt (blk_lt (g := gb739) (o := .cells #[.int .i64 a0_0, .int .i64 a0_1, .slice A0_2 l0_2.length c0_2] 59 (0, 0)) (by exact BK739.out)) : gb740 ≠ gb739)); replace BK739 := Aside0.mk (blk_below (g := gb739) (o := .cells #[.int .i64 a0_0, .int .i64 a0_1, .slice A0_2 l0_2.length c0_2] 59 (0, 0)) (by exact BK739.out) hb); clear hb hbox hg; have hnb8 := NB739_740.out; have hnc8 := NB740_739.out; have hcz9_0 : w7.cell? ⟨gb739, 0, none⟩ = some (.int .i64 a0_0) := (blk_cell BK739.out 0).trans rfl; have hcz9_1 : w7.cell? ⟨gb739, 1, none⟩ = some (.int .i64 a0_1) := (blk_cell BK739.out 1).trans rfl; have hcz9_2 : w7.cell? ⟨gb739, 2, none⟩ = some (.slice A0_2 l0_2.length c0_2) := (blk_cell BK739.out 2).trans rfl; have hfz9_0 := blk_frozen BK739.out 0; have hfz9_1 := blk_frozen BK739.out 1; have hfz9_2 := blk_frozen BK739.out 2; have hcz10_0 : w7.cell? ⟨gb740, 0, none⟩ = some (.int .i64 a1_0) := (blk_cell BK740.out 0).trans rfl; have hcz10_1 : w7.cell? ⟨gb740, 1, none⟩ = some (.int .i64 a1_1) := (blk_cell BK740.out 1).trans rfl; have hcz10_2 : w7.cell? ⟨gb740, 2, none⟩ = some (.slice A1_2 l1_2.length c1_2) := (blk_cell BK740.out 2).trans rfl; have hfz10_0 := blk_frozen BK740.out 0; have hfz10_1 := blk_frozen BK740.out 1; have hfz10_2 := blk_frozen BK740.out 2) | (go_at_call 77; (with_reducible refine (laws_loInts.calls k _ _ l0_2 _ _ l1_2 t741 _ ?side1 ?side2 ?side3 ?side4 A5.out).mono ?_); (case side1 => exact (Kd.C_below HR0_2.out HB.out)); (case side2 => exact HC0_2.out); (case side3 => exact (Kd.C_below HR1_2.out HB.out)); (case side4 => exact HC1_2.out); rintro e w' ⟨rfl, ⟨nd, rfl⟩⟩))
   go_ret
   exact ⟨rfl, by repeat (with_reducible first | exact HB.out | apply below_alloc | apply pw_below_drewN | apply below_drew1 | refine below_set ?_ GE739.out | refine below_set ?_ GE740.out)⟩
  ·rw [if_neg c4] at H
   have c4b0 : (a0_1 == a1_1) = false := beq_eq_false_iff_ne.mpr c4
   have c4b1 : (a0_1 != a1_1) = true := bne_iff_ne.mpr c4
   obtain rfl := Option.some.inj H
   go_enter Try.func65, Try.ntmps65
   go_wp2_with (first | ((with_reducible refine gate_dst (N := 2) rfl ?_); refine box_event ?hg (N := 2) ?hd (cs := #[.int .i64 a0_0, .int .i64 a0_1, .slice A0_2 l0_2.length c0_2]) (t := 59) ?hr ?_; (case hd => rfl); (case hg => rfl); (case hr => first | (go_simp; done) | (go_simp; rfl)); intro gb739 hg w11 hbox hb; replace BK739 := Aside0.mk (hbox); replace GW739 := Aside0.mk ((by rw [hg]; exact (below_size (HB.out)) : w.heap.size ≤ gb739)); replace GE739 := Aside0.mk ((by rw [hg]; exact (below_size (HB.out)) : w.heap.size ≤ gb739)); replace HB := Aside0.mk (below_step (HB.out) hb); clear hb hbox hg) | ((with_reducible refine gate_dst (N := 3) rfl ?_); refine box_event ?hg (N := 3) ?hd (cs := #[.int .i64 a1_0, .int .i64 a1_1, .slice A1_2 l1_2.length c1_2]) (t := 59) ?hr ?_; (case hd => rfl); (case hg => rfl); (case hr => first | (go_simp; done) | (go_simp; rfl)); intro gb740 hg w12 hbox hb; replace BK740 := Aside0.mk (hbox); replace GW740 := Aside0.mk ((by rw [hg]; exact (below_size (HB.out)) : w.heap.size ≤ gb740)); replace GE740 := Aside0.mk ((by rw [hg]; exact (below_size (HB.out)) : w.heap.size ≤ gb740)); replace HB := Aside0.mk (below_step (HB.out) hb); replace NB739_740 := Aside0.mk ((by rw [hg]; exact Nat.ne_of_lt (blk_lt (g := gb739) (o := .cells #[.int .i64 a0_0, .int .i64 a0_1, .slice A0_2 l0_2.length c0_2] 59 (0, 0)) (by exact BK739.out)) : gb739 ≠ gb740)); replace NB740_739 := Aside0.mk ((by rw [hg]; exact Nat.ne_of_gt (blk_lt (g := gb739) (o := .cells #[.int .i64 a0_0, .int .i64 a0_1, .slice A0_2 l0_2.length c0_2] 59 (0, 0)) (by exact BK739.out)) : gb740 ≠ gb739)); replace BK739 := Aside0.mk (blk_below (g := gb739) (o := .cells #[.int .i64 a0_0, .int .i64 a0_1, .slice A0_2 l0_2.length c0_2] 59 (0, 0)) (by exact BK739.out) hb); clear hb hbox hg; have hnb13 := NB739_740.out; have hnc13 := NB740_739.out; have hcz14_0 : w12.cell? ⟨gb739, 0, none⟩ = some (.int .i64 a0_0) := (blk_cell BK739.out 0).trans rfl; have hcz14_1 : w12.cell? ⟨gb739, 1, none⟩ = some (.int .i64 a0_1) := (blk_cell BK739.out 1).trans rfl; have hcz14_2 : w12.cell? ⟨gb739, 2, none⟩ = some (.slice A0_2 l0_2.length c0_2) := (blk_cell BK739.out 2).trans rfl; have hfz14_0 := blk_frozen BK739.out 0; have hfz14_1 := blk_frozen BK739.out 1; have hfz14_2 := blk_frozen BK739.out 2; have hcz15_0 : w12.cell? ⟨gb740, 0, none⟩ = some (.int .i64 a1_0) := (blk_cell BK740.out 0).trans rfl; have hcz15_1 : w12.cell? ⟨gb740, 1, none⟩ = some (.int .i64 a1_1) := (blk_cell BK740.out 1).trans rfl; have hcz15_2 : w12.cell? ⟨gb740, 2, none⟩ = some (.slice A1_2 l1_2.length c1_2) := (blk_cell BK740.out 2).trans rfl; have hfz15_0 := blk_frozen BK740.out 0; have hfz15_1 := blk_frozen BK740.out 1; have hfz15_2 := blk_frozen BK740.out 2))
   go_ret
   exact ⟨rfl, HB.out⟩
 ·rw [if_neg c3] at H
  have c3b0 : (a0_0 == a1_0) = false := beq_eq_false_iff_ne.mpr c3
  have c3b1 : (a0_0 != a1_0) = true := bne_iff_ne.mpr c3
  obtain rfl := Option.some.inj H
  go_enter Try.func65, Try.ntmps65
  go_wp2_with (first | ((with_reducible refine gate_dst (N := 2) rfl ?_); refine box_event ?hg (N := 2) ?hd (cs := #[.int .i64 a0_0, .int .i64 a0_1, .slice A0_2 l0_2.length c0_2]) (t := 59) ?hr ?_; (case hd => rfl); (case hg => rfl); (case hr => first | (go_simp; done) | (go_simp; rfl)); intro gb739 hg w16 hbox hb; replace BK739 := Aside0.mk (hbox); replace GW739 := Aside0.mk ((by rw [hg]; exact (below_size (HB.out)) : w.heap.size ≤ gb739)); replace GE739 := Aside0.mk ((by rw [hg]; exact (below_size (HB.out)) : w.heap.size ≤ gb739)); replace HB := Aside0.mk (below_step (HB.out) hb); clear hb hbox hg) | ((with_reducible refine gate_dst (N := 3) rfl ?_); refine box_event ?hg (N := 3) ?hd (cs := #[.int .i64 a1_0, .int .i64 a1_1, .slice A1_2 l1_2.length c1_2]) (t := 59) ?hr ?_; (case hd => rfl); (case hg => rfl); (case hr => first | (go_simp; done) | (go_simp; rfl)); intro gb740 hg w17 hbox hb; replace BK740 := Aside0.mk (hbox); replace GW740 := Aside0.mk ((by rw [hg]; exact (below_size (HB.out)) : w.heap.size ≤ gb740)); replace GE740 := Aside0.mk ((by rw [hg]; exact (below_size (HB.out)) : w.heap.size ≤ gb740)); replace HB := Aside0.mk (below_step (HB.out) hb); replace NB739_740 := Aside0.mk ((by rw [hg]; exact Nat.ne_of_lt (blk_lt (g := gb739) (o := .cells #[.int .i64 a0_0, .int .i64 a0_1, .slice A0_2 l0_2.length c0_2] 59 (0, 0)) (by exact BK739.out)) : gb739 ≠ gb740)); replace NB740_739 := Aside0.mk ((by rw [hg]; exact Nat.ne_of_gt (blk_lt (g := gb739) (o := .cells #[.int .i64 a0_0, .int .i64 a0_1, .slice A0_2 l0_2.length c0_2] 59 (0, 0)) (by exact BK739.out)) : gb740 ≠ gb739)); replace BK739 := Aside0.mk (blk_below (g := gb739) (o := .cells #[.int .i64 a0_0, .int .i64 a0_1, .slice A0_2 l0_2.length c0_2] 59 (0, 0)) (by exact BK739.out) hb); clear hb hbox hg; have hnb18 := NB739_740.out; have hnc18 := NB740_739.out; have hcz19_0 : w17.cell? ⟨gb739, 0, none⟩ = some (.int .i64 a0_0) := (blk_cell BK739.out 0).trans rfl; have hcz19_1 : w17.cell? ⟨gb739, 1, none⟩ = some (.int .i64 a0_1) := (blk_cell BK739.out 1).trans rfl; have hcz19_2 : w17.cell? ⟨gb739, 2, none⟩ = some (.slice A0_2 l0_2.length c0_2) := (blk_cell BK739.out 2).trans rfl; have hfz19_0 := blk_frozen BK739.out 0; have hfz19_1 := blk_frozen BK739.out 1; have hfz19_2 := blk_frozen BK739.out 2; have hcz20_0 : w17.cell? ⟨gb740, 0, none⟩ = some (.int .i64 a1_0) := (blk_cell BK740.out 0).trans rfl; have hcz20_1 : w17.cell? ⟨gb740, 1, none⟩ = some (.int .i64 a1_1) := (blk_cell BK740.out 1).trans rfl; have hcz20_2 : w17.cell? ⟨gb740, 2, none⟩ = some (.slice A1_2 l1_2.length c1_2) := (blk_cell BK740.out 2).trans rfl; have hfz20_0 := blk_frozen BK740.out 0; have hfz20_1 := blk_frozen BK740.out 1; have hfz20_2 := blk_frozen BK740.out 2))
  go_ret
  exact ⟨rfl, HB.out⟩
end Go.Proofs.Ytplbobmllflniaa.Ea
