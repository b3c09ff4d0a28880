import Derived.Test.YtahbooeioigbgaaDoorDa0
import Derived.Test.YtahbooeioigbgaaDoorDa7
import Derived.Test.YtahbooeioigbgaaDoorDa8
import Derived.Test.YtahbooeioigbgaaDoorDa10
import Derived.Test.YtahbooeioigbgaaDoorDa14
import Derived.Test.YtahbooeioigbgaaDoorDa21
import Derived.Test.YtahbooeioigbgaaDoorDa28
import Derived.Test.YtahbooeioigbgaaDoorDa29
namespace Go.Proofs.YtahbooeioigbgaaDoor.Da
open Go.RowKit Go.Proofs.YtahbooeioigbgaaDoorW.PrintWords Go.Proofs.YtahbooeioigbgaaDoorW.PrintLast Go.Proofs.YtahbooeioigbgaaDoorW.PrintMore
attribute [local go_sem] max2_int min2_int max_two min_two max_three min_three max_four min_four
set_option linter.unusedVariables false
set_option linter.unusedSimpArgs false
mutual
def laws_FnProofMake.j0 : Nat → Int → List Int → Int → Int → Bool → Bool → Bool → Int → Int → List Int → Int → Int → List Int → Option (Bool)
  | 0, _, _, _, _, _, _, _, _, _, _, _, _, _ => none
  | k + 1, x3, x4, x5, x6, x8, x10, x50, x720000, x720001, x720002, x727000, x727001, x727002 => if x50 = true then (if (x10 == x8) = true then ((laws_loProof.f k x727000 x727001 x727002 x720000 x720001 x720002).bind fun t728 => (some t728)) else (some false)) else (laws_FnProofMake.l0 k x3 x4 x5 x6 0 x727000 x727001 x727002)
def laws_FnProofMake.l0 : Nat → Int → List Int → Int → Int → Int → Int → Int → List Int → Option (Bool)
  | 0, _, _, _, _, _, _, _, _ => none
  | k + 1, x3, x4, x5, x6, x11, x727000, x727001, x727002 => if x11 < (x4.length : Int) then ((impl_PolyAt.f x727002 (wrap64 (x11 + 1))).bind fun t729 => (if 0 ≤ x11 then ((impl_FieldDif.f (rd x4 x11) 1).bind fun t732 => ((impl_FieldMul.f (rd x4 x11) t732).bind fun t733 => (if t729 = t733 then (laws_FnProofMake.l0 k x3 x4 x5 x6 (wrap64 (x11 + 1)) x727000 x727001 x727002) else (some false)))) else (none))) else (if x727000 = x5 then (if x727001 = x6 then ((impl_PolyAt.f x727002 0).bind fun t734 => ((impl_FieldMul.f x5 x6).bind fun t735 => (if t734 = t735 then (if (x727002.length : Int) = (wrap64 ((wrap64 (2 * (x4.length : Int))) + 1)) then ((impl_ProofOk.f k x3 x4 x727000 x727001 x727002).bind fun t736 => ((impl_TypeOk.f k x3 x4).bind fun t737 => (some (t736 == t737)))) else (some false)) else (some false)))) else (some false)) else (some false))
end
def laws_FnProofMake.f (k : Nat) (l0 : List Int) : Option (Bool) := if (l0.length : Int) > 1048576 then (some true) else ((spec_DrawProofMake.f k l0).bind fun bt707 => ((spec_ProofMake.f k bt707.1 bt707.2.1 bt707.2.2.1 bt707.2.2.2).bind fun bt713 => ((impl_ProofMake.f k bt707.1 bt707.2.1 bt707.2.2.1 bt707.2.2.2).bind fun bt720 => (if (bt720.2.2.2 != bt713.2.2.2) = true then (laws_FnProofMake.j0 k bt707.1 bt707.2.1 bt707.2.2.1 bt707.2.2.2 bt713.2.2.2 bt720.2.2.2 true bt713.1 bt713.2.1 bt713.2.2.1 bt720.1 bt720.2.1 bt720.2.2.1) else ((laws_loProof.f k bt720.1 bt720.2.1 bt720.2.2.1 bt713.1 bt713.2.1 bt713.2.2.1).bind fun t727 => (if t727 = true then (laws_FnProofMake.j0 k bt707.1 bt707.2.1 bt707.2.2.1 bt707.2.2.2 bt713.2.2.2 bt720.2.2.2 (!bt720.2.2.2) bt713.1 bt713.2.1 bt713.2.2.1 bt720.1 bt720.2.1 bt720.2.2.1) else (laws_FnProofMake.j0 k bt707.1 bt707.2.1 bt707.2.2.1 bt707.2.2.2 bt713.2.2.2 bt720.2.2.2 true bt713.1 bt713.2.1 bt713.2.2.1 bt720.1 bt720.2.1 bt720.2.2.1)))))))
def laws_FnProofMake.T11 : Bool × List (List Nat × List Nat) := (true, [([], []), ([0], [0]), ([], []), ([2], [2]), ([1, 3], [1, 3]), ([], []), ([], []), ([5, 6], [5, 6]), ([7], [7]), ([], []), ([], []), ([9, 10], [9, 10]), ([11], [11]), ([12, 4], [12]), ([8, 13, 13], [8, 13]), ([4, 14], [4, 14])])
def laws_FnProofMake.B11 : List Nat := [0, 1, 0, 4, 15, 0, 0, 96, 224, 0, 0, 1536, 3584, 7711, 16383, 32767]
theorem laws_FnProofMake.tab11 : rtab .any (opsOf Tryd.f11 11) = laws_FnProofMake.T11 := by kernel_rfl
theorem laws_FnProofMake.bits11 : waitsOk laws_FnProofMake.T11.2 laws_FnProofMake.B11 = true := by kernel_rfl
set_option maxHeartbeats 8000000 in
set_option maxRecDepth 100000 in
theorem laws_FnProofMake.calls (k : Nat) (A0 : Option Addr) (c0 : Nat) (l0 : List Int) (r : Bool) (w : World) (hr0 : Kd.C (Kd.int .u8) w A0 l0.length l0) (hc0 : l0.length ≤ c0) (h : laws_FnProofMake.f k l0 = some r) {a : Addr} (hE : errAt a w) :
    Calls Tryd.prog 11 #[.slice A0 l0.length c0] w fun e w' => e = .returned (.bool r) ∧ Below w.heap.size w w' := by
  have HE := Aside0.mk hE
  clear hE
  have hu29 := Tryd.underlying29
  have HR0 := Aside0.mk hr0
  have HC0 := Aside0.mk hc0
  clear hr0 hc0
  have HB := Aside0.mk (Below.refl w.heap.size w)
  have H : (if (l0.length : Int) > 1048576 then (some true) else ((spec_DrawProofMake.f k l0).bind fun bt707 => ((spec_ProofMake.f k bt707.1 bt707.2.1 bt707.2.2.1 bt707.2.2.2).bind fun bt713 => ((impl_ProofMake.f k bt707.1 bt707.2.1 bt707.2.2.1 bt707.2.2.2).bind fun bt720 => (if (bt720.2.2.2 != bt713.2.2.2) = true then (laws_FnProofMake.j0 k bt707.1 bt707.2.1 bt707.2.2.1 bt707.2.2.2 bt713.2.2.2 bt720.2.2.2 true bt713.1 bt713.2.1 bt713.2.2.1 bt720.1 bt720.2.1 bt720.2.2.1) else ((laws_loProof.f k bt720.1 bt720.2.1 bt720.2.2.1 bt713.1 bt713.2.1 bt713.2.2.1).bind fun t727 => (if t727 = true then (laws_FnProofMake.j0 k bt707.1 bt707.2.1 bt707.2.2.1 bt707.2.2.2 bt713.2.2.2 bt720.2.2.2 (!bt720.2.2.2) bt713.1 bt713.2.1 bt713.2.2.1 bt720.1 bt720.2.1 bt720.2.2.1) else (laws_FnProofMake.j0 k bt707.1 bt707.2.1 bt707.2.2.1 bt707.2.2.2 bt713.2.2.2 bt720.2.2.2 true bt713.1 bt713.2.1 bt713.2.2.1 bt720.1 bt720.2.1 bt720.2.2.1)))))))) = some r := h
  clear h
  go_enter Tryd.func11, Tryd.ntmps11
  by_cases c2 : (l0.length : Int) > 1048576
  · rw [if_pos c2] at H
    have c2b0 : decide (1048576 < (l0.length : Int)) = true := decide_eq_true c2
    have c2b1 : decide (1048576 < l0.length) = true := decide_eq_true (by omega)
    clear c2
    obtain rfl := Option.some.inj H
    go_wp2
    go_ret
    exact ⟨by first | rfl | (simp [errW_none, errW_some] <;> rfl) | (simp [*, errW_none, errW_some] <;> rfl), by repeat (first | (with_reducible first | exact HB.out | apply below_alloc | apply pw_below_drewN | apply below_drew1) | exact HB.out)⟩
  · rw [if_neg c2] at H
    have c2b0 : decide (1048576 < (l0.length : Int)) = false := decide_eq_false c2
    have c2b1 : decide (1048576 < l0.length) = false := decide_eq_false (by omega)
    clear c2
    replace H := Option.bind_eq_some_iff.mp H
    obtain ⟨⟨t707, t708, t709, t710⟩, A30, H⟩ := H
    replace H : ((spec_ProofMake.f k t707 t708 t709 t710).bind fun bt713 => ((impl_ProofMake.f k t707 t708 t709 t710).bind fun bt720 => (if (bt720.2.2.2 != bt713.2.2.2) = true then (laws_FnProofMake.j0 k t707 t708 t709 t710 bt713.2.2.2 bt720.2.2.2 true bt713.1 bt713.2.1 bt713.2.2.1 bt720.1 bt720.2.1 bt720.2.2.1) else ((laws_loProof.f k bt720.1 bt720.2.1 bt720.2.2.1 bt713.1 bt713.2.1 bt713.2.2.1).bind fun t727 => (if t727 = true then (laws_FnProofMake.j0 k t707 t708 t709 t710 bt713.2.2.2 bt720.2.2.2 (!bt720.2.2.2) bt713.1 bt713.2.1 bt713.2.2.1 bt720.1 bt720.2.1 bt720.2.2.1) else (laws_FnProofMake.j0 k t707 t708 t709 t710 bt713.2.2.2 bt720.2.2.2 true bt713.1 bt713.2.1 bt713.2.2.1 bt720.1 bt720.2.1 bt720.2.2.1)))))) = some r := H
    have A3 := Aside0.mk A30
    clear A30
    replace H := Option.bind_eq_some_iff.mp H
    obtain ⟨⟨t713, t714, t715, t718⟩, A40, H⟩ := H
    replace H : ((impl_ProofMake.f k t707 t708 t709 t710).bind fun bt720 => (if (bt720.2.2.2 != t718) = true then (laws_FnProofMake.j0 k t707 t708 t709 t710 t718 bt720.2.2.2 true t713 t714 t715 bt720.1 bt720.2.1 bt720.2.2.1) else ((laws_loProof.f k bt720.1 bt720.2.1 bt720.2.2.1 t713 t714 t715).bind fun t727 => (if t727 = true then (laws_FnProofMake.j0 k t707 t708 t709 t710 t718 bt720.2.2.2 (!bt720.2.2.2) t713 t714 t715 bt720.1 bt720.2.1 bt720.2.2.1) else (laws_FnProofMake.j0 k t707 t708 t709 t710 t718 bt720.2.2.2 true t713 t714 t715 bt720.1 bt720.2.1 bt720.2.2.1))))) = some r := H
    have A4 := Aside0.mk A40
    clear A40
    replace H := Option.bind_eq_some_iff.mp H
    obtain ⟨⟨t720, t721, t722, t725⟩, A50, H⟩ := H
    replace H : (if (t725 != t718) = true then (laws_FnProofMake.j0 k t707 t708 t709 t710 t718 t725 true t713 t714 t715 t720 t721 t722) else ((laws_loProof.f k t720 t721 t722 t713 t714 t715).bind fun t727 => (if t727 = true then (laws_FnProofMake.j0 k t707 t708 t709 t710 t718 t725 (!t725) t713 t714 t715 t720 t721 t722) else (laws_FnProofMake.j0 k t707 t708 t709 t710 t718 t725 true t713 t714 t715 t720 t721 t722)))) = some r := H
    have A5 := Aside0.mk A50
    clear A50
    have HC6 := Aside0.mk H
    clear H
    go_upto_region 6 with (first | ((with_reducible refine gate_callee (f := 43) rfl ?_); refine goesL_ (some 17) rfl rfl Tryd.func43 (by kernel_rfl) rfl #[.slice A0 l0.length c0] rfl (by (try simp only [List.map_toArray, List.map_cons, List.map_nil]); first | done | rfl | (simp only [List.length_drop, List.length_take]; rfl)) ?_; (with_reducible refine (spec_DrawProofMake.calls k _ _ l0 t707 t708 t709 t710 _ ?side1 ?side2 A3.out).mono ?_); (case side1 => repeat (first | exact HR0.out | (with_reducible refine Kd.C_alloc ?_ _) | (with_reducible refine Kd.C_drewN ?_ _) | (with_reducible refine Kd.C_drew ?_))); (case side2 => exact HC0.out); rintro e w7 ⟨v711, rfl, ho0, hb⟩; refine ⟨_, rfl, ?_⟩; have n0_ := Aside0.mk (Kd.R_lower ho0 (below_size (by repeat (first | (with_reducible first | exact HB.out | apply below_alloc | apply pw_below_drewN | apply below_drew1) | exact HB.out)))); have n1_ := Aside0.mk (below_step (by repeat (first | (with_reducible first | exact HB.out | apply below_alloc | apply pw_below_drewN | apply below_drew1) | exact HB.out)) hb); clear HB; have HO712 := n0_; have HB := n1_; clear n0_ n1_; (try clear hb); (try clear hb2); (try clear hk); (try clear hi); (try clear ho0); obtain ⟨Ao8, co8, eo8⟩ := Kd.R_slice HO712.out; subst eo8) | ((with_reducible refine gate_callee (f := 44) rfl ?_); refine goesL_ (some 27) rfl rfl Tryd.func44 (by kernel_rfl) rfl #[.int .i64 t707, .slice Ao8 t708.length co8, .int .i64 t709, .int .i64 t710] rfl (by (try simp only [List.map_toArray, List.map_cons, List.map_nil]); first | done | rfl | (simp only [List.length_drop, List.length_take]; rfl)) ?_; (with_reducible refine (spec_ProofMake.calls k t707 _ _ t708 t709 t710 t713 t714 t715 t718 _ ?side1 ?side2 A4.out).mono ?_); (case side1 => repeat (first | exact (Kd.R_reads' HO712.out).2.2 | (with_reducible refine Kd.C_alloc ?_ _) | (with_reducible refine Kd.C_drewN ?_ _) | (with_reducible refine Kd.C_drew ?_))); (case side2 => exact (Kd.R_reads' HO712.out).2.1); rintro e w9 ⟨v716, rfl, ho0, hb⟩; refine ⟨_, rfl, ?_⟩; have n0_ := Aside0.mk (Kd.R_elder' (by (with_reducible repeat (first | apply Kd.R_alloc | apply Kd.R_drewN | apply Kd.R_drew)); exact HO712.out) (Kd.R_base ho0) hb); have n1_ := Aside0.mk (Kd.R_lower (Kd.R_new' ho0 (Kd.R_lt (by (with_reducible repeat (first | apply Kd.R_alloc | apply Kd.R_drewN | apply Kd.R_drew)); exact HO712.out))) (below_size (by repeat (first | (with_reducible first | exact HB.out | apply below_alloc | apply pw_below_drewN | apply below_drew1) | exact HB.out)))); have n2_ := Aside0.mk (below_step (by repeat (first | (with_reducible first | exact HB.out | apply below_alloc | apply pw_below_drewN | apply below_drew1) | exact HB.out)) hb); clear HO712; clear HB; have HO712 := n0_; have HO717 := n1_; have HB := n2_; clear n0_ n1_ n2_; (try clear hb); (try clear hb2); (try clear hk); (try clear hi); (try clear ho0)) | ((with_reducible refine gate_dst (N := 7) rfl ?_); (try (refine gate_guard (by rfl) ?_; dsimp only)); refine box_event ?hg (N := 7) ?hd (cs := #[.int .i64 0, .int .i64 0, .slice none 0 0]) (t := 29) ?hr ?_; (case hd => rfl); (case hg => rfl); (case hr => first | (go_simp; done) | (go_simp; rfl)); intro gb719 hg w10 hbox hb; have n0_ := Aside0.mk (Kd.R_below (by (with_reducible repeat (first | apply Kd.R_alloc | apply Kd.R_drewN | apply Kd.R_drew)); exact HO712.out) hb); have n1_ := Aside0.mk (Kd.R_below (by (with_reducible repeat (first | apply Kd.R_alloc | apply Kd.R_drewN | apply Kd.R_drew)); exact HO717.out) hb); have n2_ := Aside0.mk (below_step (by repeat (first | (with_reducible first | exact HB.out | apply below_alloc | apply pw_below_drewN | apply below_drew1) | exact HB.out)) hb); have n3_ := Aside0.mk (hbox); have n4_ := Aside0.mk ((by rw [hg]; exact (below_size (by repeat (first | (with_reducible first | exact HB.out | apply below_alloc | apply pw_below_drewN | apply below_drew1) | exact HB.out))) : w.heap.size ≤ gb719)); have n5_ := Aside0.mk ((by rw [hg]; exact (below_size (by repeat (first | (with_reducible first | exact HB.out | apply below_alloc | apply pw_below_drewN | apply below_drew1) | exact HB.out))) : w.heap.size ≤ gb719)); clear HO712; clear HO717; clear HB; have HO712 := n0_; have HO717 := n1_; have HB := n2_; have BK719 := n3_; have GW719 := n4_; have GE719 := n5_; clear n0_ n1_ n2_ n3_ n4_ n5_; clear hb hbox hg; have hcz11_0 : w10.cell? ⟨gb719, 0, none⟩ = some (.int .i64 0) := (blk_cell BK719.out 0).trans rfl; have hcz11_1 : w10.cell? ⟨gb719, 1, none⟩ = some (.int .i64 0) := (blk_cell BK719.out 1).trans rfl; have hcz11_2 : w10.cell? ⟨gb719, 2, none⟩ = some (.slice none 0 0) := (blk_cell BK719.out 2).trans rfl; have hfz11_0 := blk_frozen BK719.out 0; have hfz11_1 := blk_frozen BK719.out 1; have hfz11_2 := blk_frozen BK719.out 2; obtain ⟨Ao12, co12, eo12⟩ := Kd.R_slice HO717.out; subst eo12) | ((with_reducible refine gate_callee (f := 45) rfl ?_); refine goesL_ (some 35) rfl rfl Tryd.func45 (by kernel_rfl) rfl #[.int .i64 t707, .slice Ao8 t708.length co8, .int .i64 t709, .int .i64 t710] rfl (by (try simp only [List.map_toArray, List.map_cons, List.map_nil]); first | done | rfl | (simp only [List.length_drop, List.length_take]; rfl)) ?_; (with_reducible refine (impl_ProofMake.calls k t707 _ _ t708 t709 t710 t720 t721 t722 t725 _ ?side1 ?side2 A5.out).mono ?_); (case side1 => refine (Kd.R_reads' (e := 3) (base := w.heap.size) (ok := fun k_ => (True ∧ some k_ ≠ (.slice Ao12 t715.length co12 : Value).ownBlock)) (n := t708.length) (c := co8) ?_).2.2; exact (by (with_reducible repeat (first | apply Kd.R_alloc | apply Kd.R_drewN | apply Kd.R_drew)); exact (Kd.R_mono (Kd.R_far (p := ⟨gb719, 2, none⟩) (Kd.R_far (p := ⟨gb719, 1, none⟩) (Kd.R_far (p := ⟨gb719, 0, none⟩) (Kd.R_types HO712.out BK719.out (by decide)) (fun _ hk => hk.2) (.int .i64 t713)) (fun _ hk => hk.2) (.int .i64 t714)) (fun _ hk => hk.2) (.slice Ao12 t715.length co12)) (fun _ h_ => h_.1)))); (case side2 => exact (Kd.R_reads' HO712.out).2.1); rintro e w13 ⟨v723, rfl, ho0, hb⟩; refine ⟨_, rfl, ?_⟩; have n0_ := Aside0.mk (Kd.R_elder' (by (with_reducible repeat (first | apply Kd.R_alloc | apply Kd.R_drewN | apply Kd.R_drew)); exact (Kd.R_mono (Kd.R_far (p := ⟨gb719, 2, none⟩) (Kd.R_far (p := ⟨gb719, 1, none⟩) (Kd.R_far (p := ⟨gb719, 0, none⟩) (Kd.R_types HO712.out BK719.out (by decide)) (fun _ hk => hk.2) (.int .i64 t713)) (fun _ hk => hk.2) (.int .i64 t714)) (fun _ hk => hk.2) (.slice Ao12 t715.length co12)) (fun _ h_ => h_.1))) (Kd.R_base ho0) hb); have n1_ := Aside0.mk (Kd.R_elder' (by (with_reducible repeat (first | apply Kd.R_alloc | apply Kd.R_drewN | apply Kd.R_drew)); exact (Kd.R_mono (Kd.R_far (p := ⟨gb719, 2, none⟩) (Kd.R_far (p := ⟨gb719, 1, none⟩) (Kd.R_far (p := ⟨gb719, 0, none⟩) (Kd.R_types HO717.out BK719.out (by decide)) (fun _ hk => hk.2) (.int .i64 t713)) (fun _ hk => hk.2) (.int .i64 t714)) (fun _ hk => hk.2) (.slice Ao12 t715.length co12)) (fun _ h_ => h_.1))) (Kd.R_base ho0) hb); have n2_ := Aside0.mk (Kd.R_lower (Kd.R_new' (Kd.R_new' ho0 (Kd.R_lt (by (with_reducible repeat (first | apply Kd.R_alloc | apply Kd.R_drewN | apply Kd.R_drew)); exact (Kd.R_mono (Kd.R_far (p := ⟨gb719, 2, none⟩) (Kd.R_far (p := ⟨gb719, 1, none⟩) (Kd.R_far (p := ⟨gb719, 0, none⟩) (Kd.R_types HO712.out BK719.out (by decide)) (fun _ hk => hk.2) (.int .i64 t713)) (fun _ hk => hk.2) (.int .i64 t714)) (fun _ hk => hk.2) (.slice Ao12 t715.length co12)) (fun _ h_ => h_.1))))) (Kd.R_lt (by (with_reducible repeat (first | apply Kd.R_alloc | apply Kd.R_drewN | apply Kd.R_drew)); exact (Kd.R_mono (Kd.R_far (p := ⟨gb719, 2, none⟩) (Kd.R_far (p := ⟨gb719, 1, none⟩) (Kd.R_far (p := ⟨gb719, 0, none⟩) (Kd.R_types HO717.out BK719.out (by decide)) (fun _ hk => hk.2) (.int .i64 t713)) (fun _ hk => hk.2) (.int .i64 t714)) (fun _ hk => hk.2) (.slice Ao12 t715.length co12)) (fun _ h_ => h_.1))))) (below_size (by repeat (first | (with_reducible first | exact HB.out | apply below_alloc | apply pw_below_drewN | apply below_drew1 | refine below_set ?_ GE719.out) | exact HB.out)))); have n3_ := Aside0.mk (blk_below (g := gb719) (o := .cells #[.int .i64 t713, .int .i64 t714, .slice Ao12 t715.length co12] 29 (0, 0)) (by (with_reducible repeat (first | refine blk_drewN ?_ _ | refine blk_drew ?_ | refine blk_alloc ?_ _)); refine blk_put (cs := #[.int .i64 t713, .int .i64 t714, .slice none 0 0]) ?_ 2 _ rfl; (with_reducible repeat (first | refine blk_drewN ?_ _ | refine blk_drew ?_ | refine blk_alloc ?_ _)); refine blk_put (cs := #[.int .i64 t713, .int .i64 0, .slice none 0 0]) ?_ 1 _ rfl; (with_reducible repeat (first | refine blk_drewN ?_ _ | refine blk_drew ?_ | refine blk_alloc ?_ _)); refine blk_put (cs := #[.int .i64 0, .int .i64 0, .slice none 0 0]) ?_ 0 _ rfl; (with_reducible repeat (first | refine blk_drewN ?_ _ | refine blk_drew ?_ | refine blk_alloc ?_ _)); exact BK719.out) hb); have n4_ := Aside0.mk (below_step (by repeat (first | (with_reducible first | exact HB.out | apply below_alloc | apply pw_below_drewN | apply below_drew1 | refine below_set ?_ GE719.out) | exact HB.out)) hb); clear HO712; clear HO717; clear BK719; clear HB; have HO712 := n0_; have HO717 := n1_; have HO724 := n2_; have BK719 := n3_; have HB := n4_; clear n0_ n1_ n2_ n3_ n4_; (try clear hb); (try clear hb2); (try clear hk); (try clear hi); (try clear ho0)) | ((with_reducible refine gate_dst (N := 9) rfl ?_); (try (refine gate_guard (by rfl) ?_; dsimp only)); refine box_event ?hg (N := 9) ?hd (cs := #[.int .i64 0, .int .i64 0, .slice none 0 0]) (t := 29) ?hr ?_; (case hd => rfl); (case hg => rfl); (case hr => first | (go_simp; done) | (go_simp; rfl)); intro gb726 hg w14 hbox hb; have n0_ := Aside0.mk (Kd.R_below (by (with_reducible repeat (first | apply Kd.R_alloc | apply Kd.R_drewN | apply Kd.R_drew)); exact HO712.out) hb); have n1_ := Aside0.mk (Kd.R_below (by (with_reducible repeat (first | apply Kd.R_alloc | apply Kd.R_drewN | apply Kd.R_drew)); exact HO717.out) hb); have n2_ := Aside0.mk (Kd.R_below (by (with_reducible repeat (first | apply Kd.R_alloc | apply Kd.R_drewN | apply Kd.R_drew)); exact HO724.out) hb); have n3_ := Aside0.mk (blk_below (g := gb719) (o := .cells #[.int .i64 t713, .int .i64 t714, .slice Ao12 t715.length co12] 29 (0, 0)) (by (with_reducible repeat (first | refine blk_drewN ?_ _ | refine blk_drew ?_ | refine blk_alloc ?_ _)); exact BK719.out) hb); have n4_ := Aside0.mk (below_step (by repeat (first | (with_reducible first | exact HB.out | apply below_alloc | apply pw_below_drewN | apply below_drew1 | refine below_set ?_ GE719.out) | exact HB.out)) hb); have n5_ := Aside0.mk (hbox); have n6_ := Aside0.mk ((by rw [hg]; exact (below_size (by repeat (first | (with_reducible first | exact HB.out | apply below_alloc | apply pw_below_drewN | apply below_drew1 | refine below_set ?_ GE719.out) | exact HB.out))) : w.heap.size ≤ gb726)); have n7_ := Aside0.mk ((by rw [hg]; exact (below_size (by repeat (first | (with_reducible first | exact HB.out | apply below_alloc | apply pw_below_drewN | apply below_drew1 | refine below_set ?_ GE719.out) | exact HB.out))) : w.heap.size ≤ gb726)); have n8_ := Aside0.mk ((by rw [hg]; exact Nat.ne_of_lt (blk_lt (g := gb719) (o := .cells #[.int .i64 t713, .int .i64 t714, .slice Ao12 t715.length co12] 29 (0, 0)) (by (with_reducible repeat (first | refine blk_drewN ?_ _ | refine blk_drew ?_ | refine blk_alloc ?_ _)); exact BK719.out)) : gb719 ≠ gb726)); have n9_ := Aside0.mk ((by rw [hg]; exact Nat.ne_of_gt (blk_lt (g := gb719) (o := .cells #[.int .i64 t713, .int .i64 t714, .slice Ao12 t715.length co12] 29 (0, 0)) (by (with_reducible repeat (first | refine blk_drewN ?_ _ | refine blk_drew ?_ | refine blk_alloc ?_ _)); exact BK719.out)) : gb726 ≠ gb719)); clear HO712; clear HO717; clear HO724; clear BK719; clear HB; have HO712 := n0_; have HO717 := n1_; have HO724 := n2_; have BK719 := n3_; have HB := n4_; have BK726 := n5_; have GW726 := n6_; have GE726 := n7_; have NB719_726 := n8_; have NB726_719 := n9_; clear n0_ n1_ n2_ n3_ n4_ n5_ n6_ n7_ n8_ n9_; clear hb hbox hg; have hnb15 := NB726_719.out; have hnc15 := NB719_726.out; have hcz16_0 : w14.cell? ⟨gb726, 0, none⟩ = some (.int .i64 0) := (blk_cell BK726.out 0).trans rfl; have hcz16_1 : w14.cell? ⟨gb726, 1, none⟩ = some (.int .i64 0) := (blk_cell BK726.out 1).trans rfl; have hcz16_2 : w14.cell? ⟨gb726, 2, none⟩ = some (.slice none 0 0) := (blk_cell BK726.out 2).trans rfl; have hfz16_0 := blk_frozen BK726.out 0; have hfz16_1 := blk_frozen BK726.out 1; have hfz16_2 := blk_frozen BK726.out 2; obtain ⟨Ao17, co17, eo17⟩ := Kd.R_slice HO724.out; subst eo17))
    (try simp only [Act.put, List.setIfInBounds_toArray, List.set_cons_zero, List.set_cons_succ])
    go_cut [50] (fun v50 wc => ∃ (kq : Nat) (x50_5 : Bool), v50 = .bool x50_5 ∧ Aside0 (laws_FnProofMake.j0 kq t707 t708 t709 t710 t718 t725 x50_5 t713 t714 t715 t720 t721 t722 = some r) ∧ Aside0 (kq ≤ k) ∧ Aside0 (Kd.R (Kd.int .i64) 3 wc w.heap.size (fun k_ => some k_ ≠ ((.slice Ao12 t715.length co12) : Value).ownBlock ∧ some k_ ≠ ((.slice Ao17 t722.length co17) : Value).ownBlock) (.slice Ao8 t708.length co8) t708) ∧ Aside0 (Kd.R (Kd.int .i64) 3 wc w.heap.size (fun k_ => some k_ ≠ ((.slice Ao8 t708.length co8) : Value).ownBlock ∧ some k_ ≠ ((.slice Ao17 t722.length co17) : Value).ownBlock) (.slice Ao12 t715.length co12) t715) ∧ Aside0 (Kd.R (Kd.int .i64) 3 wc w.heap.size (fun k_ => some k_ ≠ ((.slice Ao8 t708.length co8) : Value).ownBlock ∧ some k_ ≠ ((.slice Ao12 t715.length co12) : Value).ownBlock) (.slice Ao17 t722.length co17) t722) ∧ Aside0 (wc.heap[gb719]? = some (.cells #[.int .i64 t713, .int .i64 t714, (.slice Ao12 t715.length co12)] 29 (0, 0))) ∧ Aside0 (wc.heap[gb726]? = some (.cells #[.int .i64 t720, .int .i64 t721, (.slice Ao17 t722.length co17)] 29 (0, 0))) ∧ Aside0 (Below w.heap.size w wc))
    case first =>
      have H := HC6.out
      clear HC6
      by_cases c18 : (t725 != t718) = true
      · rw [if_pos c18] at H
        have c18b0 : (t725 != t718) = true := c18
        (try (have c18b1 : decide (t725 = t718) = false := by simpa using c18))
        (try (have c18b2 : (t725 == t718) = false := by simpa using c18))
        (try (have c18b3 : ¬ (t725 = t718) := by simpa using c18))
        clear c18
        (first | rw [c18b0] | (simp only [i64_w, i32_w]; rw [c18b0]) | skip)
        have H' := Aside0.mk H
        clear H
        go_wp2
        go_meet
        case rel => exact ⟨_, (true), (by first | rfl | (simp; done) | (simp [*]; done)), H', ⟨by first | omega | exact Nat.le_refl _⟩, ⟨by (with_reducible repeat (first | apply Kd.R_alloc | apply Kd.R_drewN | apply Kd.R_drew)); exact Kd.R_mono (Kd.R_far (p := ⟨gb726, 2, none⟩) (Kd.R_far (p := ⟨gb726, 1, none⟩) (Kd.R_far (p := ⟨gb726, 0, none⟩) (Kd.R_types HO712.out BK726.out (by decide)) (fun _ hk => hk.2) (.int .i64 t720)) (fun _ hk => hk.2) (.int .i64 t721)) (fun _ hk => hk.2) (.slice Ao17 t722.length co17)) (fun _ hk => ⟨hk.1.1.2, hk.1.2⟩)⟩, ⟨by (with_reducible repeat (first | apply Kd.R_alloc | apply Kd.R_drewN | apply Kd.R_drew)); exact Kd.R_mono (Kd.R_far (p := ⟨gb726, 2, none⟩) (Kd.R_far (p := ⟨gb726, 1, none⟩) (Kd.R_far (p := ⟨gb726, 0, none⟩) (Kd.R_types HO717.out BK726.out (by decide)) (fun _ hk => hk.2) (.int .i64 t720)) (fun _ hk => hk.2) (.int .i64 t721)) (fun _ hk => hk.2) (.slice Ao17 t722.length co17)) (fun _ hk => ⟨hk.1.1.2, hk.1.2⟩)⟩, ⟨by (with_reducible repeat (first | apply Kd.R_alloc | apply Kd.R_drewN | apply Kd.R_drew)); exact Kd.R_mono (Kd.R_far (p := ⟨gb726, 2, none⟩) (Kd.R_far (p := ⟨gb726, 1, none⟩) (Kd.R_far (p := ⟨gb726, 0, none⟩) (Kd.R_types HO724.out BK726.out (by decide)) (fun _ hk => hk.2) (.int .i64 t720)) (fun _ hk => hk.2) (.int .i64 t721)) (fun _ hk => hk.2) (.slice Ao17 t722.length co17)) (fun _ hk => ⟨hk.1.1.2, hk.1.2⟩)⟩, ⟨by (with_reducible repeat (first | refine blk_drewN ?_ _ | refine blk_drew ?_ | refine blk_alloc ?_ _)); refine blk_far ?_ NB719_726.out _; (with_reducible repeat (first | refine blk_drewN ?_ _ | refine blk_drew ?_ | refine blk_alloc ?_ _)); refine blk_far ?_ NB719_726.out _; (with_reducible repeat (first | refine blk_drewN ?_ _ | refine blk_drew ?_ | refine blk_alloc ?_ _)); refine blk_far ?_ NB719_726.out _; (with_reducible repeat (first | refine blk_drewN ?_ _ | refine blk_drew ?_ | refine blk_alloc ?_ _)); exact BK719.out⟩, ⟨by (with_reducible repeat (first | refine blk_drewN ?_ _ | refine blk_drew ?_ | refine blk_alloc ?_ _)); refine blk_put (cs := #[.int .i64 t720, .int .i64 t721, .slice none 0 0]) ?_ 2 _ rfl; (with_reducible repeat (first | refine blk_drewN ?_ _ | refine blk_drew ?_ | refine blk_alloc ?_ _)); refine blk_put (cs := #[.int .i64 t720, .int .i64 0, .slice none 0 0]) ?_ 1 _ rfl; (with_reducible repeat (first | refine blk_drewN ?_ _ | refine blk_drew ?_ | refine blk_alloc ?_ _)); refine blk_put (cs := #[.int .i64 0, .int .i64 0, .slice none 0 0]) ?_ 0 _ rfl; (with_reducible repeat (first | refine blk_drewN ?_ _ | refine blk_drew ?_ | refine blk_alloc ?_ _)); exact BK726.out⟩, ⟨by repeat (first | (with_reducible first | exact HB.out | apply below_alloc | apply pw_below_drewN | apply below_drew1 | refine below_set ?_ GE719.out | refine below_set ?_ GE726.out) | exact HB.out)⟩⟩
      · rw [if_neg c18] at H
        have c18b0 : (t725 != t718) = false := by simpa using c18
        (try (have c18b1 : decide (t725 = t718) = true := by simpa using c18))
        (try (have c18b2 : (t725 == t718) = true := by simpa using c18))
        clear c18
        (first | rw [c18b0] | (simp only [i64_w, i32_w]; rw [c18b0]) | skip)
        replace H := Option.bind_eq_some_iff.mp H
        obtain ⟨t727, A190, H⟩ := H
        replace H : (if t727 = true then (laws_FnProofMake.j0 k t707 t708 t709 t710 t718 t725 (!t725) t713 t714 t715 t720 t721 t722) else (laws_FnProofMake.j0 k t707 t708 t709 t710 t718 t725 true t713 t714 t715 t720 t721 t722)) = some r := H
        have A19 := Aside0.mk A190
        clear A190
        by_cases c20 : t727 = true
        · subst c20
          have H1 : (laws_FnProofMake.j0 k t707 t708 t709 t710 t718 t725 (!t725) t713 t714 t715 t720 t721 t722) = some r := by rw [if_pos rfl] at H; exact H
          clear H
          have H := H1
          clear H1
          have H' := Aside0.mk H
          clear H
          have hnb21 := NB726_719.out
          have hnc21 := NB719_726.out
          have hcz22_0 : w14.cell? ⟨gb726, 0, none⟩ = some (.int .i64 0) := (blk_cell BK726.out 0).trans rfl
          have hcz22_1 : w14.cell? ⟨gb726, 1, none⟩ = some (.int .i64 0) := (blk_cell BK726.out 1).trans rfl
          have hcz22_2 : w14.cell? ⟨gb726, 2, none⟩ = some (.slice none 0 0) := (blk_cell BK726.out 2).trans rfl
          have hfz22_0 := blk_frozen BK726.out 0
          have hfz22_1 := blk_frozen BK726.out 1
          have hfz22_2 := blk_frozen BK726.out 2
          have hcz23_0 : w14.cell? ⟨gb719, 0, none⟩ = some (.int .i64 t713) := (blk_cell BK719.out 0).trans rfl
          have hcz23_1 : w14.cell? ⟨gb719, 1, none⟩ = some (.int .i64 t714) := (blk_cell BK719.out 1).trans rfl
          have hcz23_2 : w14.cell? ⟨gb719, 2, none⟩ = some (.slice Ao12 t715.length co12) := (blk_cell BK719.out 2).trans rfl
          have hfz23_0 := blk_frozen BK719.out 0
          have hfz23_1 := blk_frozen BK719.out 1
          have hfz23_2 := blk_frozen BK719.out 2
          go_wp2_with (first | (go_at_call 34; (with_reducible refine (laws_loProof.calls k t720 t721 _ _ t722 t713 t714 _ _ t715 true _ ?side1 ?side2 ?side3 ?side4 A19.out).mono ?_); (case side1 => refine (Kd.R_reads' (e := 3) (base := w.heap.size) (ok := fun k_ => ((True ∧ some k_ ≠ (.slice Ao8 t708.length co8 : Value).ownBlock) ∧ some k_ ≠ (.slice Ao12 t715.length co12 : Value).ownBlock)) (n := t722.length) (c := co17) ?_).2.2; exact (by (with_reducible repeat (first | apply Kd.R_alloc | apply Kd.R_drewN | apply Kd.R_drew)); exact (Kd.R_mono (Kd.R_far (p := ⟨gb726, 2, none⟩) (Kd.R_far (p := ⟨gb726, 1, none⟩) (Kd.R_far (p := ⟨gb726, 0, none⟩) (Kd.R_types HO724.out BK726.out (by decide)) (fun _ hk => hk.2) (.int .i64 t720)) (fun _ hk => hk.2) (.int .i64 t721)) (fun _ hk => hk.2) (.slice Ao17 t722.length co17)) (fun _ h_ => h_.1)))); (case side2 => exact (Kd.R_reads' HO724.out).2.1); (case side3 => refine (Kd.R_reads' (e := 3) (base := w.heap.size) (ok := fun k_ => ((True ∧ some k_ ≠ (.slice Ao8 t708.length co8 : Value).ownBlock) ∧ some k_ ≠ (.slice Ao17 t722.length co17 : Value).ownBlock)) (n := t715.length) (c := co12) ?_).2.2; exact (by (with_reducible repeat (first | apply Kd.R_alloc | apply Kd.R_drewN | apply Kd.R_drew)); exact (Kd.R_mono (Kd.R_far (p := ⟨gb726, 2, none⟩) (Kd.R_far (p := ⟨gb726, 1, none⟩) (Kd.R_far (p := ⟨gb726, 0, none⟩) (Kd.R_types HO717.out BK726.out (by decide)) (fun _ hk => hk.2) (.int .i64 t720)) (fun _ hk => hk.2) (.int .i64 t721)) (fun _ hk => hk.2) (.slice Ao17 t722.length co17)) (fun _ h_ => h_.1)))); (case side4 => exact (Kd.R_reads' HO717.out).2.1); rintro e w24 ⟨rfl, hb⟩; have n0_ := Aside0.mk (Kd.R_below (by (with_reducible repeat (first | apply Kd.R_alloc | apply Kd.R_drewN | apply Kd.R_drew)); exact (Kd.R_mono (Kd.R_far (p := ⟨gb726, 2, none⟩) (Kd.R_far (p := ⟨gb726, 1, none⟩) (Kd.R_far (p := ⟨gb726, 0, none⟩) (Kd.R_types HO712.out BK726.out (by decide)) (fun _ hk => hk.2) (.int .i64 t720)) (fun _ hk => hk.2) (.int .i64 t721)) (fun _ hk => hk.2) (.slice Ao17 t722.length co17)) (fun _ h_ => h_.1))) hb); have n1_ := Aside0.mk (Kd.R_below (by (with_reducible repeat (first | apply Kd.R_alloc | apply Kd.R_drewN | apply Kd.R_drew)); exact (Kd.R_mono (Kd.R_far (p := ⟨gb726, 2, none⟩) (Kd.R_far (p := ⟨gb726, 1, none⟩) (Kd.R_far (p := ⟨gb726, 0, none⟩) (Kd.R_types HO717.out BK726.out (by decide)) (fun _ hk => hk.2) (.int .i64 t720)) (fun _ hk => hk.2) (.int .i64 t721)) (fun _ hk => hk.2) (.slice Ao17 t722.length co17)) (fun _ h_ => h_.1))) hb); have n2_ := Aside0.mk (Kd.R_below (by (with_reducible repeat (first | apply Kd.R_alloc | apply Kd.R_drewN | apply Kd.R_drew)); exact (Kd.R_mono (Kd.R_far (p := ⟨gb726, 2, none⟩) (Kd.R_far (p := ⟨gb726, 1, none⟩) (Kd.R_far (p := ⟨gb726, 0, none⟩) (Kd.R_types HO724.out BK726.out (by decide)) (fun _ hk => hk.2) (.int .i64 t720)) (fun _ hk => hk.2) (.int .i64 t721)) (fun _ hk => hk.2) (.slice Ao17 t722.length co17)) (fun _ h_ => h_.1))) hb); have n3_ := Aside0.mk (blk_below (g := gb719) (o := .cells #[.int .i64 t713, .int .i64 t714, .slice Ao12 t715.length co12] 29 (0, 0)) (by (with_reducible repeat (first | refine blk_drewN ?_ _ | refine blk_drew ?_ | refine blk_alloc ?_ _)); refine blk_far ?_ NB719_726.out _; (with_reducible repeat (first | refine blk_drewN ?_ _ | refine blk_drew ?_ | refine blk_alloc ?_ _)); refine blk_far ?_ NB719_726.out _; (with_reducible repeat (first | refine blk_drewN ?_ _ | refine blk_drew ?_ | refine blk_alloc ?_ _)); refine blk_far ?_ NB719_726.out _; (with_reducible repeat (first | refine blk_drewN ?_ _ | refine blk_drew ?_ | refine blk_alloc ?_ _)); exact BK719.out) hb); have n4_ := Aside0.mk (blk_below (g := gb726) (o := .cells #[.int .i64 t720, .int .i64 t721, .slice Ao17 t722.length co17] 29 (0, 0)) (by (with_reducible repeat (first | refine blk_drewN ?_ _ | refine blk_drew ?_ | refine blk_alloc ?_ _)); refine blk_put (cs := #[.int .i64 t720, .int .i64 t721, .slice none 0 0]) ?_ 2 _ rfl; (with_reducible repeat (first | refine blk_drewN ?_ _ | refine blk_drew ?_ | refine blk_alloc ?_ _)); refine blk_put (cs := #[.int .i64 t720, .int .i64 0, .slice none 0 0]) ?_ 1 _ rfl; (with_reducible repeat (first | refine blk_drewN ?_ _ | refine blk_drew ?_ | refine blk_alloc ?_ _)); refine blk_put (cs := #[.int .i64 0, .int .i64 0, .slice none 0 0]) ?_ 0 _ rfl; (with_reducible repeat (first | refine blk_drewN ?_ _ | refine blk_drew ?_ | refine blk_alloc ?_ _)); exact BK726.out) hb); have n5_ := Aside0.mk (below_step (by repeat (first | (with_reducible first | exact HB.out | apply below_alloc | apply pw_below_drewN | apply below_drew1 | refine below_set ?_ GE719.out | refine below_set ?_ GE726.out) | exact HB.out)) hb); clear HO712; clear HO717; clear HO724; clear BK719; clear BK726; clear HB; have HO712 := n0_; have HO717 := n1_; have HO724 := n2_; have BK719 := n3_; have BK726 := n4_; have HB := n5_; clear n0_ n1_ n2_ n3_ n4_ n5_; (try clear hb); (try clear hb2); (try clear hk); (try clear hi)))
          go_meet
          case rel => exact ⟨_, (!t725), (by first | rfl | (simp; done) | (simp [*]; done)), H', ⟨by first | omega | exact Nat.le_refl _⟩, ⟨by (with_reducible repeat (first | apply Kd.R_alloc | apply Kd.R_drewN | apply Kd.R_drew)); exact Kd.R_mono HO712.out (fun _ hk => ⟨hk.1.2, hk.2⟩)⟩, ⟨by (with_reducible repeat (first | apply Kd.R_alloc | apply Kd.R_drewN | apply Kd.R_drew)); exact Kd.R_mono HO717.out (fun _ hk => ⟨hk.1.2, hk.2⟩)⟩, ⟨by (with_reducible repeat (first | apply Kd.R_alloc | apply Kd.R_drewN | apply Kd.R_drew)); exact Kd.R_mono HO724.out (fun _ hk => ⟨hk.1.2, hk.2⟩)⟩, ⟨by (with_reducible repeat (first | refine blk_drewN ?_ _ | refine blk_drew ?_ | refine blk_alloc ?_ _)); exact BK719.out⟩, ⟨by (with_reducible repeat (first | refine blk_drewN ?_ _ | refine blk_drew ?_ | refine blk_alloc ?_ _)); exact BK726.out⟩, ⟨by repeat (first | (with_reducible first | exact HB.out | apply below_alloc | apply pw_below_drewN | apply below_drew1 | refine below_set ?_ GE719.out | refine below_set ?_ GE726.out) | exact HB.out)⟩⟩
        · replace c20 := Bool.eq_false_iff.mpr c20
          subst c20
          have H1 : (laws_FnProofMake.j0 k t707 t708 t709 t710 t718 t725 true t713 t714 t715 t720 t721 t722) = some r := by rw [if_neg (show ¬ (false = true) by decide)] at H; exact H
          clear H
          have H := H1
          clear H1
          have H' := Aside0.mk H
          clear H
          have hnb25 := NB726_719.out
          have hnc25 := NB719_726.out
          have hcz26_0 : w14.cell? ⟨gb726, 0, none⟩ = some (.int .i64 0) := (blk_cell BK726.out 0).trans rfl
          have hcz26_1 : w14.cell? ⟨gb726, 1, none⟩ = some (.int .i64 0) := (blk_cell BK726.out 1).trans rfl
          have hcz26_2 : w14.cell? ⟨gb726, 2, none⟩ = some (.slice none 0 0) := (blk_cell BK726.out 2).trans rfl
          have hfz26_0 := blk_frozen BK726.out 0
          have hfz26_1 := blk_frozen BK726.out 1
          have hfz26_2 := blk_frozen BK726.out 2
          have hcz27_0 : w14.cell? ⟨gb719, 0, none⟩ = some (.int .i64 t713) := (blk_cell BK719.out 0).trans rfl
          have hcz27_1 : w14.cell? ⟨gb719, 1, none⟩ = some (.int .i64 t714) := (blk_cell BK719.out 1).trans rfl
          have hcz27_2 : w14.cell? ⟨gb719, 2, none⟩ = some (.slice Ao12 t715.length co12) := (blk_cell BK719.out 2).trans rfl
          have hfz27_0 := blk_frozen BK719.out 0
          have hfz27_1 := blk_frozen BK719.out 1
          have hfz27_2 := blk_frozen BK719.out 2
          go_wp2_with (first | (go_at_call 34; (with_reducible refine (laws_loProof.calls k t720 t721 _ _ t722 t713 t714 _ _ t715 false _ ?side1 ?side2 ?side3 ?side4 A19.out).mono ?_); (case side1 => refine (Kd.R_reads' (e := 3) (base := w.heap.size) (ok := fun k_ => ((True ∧ some k_ ≠ (.slice Ao8 t708.length co8 : Value).ownBlock) ∧ some k_ ≠ (.slice Ao12 t715.length co12 : Value).ownBlock)) (n := t722.length) (c := co17) ?_).2.2; exact (by (with_reducible repeat (first | apply Kd.R_alloc | apply Kd.R_drewN | apply Kd.R_drew)); exact (Kd.R_mono (Kd.R_far (p := ⟨gb726, 2, none⟩) (Kd.R_far (p := ⟨gb726, 1, none⟩) (Kd.R_far (p := ⟨gb726, 0, none⟩) (Kd.R_types HO724.out BK726.out (by decide)) (fun _ hk => hk.2) (.int .i64 t720)) (fun _ hk => hk.2) (.int .i64 t721)) (fun _ hk => hk.2) (.slice Ao17 t722.length co17)) (fun _ h_ => h_.1)))); (case side2 => exact (Kd.R_reads' HO724.out).2.1); (case side3 => refine (Kd.R_reads' (e := 3) (base := w.heap.size) (ok := fun k_ => ((True ∧ some k_ ≠ (.slice Ao8 t708.length co8 : Value).ownBlock) ∧ some k_ ≠ (.slice Ao17 t722.length co17 : Value).ownBlock)) (n := t715.length) (c := co12) ?_).2.2; exact (by (with_reducible repeat (first | apply Kd.R_alloc | apply Kd.R_drewN | apply Kd.R_drew)); exact (Kd.R_mono (Kd.R_far (p := ⟨gb726, 2, none⟩) (Kd.R_far (p := ⟨gb726, 1, none⟩) (Kd.R_far (p := ⟨gb726, 0, none⟩) (Kd.R_types HO717.out BK726.out (by decide)) (fun _ hk => hk.2) (.int .i64 t720)) (fun _ hk => hk.2) (.int .i64 t721)) (fun _ hk => hk.2) (.slice Ao17 t722.length co17)) (fun _ h_ => h_.1)))); (case side4 => exact (Kd.R_reads' HO717.out).2.1); rintro e w28 ⟨rfl, hb⟩; have n0_ := Aside0.mk (Kd.R_below (by (with_reducible repeat (first | apply Kd.R_alloc | apply Kd.R_drewN | apply Kd.R_drew)); exact (Kd.R_mono (Kd.R_far (p := ⟨gb726, 2, none⟩) (Kd.R_far (p := ⟨gb726, 1, none⟩) (Kd.R_far (p := ⟨gb726, 0, none⟩) (Kd.R_types HO712.out BK726.out (by decide)) (fun _ hk => hk.2) (.int .i64 t720)) (fun _ hk => hk.2) (.int .i64 t721)) (fun _ hk => hk.2) (.slice Ao17 t722.length co17)) (fun _ h_ => h_.1))) hb); have n1_ := Aside0.mk (Kd.R_below (by (with_reducible repeat (first | apply Kd.R_alloc | apply Kd.R_drewN | apply Kd.R_drew)); exact (Kd.R_mono (Kd.R_far (p := ⟨gb726, 2, none⟩) (Kd.R_far (p := ⟨gb726, 1, none⟩) (Kd.R_far (p := ⟨gb726, 0, none⟩) (Kd.R_types HO717.out BK726.out (by decide)) (fun _ hk => hk.2) (.int .i64 t720)) (fun _ hk => hk.2) (.int .i64 t721)) (fun _ hk => hk.2) (.slice Ao17 t722.length co17)) (fun _ h_ => h_.1))) hb); have n2_ := Aside0.mk (Kd.R_below (by (with_reducible repeat (first | apply Kd.R_alloc | apply Kd.R_drewN | apply Kd.R_drew)); exact (Kd.R_mono (Kd.R_far (p := ⟨gb726, 2, none⟩) (Kd.R_far (p := ⟨gb726, 1, none⟩) (Kd.R_far (p := ⟨gb726, 0, none⟩) (Kd.R_types HO724.out BK726.out (by decide)) (fun _ hk => hk.2) (.int .i64 t720)) (fun _ hk => hk.2) (.int .i64 t721)) (fun _ hk => hk.2) (.slice Ao17 t722.length co17)) (fun _ h_ => h_.1))) hb); have n3_ := Aside0.mk (blk_below (g := gb719) (o := .cells #[.int .i64 t713, .int .i64 t714, .slice Ao12 t715.length co12] 29 (0, 0)) (by (with_reducible repeat (first | refine blk_drewN ?_ _ | refine blk_drew ?_ | refine blk_alloc ?_ _)); refine blk_far ?_ NB719_726.out _; (with_reducible repeat (first | refine blk_drewN ?_ _ | refine blk_drew ?_ | refine blk_alloc ?_ _)); refine blk_far ?_ NB719_726.out _; (with_reducible repeat (first | refine blk_drewN ?_ _ | refine blk_drew ?_ | refine blk_alloc ?_ _)); refine blk_far ?_ NB719_726.out _; (with_reducible repeat (first | refine blk_drewN ?_ _ | refine blk_drew ?_ | refine blk_alloc ?_ _)); exact BK719.out) hb); have n4_ := Aside0.mk (blk_below (g := gb726) (o := .cells #[.int .i64 t720, .int .i64 t721, .slice Ao17 t722.length co17] 29 (0, 0)) (by (with_reducible repeat (first | refine blk_drewN ?_ _ | refine blk_drew ?_ | refine blk_alloc ?_ _)); refine blk_put (cs := #[.int .i64 t720, .int .i64 t721, .slice none 0 0]) ?_ 2 _ rfl; (with_reducible repeat (first | refine blk_drewN ?_ _ | refine blk_drew ?_ | refine blk_alloc ?_ _)); refine blk_put (cs := #[.int .i64 t720, .int .i64 0, .slice none 0 0]) ?_ 1 _ rfl; (with_reducible repeat (first | refine blk_drewN ?_ _ | refine blk_drew ?_ | refine blk_alloc ?_ _)); refine blk_put (cs := #[.int .i64 0, .int .i64 0, .slice none 0 0]) ?_ 0 _ rfl; (with_reducible repeat (first | refine blk_drewN ?_ _ | refine blk_drew ?_ | refine blk_alloc ?_ _)); exact BK726.out) hb); have n5_ := Aside0.mk (below_step (by repeat (first | (with_reducible first | exact HB.out | apply below_alloc | apply pw_below_drewN | apply below_drew1 | refine below_set ?_ GE719.out | refine below_set ?_ GE726.out) | exact HB.out)) hb); clear HO712; clear HO717; clear HO724; clear BK719; clear BK726; clear HB; have HO712 := n0_; have HO717 := n1_; have HO724 := n2_; have BK719 := n3_; have BK726 := n4_; have HB := n5_; clear n0_ n1_ n2_ n3_ n4_ n5_; (try clear hb); (try clear hb2); (try clear hk); (try clear hi)))
          go_meet
          case rel => exact ⟨_, (true), (by first | rfl | (simp; done) | (simp [*]; done)), H', ⟨by first | omega | exact Nat.le_refl _⟩, ⟨by (with_reducible repeat (first | apply Kd.R_alloc | apply Kd.R_drewN | apply Kd.R_drew)); exact Kd.R_mono HO712.out (fun _ hk => ⟨hk.1.2, hk.2⟩)⟩, ⟨by (with_reducible repeat (first | apply Kd.R_alloc | apply Kd.R_drewN | apply Kd.R_drew)); exact Kd.R_mono HO717.out (fun _ hk => ⟨hk.1.2, hk.2⟩)⟩, ⟨by (with_reducible repeat (first | apply Kd.R_alloc | apply Kd.R_drewN | apply Kd.R_drew)); exact Kd.R_mono HO724.out (fun _ hk => ⟨hk.1.2, hk.2⟩)⟩, ⟨by (with_reducible repeat (first | refine blk_drewN ?_ _ | refine blk_drew ?_ | refine blk_alloc ?_ _)); exact BK719.out⟩, ⟨by (with_reducible repeat (first | refine blk_drewN ?_ _ | refine blk_drew ?_ | refine blk_alloc ?_ _)); exact BK726.out⟩, ⟨by repeat (first | (with_reducible first | exact HB.out | apply below_alloc | apply pw_below_drewN | apply below_drew1 | refine below_set ?_ GE719.out | refine below_set ?_ GE726.out) | exact HB.out)⟩⟩
    case rest =>
      clear HC6
      try clear c1
      try clear c2
      try clear c2b0
      try clear c2b1
      try clear p2
      try clear c4
      try clear c11
      try clear c15
      try clear c18
      try clear c18b0
      try clear c18b1
      try clear c18b2
      try clear c20
      try clear c21
      try clear c25
      try clear hcz11_0
      try clear hcz11_1
      try clear hcz11_2
      try clear hcz16_0
      try clear hcz16_1
      try clear hcz16_2
      try clear hcz22_0
      try clear hcz22_1
      try clear hcz22_2
      try clear hcz23_0
      try clear hcz23_1
      try clear hcz23_2
      try clear hcz26_0
      try clear hcz26_1
      try clear hcz26_2
      try clear hcz27_0
      try clear hcz27_1
      try clear hcz27_2
      try clear hfz11_0
      try clear hfz11_1
      try clear hfz11_2
      try clear hfz16_0
      try clear hfz16_1
      try clear hfz16_2
      try clear hfz22_0
      try clear hfz22_1
      try clear hfz22_2
      try clear hfz23_0
      try clear hfz23_1
      try clear hfz23_2
      try clear hfz26_0
      try clear hfz26_1
      try clear hfz26_2
      try clear hfz27_0
      try clear hfz27_1
      try clear hfz27_2
      obtain ⟨kq, x50_5, rfl, HA, HJ5, HO_4, HO_720002, HO_727002, BK719, BK726, HB⟩ := hcut
      cases kq with
      | zero => exact absurd HA.out (by simp [laws_FnProofMake.j0])
      | succ kj5 =>
        have H := HA.out
        clear HA
        simp only [laws_FnProofMake.j0] at H
        by_cases c29 : x50_5 = true
        · subst c29
          have H1 : (if (t725 == t718) = true then ((laws_loProof.f kj5 t720 t721 t722 t713 t714 t715).bind fun t728 => (some t728)) else (some false)) = some r := by rw [if_pos rfl] at H; exact H
          clear H
          have H := H1
          clear H1
          by_cases c30 : (t725 == t718) = true
          · rw [if_pos c30] at H
            have c30b0 : (t725 == t718) = true := c30
            (try (have c30b1 : decide (t725 = t718) = true := by simpa using c30))
            (try (have c30b2 : (t725 == t718) = true := by simpa using c30))
            clear c30
            replace H := Option.bind_eq_some_iff.mp H
            obtain ⟨t728, A310, H⟩ := H
            replace H : (some t728) = some r := H
            have A31 := Aside0.mk A310
            clear A310
            obtain rfl := Option.some.inj H
            have hnb32 := NB726_719.out
            have hnc32 := NB719_726.out
            have hcz33_0 : wc.cell? ⟨gb726, 0, none⟩ = some (.int .i64 t720) := (blk_cell BK726.out 0).trans rfl
            have hcz33_1 : wc.cell? ⟨gb726, 1, none⟩ = some (.int .i64 t721) := (blk_cell BK726.out 1).trans rfl
            have hcz33_2 : wc.cell? ⟨gb726, 2, none⟩ = some (.slice Ao17 t722.length co17) := (blk_cell BK726.out 2).trans rfl
            have hfz33_0 := blk_frozen BK726.out 0
            have hfz33_1 := blk_frozen BK726.out 1
            have hfz33_2 := blk_frozen BK726.out 2
            have hcz34_0 : wc.cell? ⟨gb719, 0, none⟩ = some (.int .i64 t713) := (blk_cell BK719.out 0).trans rfl
            have hcz34_1 : wc.cell? ⟨gb719, 1, none⟩ = some (.int .i64 t714) := (blk_cell BK719.out 1).trans rfl
            have hcz34_2 : wc.cell? ⟨gb719, 2, none⟩ = some (.slice Ao12 t715.length co12) := (blk_cell BK719.out 2).trans rfl
            have hfz34_0 := blk_frozen BK719.out 0
            have hfz34_1 := blk_frozen BK719.out 1
            have hfz34_2 := blk_frozen BK719.out 2
            go_wp2_with (first | (go_at_call 34; (with_reducible refine (laws_loProof.calls kj5 t720 t721 _ _ t722 t713 t714 _ _ t715 t728 _ ?side1 ?side2 ?side3 ?side4 A31.out).mono ?_); (case side1 => repeat (first | exact (Kd.R_reads' HO_727002.out).2.2 | (with_reducible refine Kd.C_alloc ?_ _) | (with_reducible refine Kd.C_drewN ?_ _) | (with_reducible refine Kd.C_drew ?_))); (case side2 => exact (Kd.R_reads' HO_727002.out).2.1); (case side3 => repeat (first | exact (Kd.R_reads' HO_720002.out).2.2 | (with_reducible refine Kd.C_alloc ?_ _) | (with_reducible refine Kd.C_drewN ?_ _) | (with_reducible refine Kd.C_drew ?_))); (case side4 => exact (Kd.R_reads' HO_720002.out).2.1); rintro e w35 ⟨rfl, hb⟩; have n0_ := Aside0.mk (Kd.R_below (by (with_reducible repeat (first | apply Kd.R_alloc | apply Kd.R_drewN | apply Kd.R_drew)); exact HO_4.out) hb); have n1_ := Aside0.mk (Kd.R_below (by (with_reducible repeat (first | apply Kd.R_alloc | apply Kd.R_drewN | apply Kd.R_drew)); exact HO_720002.out) hb); have n2_ := Aside0.mk (Kd.R_below (by (with_reducible repeat (first | apply Kd.R_alloc | apply Kd.R_drewN | apply Kd.R_drew)); exact HO_727002.out) hb); have n3_ := Aside0.mk (blk_below (g := gb719) (o := .cells #[.int .i64 t713, .int .i64 t714, .slice Ao12 t715.length co12] 29 (0, 0)) (by (with_reducible repeat (first | refine blk_drewN ?_ _ | refine blk_drew ?_ | refine blk_alloc ?_ _)); exact BK719.out) hb); have n4_ := Aside0.mk (blk_below (g := gb726) (o := .cells #[.int .i64 t720, .int .i64 t721, .slice Ao17 t722.length co17] 29 (0, 0)) (by (with_reducible repeat (first | refine blk_drewN ?_ _ | refine blk_drew ?_ | refine blk_alloc ?_ _)); exact BK726.out) hb); have n5_ := Aside0.mk (below_step (by repeat (first | (with_reducible first | exact HB.out | apply below_alloc | apply pw_below_drewN | apply below_drew1 | refine below_set ?_ GE719.out | refine below_set ?_ GE726.out) | exact HB.out)) hb); clear HO_4; clear HO_720002; clear HO_727002; clear BK719; clear BK726; clear HB; have HO_4 := n0_; have HO_720002 := n1_; have HO_727002 := n2_; have BK719 := n3_; have BK726 := n4_; have HB := n5_; clear n0_ n1_ n2_ n3_ n4_ n5_; (try clear hb); (try clear hb2); (try clear hk); (try clear hi)))
            go_ret
            exact ⟨by first | rfl | (simp [errW_none, errW_some] <;> rfl) | (simp [*, errW_none, errW_some] <;> rfl), by repeat (first | (with_reducible first | exact HB.out | apply below_alloc | apply pw_below_drewN | apply below_drew1 | refine below_set ?_ GE719.out | refine below_set ?_ GE726.out) | exact HB.out)⟩
          · rw [if_neg c30] at H
            have c30b0 : (t725 == t718) = false := by simpa using c30
            (try (have c30b1 : decide (t725 = t718) = false := by simpa using c30))
            (try (have c30b2 : (t725 == t718) = false := by simpa using c30))
            (try (have c30b3 : ¬ (t725 = t718) := by simpa using c30))
            clear c30
            obtain rfl := Option.some.inj H
            go_wp2
            go_ret
            exact ⟨by first | rfl | (simp [errW_none, errW_some] <;> rfl) | (simp [*, errW_none, errW_some] <;> rfl), by repeat (first | (with_reducible first | exact HB.out | apply below_alloc | apply pw_below_drewN | apply below_drew1 | refine below_set ?_ GE719.out | refine below_set ?_ GE726.out) | exact HB.out)⟩
        · replace c29 := Bool.eq_false_iff.mpr c29
          subst c29
          have H1 : (laws_FnProofMake.l0 kj5 t707 t708 t709 t710 0 t720 t721 t722) = some r := by rw [if_neg (show ¬ (false = true) by decide)] at H; exact H
          clear H
          have H := H1
          clear H1
          have H' := Aside0.mk H
          clear H
          go_wp2
          go_loopg [11] kj5 (fun kq v11 w' => ∃ (x11_2 : Int), v11 = .int .i64 x11_2 ∧ Aside0 (laws_FnProofMake.l0 kq t707 t708 t709 t710 x11_2 t720 t721 t722 = some r) ∧ Aside0 (kq ≤ kj5) ∧ Aside0 (Kd.R (Kd.int .i64) 3 w' w.heap.size (fun k_ => some k_ ≠ ((.slice Ao12 t715.length co12) : Value).ownBlock ∧ some k_ ≠ ((.slice Ao17 t722.length co17) : Value).ownBlock) (.slice Ao8 t708.length co8) t708) ∧ Aside0 (Kd.R (Kd.int .i64) 3 w' w.heap.size (fun k_ => some k_ ≠ ((.slice Ao8 t708.length co8) : Value).ownBlock ∧ some k_ ≠ ((.slice Ao17 t722.length co17) : Value).ownBlock) (.slice Ao12 t715.length co12) t715) ∧ Aside0 (Kd.R (Kd.int .i64) 3 w' w.heap.size (fun k_ => some k_ ≠ ((.slice Ao8 t708.length co8) : Value).ownBlock ∧ some k_ ≠ ((.slice Ao12 t715.length co12) : Value).ownBlock) (.slice Ao17 t722.length co17) t722) ∧ Aside0 (w'.heap[gb719]? = some (.cells #[.int .i64 t713, .int .i64 t714, (.slice Ao12 t715.length co12)] 29 (0, 0))) ∧ Aside0 (w'.heap[gb726]? = some (.cells #[.int .i64 t720, .int .i64 t721, (.slice Ao17 t722.length co17)] 29 (0, 0))) ∧ Aside0 (Below w.heap.size w w'))
          case atStart => exact ⟨(0), (by first | rfl | (simp; done) | (simp [*]; done)), H', ⟨Nat.le_refl _⟩, ⟨by (with_reducible repeat (first | apply Kd.R_alloc | apply Kd.R_drewN | apply Kd.R_drew)); exact HO_4.out⟩, ⟨by (with_reducible repeat (first | apply Kd.R_alloc | apply Kd.R_drewN | apply Kd.R_drew)); exact HO_720002.out⟩, ⟨by (with_reducible repeat (first | apply Kd.R_alloc | apply Kd.R_drewN | apply Kd.R_drew)); exact HO_727002.out⟩, ⟨by (with_reducible repeat (first | refine blk_drewN ?_ _ | refine blk_drew ?_ | refine blk_alloc ?_ _)); exact BK719.out⟩, ⟨by (with_reducible repeat (first | refine blk_drewN ?_ _ | refine blk_drew ?_ | refine blk_alloc ?_ _)); exact BK726.out⟩, ⟨by repeat (first | (with_reducible first | exact HB.out | apply below_alloc | apply pw_below_drewN | apply below_drew1 | refine below_set ?_ GE719.out | refine below_set ?_ GE726.out) | exact HB.out)⟩⟩
          case round =>
            clear H'
            try clear c1
            try clear c2
            try clear c2b0
            try clear c2b1
            try clear p2
            try clear c3
            try clear c4
            try clear c11
            try clear c15
            try clear c18
            try clear c18b0
            try clear c18b1
            try clear c18b2
            try clear c20
            try clear c21
            try clear c25
            try clear c29
            try clear c30
            try clear c30b0
            try clear c30b1
            try clear c30b2
            try clear c32
            try clear hcz11_0
            try clear hcz11_1
            try clear hcz11_2
            try clear hcz16_0
            try clear hcz16_1
            try clear hcz16_2
            try clear hcz22_0
            try clear hcz22_1
            try clear hcz22_2
            try clear hcz23_0
            try clear hcz23_1
            try clear hcz23_2
            try clear hcz26_0
            try clear hcz26_1
            try clear hcz26_2
            try clear hcz27_0
            try clear hcz27_1
            try clear hcz27_2
            try clear hcz33_0
            try clear hcz33_1
            try clear hcz33_2
            try clear hcz34_0
            try clear hcz34_1
            try clear hcz34_2
            try clear hfz11_0
            try clear hfz11_1
            try clear hfz11_2
            try clear hfz16_0
            try clear hfz16_1
            try clear hfz16_2
            try clear hfz22_0
            try clear hfz22_1
            try clear hfz22_2
            try clear hfz23_0
            try clear hfz23_1
            try clear hfz23_2
            try clear hfz26_0
            try clear hfz26_1
            try clear hfz26_2
            try clear hfz27_0
            try clear hfz27_1
            try clear hfz27_2
            try clear hfz33_0
            try clear hfz33_1
            try clear hfz33_2
            try clear hfz34_0
            try clear hfz34_1
            try clear hfz34_2
            try clear p2
            obtain ⟨x11_2, rfl, HA, HK2, HO_4, HO_720002, HO_727002, BK719, BK726, HB⟩ := hrel
            cases gk with
            | zero => exact absurd HA.out (by simp [laws_FnProofMake.l0])
            | succ k2 =>
              have H := HA.out
              clear HA
              simp only [laws_FnProofMake.l0] at H
              by_cases c36 : x11_2 < (t708.length : Int)
              · rw [if_pos c36] at H
                have c36b0 : decide (x11_2 < (t708.length : Int)) = true := decide_eq_true c36
                clear c36
                replace H := Option.bind_eq_some_iff.mp H
                obtain ⟨t729, A370, H⟩ := H
                replace H : (if 0 ≤ x11_2 then ((impl_FieldDif.f (rd t708 x11_2) 1).bind fun t732 => ((impl_FieldMul.f (rd t708 x11_2) t732).bind fun t733 => (if t729 = t733 then (laws_FnProofMake.l0 k2 t707 t708 t709 t710 (wrap64 (x11_2 + 1)) t720 t721 t722) else (some false)))) else (none)) = some r := H
                have A37 := Aside0.mk A370
                clear A370
                by_cases c38 : 0 ≤ x11_2
                · rw [if_pos c38] at H
                  have c38b0 : decide (0 ≤ x11_2) = true := decide_eq_true c38
                  clear c38
                  replace H := Option.bind_eq_some_iff.mp H
                  obtain ⟨t732, A390, H⟩ := H
                  replace H : ((impl_FieldMul.f (rd t708 x11_2) t732).bind fun t733 => (if t729 = t733 then (laws_FnProofMake.l0 k2 t707 t708 t709 t710 (wrap64 (x11_2 + 1)) t720 t721 t722) else (some false))) = some r := H
                  have A39 := Aside0.mk A390
                  clear A390
                  replace H := Option.bind_eq_some_iff.mp H
                  obtain ⟨t733, A400, H⟩ := H
                  replace H : (if t729 = t733 then (laws_FnProofMake.l0 k2 t707 t708 t709 t710 (wrap64 (x11_2 + 1)) t720 t721 t722) else (some false)) = some r := H
                  have A40 := Aside0.mk A400
                  clear A400
                  try go_wp2
                  have n0_ := Aside0.mk (Kd.R_drew HO_4.out)
                  have n1_ := Aside0.mk (Kd.R_drew HO_720002.out)
                  have n2_ := Aside0.mk (Kd.R_drew HO_727002.out)
                  have n3_ := Aside0.mk (blk_drew BK719.out)
                  have n4_ := Aside0.mk (blk_drew BK726.out)
                  have n5_ := Aside0.mk (below_drew1 HB.out)
                  clear HO_4
                  clear HO_720002
                  clear HO_727002
                  clear BK719
                  clear BK726
                  clear HB
                  have HO_4 := n0_
                  have HO_720002 := n1_
                  have HO_727002 := n2_
                  have BK719 := n3_
                  have BK726 := n4_
                  have HB := n5_
                  clear n0_ n1_ n2_ n3_ n4_ n5_
                  have p730 : 0 ≤ (x11_2 : Int) := of_decide_eq_true (by first | (with_reducible assumption) | assumption)
                  have q730 : x11_2 < (t708.length : Int) := of_decide_eq_true (by first | (with_reducible assumption) | assumption)
                  obtain ⟨ad730, e730, hx730_0⟩ := Kd.at_int (Kd.R_reads' HO_4.out).2.2 x11_2 p730 q730
                  cases e730
                  replace p730 := eq_true p730
                  replace q730 := eq_true q730
                  have p731 : 0 ≤ (x11_2 : Int) := of_decide_eq_true (by first | (with_reducible assumption) | assumption)
                  have q731 : x11_2 < (t708.length : Int) := of_decide_eq_true (by first | (with_reducible assumption) | assumption)
                  obtain ⟨ad731, e731, hx731_0⟩ := Kd.at_int (Kd.R_reads' HO_4.out).2.2 x11_2 p731 q731
                  obtain rfl : ad730 = ad731 := (by injection e731)
                  replace p731 := eq_true p731
                  replace q731 := eq_true q731
                  refine start_ (n := 16) (S := fun w' => w'.cell? ⟨gb726, 0, none⟩ = some (.int .i64 t720) ∧ w'.cell? ⟨gb726, 1, none⟩ = some (.int .i64 t721) ∧ w'.cell? ⟨gb726, 2, none⟩ = some (.slice Ao17 t722.length co17) ∧ w'.cell? (ad730.add (x11_2).toNat) = some (.int .i64 (rd t708 x11_2)) ∧ w'.cell? (ad730.add (x11_2).toNat) = some (.int .i64 (rd t708 x11_2))) (ds := []) #[false, false, false, false, false, false, false, false, false, false, false, false, false, false, false, false] (by kernel_rfl) rfl rfl ⟨(blk_cell BK726.out 0).trans rfl, (blk_cell BK726.out 1).trans rfl, (blk_cell BK726.out 2).trans rfl, hx730_0, hx731_0⟩ (fun hHeld => ?_); refine with_tabW laws_FnProofMake.tab11 laws_FnProofMake.bits11 (fun HT_ HW_ => ?_)
                  generalize wr.drew = w42 at HO_4 HO_720002 HO_727002 BK719 BK726 HB hx730_0 hx731_0 hHeld ⊢
                  refine pure_ (i := 0) (N := some 65) (v := ?_) (a' := ?_) #[true, false, false, false, false, false, false, false, false, false, false, false, false, false, false, false] rfl rfl (any_of HT_.out (by kernel_rfl)) (fun _ _ _ h => h) (Or.inl ⟨by rfl, ?_⟩) ?_ ?_
                  rotate_left
                  · intro w'
                    go_simp
                    with_reducible rfl
                  rotate_left
                  · simp only [Act.put, List.setIfInBounds_toArray, List.set_cons_zero, List.set_cons_succ, i64_w, i32_w]
                    rfl
                  refine pure_ (i := 2) (N := some 67) (v := ?_) (a' := ?_) #[true, false, true, false, false, false, false, false, false, false, false, false, false, false, false, false] rfl rfl (any_of HT_.out (by kernel_rfl)) (fun _ _ _ h => h) (Or.inl ⟨by rfl, ?_⟩) ?_ ?_
                  rotate_left
                  · intro w'
                    go_simp
                    with_reducible rfl
                  rotate_left
                  · simp only [Act.put, List.setIfInBounds_toArray, List.set_cons_zero, List.set_cons_succ, i64_w, i32_w]
                    rfl
                  refine pure_ (i := 3) (N := some 68) (v := ?_) (a' := ?_) #[true, false, true, true, false, false, false, false, false, false, false, false, false, false, false, false] rfl rfl (any_of HT_.out (by kernel_rfl)) (fun _ _ _ h => h) (Or.inl ⟨by rfl, ?_⟩) ?_ ?_
                  rotate_left
                  · intro w'
                    go_simp
                    with_reducible rfl
                  rotate_left
                  · simp only [Act.put, List.setIfInBounds_toArray, List.set_cons_zero, List.set_cons_succ, i64_w, i32_w]
                    rfl
                  refine pure_ (i := 5) (N := some 70) (v := ?_) (a' := ?_) #[true, false, true, true, false, true, false, false, false, false, false, false, false, false, false, false] rfl rfl (any_of HT_.out (by kernel_rfl)) (fun _ _ _ h => h) (Or.inl ⟨by rfl, ?_⟩) ?_ ?_
                  rotate_left
                  · intro w'
                    go_simp
                    with_reducible rfl
                  rotate_left
                  · simp only [Act.put, List.setIfInBounds_toArray, List.set_cons_zero, List.set_cons_succ, i64_w, i32_w]
                    rfl
                  refine pure_ (i := 6) (N := some 71) (v := ?_) (a' := ?_) #[true, false, true, true, false, true, true, false, false, false, false, false, false, false, false, false] rfl rfl (any_of HT_.out (by kernel_rfl)) (fun _ _ _ h => h) (Or.inl ⟨by rfl, ?_⟩) ?_ ?_
                  rotate_left
                  · intro w'
                    go_simp
                    with_reducible rfl
                  rotate_left
                  · simp only [Act.put, List.setIfInBounds_toArray, List.set_cons_zero, List.set_cons_succ, i64_w, i32_w]
                    rfl
                  refine pure_ (i := 7) (N := some 72) (v := ?_) (a' := ?_) #[true, false, true, true, false, true, true, true, false, false, false, false, false, false, false, false] rfl rfl (any_of HT_.out (by kernel_rfl)) (fun _ _ _ h => h) (Or.inl ⟨by rfl, ?_⟩) ?_ ?_
                  rotate_left
                  · intro w'
                    go_simp
                    with_reducible rfl
                  rotate_left
                  · simp only [Act.put, List.setIfInBounds_toArray, List.set_cons_zero, List.set_cons_succ, i64_w, i32_w]
                    rfl
                  refine pure_ (i := 9) (N := some 74) (v := ?_) (a' := ?_) #[true, false, true, true, false, true, true, true, false, true, false, false, false, false, false, false] rfl rfl (any_of HT_.out (by kernel_rfl)) (fun _ _ _ h => h) (Or.inl ⟨by rfl, ?_⟩) ?_ ?_
                  rotate_left
                  · intro w'
                    go_simp
                    with_reducible rfl
                  rotate_left
                  · simp only [Act.put, List.setIfInBounds_toArray, List.set_cons_zero, List.set_cons_succ, i64_w, i32_w]
                    rfl
                  refine pure_ (i := 10) (N := some 75) (v := ?_) (a' := ?_) #[true, false, true, true, false, true, true, true, false, true, true, false, false, false, false, false] rfl rfl (any_of HT_.out (by kernel_rfl)) (fun _ _ _ h => h) (Or.inl ⟨by rfl, ?_⟩) ?_ ?_
                  rotate_left
                  · intro w'
                    go_simp
                    with_reducible rfl
                  rotate_left
                  · simp only [Act.put, List.setIfInBounds_toArray, List.set_cons_zero, List.set_cons_succ, i64_w, i32_w]
                    rfl
                  refine pure_ (i := 11) (N := some 76) (v := ?_) (a' := ?_) #[true, false, true, true, false, true, true, true, false, true, true, true, false, false, false, false] rfl rfl (any_of HT_.out (by kernel_rfl)) (fun _ _ _ h => h) (Or.inl ⟨by rfl, ?_⟩) ?_ ?_
                  rotate_left
                  · intro w'
                    go_simp
                    with_reducible rfl
                  rotate_left
                  · simp only [Act.put, List.setIfInBounds_toArray, List.set_cons_zero, List.set_cons_succ, i64_w, i32_w]
                    rfl
                  refine take_ (i := 1) (N := some 66) (v := ?_) (a' := ?_) #[true, true, true, true, false, true, true, true, false, true, true, true, false, false, false, false] rfl rfl (take_ofW HT_.out HW_.out (by kernel_rfl)) (fun _ _ _ h => h) (Or.inl ⟨by rfl, ?_⟩) hHeld ?_ ?_
                  rotate_left
                  · rintro w' ⟨s0, s1, s2, s3, s4⟩
                    go_simp
                    with_reducible rfl
                  rotate_left
                  · simp only [Act.put, List.setIfInBounds_toArray, List.set_cons_zero, List.set_cons_succ, i64_w, i32_w]
                    rfl
                  refine take_ (i := 8) (N := some 73) (v := ?_) (a' := ?_) #[true, true, true, true, false, true, true, true, true, true, true, true, false, false, false, false] rfl rfl (take_ofW HT_.out HW_.out (by kernel_rfl)) (fun _ _ _ h => h) (Or.inl ⟨by rfl, ?_⟩) hHeld ?_ ?_
                  rotate_left
                  · rintro w' ⟨s0, s1, s2, s3, s4⟩
                    go_simp
                    with_reducible rfl
                  rotate_left
                  · simp only [Act.put, List.setIfInBounds_toArray, List.set_cons_zero, List.set_cons_succ, i64_w, i32_w]
                    rfl
                  refine take_ (i := 12) (N := some 77) (v := ?_) (a' := ?_) #[true, true, true, true, false, true, true, true, true, true, true, true, true, false, false, false] rfl rfl (take_ofW HT_.out HW_.out (by kernel_rfl)) (fun _ _ _ h => h) (Or.inl ⟨by rfl, ?_⟩) hHeld ?_ ?_
                  rotate_left
                  · rintro w' ⟨s0, s1, s2, s3, s4⟩
                    go_simp
                    with_reducible rfl
                  rotate_left
                  · simp only [Act.put, List.setIfInBounds_toArray, List.set_cons_zero, List.set_cons_succ, i64_w, i32_w]
                    rfl
                  refine one_ (i := 4) (N := some 69) #[true, true, true, true, true, true, true, true, true, true, true, true, true, false, false, false] rfl rfl (one_of HT_.out (by kernel_rfl)) (by decide) (fun K hK => ?_)
                  refine goes_ Tryd.func46 (by kernel_rfl) rfl #[.slice Ao17 t722.length co17, .int .i64 (wrap64 (x11_2 + 1))] (by rfl) rfl rfl (by (try simp only [List.map_toArray, List.map_cons, List.map_nil]); first | done | rfl | (simp only [List.length_drop, List.length_take]; rfl)) ?_
                  with_reducible refine (impl_PolyAt.calls _ _ t722 (wrap64 (x11_2 + 1)) t729 _ ?side1 ?side2 A37.out).mono ?_
                  (case side1 => repeat (first | exact (Kd.R_reads' HO_727002.out).2.2 | (with_reducible refine Kd.C_alloc ?_ _) | (with_reducible refine Kd.C_drewN ?_ _) | (with_reducible refine Kd.C_drew ?_)))
                  (case side2 => exact (Kd.R_reads' HO_727002.out).2.1)
                  rintro e w43 ⟨rfl, hb⟩
                  have HS3_ := (hb.cell (World.block_lt_of_cell? _ _ (hHeld.2.2.2.1))).trans (hHeld.2.2.2.1)
                  have HS4_ := (hb.cell (World.block_lt_of_cell? _ _ (hHeld.2.2.2.2))).trans (hHeld.2.2.2.2)
                  refine ⟨_, rfl, ?_⟩
                  have n0_ := Aside0.mk (Kd.R_below (by (with_reducible repeat (first | apply Kd.R_alloc | apply Kd.R_drewN | apply Kd.R_drew)); exact HO_4.out) hb)
                  have n1_ := Aside0.mk (Kd.R_below (by (with_reducible repeat (first | apply Kd.R_alloc | apply Kd.R_drewN | apply Kd.R_drew)); exact HO_720002.out) hb)
                  have n2_ := Aside0.mk (Kd.R_below (by (with_reducible repeat (first | apply Kd.R_alloc | apply Kd.R_drewN | apply Kd.R_drew)); exact HO_727002.out) hb)
                  have n3_ := Aside0.mk (blk_below (g := gb719) (o := .cells #[.int .i64 t713, .int .i64 t714, .slice Ao12 t715.length co12] 29 (0, 0)) (by (with_reducible repeat (first | refine blk_drewN ?_ _ | refine blk_drew ?_ | refine blk_alloc ?_ _)); exact BK719.out) hb)
                  have n4_ := Aside0.mk (blk_below (g := gb726) (o := .cells #[.int .i64 t720, .int .i64 t721, .slice Ao17 t722.length co17] 29 (0, 0)) (by (with_reducible repeat (first | refine blk_drewN ?_ _ | refine blk_drew ?_ | refine blk_alloc ?_ _)); exact BK726.out) hb)
                  have n5_ := Aside0.mk (below_step (by repeat (first | (with_reducible first | exact HB.out | apply below_alloc | apply pw_below_drewN | apply below_drew1 | refine below_set ?_ GE719.out | refine below_set ?_ GE726.out) | exact HB.out)) hb)
                  clear HO_4
                  clear HO_720002
                  clear HO_727002
                  clear BK719
                  clear BK726
                  clear HB
                  have HO_4 := n0_
                  have HO_720002 := n1_
                  have HO_727002 := n2_
                  have BK719 := n3_
                  have BK726 := n4_
                  have HB := n5_
                  clear n0_ n1_ n2_ n3_ n4_ n5_
                  (try clear hb)
                  (try clear hb2)
                  (try clear hk)
                  (try clear hi)
                  refine hK.out _ _ ⟨(blk_cell BK726.out 0).trans rfl, (blk_cell BK726.out 1).trans rfl, (blk_cell BK726.out 2).trans rfl, HS3_, HS4_⟩ (fun hHeld => ?_)
                  clear hK K
                  refine norm_ (a' := ?_) ?_ ?_
                  rotate_left
                  · show Act.put _ (some 69) _ = _
                    simp only [Act.put, List.setIfInBounds_toArray, List.set_cons_zero, List.set_cons_succ, i64_w, i32_w]
                    rfl
                  refine one_ (i := 13) (N := some 78) #[true, true, true, true, true, true, true, true, true, true, true, true, true, true, false, false] rfl rfl (one_of HT_.out (by kernel_rfl)) (by decide) (fun K hK => ?_)
                  refine goes_ Tryd.func48 (by kernel_rfl) rfl #[.int .i64 (rd t708 x11_2), .int .i64 1] (by rfl) rfl rfl (by (try simp only [List.map_toArray, List.map_cons, List.map_nil]); first | done | rfl | (simp only [List.length_drop, List.length_take]; rfl)) ?_
                  with_reducible refine (impl_FieldDif.calls (rd t708 x11_2) 1 t732 _ A39.out).mono ?_
                  rintro e w' ⟨rfl, ⟨nd, rfl⟩⟩
                  refine ⟨_, rfl, ?_⟩
                  refine hK.out _ _ ⟨(blk_cell BK726.out 0).trans rfl, (blk_cell BK726.out 1).trans rfl, (blk_cell BK726.out 2).trans rfl, hHeld.2.2.2.1, hHeld.2.2.2.2⟩ (fun hHeld => ?_)
                  clear hK K
                  refine norm_ (a' := ?_) ?_ ?_
                  rotate_left
                  · show Act.put _ (some 78) _ = _
                    simp only [Act.put, List.setIfInBounds_toArray, List.set_cons_zero, List.set_cons_succ, i64_w, i32_w]
                    rfl
                  refine one_ (i := 14) (N := some 79) #[true, true, true, true, true, true, true, true, true, true, true, true, true, true, true, false] rfl rfl (one_of HT_.out (by kernel_rfl)) (by decide) (fun K hK => ?_)
                  refine goes_ Tryd.func47 (by kernel_rfl) rfl #[.int .i64 (rd t708 x11_2), .int .i64 t732] (by rfl) rfl rfl (by (try simp only [List.map_toArray, List.map_cons, List.map_nil]); first | done | rfl | (simp only [List.length_drop, List.length_take]; rfl)) ?_
                  with_reducible refine (impl_FieldMul.calls (rd t708 x11_2) t732 t733 _ A40.out).mono ?_
                  rintro e w' ⟨rfl, ⟨nd, rfl⟩⟩
                  refine ⟨_, rfl, ?_⟩
                  refine hK.out _ _ ⟨(blk_cell BK726.out 0).trans rfl, (blk_cell BK726.out 1).trans rfl, (blk_cell BK726.out 2).trans rfl, hHeld.2.2.2.1, hHeld.2.2.2.2⟩ (fun hHeld => ?_)
                  clear hK K
                  refine norm_ (a' := ?_) ?_ ?_
                  rotate_left
                  · show Act.put _ (some 79) _ = _
                    simp only [Act.put, List.setIfInBounds_toArray, List.set_cons_zero, List.set_cons_succ, i64_w, i32_w]
                    rfl
                  refine pure_ (i := 15) (N := some 80) (v := ?_) (a' := ?_) #[true, true, true, true, true, true, true, true, true, true, true, true, true, true, true, true] rfl rfl (any_of HT_.out (by kernel_rfl)) (fun _ _ _ h => h) (Or.inl ⟨by rfl, ?_⟩) ?_ ?_
                  rotate_left
                  · intro w'
                    go_simp
                    with_reducible rfl
                  rotate_left
                  · simp only [Act.put, List.setIfInBounds_toArray, List.set_cons_zero, List.set_cons_succ, i64_w, i32_w]
                    rfl
                  refine done_ (done_of HT_.out (by kernel_rfl)) ?_
                  by_cases c41 : t729 = t733
                  · rw [if_pos c41] at H
                    have c41b0 : (t729 == t733) = true := beq_iff_eq.mpr c41
                    have c41b1 : (t729 != t733) = false := bne_eq_false_iff_eq.mpr c41
                    clear c41
                    have H' := Aside0.mk H
                    clear H
                    try go_wp2
                    go_roundg k2
                    case measure => have := HJ5.out; have := HK2.out; omega
                    case rel => exact ⟨(wrap64 (x11_2 + 1)), (by first | rfl | (simp; done) | (simp [*]; done)), H', ⟨by have := HJ5.out; have := HK2.out; omega⟩, ⟨by (with_reducible repeat (first | apply Kd.R_alloc | apply Kd.R_drewN | apply Kd.R_drew)); exact HO_4.out⟩, ⟨by (with_reducible repeat (first | apply Kd.R_alloc | apply Kd.R_drewN | apply Kd.R_drew)); exact HO_720002.out⟩, ⟨by (with_reducible repeat (first | apply Kd.R_alloc | apply Kd.R_drewN | apply Kd.R_drew)); exact HO_727002.out⟩, ⟨by (with_reducible repeat (first | refine blk_drewN ?_ _ | refine blk_drew ?_ | refine blk_alloc ?_ _)); exact BK719.out⟩, ⟨by (with_reducible repeat (first | refine blk_drewN ?_ _ | refine blk_drew ?_ | refine blk_alloc ?_ _)); exact BK726.out⟩, ⟨by repeat (first | (with_reducible first | exact HB.out | apply below_alloc | apply pw_below_drewN | apply below_drew1 | refine below_set ?_ GE719.out | refine below_set ?_ GE726.out) | exact HB.out)⟩⟩
                  · rw [if_neg c41] at H
                    have c41b0 : (t729 == t733) = false := beq_eq_false_iff_ne.mpr c41
                    have c41b1 : (t729 != t733) = true := bne_iff_ne.mpr c41
                    obtain rfl := Option.some.inj H
                    try go_wp2
                    go_ret
                    exact ⟨by first | rfl | (simp [errW_none, errW_some] <;> rfl) | (simp [*, errW_none, errW_some] <;> rfl), by repeat (first | (with_reducible first | exact HB.out | apply below_alloc | apply pw_below_drewN | apply below_drew1 | refine below_set ?_ GE719.out | refine below_set ?_ GE726.out) | exact HB.out)⟩
                · rw [if_neg c38] at H
                  exact absurd H (by simp)
              · rw [if_neg c36] at H
                have c36b0 : decide (x11_2 < (t708.length : Int)) = false := decide_eq_false c36
                clear c36
                by_cases c46 : t720 = t709
                · rw [if_pos c46] at H
                  have c46b0 : (t720 == t709) = true := beq_iff_eq.mpr c46
                  have c46b1 : (t720 != t709) = false := bne_eq_false_iff_eq.mpr c46
                  clear c46
                  by_cases c47 : t721 = t710
                  · rw [if_pos c47] at H
                    have c47b0 : (t721 == t710) = true := beq_iff_eq.mpr c47
                    have c47b1 : (t721 != t710) = false := bne_eq_false_iff_eq.mpr c47
                    clear c47
                    replace H := Option.bind_eq_some_iff.mp H
                    obtain ⟨t734, A480, H⟩ := H
                    replace H : ((impl_FieldMul.f t709 t710).bind fun t735 => (if t734 = t735 then (if (t722.length : Int) = (wrap64 ((wrap64 (2 * (t708.length : Int))) + 1)) then ((impl_ProofOk.f k2 t707 t708 t720 t721 t722).bind fun t736 => ((impl_TypeOk.f k2 t707 t708).bind fun t737 => (some (t736 == t737)))) else (some false)) else (some false))) = some r := H
                    have A48 := Aside0.mk A480
                    clear A480
                    replace H := Option.bind_eq_some_iff.mp H
                    obtain ⟨t735, A490, H⟩ := H
                    replace H : (if t734 = t735 then (if (t722.length : Int) = (wrap64 ((wrap64 (2 * (t708.length : Int))) + 1)) then ((impl_ProofOk.f k2 t707 t708 t720 t721 t722).bind fun t736 => ((impl_TypeOk.f k2 t707 t708).bind fun t737 => (some (t736 == t737)))) else (some false)) else (some false)) = some r := H
                    have A49 := Aside0.mk A490
                    clear A490
                    by_cases c50 : t734 = t735
                    · rw [if_pos c50] at H
                      have c50b0 : (t734 == t735) = true := beq_iff_eq.mpr c50
                      have c50b1 : (t734 != t735) = false := bne_eq_false_iff_eq.mpr c50
                      clear c50
                      by_cases c51 : (t722.length : Int) = (wrap64 ((wrap64 (2 * (t708.length : Int))) + 1))
                      · rw [if_pos c51] at H
                        have c51b0 : ((t722.length : Int) == (wrap64 ((wrap64 (2 * (t708.length : Int))) + 1))) = true := beq_iff_eq.mpr c51
                        have c51b1 : ((t722.length : Int) != (wrap64 ((wrap64 (2 * (t708.length : Int))) + 1))) = false := bne_eq_false_iff_eq.mpr c51
                        clear c51
                        replace H := Option.bind_eq_some_iff.mp H
                        obtain ⟨t736, A520, H⟩ := H
                        replace H : ((impl_TypeOk.f k2 t707 t708).bind fun t737 => (some (t736 == t737))) = some r := H
                        have A52 := Aside0.mk A520
                        clear A520
                        replace H := Option.bind_eq_some_iff.mp H
                        obtain ⟨t737, A530, H⟩ := H
                        replace H : (some (t736 == t737)) = some r := H
                        have A53 := Aside0.mk A530
                        clear A530
                        obtain rfl := Option.some.inj H
                        have hnb54 := NB726_719.out
                        have hnc54 := NB719_726.out
                        have hcz55_0 : wr.cell? ⟨gb726, 0, none⟩ = some (.int .i64 t720) := (blk_cell BK726.out 0).trans rfl
                        have hcz55_1 : wr.cell? ⟨gb726, 1, none⟩ = some (.int .i64 t721) := (blk_cell BK726.out 1).trans rfl
                        have hcz55_2 : wr.cell? ⟨gb726, 2, none⟩ = some (.slice Ao17 t722.length co17) := (blk_cell BK726.out 2).trans rfl
                        have hfz55_0 := blk_frozen BK726.out 0
                        have hfz55_1 := blk_frozen BK726.out 1
                        have hfz55_2 := blk_frozen BK726.out 2
                        go_wp2_with (first | (go_at_call 46; (with_reducible refine (impl_PolyAt.calls _ _ t722 0 t734 _ ?side1 ?side2 A48.out).mono ?_); (case side1 => repeat (first | exact (Kd.R_reads' HO_727002.out).2.2 | (with_reducible refine Kd.C_alloc ?_ _) | (with_reducible refine Kd.C_drewN ?_ _) | (with_reducible refine Kd.C_drew ?_))); (case side2 => exact (Kd.R_reads' HO_727002.out).2.1); rintro e w56 ⟨rfl, hb⟩; have n0_ := Aside0.mk (Kd.R_below (by (with_reducible repeat (first | apply Kd.R_alloc | apply Kd.R_drewN | apply Kd.R_drew)); exact HO_4.out) hb); have n1_ := Aside0.mk (Kd.R_below (by (with_reducible repeat (first | apply Kd.R_alloc | apply Kd.R_drewN | apply Kd.R_drew)); exact HO_720002.out) hb); have n2_ := Aside0.mk (Kd.R_below (by (with_reducible repeat (first | apply Kd.R_alloc | apply Kd.R_drewN | apply Kd.R_drew)); exact HO_727002.out) hb); have n3_ := Aside0.mk (blk_below (g := gb719) (o := .cells #[.int .i64 t713, .int .i64 t714, .slice Ao12 t715.length co12] 29 (0, 0)) (by (with_reducible repeat (first | refine blk_drewN ?_ _ | refine blk_drew ?_ | refine blk_alloc ?_ _)); exact BK719.out) hb); have n4_ := Aside0.mk (blk_below (g := gb726) (o := .cells #[.int .i64 t720, .int .i64 t721, .slice Ao17 t722.length co17] 29 (0, 0)) (by (with_reducible repeat (first | refine blk_drewN ?_ _ | refine blk_drew ?_ | refine blk_alloc ?_ _)); exact BK726.out) hb); have n5_ := Aside0.mk (below_step (by repeat (first | (with_reducible first | exact HB.out | apply below_alloc | apply pw_below_drewN | apply below_drew1 | refine below_set ?_ GE719.out | refine below_set ?_ GE726.out) | exact HB.out)) hb); clear HO_4; clear HO_720002; clear HO_727002; clear BK719; clear BK726; clear HB; have HO_4 := n0_; have HO_720002 := n1_; have HO_727002 := n2_; have BK719 := n3_; have BK726 := n4_; have HB := n5_; clear n0_ n1_ n2_ n3_ n4_ n5_; (try clear hb); (try clear hb2); (try clear hk); (try clear hi)) | (go_at_call 47; (with_reducible refine (impl_FieldMul.calls t709 t710 t735 _ A49.out).mono ?_); rintro e w' ⟨rfl, ⟨nd, rfl⟩⟩; have hcz57_0 : w56.cell? ⟨gb726, 0, none⟩ = some (.int .i64 t720) := (blk_cell BK726.out 0).trans rfl; have hcz57_1 : w56.cell? ⟨gb726, 1, none⟩ = some (.int .i64 t721) := (blk_cell BK726.out 1).trans rfl; have hcz57_2 : w56.cell? ⟨gb726, 2, none⟩ = some (.slice Ao17 t722.length co17) := (blk_cell BK726.out 2).trans rfl; have hfz57_0 := blk_frozen BK726.out 0; have hfz57_1 := blk_frozen BK726.out 1; have hfz57_2 := blk_frozen BK726.out 2) | (go_at_call 37; (with_reducible refine (impl_ProofOk.calls k2 t707 _ _ t708 t720 t721 _ _ t722 t736 _ ?side1 ?side2 ?side3 ?side4 A52.out HE.out ?sideB).mono ?_); (case side1 => repeat (first | exact (Kd.R_reads' HO_4.out).2.2 | (with_reducible refine Kd.C_alloc ?_ _) | (with_reducible refine Kd.C_drewN ?_ _) | (with_reducible refine Kd.C_drew ?_))); (case side2 => exact (Kd.R_reads' HO_4.out).2.1); (case side3 => repeat (first | exact (Kd.R_reads' HO_727002.out).2.2 | (with_reducible refine Kd.C_alloc ?_ _) | (with_reducible refine Kd.C_drewN ?_ _) | (with_reducible refine Kd.C_drew ?_))); (case side4 => exact (Kd.R_reads' HO_727002.out).2.1); (case sideB => exact (by repeat (first | (with_reducible first | exact HB.out | apply below_alloc | apply pw_below_drewN | apply below_drew1 | refine below_set ?_ GE719.out | refine below_set ?_ GE726.out) | exact HB.out))); rintro e w58 ⟨rfl, hb⟩; have n0_ := Aside0.mk (Kd.R_below (by (with_reducible repeat (first | apply Kd.R_alloc | apply Kd.R_drewN | apply Kd.R_drew)); exact HO_4.out) hb); have n1_ := Aside0.mk (Kd.R_below (by (with_reducible repeat (first | apply Kd.R_alloc | apply Kd.R_drewN | apply Kd.R_drew)); exact HO_720002.out) hb); have n2_ := Aside0.mk (Kd.R_below (by (with_reducible repeat (first | apply Kd.R_alloc | apply Kd.R_drewN | apply Kd.R_drew)); exact HO_727002.out) hb); have n3_ := Aside0.mk (blk_below (g := gb719) (o := .cells #[.int .i64 t713, .int .i64 t714, .slice Ao12 t715.length co12] 29 (0, 0)) (by (with_reducible repeat (first | refine blk_drewN ?_ _ | refine blk_drew ?_ | refine blk_alloc ?_ _)); exact BK719.out) hb); have n4_ := Aside0.mk (blk_below (g := gb726) (o := .cells #[.int .i64 t720, .int .i64 t721, .slice Ao17 t722.length co17] 29 (0, 0)) (by (with_reducible repeat (first | refine blk_drewN ?_ _ | refine blk_drew ?_ | refine blk_alloc ?_ _)); exact BK726.out) hb); have n5_ := Aside0.mk (below_step (by repeat (first | (with_reducible first | exact HB.out | apply below_alloc | apply pw_below_drewN | apply below_drew1 | refine below_set ?_ GE719.out | refine below_set ?_ GE726.out) | exact HB.out)) hb); clear HO_4; clear HO_720002; clear HO_727002; clear BK719; clear BK726; clear HB; have HO_4 := n0_; have HO_720002 := n1_; have HO_727002 := n2_; have BK719 := n3_; have BK726 := n4_; have HB := n5_; clear n0_ n1_ n2_ n3_ n4_ n5_; (try clear hb); (try clear hb2); (try clear hk); (try clear hi)) | (go_at_call 49; (with_reducible refine (impl_TypeOk.calls k2 t707 _ _ t708 t737 _ ?side1 ?side2 A53.out).mono ?_); (case side1 => repeat (first | exact (Kd.R_reads' HO_4.out).2.2 | (with_reducible refine Kd.C_alloc ?_ _) | (with_reducible refine Kd.C_drewN ?_ _) | (with_reducible refine Kd.C_drew ?_))); (case side2 => exact (Kd.R_reads' HO_4.out).2.1); rintro e w59 ⟨rfl, hb⟩; have n0_ := Aside0.mk (Kd.R_below (by (with_reducible repeat (first | apply Kd.R_alloc | apply Kd.R_drewN | apply Kd.R_drew)); exact HO_4.out) hb); have n1_ := Aside0.mk (Kd.R_below (by (with_reducible repeat (first | apply Kd.R_alloc | apply Kd.R_drewN | apply Kd.R_drew)); exact HO_720002.out) hb); have n2_ := Aside0.mk (Kd.R_below (by (with_reducible repeat (first | apply Kd.R_alloc | apply Kd.R_drewN | apply Kd.R_drew)); exact HO_727002.out) hb); have n3_ := Aside0.mk (blk_below (g := gb719) (o := .cells #[.int .i64 t713, .int .i64 t714, .slice Ao12 t715.length co12] 29 (0, 0)) (by (with_reducible repeat (first | refine blk_drewN ?_ _ | refine blk_drew ?_ | refine blk_alloc ?_ _)); exact BK719.out) hb); have n4_ := Aside0.mk (blk_below (g := gb726) (o := .cells #[.int .i64 t720, .int .i64 t721, .slice Ao17 t722.length co17] 29 (0, 0)) (by (with_reducible repeat (first | refine blk_drewN ?_ _ | refine blk_drew ?_ | refine blk_alloc ?_ _)); exact BK726.out) hb); have n5_ := Aside0.mk (below_step (by repeat (first | (with_reducible first | exact HB.out | apply below_alloc | apply pw_below_drewN | apply below_drew1 | refine below_set ?_ GE719.out | refine below_set ?_ GE726.out) | exact HB.out)) hb); clear HO_4; clear HO_720002; clear HO_727002; clear BK719; clear BK726; clear HB; have HO_4 := n0_; have HO_720002 := n1_; have HO_727002 := n2_; have BK719 := n3_; have BK726 := n4_; have HB := n5_; clear n0_ n1_ n2_ n3_ n4_ n5_; (try clear hb); (try clear hb2); (try clear hk); (try clear hi)))
                        go_ret
                        exact ⟨by first | rfl | (simp [errW_none, errW_some] <;> rfl) | (simp [*, errW_none, errW_some] <;> rfl), by repeat (first | (with_reducible first | exact HB.out | apply below_alloc | apply pw_below_drewN | apply below_drew1 | refine below_set ?_ GE719.out | refine below_set ?_ GE726.out) | exact HB.out)⟩
                      · rw [if_neg c51] at H
                        have c51b0 : ((t722.length : Int) == (wrap64 ((wrap64 (2 * (t708.length : Int))) + 1))) = false := beq_eq_false_iff_ne.mpr c51
                        have c51b1 : ((t722.length : Int) != (wrap64 ((wrap64 (2 * (t708.length : Int))) + 1))) = true := bne_iff_ne.mpr c51
                        obtain rfl := Option.some.inj H
                        have hnb60 := NB726_719.out
                        have hnc60 := NB719_726.out
                        have hcz61_0 : wr.cell? ⟨gb726, 0, none⟩ = some (.int .i64 t720) := (blk_cell BK726.out 0).trans rfl
                        have hcz61_1 : wr.cell? ⟨gb726, 1, none⟩ = some (.int .i64 t721) := (blk_cell BK726.out 1).trans rfl
                        have hcz61_2 : wr.cell? ⟨gb726, 2, none⟩ = some (.slice Ao17 t722.length co17) := (blk_cell BK726.out 2).trans rfl
                        have hfz61_0 := blk_frozen BK726.out 0
                        have hfz61_1 := blk_frozen BK726.out 1
                        have hfz61_2 := blk_frozen BK726.out 2
                        go_wp2_with (first | (go_at_call 46; (with_reducible refine (impl_PolyAt.calls _ _ t722 0 t734 _ ?side1 ?side2 A48.out).mono ?_); (case side1 => repeat (first | exact (Kd.R_reads' HO_727002.out).2.2 | (with_reducible refine Kd.C_alloc ?_ _) | (with_reducible refine Kd.C_drewN ?_ _) | (with_reducible refine Kd.C_drew ?_))); (case side2 => exact (Kd.R_reads' HO_727002.out).2.1); rintro e w62 ⟨rfl, hb⟩; have n0_ := Aside0.mk (Kd.R_below (by (with_reducible repeat (first | apply Kd.R_alloc | apply Kd.R_drewN | apply Kd.R_drew)); exact HO_4.out) hb); have n1_ := Aside0.mk (Kd.R_below (by (with_reducible repeat (first | apply Kd.R_alloc | apply Kd.R_drewN | apply Kd.R_drew)); exact HO_720002.out) hb); have n2_ := Aside0.mk (Kd.R_below (by (with_reducible repeat (first | apply Kd.R_alloc | apply Kd.R_drewN | apply Kd.R_drew)); exact HO_727002.out) hb); have n3_ := Aside0.mk (blk_below (g := gb719) (o := .cells #[.int .i64 t713, .int .i64 t714, .slice Ao12 t715.length co12] 29 (0, 0)) (by (with_reducible repeat (first | refine blk_drewN ?_ _ | refine blk_drew ?_ | refine blk_alloc ?_ _)); exact BK719.out) hb); have n4_ := Aside0.mk (blk_below (g := gb726) (o := .cells #[.int .i64 t720, .int .i64 t721, .slice Ao17 t722.length co17] 29 (0, 0)) (by (with_reducible repeat (first | refine blk_drewN ?_ _ | refine blk_drew ?_ | refine blk_alloc ?_ _)); exact BK726.out) hb); have n5_ := Aside0.mk (below_step (by repeat (first | (with_reducible first | exact HB.out | apply below_alloc | apply pw_below_drewN | apply below_drew1 | refine below_set ?_ GE719.out | refine below_set ?_ GE726.out) | exact HB.out)) hb); clear HO_4; clear HO_720002; clear HO_727002; clear BK719; clear BK726; clear HB; have HO_4 := n0_; have HO_720002 := n1_; have HO_727002 := n2_; have BK719 := n3_; have BK726 := n4_; have HB := n5_; clear n0_ n1_ n2_ n3_ n4_ n5_; (try clear hb); (try clear hb2); (try clear hk); (try clear hi)) | (go_at_call 47; (with_reducible refine (impl_FieldMul.calls t709 t710 t735 _ A49.out).mono ?_); rintro e w' ⟨rfl, ⟨nd, rfl⟩⟩; have hcz63_0 : w62.cell? ⟨gb726, 0, none⟩ = some (.int .i64 t720) := (blk_cell BK726.out 0).trans rfl; have hcz63_1 : w62.cell? ⟨gb726, 1, none⟩ = some (.int .i64 t721) := (blk_cell BK726.out 1).trans rfl; have hcz63_2 : w62.cell? ⟨gb726, 2, none⟩ = some (.slice Ao17 t722.length co17) := (blk_cell BK726.out 2).trans rfl; have hfz63_0 := blk_frozen BK726.out 0; have hfz63_1 := blk_frozen BK726.out 1; have hfz63_2 := blk_frozen BK726.out 2))
                        go_ret
                        exact ⟨by first | rfl | (simp [errW_none, errW_some] <;> rfl) | (simp [*, errW_none, errW_some] <;> rfl), by repeat (first | (with_reducible first | exact HB.out | apply below_alloc | apply pw_below_drewN | apply below_drew1 | refine below_set ?_ GE719.out | refine below_set ?_ GE726.out) | exact HB.out)⟩
                    · rw [if_neg c50] at H
                      have c50b0 : (t734 == t735) = false := beq_eq_false_iff_ne.mpr c50
                      have c50b1 : (t734 != t735) = true := bne_iff_ne.mpr c50
                      obtain rfl := Option.some.inj H
                      have hnb64 := NB726_719.out
                      have hnc64 := NB719_726.out
                      have hcz65_0 : wr.cell? ⟨gb726, 0, none⟩ = some (.int .i64 t720) := (blk_cell BK726.out 0).trans rfl
                      have hcz65_1 : wr.cell? ⟨gb726, 1, none⟩ = some (.int .i64 t721) := (blk_cell BK726.out 1).trans rfl
                      have hcz65_2 : wr.cell? ⟨gb726, 2, none⟩ = some (.slice Ao17 t722.length co17) := (blk_cell BK726.out 2).trans rfl
                      have hfz65_0 := blk_frozen BK726.out 0
                      have hfz65_1 := blk_frozen BK726.out 1
                      have hfz65_2 := blk_frozen BK726.out 2
                      go_wp2_with (first | (go_at_call 46; (with_reducible refine (impl_PolyAt.calls _ _ t722 0 t734 _ ?side1 ?side2 A48.out).mono ?_); (case side1 => repeat (first | exact (Kd.R_reads' HO_727002.out).2.2 | (with_reducible refine Kd.C_alloc ?_ _) | (with_reducible refine Kd.C_drewN ?_ _) | (with_reducible refine Kd.C_drew ?_))); (case side2 => exact (Kd.R_reads' HO_727002.out).2.1); rintro e w66 ⟨rfl, hb⟩; have n0_ := Aside0.mk (Kd.R_below (by (with_reducible repeat (first | apply Kd.R_alloc | apply Kd.R_drewN | apply Kd.R_drew)); exact HO_4.out) hb); have n1_ := Aside0.mk (Kd.R_below (by (with_reducible repeat (first | apply Kd.R_alloc | apply Kd.R_drewN | apply Kd.R_drew)); exact HO_720002.out) hb); have n2_ := Aside0.mk (Kd.R_below (by (with_reducible repeat (first | apply Kd.R_alloc | apply Kd.R_drewN | apply Kd.R_drew)); exact HO_727002.out) hb); have n3_ := Aside0.mk (blk_below (g := gb719) (o := .cells #[.int .i64 t713, .int .i64 t714, .slice Ao12 t715.length co12] 29 (0, 0)) (by (with_reducible repeat (first | refine blk_drewN ?_ _ | refine blk_drew ?_ | refine blk_alloc ?_ _)); exact BK719.out) hb); have n4_ := Aside0.mk (blk_below (g := gb726) (o := .cells #[.int .i64 t720, .int .i64 t721, .slice Ao17 t722.length co17] 29 (0, 0)) (by (with_reducible repeat (first | refine blk_drewN ?_ _ | refine blk_drew ?_ | refine blk_alloc ?_ _)); exact BK726.out) hb); have n5_ := Aside0.mk (below_step (by repeat (first | (with_reducible first | exact HB.out | apply below_alloc | apply pw_below_drewN | apply below_drew1 | refine below_set ?_ GE719.out | refine below_set ?_ GE726.out) | exact HB.out)) hb); clear HO_4; clear HO_720002; clear HO_727002; clear BK719; clear BK726; clear HB; have HO_4 := n0_; have HO_720002 := n1_; have HO_727002 := n2_; have BK719 := n3_; have BK726 := n4_; have HB := n5_; clear n0_ n1_ n2_ n3_ n4_ n5_; (try clear hb); (try clear hb2); (try clear hk); (try clear hi)) | (go_at_call 47; (with_reducible refine (impl_FieldMul.calls t709 t710 t735 _ A49.out).mono ?_); rintro e w' ⟨rfl, ⟨nd, rfl⟩⟩))
                      go_ret
                      exact ⟨by first | rfl | (simp [errW_none, errW_some] <;> rfl) | (simp [*, errW_none, errW_some] <;> rfl), by repeat (first | (with_reducible first | exact HB.out | apply below_alloc | apply pw_below_drewN | apply below_drew1 | refine below_set ?_ GE719.out | refine below_set ?_ GE726.out) | exact HB.out)⟩
                  · rw [if_neg c47] at H
                    have c47b0 : (t721 == t710) = false := beq_eq_false_iff_ne.mpr c47
                    have c47b1 : (t721 != t710) = true := bne_iff_ne.mpr c47
                    obtain rfl := Option.some.inj H
                    have hnb67 := NB726_719.out
                    have hnc67 := NB719_726.out
                    have hcz68_0 : wr.cell? ⟨gb726, 0, none⟩ = some (.int .i64 t720) := (blk_cell BK726.out 0).trans rfl
                    have hcz68_1 : wr.cell? ⟨gb726, 1, none⟩ = some (.int .i64 t721) := (blk_cell BK726.out 1).trans rfl
                    have hcz68_2 : wr.cell? ⟨gb726, 2, none⟩ = some (.slice Ao17 t722.length co17) := (blk_cell BK726.out 2).trans rfl
                    have hfz68_0 := blk_frozen BK726.out 0
                    have hfz68_1 := blk_frozen BK726.out 1
                    have hfz68_2 := blk_frozen BK726.out 2
                    go_wp2
                    go_ret
                    exact ⟨by first | rfl | (simp [errW_none, errW_some] <;> rfl) | (simp [*, errW_none, errW_some] <;> rfl), by repeat (first | (with_reducible first | exact HB.out | apply below_alloc | apply pw_below_drewN | apply below_drew1 | refine below_set ?_ GE719.out | refine below_set ?_ GE726.out) | exact HB.out)⟩
                · rw [if_neg c46] at H
                  have c46b0 : (t720 == t709) = false := beq_eq_false_iff_ne.mpr c46
                  have c46b1 : (t720 != t709) = true := bne_iff_ne.mpr c46
                  obtain rfl := Option.some.inj H
                  have hnb69 := NB726_719.out
                  have hnc69 := NB719_726.out
                  have hcz70_0 : wr.cell? ⟨gb726, 0, none⟩ = some (.int .i64 t720) := (blk_cell BK726.out 0).trans rfl
                  have hcz70_1 : wr.cell? ⟨gb726, 1, none⟩ = some (.int .i64 t721) := (blk_cell BK726.out 1).trans rfl
                  have hcz70_2 : wr.cell? ⟨gb726, 2, none⟩ = some (.slice Ao17 t722.length co17) := (blk_cell BK726.out 2).trans rfl
                  have hfz70_0 := blk_frozen BK726.out 0
                  have hfz70_1 := blk_frozen BK726.out 1
                  have hfz70_2 := blk_frozen BK726.out 2
                  go_wp2
                  go_ret
                  exact ⟨by first | rfl | (simp [errW_none, errW_some] <;> rfl) | (simp [*, errW_none, errW_some] <;> rfl), by repeat (first | (with_reducible first | exact HB.out | apply below_alloc | apply pw_below_drewN | apply below_drew1 | refine below_set ?_ GE719.out | refine below_set ?_ GE726.out) | exact HB.out)⟩
def laws_FnProofMake.Pure : Prop := ∀ (l0 : List Int), l0.length ≤ maxLen → l0.length * 1 ≤ 140737488351232 → (∀ x ∈ l0, (Lit.int .u8 x).wf = true) → ∃ k, laws_FnProofMake.f k l0 = some true
end Go.Proofs.YtahbooeioigbgaaDoor.Da
