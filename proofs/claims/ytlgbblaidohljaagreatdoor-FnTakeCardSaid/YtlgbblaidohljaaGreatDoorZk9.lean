import Derived.Test.YtlgbblaidohljaaGreatDoorZ
import Derived.Test.YtlgbblaidohljaaGreatDoorZk0
import Derived.Test.YtlgbblaidohljaaGreatDoorZk6
import Derived.Test.YtlgbblaidohljaaGreatDoorZk7
import Derived.Test.YtlgbblaidohljaaGreatDoorZk8
namespace Go.Proofs.YtlgbblaidohljaaGreatDoor.Zk
open Go.RowKit Go.Proofs.YtlgbblaidohljaaGreatDoorT.PrintWords Go.Proofs.YtlgbblaidohljaaGreatDoorT.PrintLast Go.Proofs.YtlgbblaidohljaaGreatDoorT.PrintMore Go.Proofs.YtlgbblaidohljaaGreatDoor.Z
attribute [local go_sem] max2_int min2_int max_two min_two max_three min_three max_four min_four
set_option linter.unusedVariables false
set_option linter.unusedSimpArgs false
theorem c55x9 : Ent Tryz.prog 55 := ent Tryz.func55 (by kernel_rfl) rfl
private theorem c49x25 : Ent Tryz.prog 49 := ent Tryz.func49 (by kernel_rfl) rfl
section
open Go.Conc Go.Proofs.YtlgbblaidohljaaGreatDoor.Comm
def seqR : Code → Code | .seq _ y => y | c => c
noncomputable def askCode : Code := (Tryz.f53.body).getD .skip
structure AskJ (W1 : World) (u q : Int) (hv : Value) (buf : Array Value) (cl : Bool) (s r : Nat) (W : World) : Prop where
  below : Below W1.heap.size W1 W
  box : W.heap[W1.heap.size]? = some (.cells #[.int .i64 u, .int .i64 q, hv] 40 (0, 0))
  chan : W.heap[W1.heap.size + 1]? = some (.chan 4 buf cl s r false)
theorem AskJ.mono {W1 W W' : World} {u q : Int} {hv : Value} {buf : Array Value} {cl : Bool} {s r : Nat} (h : AskJ W1 u q hv buf cl s r W) (hb : Below W.heap.size W W') : AskJ W1 u q hv buf cl s r W' := by
 have h1 := (Array.getElem?_eq_some_iff.1 h.box).1
 have h2 := (Array.getElem?_eq_some_iff.1 h.chan).1
 exact ⟨h.below.trans (hb.mono (by omega)), (hb.block _ h1).trans h.box, (hb.block _ h2).trans h.chan⟩
theorem AskJ.set {W1 W : World} {u q : Int} {hv : Value} {buf : Array Value} {cl : Bool} {s r : Nat} (h : AskJ W1 u q hv buf cl s r W) (buf' : Array Value) (cl' : Bool) (s' r' : Nat) : AskJ W1 u q hv buf' cl' s' r' (W.setChan (W1.heap.size + 1) 4 buf' cl' s' r' false) := by
 have h2 := (Array.getElem?_eq_some_iff.1 h.chan).1
 refine ⟨below_setChan h.below (by omega) _ _ _ _ _ _, ?_, heap_setChan _ _ _ _ _ _ _ _ h2⟩
 simp only [World.setChan]; rw [Array.getElem?_setIfInBounds_ne (by omega)]; exact h.box
theorem AskJ.cell {W1 W : World} {u q : Int} {hv : Value} {buf : Array Value} {cl : Bool} {s r : Nat} (h : AskJ W1 u q hv buf cl s r W) :
  W.cell? ⟨W1.heap.size, 0, none⟩ = some (.int .i64 u) ∧ W.cell? ⟨W1.heap.size, 1, none⟩ = some (.int .i64 q) ∧ W.cell? ⟨W1.heap.size, 2, none⟩ = some hv := by
 have hb := h.box
 simp [World.cell?, hb]
def AskFr (a0 a3 a4 c : Int) (sv : Value) (N : Nat) (t : Array Value) : Prop :=
 t.size = 93 ∧ t.getD 0 undef = .int .i64 a0 ∧ t.getD 3 undef = .int .i64 a3 ∧ t.getD 4 undef = .int .i64 a4 ∧ t.getD 11 undef = .int .i64 c ∧ t.getD 12 undef = sv ∧ t.getD 13 undef = .pointer (some ⟨N, 0, none⟩) ∧ t.getD 14 undef = .chan (some (N + 1))
theorem frame_lit {t : Array Value} {n : Nat} (h : t.size = n) : ∃ J : Nat → Value, t = ((List.range n).map J).toArray ∧ ∀ i, t.getD i undef = J i := by
 refine ⟨fun i => t.getD i undef, ?_, fun _ => rfl⟩
 apply Array.ext_getElem?
 intro i
 by_cases hi : i < n
 ·simp [Array.getD, h, hi]
 ·simp [hi, h]
theorem AskJ.new (W1 : World) (u q : Int) (hv : Value) : AskJ W1 u q hv #[] false 0 0 ((W1.alloc (.cells #[.int .i64 u, .int .i64 q, hv] 40)).alloc (.chan 4 #[] false 0 0 false)) := by
 refine ⟨((Below.refl _ _).alloc (Nat.le_refl _) _).alloc (by simp) _, ?_, ?_⟩
 ·rw [Below.heap_alloc _ _ _ (by simp)]; exact heap_alloc_new W1 _
 ·have := heap_alloc_new (W1.alloc (.cells #[.int .i64 u, .int .i64 q, hv] 40)) (.chan 4 #[] false 0 0 false)
  simpa using this
theorem ask_mk4 (w : World) : (Instr.makeChan 98 (.int .i64 4)).run Tryz.prog w = .ok (.chan (some w.heap.size)) (w.alloc (.chan 4 #[] false 0 0 false)) := by kernel_rfl
set_option maxHeartbeats 4000000 in
set_option maxRecDepth 100000 in
theorem ask0 (a0 : Int) (A1 : Option Addr) (c1 : Nat) (l1 : List Int) (a2 : Bool) (a3 a4 : Int) (v : List Int) (u q : Int) (h : List Int) (w : World) (Q : Exit → Act → World → Prop)
  (hr1 : Kd.C (Kd.int .i64) w A1 l1.length l1) (hc1 : l1.length ≤ c1) (hcut : impl_cut.f a0 l1 = some (v, u, q, h))
  (hrest : ∀ (W1 W : World) (Av Ah : Option Addr) (cv ch : Nat) (t : Array Value), Below w.heap.size w W1 → v.length ≤ cv → h.length ≤ ch → Kd.C (Kd.int .i64) W1 Av v.length v → Kd.C (Kd.int .i64) W1 Ah h.length h → AskJ W1 u q (.slice Ah h.length ch) #[] false 0 0 W →
   AskFr a0 a3 a4 (if a2 then 1 else 0) (.slice Av v.length cv) W1.heap.size t → WpN Tryz.prog (seqR (seqR (seqR (seqR (seqR askCode))))) Q { tmps := t, defers := [] } W) :
  WpN Tryz.prog askCode Q { tmps := #[.int .i64 a0, .slice A1 l1.length c1, .bool a2, .int .i64 a3, .int .i64 a4] ++ Array.replicate 88 undef, defers := [] } w := by
 simp only [askCode, Tryz.f53, Option.getD_some, seqR] at hrest ⊢
 simp only [Array.replicate_succ, Array.replicate_zero, List.push_toArray, List.append_toArray, List.nil_append, List.cons_append]
 have hmk := ask_mk4
 have HR := Aside0.mk hrest
 clear hrest
 cases a2
 all_goals
  refine WpN.seq_k fun K hK => ?_
  go_wp2
  refine WpN.seq_k fun K hK => ?_
  go_wp2
  refine WpN.seq_k fun K hK => ?_
  go_wp2
  refine WpN.seq_k fun K hK => ?_
  go_wp2_with (go_at_call 64; refine (impl_cut.calls a0 A1 c1 l1 v u q h _ hr1 hc1 hcut).mono ?_; rintro e W1 ⟨v0_, v3_, rfl, hV0, hV3, hb⟩; obtain ⟨Av, cv, rfl⟩ := Kd.V_slice hV0; obtain ⟨Ah, ch, rfl⟩ := Kd.V_slice hV3)
  refine WpN.seq_k fun K hK => ?_
  go_wp2
  have hW1 := Aside0.mk hb
  clear hb
  obtain ⟨_, hlv, hcv⟩ := Kd.V_reads' hV0
  obtain ⟨_, hlh, hch⟩ := Kd.V_reads' hV3
  exact HR.out W1 _ Av Ah cv ch _ hW1.out hlv hlh hcv hch (AskJ.new W1 u q _) ⟨rfl, rfl, rfl, rfl, rfl, rfl, rfl, rfl⟩
set_option maxHeartbeats 4000000 in
set_option maxRecDepth 100000 in
theorem ask1 (a0 a3 a4 c : Int) (Av Ah : Option Addr) (cv ch : Nat) (v h x1 x2 : List Int) (u q y1 : Int) (W1 W : World) (t : Array Value) (Q : Exit → Act → World → Prop)
  (hlv : v.length ≤ cv) (hcv : Kd.C (Kd.int .i64) W1 Av v.length v) (hJ : AskJ W1 u q (.slice Ah h.length ch) #[] false 0 0 W) (ht : AskFr a0 a3 a4 c (.slice Av v.length cv) W1.heap.size t)
  (e1 : impl_ahead.f u v = some x1) (e2 : impl_through.f x1 = some x2) (e3 : impl_value.f x2 a3 = some y1)
  (hrest : ∀ (W : World) (t : Array Value), AskJ W1 u q (.slice Ah h.length ch) #[.int .i64 y1] false 1 0 W → AskFr a0 a3 a4 c (.slice Av v.length cv) W1.heap.size t → WpN Tryz.prog (seqR (seqR (seqR (seqR (seqR (seqR askCode)))))) Q { tmps := t, defers := [] } W) :
  WpN Tryz.prog (seqR (seqR (seqR (seqR (seqR askCode))))) Q { tmps := t, defers := [] } W := by
 simp only [askCode, Tryz.f53, Option.getD_some, seqR] at hrest ⊢
 obtain ⟨hsz, h0, h3, h4, h11, h12, h13, h14⟩ := ht
 obtain ⟨J, rfl, hJt⟩ := frame_lit hsz
 rw [hJt] at h0 h3 h4 h11 h12 h13 h14
 clear hsz hJt
 simp only [List.range, List.range.loop, List.map_cons, List.map_nil, h0, h3, h4, h11, h12, h13, h14]
 clear h0 h3 h4 h11 h12 h13 h14
 have HR := Aside0.mk hrest
 clear hrest
 have HJ := Aside0.mk hJ
 have HC := Aside0.mk (Kd.C_below hcv hJ.below)
 obtain ⟨hc0, hc1, hc2⟩ := hJ.cell
 clear hJ hcv
 refine WpN.seqN_k fun K hK => ?_
 refine WpN.region_tail 8 rfl fun K2 hK2 => ?_
 simp only [List.take_succ_cons, List.take_zero]
 go_wp2_with (first | (go_at_call 57; refine (impl_ahead.calls u Av cv v x1 _ HC.out hlv e1).mono ?_; rintro e w1 ⟨v0_, rfl, hR1, hb1⟩; obtain ⟨A2, c2, rfl⟩ := Kd.R_slice hR1) | (go_at_call 56; refine (impl_through.calls A2 c2 x1 x2 _ (Kd.R_reads' hR1).2.2 (Kd.R_reads' hR1).2.1 e2).mono ?_; rintro e w2 ⟨v0_, rfl, hR2, hb2⟩; obtain ⟨A3, c3, rfl⟩ := Kd.R_slice hR2) | (go_at_call 89; refine (impl_value.calls A3 c3 x2 a3 y1 _ (Kd.R_reads' hR2).2.2 (Kd.R_reads' hR2).2.1 e3).mono ?_; rintro e w3 ⟨rfl, hb3⟩))
 refine OpsN.send (c := W1.heap.size + 1) (v := .int .i64 y1) (z := .tuple #[]) rfl rfl (by simp [execOp, Act.eval, scase, go_sem]) (((HJ.out.mono hb1).mono hb2).mono hb3).chan (by simp) ?_
 exact OpsN.nil (hK _ _ (HR.out _ _ ((((HJ.out.mono hb1).mono hb2).mono hb3).set _ _ _ _) ⟨rfl, rfl, rfl, rfl, rfl, rfl, rfl, rfl⟩))
set_option maxHeartbeats 4000000 in
set_option maxRecDepth 100000 in
theorem ask2 (k : Nat) (a0 a3 a4 c : Int) (Av Ah : Option Addr) (cv ch : Nat) (v h z0 z1 z2 : List Int) (u q y1 y2 : Int) (W1 W : World) (t : Array Value) (Q : Exit → Act → World → Prop)
  (hlv : v.length ≤ cv) (hcv : Kd.C (Kd.int .i64) W1 Av v.length v) (hJ : AskJ W1 u q (.slice Ah h.length ch) #[.int .i64 y1] false 1 0 W) (ht : AskFr a0 a3 a4 c (.slice Av v.length cv) W1.heap.size t)
  (hQ : ∀ c a d x w, Q (.panic c) (a.put d x) w → Q (.panic c) a w) (e1 : impl_lowered.f k v c = some z0) (e2 : impl_ahead.f q z0 = some z1) (e3 : impl_through.f z1 = some z2) (e4 : impl_value.f z2 a3 = some y2)
  (hrest : ∀ (W : World) (t : Array Value), AskJ W1 u q (.slice Ah h.length ch) #[.int .i64 y1, .int .i64 y2] false 2 0 W → AskFr a0 a3 a4 c (.slice Av v.length cv) W1.heap.size t → WpN Tryz.prog (seqR (seqR (seqR (seqR (seqR (seqR (seqR (askCode)))))))) Q { tmps := t, defers := [] } W) :
  WpN Tryz.prog (seqR (seqR (seqR (seqR (seqR (seqR (askCode))))))) Q { tmps := t, defers := [] } W := by
 simp only [askCode, Tryz.f53, Option.getD_some, seqR] at hrest ⊢
 obtain ⟨hsz, h0, h3, h4, h11, h12, h13, h14⟩ := ht
 obtain ⟨J, rfl, hJt⟩ := frame_lit hsz
 rw [hJt] at h0 h3 h4 h11 h12 h13 h14
 clear hsz hJt
 simp only [List.range, List.range.loop, List.map_cons, List.map_nil, h0, h3, h4, h11, h12, h13, h14]
 clear h0 h3 h4 h11 h12 h13 h14
 have HR := Aside0.mk hrest
 clear hrest
 have HJd := Aside0.mk (hJ.mono (below_drew (Below.refl W.heap.size W)))
 have HC := Aside0.mk (Kd.C_below hcv HJd.out.below)
 clear hJ hcv
 refine WpN.seqN_k fun K hK => ?_
 have HK := Aside0.mk hK
 clear hK
 refine WpN.draw_tail 10 (by kernel_rfl) rfl (by kernel_rfl) (by kernel_rfl) (by kernel_rfl) (by kernel_rfl) (by kernel_rfl) (fun K2 hK2 => ?_)
 have HK2 := Aside0.mk hK2
 clear hK2
 simp only [List.take_succ_cons, List.take_zero]
 refine wpAny_of_last (S := fun w' => w'.cell? ⟨W1.heap.size, 1, none⟩ = some (.int .i64 q)) (ds := []) _ _ _ _ ?_
 have hHeld := HJd.out.cell.2.1
 simp only [Array.replicate_succ, Array.replicate_zero, List.push_toArray, List.append_toArray, List.nil_append, List.cons_append]
 refine pure_ (i := 0) (N := some 35) (v := ?_) (a' := ?_) (bs 10 1) rfl rfl (by kernel_rfl) (fun _ _ _ hp => hQ _ _ _ _ _ hp) (Or.inl ⟨by rfl, ?_⟩) ?_ ?_
 rotate_left
 ·intro w'
  go_simp
  with_reducible rfl
 rotate_left
 ·simp only [Act.put, List.setIfInBounds_toArray, List.set_cons_zero, List.set_cons_succ, i64_w, i32_w]
  rfl
 refine pure_ (i := 1) (N := some 36) (v := ?_) (a' := ?_) (bs 10 3) rfl rfl (by kernel_rfl) (fun _ _ _ hp => hQ _ _ _ _ _ hp) (Or.inl ⟨by rfl, ?_⟩) ?_ ?_
 rotate_left
 ·intro w'
  go_simp
  with_reducible rfl
 rotate_left
 ·simp only [Act.put, List.setIfInBounds_toArray, List.set_cons_zero, List.set_cons_succ, i64_w, i32_w]
  rfl
 refine pure_ (i := 3) (N := some 38) (v := ?_) (a' := ?_) (bs 10 11) rfl rfl (by kernel_rfl) (fun _ _ _ hp => hQ _ _ _ _ _ hp) (Or.inl ⟨by rfl, ?_⟩) ?_ ?_
 rotate_left
 ·intro w'
  go_simp
  with_reducible rfl
 rotate_left
 ·simp only [Act.put, List.setIfInBounds_toArray, List.set_cons_zero, List.set_cons_succ, i64_w, i32_w]
  rfl
 refine pure_ (i := 4) (N := some 39) (v := ?_) (a' := ?_) (bs 10 27) rfl rfl (by kernel_rfl) (fun _ _ _ hp => hQ _ _ _ _ _ hp) (Or.inl ⟨by rfl, ?_⟩) ?_ ?_
 rotate_left
 ·intro w'
  go_simp
  with_reducible rfl
 rotate_left
 ·simp only [Act.put, List.setIfInBounds_toArray, List.set_cons_zero, List.set_cons_succ, i64_w, i32_w]
  rfl
 refine pure_ (i := 8) (N := some 43) (v := ?_) (a' := ?_) (bs 10 283) rfl rfl (by kernel_rfl) (fun _ _ _ hp => hQ _ _ _ _ _ hp) (Or.inl ⟨by rfl, ?_⟩) ?_ ?_
 rotate_left
 ·intro w'
  go_simp
  with_reducible rfl
 rotate_left
 ·simp only [Act.put, List.setIfInBounds_toArray, List.set_cons_zero, List.set_cons_succ, i64_w, i32_w]
  rfl
 refine take_ (i := 2) (N := some 37) (v := ?_) (a' := ?_) (bs 10 287) rfl rfl (by kernel_rfl) (fun _ _ _ hp => hQ _ _ _ _ _ hp) (Or.inl ⟨by rfl, ?_⟩) hHeld ?_ ?_
 rotate_left
 ·intro w' s0
  go_simp
  with_reducible rfl
 rotate_left
 ·simp only [Act.put, List.setIfInBounds_toArray, List.set_cons_zero, List.set_cons_succ, i64_w, i32_w]
  rfl
 refine one_ (i := 5) (N := some 40) (bs 10 319) rfl rfl (by kernel_rfl) (by decide) (fun K hK => ?_)
 refine goes_ Tryz.func58 (by kernel_rfl) rfl #[.slice Av v.length cv, .int .i64 c] (by rfl) rfl rfl (by simp only [List.map_toArray, List.map_cons, List.map_nil]; rfl) ?_
 with_reducible refine (impl_lowered.calls k Av cv v c z0 _ HC.out hlv e1).mono ?_
 rintro e w1 ⟨v0_, rfl, hR1, hb1⟩
 refine ⟨_, rfl, ?_⟩
 obtain ⟨A2, c2, rfl⟩ := Kd.R_slice hR1
 refine hK.out _ _ ((HJd.out.mono hb1).cell.2.1) (fun hHeld => ?_)
 clear hK K
 refine norm_ (a' := ?_) ?_ ?_
 rotate_left
 ·show Act.put _ (some 40) _ = _
  simp only [Act.put, List.setIfInBounds_toArray, List.set_cons_zero, List.set_cons_succ, i64_w, i32_w]
  rfl
 refine one_ (i := 6) (N := some 41) (bs 10 383) rfl rfl (by kernel_rfl) (by decide) (fun K hK => ?_)
 refine goes_ Tryz.func57 (by kernel_rfl) rfl #[.int .i64 q, .slice A2 z0.length c2] (by rfl) rfl rfl (by simp only [List.map_toArray, List.map_cons, List.map_nil]; rfl) ?_
 with_reducible refine (impl_ahead.calls q A2 c2 z0 z1 _ (Kd.R_reads' hR1).2.2 (Kd.R_reads' hR1).2.1 e2).mono ?_
 rintro e w2 ⟨v0_, rfl, hR2, hb2⟩
 refine ⟨_, rfl, ?_⟩
 obtain ⟨A3, c3, rfl⟩ := Kd.R_slice hR2
 refine hK.out _ _ (((HJd.out.mono hb1).mono hb2).cell.2.1) (fun hHeld => ?_)
 clear hK K
 refine norm_ (a' := ?_) ?_ ?_
 rotate_left
 ·show Act.put _ (some 41) _ = _
  simp only [Act.put, List.setIfInBounds_toArray, List.set_cons_zero, List.set_cons_succ, i64_w, i32_w]
  rfl
 refine one_ (i := 7) (N := some 42) (bs 10 511) rfl rfl (by kernel_rfl) (by decide) (fun K hK => ?_)
 refine goes_ Tryz.func56 (by kernel_rfl) rfl #[.slice A3 z1.length c3] (by rfl) rfl rfl (by simp only [List.map_toArray, List.map_cons, List.map_nil]; rfl) ?_
 with_reducible refine (impl_through.calls A3 c3 z1 z2 _ (Kd.R_reads' hR2).2.2 (Kd.R_reads' hR2).2.1 e3).mono ?_
 rintro e w3 ⟨v0_, rfl, hR3, hb3⟩
 refine ⟨_, rfl, ?_⟩
 obtain ⟨A4, c4, rfl⟩ := Kd.R_slice hR3
 refine hK.out _ _ ((((HJd.out.mono hb1).mono hb2).mono hb3).cell.2.1) (fun hHeld => ?_)
 clear hK K
 refine norm_ (a' := ?_) ?_ ?_
 rotate_left
 ·show Act.put _ (some 42) _ = _
  simp only [Act.put, List.setIfInBounds_toArray, List.set_cons_zero, List.set_cons_succ, i64_w, i32_w]
  rfl
 refine one_ (i := 9) (N := some 44) (bs 10 1023) rfl rfl (by kernel_rfl) (by decide) (fun K hK => ?_)
 refine goes_ Tryz.func89 (by kernel_rfl) rfl #[.slice A4 z2.length c4, .int .i64 a3] (by rfl) rfl rfl (by simp only [List.map_toArray, List.map_cons, List.map_nil]; rfl) ?_
 with_reducible refine (impl_value.calls A4 c4 z2 a3 y2 _ (Kd.R_reads' hR3).2.2 (Kd.R_reads' hR3).2.1 e4).mono ?_
 rintro e w4 ⟨rfl, hb4⟩
 refine ⟨_, rfl, ?_⟩
 refine hK.out _ _ (((((HJd.out.mono hb1).mono hb2).mono hb3).mono hb4).cell.2.1) (fun hHeld => ?_)
 clear hK K
 refine norm_ (a' := ?_) ?_ ?_
 rotate_left
 ·show Act.put _ (some 44) _ = _
  simp only [Act.put, List.setIfInBounds_toArray, List.set_cons_zero, List.set_cons_succ, i64_w, i32_w]
  rfl
 refine done_ (by kernel_rfl) ?_
 refine HK2.out _ _ ?_
 refine OpsN.send (c := W1.heap.size + 1) (v := .int .i64 y2) (z := .tuple #[]) rfl rfl (by simp [execOp, Act.eval, scase, go_sem]) ((((HJd.out.mono hb1).mono hb2).mono hb3).mono hb4).chan (by simp) ?_
 exact OpsN.nil (HK.out _ _ (HR.out _ _ (((((HJd.out.mono hb1).mono hb2).mono hb3).mono hb4).set _ _ _ _) ⟨rfl, rfl, rfl, rfl, rfl, rfl, rfl, rfl⟩))
set_option maxHeartbeats 4000000 in
set_option maxRecDepth 100000 in
theorem ask3 (a0 a3 a4 c : Int) (sv : Value) (Ah : Option Addr) (ch : Nat) (h : List Int) (u q y1 y2 y3 : Int) (W1 W : World) (t : Array Value) (Q : Exit → Act → World → Prop)
  (hlh : h.length ≤ ch) (hch : Kd.C (Kd.int .i64) W1 Ah h.length h) (hJ : AskJ W1 u q (.slice Ah h.length ch) #[.int .i64 y1, .int .i64 y2] false 2 0 W) (ht : AskFr a0 a3 a4 c sv W1.heap.size t)
  (e1 : impl_value.f h a3 = some y3)
  (hrest : ∀ (W : World) (t : Array Value), AskJ W1 u q (.slice Ah h.length ch) #[.int .i64 y1, .int .i64 y2, .int .i64 y3] false 3 0 W → AskFr a0 a3 a4 c sv W1.heap.size t → WpN Tryz.prog (seqR (seqR (seqR (seqR (seqR (seqR (seqR (seqR (askCode))))))))) Q { tmps := t, defers := [] } W) :
  WpN Tryz.prog (seqR (seqR (seqR (seqR (seqR (seqR (seqR (askCode)))))))) Q { tmps := t, defers := [] } W := by
 simp only [askCode, Tryz.f53, Option.getD_some, seqR] at hrest ⊢
 obtain ⟨hsz, h0, h3, h4, h11, h12, h13, h14⟩ := ht
 obtain ⟨J, rfl, hJt⟩ := frame_lit hsz
 rw [hJt] at h0 h3 h4 h11 h12 h13 h14
 clear hsz hJt
 simp only [List.range, List.range.loop, List.map_cons, List.map_nil, h0, h3, h4, h11, h12, h13, h14]
 clear h0 h3 h4 h11 h12 h13 h14
 have HR := Aside0.mk hrest
 clear hrest
 have HJ := Aside0.mk hJ
 have HC := Aside0.mk (Kd.C_below hch hJ.below)
 obtain ⟨hc0, hc1, hc2⟩ := hJ.cell
 clear hJ hch
 refine WpN.seqN_k fun K hK => ?_
 refine WpN.region_tail 5 rfl fun K2 hK2 => ?_
 simp only [List.take_succ_cons, List.take_zero]
 go_wp2_with (go_at_call 89; refine (impl_value.calls Ah ch h a3 y3 _ HC.out hlh e1).mono ?_; rintro e w1 ⟨rfl, hb1⟩)
 refine OpsN.send (c := W1.heap.size + 1) (v := .int .i64 y3) (z := .tuple #[]) rfl rfl (by simp [execOp, Act.eval, scase, go_sem]) (HJ.out.mono hb1).chan (by simp) ?_
 exact OpsN.nil (hK _ _ (HR.out _ _ ((HJ.out.mono hb1).set _ _ _ _) ⟨rfl, rfl, rfl, rfl, rfl, rfl, rfl, rfl⟩))
def impl_ask.l0 (k : Nat) (wv : Int) (h : List Int) : Nat → Nat → Int → Option Int
  | 0, _, s => some s
  | m + 1, i, s => (impl_element_power.f k wv (i : Int)).bind fun p => (impl_value.f h ((i : Int) + 1)).bind fun x => (impl_element_times.f p x).bind fun y => (impl_element_plus.f s y).bind fun z => impl_ask.l0 k wv h m (i + 1) z
set_option maxHeartbeats 4000000 in
set_option maxRecDepth 100000 in
theorem ask4 (k : Nat) (a0 a3 a4 c : Int) (Av Ah : Option Addr) (cv ch : Nat) (v h : List Int) (u q y1 y2 y3 s : Int) (W1 W : World) (t : Array Value) (Q : Exit → Act → World → Prop)
  (hvm : v.length ≤ 9223372036854775807) (hlh : h.length ≤ ch) (hch : Kd.C (Kd.int .i64) W1 Ah h.length h) (hJ : AskJ W1 u q (.slice Ah h.length ch) #[.int .i64 y1, .int .i64 y2, .int .i64 y3] false 3 0 W) (ht : AskFr a0 a3 a4 c (.slice Av v.length cv) W1.heap.size t)
  (hQ : ∀ c a d x w, Q (.panic c) (a.put d x) w → Q (.panic c) a w) (hs : impl_ask.l0 k a4 h v.length 0 0 = some s)
  (hrest : ∀ (W : World) (t : Array Value), AskJ W1 u q (.slice Ah h.length ch) #[.int .i64 y1, .int .i64 y2, .int .i64 y3] false 3 0 W → AskFr a0 a3 a4 c (.slice Av v.length cv) W1.heap.size t → t.getD 15 undef = .int .i64 s → WpN Tryz.prog (seqR (seqR (seqR (seqR (seqR (seqR (seqR (seqR (seqR (seqR (askCode))))))))))) Q { tmps := t, defers := [] } W) :
  WpN Tryz.prog (seqR (seqR (seqR (seqR (seqR (seqR (seqR (seqR (askCode))))))))) Q { tmps := t, defers := [] } W := by
 simp only [askCode, Tryz.f53, Option.getD_some, seqR] at hrest ⊢
 obtain ⟨hsz, h0, h3, h4, h11, h12, h13, h14⟩ := ht
 obtain ⟨J, rfl, hJt⟩ := frame_lit hsz
 rw [hJt] at h0 h3 h4 h11 h12 h13 h14
 clear hsz hJt
 simp only [List.range, List.range.loop, List.map_cons, List.map_nil, h0, h3, h4, h11, h12, h13, h14]
 clear h0 h3 h4 h11 h12 h13 h14
 have HR := Aside0.mk hrest
 clear hrest
 have HJ := Aside0.mk hJ
 have HS := Aside0.mk hs
 clear hJ hs
 refine WpN.seq_k fun K hK => ?_
 go_wp2
 refine WpN.seq_k fun K hK => ?_
 have HK := Aside0.mk hK
 clear hK
 go_wp2
 go_loopw [15, 52] (fun x15 x52 wr => ∃ (j : Nat) (z : Int), j ≤ v.length ∧ x52 = .int .i64 (j : Int) ∧ x15 = .int .i64 z ∧ Aside0 (impl_ask.l0 k a4 h (v.length - j) j z = some s) ∧ Aside0 (AskJ W1 u q (.slice Ah h.length ch) #[.int .i64 y1, .int .i64 y2, .int .i64 y3] false 3 0 wr)) (fun _ x52 _ => v.length - (intOf x52).toNat)
 case atStart => exact ⟨0, 0, Nat.zero_le _, rfl, rfl, HS, HJ⟩
 case round =>
  obtain ⟨j, z, hj, rfl, rfl, HL, HJr⟩ := hrel
  by_cases hlt : j < v.length
  ·have hw : IntKind.i64.wrap ((j : Int) + 1) = (j : Int) + 1 := by rw [IntKind.wrap_i64]; omega
   have HL1 := HL.out
   rw [show v.length - j = (v.length - (j + 1)) + 1 by omega, impl_ask.l0] at HL1
   obtain ⟨p, e1, HL1⟩ := Option.bind_eq_some_iff.1 HL1
   obtain ⟨x, e2, HL1⟩ := Option.bind_eq_some_iff.1 HL1
   obtain ⟨y, e3, HL1⟩ := Option.bind_eq_some_iff.1 HL1
   obtain ⟨z', e4, HL1⟩ := Option.bind_eq_some_iff.1 HL1
   have HL2 := Aside0.mk HL1
   clear HL1
   go_wp2
   have HJd := Aside0.mk (HJr.out.mono (below_drew (Below.refl _ _)))
   refine start_ (n := 12) (S := fun w' => w'.cell? ⟨W1.heap.size, 2, none⟩ = some (.slice Ah h.length ch)) (ds := []) (bs 12 0) (by kernel_rfl) rfl rfl (HJd.out.cell.2.2) (fun hHeld => ?_)
   refine pure_ (i := 0) (N := some 55) (v := ?_) (a' := ?_) (bs 12 1) rfl rfl (by kernel_rfl) (fun _ _ _ hp => hQ _ _ _ _ _ hp) (Or.inl ⟨by rfl, ?_⟩) ?_ ?_
   rotate_left
   ·intro w'
    go_simp
    with_reducible rfl
   rotate_left
   ·simp only [Act.put, List.setIfInBounds_toArray, List.set_cons_zero, List.set_cons_succ, i64_w, i32_w]
    rfl
   refine pure_ (i := 1) (N := some 56) (v := ?_) (a' := ?_) (bs 12 3) rfl rfl (by kernel_rfl) (fun _ _ _ hp => hQ _ _ _ _ _ hp) (Or.inl ⟨by rfl, ?_⟩) ?_ ?_
   rotate_left
   ·intro w'
    go_simp
    with_reducible rfl
   rotate_left
   ·simp only [Act.put, List.setIfInBounds_toArray, List.set_cons_zero, List.set_cons_succ, i64_w, i32_w]
    rfl
   refine pure_ (i := 2) (N := some 57) (v := ?_) (a' := ?_) (bs 12 7) rfl rfl (by kernel_rfl) (fun _ _ _ hp => hQ _ _ _ _ _ hp) (Or.inl ⟨by rfl, ?_⟩) ?_ ?_
   rotate_left
   ·intro w'
    go_simp
    with_reducible rfl
   rotate_left
   ·simp only [Act.put, List.setIfInBounds_toArray, List.set_cons_zero, List.set_cons_succ, i64_w, i32_w]
    rfl
   refine pure_ (i := 4) (N := some 59) (v := ?_) (a' := ?_) (bs 12 23) rfl rfl (by kernel_rfl) (fun _ _ _ hp => hQ _ _ _ _ _ hp) (Or.inl ⟨by rfl, ?_⟩) ?_ ?_
   rotate_left
   ·intro w'
    go_simp
    with_reducible rfl
   rotate_left
   ·simp only [Act.put, List.setIfInBounds_toArray, List.set_cons_zero, List.set_cons_succ, i64_w, i32_w]
    rfl
   refine pure_ (i := 6) (N := some 61) (v := ?_) (a' := ?_) (bs 12 87) rfl rfl (by kernel_rfl) (fun _ _ _ hp => hQ _ _ _ _ _ hp) (Or.inl ⟨by rfl, ?_⟩) ?_ ?_
   rotate_left
   ·intro w'
    go_simp
    with_reducible rfl
   rotate_left
   ·simp only [Act.put, List.setIfInBounds_toArray, List.set_cons_zero, List.set_cons_succ, i64_w, i32_w]
    rfl
   refine pure_ (i := 7) (N := some 62) (v := ?_) (a' := ?_) (bs 12 215) rfl rfl (by kernel_rfl) (fun _ _ _ hp => hQ _ _ _ _ _ hp) (Or.inl ⟨by rfl, ?_⟩) ?_ ?_
   rotate_left
   ·intro w'
    go_simp
    with_reducible rfl
   rotate_left
   ·simp only [Act.put, List.setIfInBounds_toArray, List.set_cons_zero, List.set_cons_succ, i64_w, i32_w]
    rfl
   refine take_ (i := 5) (N := some 60) (v := ?_) (a' := ?_) (bs 12 247) rfl rfl (by kernel_rfl) (fun _ _ _ hp => hQ _ _ _ _ _ hp) (Or.inl ⟨by rfl, ?_⟩) hHeld ?_ ?_
   rotate_left
   ·intro w' s0
    go_simp
    with_reducible rfl
   rotate_left
   ·simp only [Act.put, List.setIfInBounds_toArray, List.set_cons_zero, List.set_cons_succ, i64_w, i32_w]
    rfl
   refine one_ (i := 3) (N := some 58) (bs 12 255) rfl rfl (by kernel_rfl) (by decide) (fun K hK => ?_)
   refine goes_ Tryz.func90 (by kernel_rfl) rfl #[.int .i64 a4, .int .i64 (j : Int)] (by rfl) rfl rfl (by simp only [List.map_toArray, List.map_cons, List.map_nil]; rfl) ?_
   with_reducible refine (impl_element_power.calls k a4 (j : Int) p _ e1).mono ?_
   rintro e w1 ⟨rfl, n1, rfl⟩
   refine ⟨_, rfl, ?_⟩
   refine hK.out _ _ ((HJd.out.mono (pw_below_drewN (Below.refl _ _) n1)).cell.2.2) (fun hHeld => ?_)
   clear hK K
   refine norm_ (a' := ?_) ?_ ?_
   rotate_left
   ·show Act.put _ (some 58) _ = _
    simp only [Act.put, List.setIfInBounds_toArray, List.set_cons_zero, List.set_cons_succ, i64_w, i32_w]
    rfl
   refine one_ (i := 8) (N := some 63) (bs 12 511) rfl rfl (by kernel_rfl) (by decide) (fun K hK => ?_)
   refine goes_ Tryz.func89 (by kernel_rfl) rfl #[.slice Ah h.length ch, .int .i64 ((j : Int) + 1)] (by rfl) rfl rfl (by simp only [List.map_toArray, List.map_cons, List.map_nil]; rfl) ?_
   with_reducible refine (impl_value.calls Ah ch h ((j : Int) + 1) x _ (Kd.C_below hch (HJd.out.mono (pw_below_drewN (Below.refl _ _) n1)).below) hlh e2).mono ?_
   rintro e w2 ⟨rfl, hb2⟩
   refine ⟨_, rfl, ?_⟩
   refine hK.out _ _ (((HJd.out.mono (pw_below_drewN (Below.refl _ _) n1)).mono hb2).cell.2.2) (fun hHeld => ?_)
   clear hK K
   refine norm_ (a' := ?_) ?_ ?_
   rotate_left
   ·show Act.put _ (some 63) _ = _
    simp only [Act.put, List.setIfInBounds_toArray, List.set_cons_zero, List.set_cons_succ, i64_w, i32_w]
    rfl
   refine one_ (i := 9) (N := some 64) (bs 12 1023) rfl rfl (by kernel_rfl) (by decide) (fun K hK => ?_)
   refine goes_ Tryz.func67 (by kernel_rfl) rfl #[.int .i64 p, .int .i64 x] (by rfl) rfl rfl (by simp only [List.map_toArray, List.map_cons, List.map_nil]; rfl) ?_
   with_reducible refine (impl_element_times.calls p x y _ e3).mono ?_
   rintro e w3 ⟨rfl, n3, rfl⟩
   refine ⟨_, rfl, ?_⟩
   refine hK.out _ _ ((((HJd.out.mono (pw_below_drewN (Below.refl _ _) n1)).mono hb2).mono (pw_below_drewN (Below.refl _ _) n3)).cell.2.2) (fun hHeld => ?_)
   clear hK K
   refine norm_ (a' := ?_) ?_ ?_
   rotate_left
   ·show Act.put _ (some 64) _ = _
    simp only [Act.put, List.setIfInBounds_toArray, List.set_cons_zero, List.set_cons_succ, i64_w, i32_w]
    rfl
   refine one_ (i := 10) (N := some 65) (bs 12 2047) rfl rfl (by kernel_rfl) (by decide) (fun K hK => ?_)
   refine goes_ Tryz.func70 (by kernel_rfl) rfl #[.int .i64 z, .int .i64 y] (by rfl) rfl rfl (by simp only [List.map_toArray, List.map_cons, List.map_nil]; rfl) ?_
   with_reducible refine (impl_element_plus.calls z y z' _ e4).mono ?_
   rintro e w4 ⟨rfl, n4, rfl⟩
   refine ⟨_, rfl, ?_⟩
   refine hK.out _ _ (((((HJd.out.mono (pw_below_drewN (Below.refl _ _) n1)).mono hb2).mono (pw_below_drewN (Below.refl _ _) n3)).mono (pw_below_drewN (Below.refl _ _) n4)).cell.2.2) (fun hHeld => ?_)
   clear hK K
   refine norm_ (a' := ?_) ?_ ?_
   rotate_left
   ·show Act.put _ (some 65) _ = _
    simp only [Act.put, List.setIfInBounds_toArray, List.set_cons_zero, List.set_cons_succ, i64_w, i32_w]
    rfl
   refine pure_ (i := 11) (N := some 15) (v := ?_) (a' := ?_) (bs 12 4095) rfl rfl (by kernel_rfl) (fun _ _ _ hp => hQ _ _ _ _ _ hp) (Or.inl ⟨by rfl, ?_⟩) ?_ ?_
   rotate_left
   ·intro w'
    go_simp
    with_reducible rfl
   rotate_left
   ·simp only [Act.put, List.setIfInBounds_toArray, List.set_cons_zero, List.set_cons_succ, i64_w, i32_w]
    rfl
   refine done_ (by kernel_rfl) ?_
   have HJn := Aside0.mk ((((HJd.out.mono (pw_below_drewN (Below.refl _ _) n1)).mono hb2).mono (pw_below_drewN (Below.refl _ _) n3)).mono (pw_below_drewN (Below.refl _ _) n4))
   clear hw hHeld
   go_wp2
   go_roundw
   case rel => exact ⟨j + 1, z', by omega, by go_num, rfl, HL2, Aside0.mk (by have hh := HJn.out; rwa [World.drewN_drewN] at hh)⟩
   case measure => simp [intOf]; omega
  ·obtain rfl : j = v.length := by omega
   have hL : z = s := by have := HL.out; rw [Nat.sub_self, impl_ask.l0] at this; exact Option.some.inj this
   subst hL
   go_wp2
   exact HK.out _ _ (HR.out _ _ HJr.out ⟨rfl, rfl, rfl, rfl, rfl, rfl, rfl, rfl⟩ rfl)
def impl_ask.hot (k : Nat) (a0 a4 c : Int) (v : List Int) (s : Int) : Option Int :=
 (impl_oneHot.f a0).bind fun o => if o = true then (impl_element_power.f k a4 (v.length : Int)).bind fun p => (impl_total.f k v).bind fun x => (impl_element_minus.f x c).bind fun y => (impl_element_times.f p y).bind fun z => impl_element_plus.f s z else some s
set_option maxHeartbeats 4000000 in
set_option maxRecDepth 100000 in
theorem ask5 (k : Nat) (a0 a3 a4 c : Int) (Av Ah : Option Addr) (cv ch : Nat) (v h : List Int) (u q y1 y2 y3 s y4 : Int) (W1 W : World) (t : Array Value) (Q : Exit → Act → World → Prop)
  (hvm : v.length ≤ 9223372036854775807) (hlv : v.length ≤ cv) (hcv : Kd.C (Kd.int .i64) W1 Av v.length v) (hJ : AskJ W1 u q (.slice Ah h.length ch) #[.int .i64 y1, .int .i64 y2, .int .i64 y3] false 3 0 W) (ht : AskFr a0 a3 a4 c (.slice Av v.length cv) W1.heap.size t) (ht15 : t.getD 15 undef = .int .i64 s)
  (hs : impl_ask.hot k a0 a4 c v s = some y4)
  (hrest : ∀ (W : World) (t : Array Value), AskJ W1 u q (.slice Ah h.length ch) #[.int .i64 y1, .int .i64 y2, .int .i64 y3, .int .i64 y4] true 4 0 W → AskFr a0 a3 a4 c (.slice Av v.length cv) W1.heap.size t → WpN Tryz.prog (seqR (seqR (seqR (seqR (seqR (seqR (seqR (seqR (seqR (seqR (seqR (seqR (seqR (askCode)))))))))))))) Q { tmps := t, defers := [] } W) :
  WpN Tryz.prog (seqR (seqR (seqR (seqR (seqR (seqR (seqR (seqR (seqR (seqR (askCode))))))))))) Q { tmps := t, defers := [] } W := by
 simp only [askCode, Tryz.f53, Option.getD_some, seqR] at hrest ⊢
 obtain ⟨hsz, h0, h3, h4, h11, h12, h13, h14⟩ := ht
 obtain ⟨J, rfl, hJt⟩ := frame_lit hsz
 rw [hJt] at ht15 h0 h3 h4 h11 h12 h13 h14
 clear hsz hJt
 simp only [List.range, List.range.loop, List.map_cons, List.map_nil, h0, h3, h4, h11, h12, h13, h14, ht15]
 clear ht15 h0 h3 h4 h11 h12 h13 h14
 have HR := Aside0.mk hrest
 clear hrest
 unfold impl_ask.hot at hs
 obtain ⟨o, e0, hs⟩ := Option.bind_eq_some_iff.1 hs
 refine WpN.seq_k fun K hK => ?_
 have HK := Aside0.mk hK
 clear hK
 have HJ := Aside0.mk hJ
 clear hJ
 have fin : ∀ (W : World) (t : Array Value), AskJ W1 u q (.slice Ah h.length ch) #[.int .i64 y1, .int .i64 y2, .int .i64 y3] false 3 0 W → AskFr a0 a3 a4 c (.slice Av v.length cv) W1.heap.size t → t.getD 15 undef = .int .i64 y4 → K { tmps := t, defers := [] } W := by
  intro W t hJ ht ht15
  refine HK.out _ _ ?_
  obtain ⟨hsz, h0, h3, h4, h11, h12, h13, h14⟩ := ht
  obtain ⟨J, rfl, hJt⟩ := frame_lit hsz
  rw [hJt] at ht15 h0 h3 h4 h11 h12 h13 h14
  clear hsz hJt
  simp only [List.range, List.range.loop, List.map_cons, List.map_nil, h0, h3, h4, h11, h12, h13, h14, ht15]
  clear ht15 h0 h3 h4 h11 h12 h13 h14
  refine WpN.seqN_k fun K3 hK3 => ?_
  refine WpN.region_tail 2 rfl fun K2 hK2 => ?_
  simp only [List.take_succ_cons, List.take_zero]
  go_wp2
  refine OpsN.send (c := W1.heap.size + 1) (v := .int .i64 y4) (z := .tuple #[]) rfl rfl (by simp [execOp, Act.eval, scase, go_sem]) hJ.chan (by simp) ?_
  refine OpsN.nil (hK3 _ _ ?_)
  have hJ2 := hJ.set #[.int .i64 y1, .int .i64 y2, .int .i64 y3, .int .i64 y4] false 4 0
  have hJ3 := Aside0.mk (hJ2.set #[.int .i64 y1, .int .i64 y2, .int .i64 y3, .int .i64 y4] true 4 0)
  have hcl := run_close_open (P := Tryz.prog) #[98] 0 hJ2.chan
  clear hK3 K3
  refine WpN.seq_k fun K3 hK3 => ?_
  go_wp2
  exact HR.out _ _ hJ3.out ⟨rfl, rfl, rfl, rfl, rfl, rfl, rfl, rfl⟩
 cases o
 case false =>
  obtain rfl := Option.some.inj hs
  clear hs
  go_wp2_with (go_at_call 91; refine (impl_oneHot.calls a0 false _ e0).mono ?_; rintro e w1 ⟨rfl, n1, rfl⟩)
  exact fin _ _ (HJ.out.mono (pw_below_drewN (Below.refl _ _) n1)) ⟨rfl, rfl, rfl, rfl, rfl, rfl, rfl, rfl⟩ rfl
 case true =>
  simp only [if_true] at hs
  obtain ⟨p, e1, hs⟩ := Option.bind_eq_some_iff.1 hs
  obtain ⟨x, e2, hs⟩ := Option.bind_eq_some_iff.1 hs
  obtain ⟨y, e3, hs⟩ := Option.bind_eq_some_iff.1 hs
  obtain ⟨z, e4, hs⟩ := Option.bind_eq_some_iff.1 hs
  have HC := Aside0.mk hcv
  clear hcv
  go_wp2_with (first | (go_at_call 91; refine (impl_oneHot.calls a0 true _ e0).mono ?_; rintro e w1 ⟨rfl, n1, rfl⟩) | (go_at_call 90; refine (impl_element_power.calls k a4 _ p _ e1).mono ?_; rintro e w2 ⟨rfl, n2, rfl⟩) | (go_at_call 92; refine (impl_total.calls k Av cv v x _ (Kd.C_drewN (Kd.C_below HC.out HJ.out.below) _) hlv e2).mono ?_; rintro e w3 ⟨rfl, n3, rfl⟩) | (go_at_call 93; refine (impl_element_minus.calls x c y _ e3).mono ?_; rintro e w4 ⟨rfl, n4, rfl⟩) | (go_at_call 67; refine (impl_element_times.calls p y z _ e4).mono ?_; rintro e w5 ⟨rfl, n5, rfl⟩) | (go_at_call 70; refine (impl_element_plus.calls s z y4 _ hs).mono ?_; rintro e w6 ⟨rfl, n6, rfl⟩))
  exact fin _ _ (HJ.out.mono (pw_below_drewN (Below.refl _ _) _)) ⟨rfl, rfl, rfl, rfl, rfl, rfl, rfl, rfl⟩ rfl
theorem ask_make (w : World) : (Instr.makeSlice 22 (.int .i64 0) (.int .i64 4)).run Tryz.prog w = .ok (.slice (some ⟨w.heap.size, 0, none⟩) 0 4) (w.alloc (.cells #[.int .i64 0, .int .i64 0, .int .i64 0, .int .i64 0] 3)) := by kernel_rfl
theorem ask_zero (w : World) : (zeroValue 67).run Tryz.prog w = .ok (.int .i64 0) w := by kernel_rfl
theorem ask_und (w : World) : (underlying 98).run Tryz.prog w = .ok (.chan .both 67) w := by kernel_rfl
theorem ask_row (W : World) : Kd.R (Kd.int .i64) 3 (W.alloc (.cells #[.int .i64 0, .int .i64 0, .int .i64 0, .int .i64 0] 3)) W.heap.size (fun _ => True) (.slice (some ⟨W.heap.size, 0, none⟩) 0 4) [] := by
 refine ⟨fun _ _ => trivial, [], ?_, Reps.none _ _⟩
 exact ⟨by simp, .inr ⟨W.heap.size, 4, #[.int .i64 0, .int .i64 0, .int .i64 0, .int .i64 0], rfl, Nat.le_refl _, heap_alloc_new W _, Nat.zero_le _, by simp only [maxLen]; omega, rfl, by simp⟩⟩
theorem AskJ.grown {W1 W w1 : World} {u q : Int} {hv : Value} {buf : Array Value} {cl : Bool} {s r base : Nat} {row : Option Nat} (h : AskJ W1 u q hv buf cl s r W) (hb : Below base W1 w1) (hg : W.grownBy w1 row) (hrow : ∀ k, row = some k → W1.heap.size + 2 ≤ k) : AskJ W1 u q hv buf cl s r w1 := by
 have h1 := (Array.getElem?_eq_some_iff.1 h.box).1
 have h2 := (Array.getElem?_eq_some_iff.1 h.chan).1
 have hk : ∀ k, k < W1.heap.size + 2 → k < W.heap.size → w1.heap[k]? = W.heap[k]? := fun k hk hlt => hg.block k hlt (fun e => by have := hrow k e.symm; omega)
 exact ⟨⟨hb.os, hb.tape, hb.output, hb.size, fun k hkk => (hk k (by omega) (by omega)).trans (h.below.block k hkk)⟩, (hk _ (by omega) h1).trans h.box, (hk _ (by omega) h2).trans h.chan⟩
def askBuf (N : Nat) (W : World) : Nat := match W.heap[N + 1]? with | some (.chan _ buf _ _ _ _) => buf.size | _ => 0
def AskI (W1 : World) (base : Nat) (u q : Int) (hv : Value) (ys : List Int) (a : Act) (W : World) : Prop :=
 ∃ (t : Array Value) (vo : Value) (n : Nat), a = { tmps := t, defers := [] } ∧ n ≤ ys.length ∧ t.size = 93 ∧ t.getD 17 undef = vo ∧ t.getD 84 undef = .chan (some (W1.heap.size + 1)) ∧
  AskJ W1 u q hv ((ys.drop n).map (Value.int .i64)).toArray true 4 n W ∧ Kd.R (Kd.int .i64) 3 W base (fun k => W1.heap.size + 2 ≤ k) vo (ys.take n)
set_option maxHeartbeats 4000000 in
set_option maxRecDepth 100000 in
theorem ask6 (base : Nat) (a0 a3 a4 c : Int) (sv hv : Value) (u q y1 y2 y3 y4 : Int) (W1 W : World) (t : Array Value) (Q : Exit → Act → World → Prop) (hbase : base ≤ W1.heap.size)
  (hJ : AskJ W1 u q hv #[.int .i64 y1, .int .i64 y2, .int .i64 y3, .int .i64 y4] true 4 0 W) (ht : AskFr a0 a3 a4 c sv W1.heap.size t)
  (hrest : ∀ (W : World) (t : Array Value) (vo : Value), Below W1.heap.size W1 W → Kd.R (Kd.int .i64) 3 W base (fun _ => True) vo [y1, y2, y3, y4] → t.getD 10 undef = vo → Q .ret { tmps := t, defers := [] } W) :
  WpN Tryz.prog (seqR (seqR (seqR (seqR (seqR (seqR (seqR (seqR (seqR (seqR (seqR (seqR (seqR (askCode)))))))))))))) Q { tmps := t, defers := [] } W := by
 simp only [askCode, Tryz.f53, Option.getD_some, seqR]
 obtain ⟨hsz, h0, h3, h4, h11, h12, h13, h14⟩ := ht
 obtain ⟨J, rfl, hJt⟩ := frame_lit hsz
 rw [hJt] at h0 h3 h4 h11 h12 h13 h14
 clear hsz hJt
 simp only [List.range, List.range.loop, List.map_cons, List.map_nil, h0, h3, h4, h11, h12, h13, h14]
 clear h0 h3 h4 h11 h12 h13 h14
 have HR := Aside0.mk hrest
 clear hrest
 have hmk := ask_make
 refine WpN.seq_k fun K hK => ?_
 go_wp2
 have hM : W1.heap.size + 2 ≤ W.heap.size := by have := (Array.getElem?_eq_some_iff.1 hJ.chan).1; omega
 have HR0 := Aside0.mk (Kd.R_lower (Kd.R_bound (ask_row W)) (Nat.le_trans hbase (by omega : W1.heap.size ≤ W.heap.size)))
 have HJ0 := Aside0.mk (hJ.mono ((Below.refl W.heap.size W).alloc (Nat.le_refl _) (.cells #[.int .i64 0, .int .i64 0, .int .i64 0, .int .i64 0] 3)))
 clear hJ
 refine WpN.seqN_k fun K hK => ?_
 have HK := Aside0.mk hK
 clear hK
 refine WpN.seq_k fun K hK => ?_
 go_wp2
 refine WpN.block ?_
 refine WpN.loop (AskI W1 base u q hv [y1, y2, y3, y4]) (fun _ W => askBuf W1.heap.size W) ?_ ?_
 ·exact ⟨_, _, 0, rfl, Nat.zero_le _, rfl, rfl, rfl, HJ0.out, Kd.R_mono HR0.out (fun k hk => Nat.le_trans hM hk.2.1)⟩
 ·clear HR0 HJ0 hmk
  rintro _ W ⟨t, vo, n, rfl, hn, hsz, h17, h84, hJ, hR⟩
  obtain ⟨J', rfl, hJt⟩ := frame_lit hsz
  rw [hJt] at h17 h84
  clear hsz hJt
  simp only [List.range, List.range.loop, List.map_cons, List.map_nil, h17, h84]
  clear h17 h84
  by_cases hlt : n < 4
  ·have hlen : n < [y1, y2, y3, y4].length := hlt
   have hd : [y1, y2, y3, y4].drop n = [y1, y2, y3, y4][n] :: [y1, y2, y3, y4].drop (n + 1) := List.drop_eq_getElem_cons hlen
   have ht : [y1, y2, y3, y4].take (n + 1) = [y1, y2, y3, y4].take n ++ [[y1, y2, y3, y4][n]] := List.take_succ_eq_append_getElem hlen
   generalize [y1, y2, y3, y4][n] = y at hd ht
   rw [hd] at hJ
   generalize hrs : [y1, y2, y3, y4].drop (n + 1) = rs at hd hJ
   generalize hxs : [y1, y2, y3, y4].take n = xs at ht hR
   have hxl : xs.length = n := by rw [← hxs]; simp; omega
   have hJ2 := Aside0.mk (hJ.set (rs.map (Value.int .i64)).toArray true 4 (n + 1))
   have hR2 := Aside0.mk (Kd.R_step (w1 := W.setChan (W1.heap.size + 1) 4 (rs.map (Value.int .i64)).toArray true 4 (n + 1) false) hR (fun k hk _ => by simp only [World.setChan]; rw [Array.getElem?_setIfInBounds_ne (by omega)]))
   have hmu : askBuf W1.heap.size W = rs.length + 1 := by simp [askBuf, hJ.chan]
   have HT := Aside0.mk ht
   have HRS := Aside0.mk hrs
   have HMU := Aside0.mk hmu
   have HD := Aside0.mk hd
   clear hmu ht hrs hd hxs hR
   refine WpN.seqN_k fun K2 hK2 => ?_
   refine OpsN.region ?_
   simp only [List.size_toArray, List.length_cons, List.length_nil, Nat.reduceAdd, Nat.zero_add, List.range, List.range.loop]
   refine OpsN.take (c := W1.heap.size + 1) (z := .int .i64 0) (x := .int .i64 y) (xs := rs.map (Value.int .i64)) rfl rfl (by simp [execOp, Act.eval, rcase, ask_und, ask_zero, go_sem]) hJ.chan ?_
   clear hJ
   refine OpsN.still (v := .bool true) rfl rfl (fun _ => by simp [execOp, Act.put, Act.eval, go_sem]) ?_
   refine OpsN.nil (hK2 _ _ ?_)
   clear hK2 K2
   generalize W.setChan (W1.heap.size + 1) 4 (rs.map (Value.int .i64)).toArray true 4 (n + 1) false = V at hJ2 hR2
   have HB : Below base W1 V := hJ2.out.below.mono hbase
   have HBs : base ≤ V.heap.size := by have := hJ2.out.below.size; omega
   refine WpN.of ?_
   go_wp2_with (((with_reducible refine gate_builtin (b := .append) (xs := #[.tmp 88, .tmp 90]) rfl ?_); at_builtin; refine Kd.R_append (Kd.int .i64) (w0 := W1) base rfl (.tmp 88) (.tmp 90) 22 3 (.int .i64 0) 8 rfl Tryz.underlying22 info3 rfl (by decide) (by omega) vo xs y [.int .i64 y] (fun k => W1.heap.size + 2 ≤ k) (fun _ => False) rfl rfl ?aP (fun _ hk => hk.elim) ?aF ?aO ?aB ?aS ?aL ?_; (case aP => exact rfl); (case aB => exact HB); (case aF => exact (fun k hk => Nat.le_trans (by have := (Array.getElem?_eq_some_iff.1 hJ2.out.chan).1; omega) hk)); (case aO => exact hR2.out); (case aS => exact HBs); (case aL => omega); intro v1 w1 ho hb hg hat))
   refine ⟨⟨_, v1, n + 1, rfl, by omega, rfl, rfl, rfl, ?_, ?_⟩, ?_⟩
   ·rw [HRS.out]
    exact hJ2.out.grown hb hg (fun k hk => hR2.out.1 k hk)
   ·rw [HT.out]; exact ho
   ·rw [HMU.out]
    have h3 := (hJ2.out.grown hb hg (fun k hk => hR2.out.1 k hk)).chan
    simp [askBuf, h3]
  ·obtain rfl : n = 4 := by simp at hn; omega
   have HJ4 := Aside0.mk hJ
   have HR4 := Aside0.mk hR
   clear hR
   refine WpN.seqN_k fun K2 hK2 => ?_
   refine OpsN.region ?_
   simp only [List.size_toArray, List.length_cons, List.length_nil, Nat.reduceAdd, Nat.zero_add, List.range, List.range.loop]
   refine OpsN.over (c := W1.heap.size + 1) (z := .int .i64 0) rfl rfl (by simp [execOp, Act.eval, rcase, ask_und, ask_zero, go_sem]) hJ.chan ?_
   clear hJ
   refine OpsN.still (v := .bool false) rfl rfl (fun _ => by simp [execOp, Act.put, Act.eval, go_sem]) ?_
   refine OpsN.nil (hK2 _ _ ?_)
   clear hK2 K2
   refine WpN.of ?_
   go_wp2
   refine HK.out _ _ ?_
   refine WpN.of ?_
   go_wp2
   exact HR.out _ _ _ HJ4.out.below (Kd.R_mono HR4.out (fun _ _ => trivial)) rfl
def impl_ask.f (k : Nat) (a0 : Int) (l1 : List Int) (a2 : Bool) (a3 a4 : Int) : Option (List Int) :=
 (impl_cut.f a0 l1).bind fun (v, u, q, h) => (impl_ahead.f u v).bind fun x1 => (impl_through.f x1).bind fun x2 => (impl_value.f x2 a3).bind fun y1 =>
  (impl_lowered.f k v (if a2 = true then 1 else 0)).bind fun z0 => (impl_ahead.f q z0).bind fun z1 => (impl_through.f z1).bind fun z2 => (impl_value.f z2 a3).bind fun y2 =>
  (impl_value.f h a3).bind fun y3 => (impl_ask.l0 k a4 h v.length 0 0).bind fun s => (impl_ask.hot k a0 a4 (if a2 = true then 1 else 0) v s).bind fun y4 => some [y1, y2, y3, y4]
theorem impl_ask.calls (k : Nat) (a0 : Int) (A1 : Option Addr) (c1 : Nat) (l1 : List Int) (a2 : Bool) (a3 : Int) (a4 : Int) (r : List Int) (w : World) (hr1 : Kd.C (Kd.int .i64) w A1 l1.length l1) (hc1 : l1.length ≤ c1) (h : impl_ask.f k a0 l1 a2 a3 a4 = some r) :
  Calls Tryz.prog 53 #[.int .i64 a0, .slice A1 l1.length c1, .bool a2, .int .i64 a3, .int .i64 a4] w fun e w' => ∃ v0_ : Value, e = .returned (v0_) ∧ Kd.R (Kd.int .i64) 3 w' w.heap.size (fun _ => True) v0_ r ∧ Below w.heap.size w w' := by
 unfold impl_ask.f at h
 obtain ⟨⟨v, u, q, hh⟩, e0, h⟩ := Option.bind_eq_some_iff.1 h
 obtain ⟨x1, e1, h⟩ := Option.bind_eq_some_iff.1 h
 obtain ⟨x2, e2, h⟩ := Option.bind_eq_some_iff.1 h
 obtain ⟨y1, e3, h⟩ := Option.bind_eq_some_iff.1 h
 obtain ⟨z0, e4, h⟩ := Option.bind_eq_some_iff.1 h
 obtain ⟨z1, e5, h⟩ := Option.bind_eq_some_iff.1 h
 obtain ⟨z2, e6, h⟩ := Option.bind_eq_some_iff.1 h
 obtain ⟨y2, e7, h⟩ := Option.bind_eq_some_iff.1 h
 obtain ⟨y3, e8, h⟩ := Option.bind_eq_some_iff.1 h
 obtain ⟨s, e9, h⟩ := Option.bind_eq_some_iff.1 h
 obtain ⟨y4, e10, h⟩ := Option.bind_eq_some_iff.1 h
 obtain rfl := Option.some.inj h
 refine calls_of_wpN (c := askCode) Tryz.func53 rfl ?_
 have hQ : ∀ (R : Ending → World → Prop) c (a : Act) d x w, bodyPost Tryz.prog Tryz.f53 R (.panic c) (a.put d x) w → bodyPost Tryz.prog Tryz.f53 R (.panic c) a w := fun R c a d x w hp => by
  cases d <;> exact hp
 refine ask0 a0 A1 c1 l1 a2 a3 a4 v u q hh w _ hr1 hc1 e0 fun W1 W Av Ah cv ch t hb hlv hlh hcv hch hJ ht => ?_
 refine ask1 a0 a3 a4 _ Av Ah cv ch v hh x1 x2 u q y1 W1 W t _ hlv hcv hJ ht e1 e2 e3 fun W t hJ ht => ?_
 refine ask2 k a0 a3 a4 _ Av Ah cv ch v hh z0 z1 z2 u q y1 y2 W1 W t _ hlv hcv hJ ht (hQ _) e4 e5 e6 e7 fun W t hJ ht => ?_
 refine ask3 a0 a3 a4 _ _ Ah ch hh u q y1 y2 y3 W1 W t _ hlh hch hJ ht e8 fun W t hJ ht => ?_
 refine ask4 k a0 a3 a4 _ Av Ah cv ch v hh u q y1 y2 y3 s W1 W t _ hcv.2.1 hlh hch hJ ht (hQ _) e9 fun W t hJ ht h15 => ?_
 refine ask5 k a0 a3 a4 _ Av Ah cv ch v hh u q y1 y2 y3 s y4 W1 W t _ hcv.2.1 hlv hcv hJ ht h15 e10 fun W t hJ ht => ?_
 refine ask6 w.heap.size a0 a3 a4 _ _ _ u q y1 y2 y3 y4 W1 W t _ hb.size hJ ht fun W t vo hb2 hR h10 => ?_
 exact ⟨rfl, vo, by rw [results_tmp rfl, h10], vo, rfl, hR, hb.trans (hb2.mono hb.size)⟩
end
def impl_QueryAsk.f (k : Nat) (a0 : Int) (l1 : List Int) (a2 : Bool) (a3 : Int) (a4 : Int) : Option (List Int × Bool) := (impl_QueryMay.f a0 a3).bind fun t275 => (if t275 = true then ((impl_FieldOk.f a4).bind fun t276 => (if t276 = true then ((impl_ProofLen.f a0).bind fun t277 => ((impl_sized.f a0 l1 t277).bind fun t278 => (if t278 = true then ((impl_ask.f k a0 l1 a2 a3 a4).bind fun t279 => (some (t279, true))) else (some (([] : List Int), false))))) else (some (([] : List Int), false)))) else (some (([] : List Int), false)))
set_option maxHeartbeats 8000000 in
set_option maxRecDepth 100000 in
theorem impl_QueryAsk.calls (k : Nat) (a0 : Int) (A1 : Option Addr) (c1 : Nat) (l1 : List Int) (a2 : Bool) (a3 : Int) (a4 : Int) (r1 : List Int) (r2 : Bool) (w : World) (hr1 : Kd.C (Kd.int .i64) w A1 l1.length l1) (hc1 : l1.length ≤ c1) (h : impl_QueryAsk.f k a0 l1 a2 a3 a4 = some (r1, r2)) :
  Calls Tryz.prog 17 #[.int .i64 a0, .slice A1 l1.length c1, .bool a2, .int .i64 a3, .int .i64 a4] w fun e w' => ∃ v0_ : Value, e = .returned (.tuple #[v0_, .bool r2]) ∧ Kd.R (Kd.int .i64) 3 w' w.heap.size (fun _ => True) v0_ r1 ∧ Below w.heap.size w w' := by
 have HR1 := Aside0.mk hr1
 have HC1 := Aside0.mk hc1
 clear hr1 hc1
 have HB := Aside0.mk (Below.refl w.heap.size w)
 have H := h
 unfold impl_QueryAsk.f at H
 clear h
 replace H := bnd H
 obtain ⟨t660, A6, H⟩ := H
 by_cases c7 : t660 = true
 ·subst c7
  rw [if_pos rfl] at H
  replace H := bnd H
  obtain ⟨t661, A8, H⟩ := H
  by_cases c9 : t661 = true
  ·subst c9
   rw [if_pos rfl] at H
   replace H := bnd H
   obtain ⟨t662, A10, H⟩ := H
   replace H := bnd H
   obtain ⟨t663, A11, H⟩ := H
   by_cases c12 : t663 = true
   ·subst c12
    rw [if_pos rfl] at H
    replace H := bnd H
    obtain ⟨t664, A13, H⟩ := H
    simp only [Option.some.injEq, Prod.mk.injEq] at H
    obtain ⟨rfl, rfl⟩ := H
    go_enter Tryz.func17, Tryz.ntmps17
    go_wp2_with (first | (refine gsC c49x25 (impl_QueryMay.calls a0 a3 true _ A6.out) ?_; rintro e w14 ⟨rfl, hb⟩; refine ⟨_, rfl, ?_⟩; replace HB := bnZ hb; clear hb) | (go_at_call 50; (with_reducible refine (impl_FieldOk.calls a4 true _ A8.out).mono ?_); rintro e w' ⟨rfl, ⟨nd, rfl⟩⟩) | (go_at_call 52; (with_reducible refine (impl_ProofLen.calls a0 t662 _ A10.out).mono ?_); rintro e w15 ⟨rfl, hb⟩; replace HB := bnZ hb; clear hb) | (go_at_call 51; (with_reducible refine (impl_sized.calls a0 _ _ l1 t662 true _ ?side1 ?side2 A11.out).mono ?_); (case side1 => exact (Kd.C_below HR1.out HB.out)); (case side2 => exact HC1.out); rintro e w' ⟨rfl, ⟨nd, rfl⟩⟩) | ((with_reducible refine gate_callee (f := 53) rfl ?_); refine goesZ (some 34) Tryz.func53 #[.int .i64 a0, .slice A1 l1.length c1, .bool a2, .int .i64 a3, .int .i64 a4] ?_; (with_reducible refine (impl_ask.calls k a0 _ _ l1 a2 a3 a4 t664 _ ?side1 ?side2 A13.out).mono ?_); (case side1 => repeat (first | exact (Kd.C_below HR1.out bZ) | (with_reducible refine Kd.C_alloc ?_ _) | (with_reducible refine Kd.C_drewN ?_ _) | (with_reducible refine Kd.C_drew ?_))); (case side2 => exact HC1.out); rintro e w16 ⟨v665, rfl, ho0, hb⟩; refine ⟨_, rfl, ?_⟩; replace HO666 := Aside0.mk (Kd.R_lower ho0 bsZ); replace HB := bnZ hb; clear hb ho0))
    go_ret2
    exact ⟨_, rfl, HO666.out, by repeat (with_reducible first | exact HB.out | apply below_alloc | apply pw_below_drewN | apply below_drew1)⟩
   ·replace c12 := Bool.eq_false_iff.mpr c12
    subst c12
    rw [if_neg (show ¬ (false = true) by decide)] at H
    simp only [Option.some.injEq, Prod.mk.injEq] at H
    obtain ⟨rfl, rfl⟩ := H
    go_enter Tryz.func17, Tryz.ntmps17
    go_wp2_with (first | (refine gsC c49x25 (impl_QueryMay.calls a0 a3 true _ A6.out) ?_; rintro e w17 ⟨rfl, hb⟩; refine ⟨_, rfl, ?_⟩; replace HB := bnZ hb; clear hb) | (go_at_call 50; (with_reducible refine (impl_FieldOk.calls a4 true _ A8.out).mono ?_); rintro e w' ⟨rfl, ⟨nd, rfl⟩⟩) | (go_at_call 52; (with_reducible refine (impl_ProofLen.calls a0 t662 _ A10.out).mono ?_); rintro e w18 ⟨rfl, hb⟩; replace HB := bnZ hb; clear hb) | (go_at_call 51; (with_reducible refine (impl_sized.calls a0 _ _ l1 t662 false _ ?side1 ?side2 A11.out).mono ?_); (case side1 => exact (Kd.C_below HR1.out HB.out)); (case side2 => exact HC1.out); rintro e w' ⟨rfl, ⟨nd, rfl⟩⟩))
    go_ret2
    exact ⟨_, rfl, by first | exact Kd.R_nil _ _ _ _ _ | exact Kd.N_nil _ _ _ _ _ | exact Kd.V_nil _ _ _ _ _ | exact Kd.Q_nil _ _ _ _ _ | exact Kd.S_nil _ _ _ _ _, by repeat (with_reducible first | exact HB.out | apply below_alloc | apply pw_below_drewN | apply below_drew1)⟩
  ·replace c9 := Bool.eq_false_iff.mpr c9
   subst c9
   rw [if_neg (show ¬ (false = true) by decide)] at H
   simp only [Option.some.injEq, Prod.mk.injEq] at H
   obtain ⟨rfl, rfl⟩ := H
   go_enter Tryz.func17, Tryz.ntmps17
   go_wp2_with (first | (refine gsC c49x25 (impl_QueryMay.calls a0 a3 true _ A6.out) ?_; rintro e w19 ⟨rfl, hb⟩; refine ⟨_, rfl, ?_⟩; replace HB := bnZ hb; clear hb) | (go_at_call 50; (with_reducible refine (impl_FieldOk.calls a4 false _ A8.out).mono ?_); rintro e w' ⟨rfl, ⟨nd, rfl⟩⟩))
   go_ret2
   exact ⟨_, rfl, by first | exact Kd.R_nil _ _ _ _ _ | exact Kd.N_nil _ _ _ _ _ | exact Kd.V_nil _ _ _ _ _ | exact Kd.Q_nil _ _ _ _ _ | exact Kd.S_nil _ _ _ _ _, by repeat (with_reducible first | exact HB.out | apply below_alloc | apply pw_below_drewN | apply below_drew1)⟩
 ·replace c7 := Bool.eq_false_iff.mpr c7
  subst c7
  rw [if_neg (show ¬ (false = true) by decide)] at H
  simp only [Option.some.injEq, Prod.mk.injEq] at H
  obtain ⟨rfl, rfl⟩ := H
  go_enter Tryz.func17, Tryz.ntmps17
  go_wp2_with (first | (refine gsC c49x25 (impl_QueryMay.calls a0 a3 false _ A6.out) ?_; rintro e w20 ⟨rfl, hb⟩; refine ⟨_, rfl, ?_⟩; replace HB := bnZ hb; clear hb))
  go_ret2
  exact ⟨_, rfl, by first | exact Kd.R_nil _ _ _ _ _ | exact Kd.N_nil _ _ _ _ _ | exact Kd.V_nil _ _ _ _ _ | exact Kd.Q_nil _ _ _ _ _ | exact Kd.S_nil _ _ _ _ _, by repeat (with_reducible first | exact HB.out | apply below_alloc | apply pw_below_drewN | apply below_drew1)⟩
def typeAt (w : World) : Prop := w.cell? ⟨1, 0, none⟩ = some (.iface 132 (.agg #[.pointer (some ⟨2, 79, none⟩)]))
theorem typeAt_below {w w' : World} {n : Nat} (h : typeAt w) (hb : Below n w w') (hn : w.heap.size ≤ n) : typeAt w' := (hb.cell (Nat.lt_of_lt_of_le (World.block_lt_of_cell? w _ h) hn)).trans h
section
open Go.Extern.Stop Go.Stop Go.Extern
theorem as_nil (t : Value) (w : World) :
    Calls Tryz.prog 104 #[.nilIface, t] w fun e w' => e = .returned (.bool false) ∧ w' = w := by
  go_enter Tryz.func104, Tryz.ntmps104
  go_wp2
  go_ret
  exact ⟨rfl, rfl⟩
theorem as_valueOfT (t : Addr) (w : World) : (ReflectliteValue.unpack (.iface 124 (.pointer (some t)))).run Tryz.prog w
    = .ok (.agg #[.pointer (some ⟨2, 124, none⟩), .pointer (some ⟨w.heap.size, 0, none⟩), .int .u64 150]) (w.alloc (.cells #[.pointer (some t)] 124)) := by kernel_rfl
theorem as_typeT (a : Addr) (w : World) : (ReflectliteValue.methodAny (ReflectliteValue.valueError "reflectlite.Value.Type" 0) (fun t _ _ _ => ReflectliteType.toType t) #[.agg #[.pointer (some ⟨2, 124, none⟩), .pointer (some a), .int .u64 150]]).run Tryz.prog w
    = .ok (.iface 132 (.agg #[.pointer (some ⟨2, 124, none⟩)])) w := by kernel_rfl
theorem as_methodKind (h : Value) (w : World) : (Go.method 297 132 (.agg #[h]) "Kind").run Tryz.prog w = .ok (153, h) w := by kernel_rfl
theorem as_kindT (w : World) : ((ReflectliteType.abiMethod fun t => (fun a : Nat => Value.int IntKind.u8 (a : Int)) <$> Rtype.kind t) #[.pointer (some ⟨2, 124, none⟩)]).run Tryz.prog w = .ok (.int .u8 22) w := by kernel_rfl
theorem as_kindE (w : World) : ((ReflectliteType.abiMethod fun t => (fun a : Nat => Value.int IntKind.u8 (a : Int)) <$> Rtype.kind t) #[.pointer (some ⟨2, 121, none⟩)]).run Tryz.prog w = .ok (.int .u8 22) w := by kernel_rfl
theorem as_rlm (z : Sem Value) (f : TypeId → Addr → Nat → Nat → Sem Value) (v : Value) :
    ReflectliteValue.method z f #[v] = (do match ← ReflectliteValue.parts v with | none => z | some (t, a, fl) => f t a fl (fl % 32)) := rfl
theorem as_partsT (a : Addr) (w : World) : (ReflectliteValue.parts (.agg #[.pointer (some ⟨2, 124, none⟩), .pointer (some a), .int .u64 150])).run Tryz.prog w = .ok (some (124, a, 150)) w := by kernel_rfl
theorem as_isNilT (a p : Addr) (W : World) (ha : W.cell? a = some (.pointer (some p))) :
    (ReflectliteValue.method (ReflectliteValue.valueError "reflectlite.Value.IsNil" 0) ReflectliteValue.isNil #[.agg #[.pointer (some ⟨2, 124, none⟩), .pointer (some a), .int .u64 150]]).run Tryz.prog W = .ok (.bool false) W := by
  rw [as_rlm]
  simp only [Sem.run_bind, as_partsT, Result.andThen]
  simp [ReflectliteValue.isNil, loadVar, isAgg, underlying, Tryz.underlying124, ha, Result.andThen]
theorem as_methodElem (h : Value) (w : World) : (Go.method 297 132 (.agg #[h]) "Elem").run Tryz.prog w = .ok (169, .agg #[h]) w := by kernel_rfl
theorem as_methodImplements (h : Value) (w : World) : (Go.method 297 132 (.agg #[h]) "Implements").run Tryz.prog w = .ok (170, .agg #[h]) w := by kernel_rfl
theorem as_methodAssignableTo (h : Value) (w : World) : (Go.method 297 132 (.agg #[h]) "AssignableTo").run Tryz.prog w = .ok (167, .agg #[h]) w := by kernel_rfl
theorem as_elemT (w : World) : (ReflectliteType.method ReflectliteType.elem #[.agg #[.pointer (some ⟨2, 124, none⟩)]]).run Tryz.prog w = .ok (.iface 132 (.agg #[.pointer (some ⟨2, 121, none⟩)])) w := by kernel_rfl
theorem as_implementsE (w : World) : (ReflectliteType.relation "Implements" ReflectliteType.implements_ #[.agg #[.pointer (some ⟨2, 121, none⟩)], .iface 132 (.agg #[.pointer (some ⟨2, 79, none⟩)])]).run Tryz.prog w = .ok (.bool true) w := by kernel_rfl
theorem as_typeOfE (v : Value) (w : World) : (ReflectliteType.typeOf #[.iface 121 v]).run Tryz.prog w = .ok (.iface 132 (.agg #[.pointer (some ⟨2, 121, none⟩)])) w := by kernel_rfl
theorem as_assignableE (w : World) : (ReflectliteType.relation "AssignableTo" ReflectliteType.assignableTo #[.agg #[.pointer (some ⟨2, 121, none⟩)], .iface 132 (.agg #[.pointer (some ⟨2, 121, none⟩)])]).run Tryz.prog w = .ok (.bool true) w := by kernel_rfl
theorem as_valueOfE (e : Addr) (w : World) : (ReflectliteValue.unpack (.iface 121 (.pointer (some e)))).run Tryz.prog w
    = .ok (.agg #[.pointer (some ⟨2, 121, none⟩), .pointer (some ⟨w.heap.size, 0, none⟩), .int .u64 150]) (w.alloc (.cells #[.pointer (some e)] 121)) := by kernel_rfl
theorem as_elemOfT (w : World) : (Rtype.elem? 124).run Tryz.prog w = .ok (some 121) w := by kernel_rfl
theorem as_mkE (p : Addr) (w : World) : (ReflectliteValue.mk 121 p ReflectliteValue.flagAddr).run Tryz.prog w = .ok (.agg #[.pointer (some ⟨2, 121, none⟩), .pointer (some p), .int .u64 406]) w := by kernel_rfl
theorem as_elemVT (a p : Addr) (W : World) (ha : W.cell? a = some (.pointer (some p))) :
    (ReflectliteValue.method (ReflectliteValue.valueError "reflectlite.Value.Elem" 0) ReflectliteValue.elem #[.agg #[.pointer (some ⟨2, 124, none⟩), .pointer (some a), .int .u64 150]]).run Tryz.prog W
      = .ok (.agg #[.pointer (some ⟨2, 121, none⟩), .pointer (some p), .int .u64 406]) W := by
  rw [as_rlm]
  simp only [Sem.run_bind, as_partsT, Result.andThen]
  simp [ReflectliteValue.elem, loadVar, isAgg, underlying, Tryz.underlying124, ha, Result.andThen, as_elemOfT, as_mkE]
theorem as_rls (v x : Value) : ReflectliteValue.set #[v, x] = (do
    let (some (dst, a, fl), some (src, b, _)) := (← ReflectliteValue.parts v, ← ReflectliteValue.parts x)
      | unsupported (.noEntry "extern/(internal/reflectlite.Value).Set.zeroValue")
    if fl / ReflectliteValue.flagAddr % 2 == 0 then unsupported (.noEntry "extern/(internal/reflectlite.Value).Set.unaddressable")
    let val ← loadVar src b
    if ← Rtype.directlyAssignable dst src then storeVar dst a val
    else if ← Rtype.implements dst src then
      if (← Rtype.kind src) == 20 then
        match val with
        | .nilIface => unsupported (.noEntry "extern/reflectlite: a nil value of one interface type handed on as a value of another")
        | _ => storeVar dst a val
      else storeVar dst a (.iface src val)
    else panicString ("reflectlite.Set: value of type " ++ (← Rtype.spelt src) ++ " is not assignable to type " ++ (← Rtype.spelt dst))
    pure (.tuple #[])) := rfl
theorem as_partsEa (a : Addr) (w : World) : (ReflectliteValue.parts (.agg #[.pointer (some ⟨2, 121, none⟩), .pointer (some a), .int .u64 406])).run Tryz.prog w = .ok (some (121, a, 406)) w := by kernel_rfl
theorem as_partsE (a : Addr) (w : World) : (ReflectliteValue.parts (.agg #[.pointer (some ⟨2, 121, none⟩), .pointer (some a), .int .u64 150])).run Tryz.prog w = .ok (some (121, a, 150)) w := by kernel_rfl
theorem as_directE (w : World) : (Rtype.directlyAssignable 121 121).run Tryz.prog w = .ok true w := by kernel_rfl
theorem as_setE (ta b e : Addr) (old : Value) (W : World) (hb : W.cell? b = some (.pointer (some e))) (ht : W.cell? ta = some old) (hf : W.frozen? ta = false) :
    (ReflectliteValue.set #[.agg #[.pointer (some ⟨2, 121, none⟩), .pointer (some ta), .int .u64 406], .agg #[.pointer (some ⟨2, 121, none⟩), .pointer (some b), .int .u64 150]]).run Tryz.prog W
      = .ok (.tuple #[]) (W.setCell ta (.pointer (some e))) := by
  rw [as_rls]
  simp only [Sem.run_bind, as_partsEa, as_partsE, Result.andThen]
  simp [ReflectliteValue.flagAddr, loadVar, isAgg, underlying, Tryz.underlying121, hb, Result.andThen, as_directE, storeVar, Value.cells, storeCells, Addr.add]
  rw [run_store Tryz.prog W ta _ _ (by rfl)]
  simp [ht, hf]
set_option maxHeartbeats 8000000 in
set_option maxRecDepth 100000 in
theorem as_hit (e t : Addr) (old : Value) (w : World) (hg : typeAt w) (ht0 : w.cell? t = some old) (hf0 : w.frozen? t = false) :
    Calls Tryz.prog 104 #[.iface 121 (.pointer (some e)), .iface 124 (.pointer (some t))] w fun ev w' => ev = .returned (.bool true) ∧ w' = ((((w.alloc (.cells #[.pointer (some t)] 124)).alloc (.cells #[.pointer (some ⟨2, 124, none⟩), .pointer (some ⟨w.heap.size, 0, none⟩), .int .u64 150] 146)).alloc (.cells #[.pointer (some ⟨2, 124, none⟩), .pointer (some ⟨w.heap.size, 0, none⟩), .int .u64 150] 146)).alloc (.cells #[.pointer (some e)] 121)).setCell t (.pointer (some e)) := by
  unfold typeAt at hg
  have h6 := @run_callFunc_extern Tryz.prog 123 _ (fun args => ReflectliteValue.unpack (args.getD 0 (.tuple #[]))) Tryz.func123 (by kernel_rfl) (by kernel_rfl) (by kernel_rfl) (by kernel_rfl)
  have h7 := @run_callFunc_extern Tryz.prog 124 _ (ReflectliteValue.methodAny (ReflectliteValue.valueError "reflectlite.Value.Type" 0) (fun t _ _ _ => ReflectliteType.toType t)) Tryz.func124 (by kernel_rfl) (by kernel_rfl) (by kernel_rfl) (by kernel_rfl)
  have h8 := @run_callFunc_extern Tryz.prog 125 _ (ReflectliteValue.method (ReflectliteValue.valueError "reflectlite.Value.IsNil" 0) ReflectliteValue.isNil) Tryz.func125 (by kernel_rfl) (by kernel_rfl) (by kernel_rfl) (by kernel_rfl)
  have h27 := @run_callFunc_extern Tryz.prog 153 _ (ReflectliteType.abiMethod fun t => do pure (.int .u8 (← Rtype.kind t))) Tryz.func153 (by kernel_rfl) (by kernel_rfl) (by kernel_rfl) (by kernel_rfl)
  have h37 := @run_callFunc_extern Tryz.prog 169 _ (ReflectliteType.method ReflectliteType.elem) Tryz.func169 (by kernel_rfl) (by kernel_rfl) (by kernel_rfl) (by kernel_rfl)
  have h38 := @run_callFunc_extern Tryz.prog 170 _ (ReflectliteType.relation "Implements" ReflectliteType.implements_) Tryz.func170 (by kernel_rfl) (by kernel_rfl) (by kernel_rfl) (by kernel_rfl)
  have h10 := @run_callFunc_extern Tryz.prog 96 _ ReflectliteType.typeOf Tryz.func96 (by kernel_rfl) (by kernel_rfl) (by kernel_rfl) (by kernel_rfl)
  have h35 := @run_callFunc_extern Tryz.prog 167 _ (ReflectliteType.relation "AssignableTo" ReflectliteType.assignableTo) Tryz.func167 (by kernel_rfl) (by kernel_rfl) (by kernel_rfl) (by kernel_rfl)
  have h11 := @run_callFunc_extern Tryz.prog 136 _ (ReflectliteValue.method (ReflectliteValue.valueError "reflectlite.Value.Elem" 0) ReflectliteValue.elem) Tryz.func136 (by kernel_rfl) (by kernel_rfl) (by kernel_rfl) (by kernel_rfl)
  have h12 := @run_callFunc_extern Tryz.prog 137 _ ReflectliteValue.set Tryz.func137 (by kernel_rfl) (by kernel_rfl) (by kernel_rfl) (by kernel_rfl)
  have tO := as_typeOfE
  have mA := as_methodAssignableTo
  have a25 := as_assignableE
  have v25 := as_valueOfE
  have f6 := as_valueOfT
  have f7 := as_typeT
  have mK := as_methodKind
  have mE := as_methodElem
  have mI := as_methodImplements
  have k27 := as_kindT
  have k25 := as_kindE
  have e27 := as_elemT
  have i25 := as_implementsE
  have n8 := as_isNilT ⟨w.heap.size, 0, none⟩ t ((w.alloc (.cells #[.pointer (some t)] 124)).alloc (.cells #[.pointer (some ⟨2, 124, none⟩), .pointer (some ⟨w.heap.size, 0, none⟩), .int .u64 150] 146)) (by simp)
  have hlt : 1 < w.heap.size := World.block_lt_of_cell? w _ hg
  have hg2 : ((w.alloc (.cells #[.pointer (some t)] 124)).alloc (.cells #[.pointer (some ⟨2, 124, none⟩), .pointer (some ⟨w.heap.size, 0, none⟩), .int .u64 150] 146)).cell? ⟨1, 0, none⟩ = some (.iface 132 (.agg #[.pointer (some ⟨2, 79, none⟩)])) := by
    rw [World.cell?_alloc_lt _ _ ⟨1, 0, none⟩ (by simp; omega), World.cell?_alloc_lt _ _ ⟨1, 0, none⟩ hlt]; exact hg
  have htl : t.block < w.heap.size := by
    rcases Nat.lt_or_ge t.block w.heap.size with h | h
    · exact h
    · simp [World.cell?, Array.getElem?_eq_none h] at ht0
  have el := as_elemVT ⟨w.heap.size, 0, none⟩ t (((w.alloc (.cells #[.pointer (some t)] 124)).alloc (.cells #[.pointer (some ⟨2, 124, none⟩), .pointer (some ⟨w.heap.size, 0, none⟩), .int .u64 150] 146)).alloc (.cells #[.pointer (some ⟨2, 124, none⟩), .pointer (some ⟨w.heap.size, 0, none⟩), .int .u64 150] 146)) (by rw [World.cell?_alloc_lt _ _ ⟨w.heap.size, 0, none⟩ (by simp; omega)]; simp)
  have st := as_setE t ⟨w.heap.size + 1 + 1 + 1, 0, none⟩ e old ((((w.alloc (.cells #[.pointer (some t)] 124)).alloc (.cells #[.pointer (some ⟨2, 124, none⟩), .pointer (some ⟨w.heap.size, 0, none⟩), .int .u64 150] 146)).alloc (.cells #[.pointer (some ⟨2, 124, none⟩), .pointer (some ⟨w.heap.size, 0, none⟩), .int .u64 150] 146)).alloc (.cells #[.pointer (some e)] 121))
    (by rw [World.cell?_alloc_at _ _ _ _ (by simp)]; rfl)
    (by rw [World.cell?_alloc_lt _ _ t (by simp; omega), World.cell?_alloc_lt _ _ t (by simp; omega), World.cell?_alloc_lt _ _ t (by simp; omega), World.cell?_alloc_lt _ _ t htl]; exact ht0)
    (by rw [World.frozen?_alloc_old _ _ t (by simp; omega), World.frozen?_alloc_old _ _ t (by simp; omega), World.frozen?_alloc_old _ _ t (by simp; omega), World.frozen?_alloc_old _ _ t (Nat.ne_of_lt htl)]; exact hf0)
  go_enter Tryz.func104, Tryz.ntmps104
  go_wp2
  refine wp_loop_rounds 1 ?_
  rw [rounds_succ]
  go_wp2
  go_ret
  exact ⟨rfl, rfl⟩
end
def impl_idOk.f (a0 : Int) : Option (Bool) := (impl_within.f a0 1 99).bind fun t282 => (some t282)
set_option maxHeartbeats 8000000 in
set_option maxRecDepth 100000 in
theorem impl_idOk.calls (a0 : Int) (r : Bool) (w : World) (h : impl_idOk.f a0 = some r) :
    Calls Tryz.prog 127 #[.int .i64 a0] w fun e w' => e = .returned (.bool r) ∧ Drawn0 w w' := by
  have H : ((impl_within.f a0 1 99).bind fun t282 => (some t282)) = some r := h
  clear h
  replace H := bnd H
  obtain ⟨t282, A2, H⟩ := H
  obtain rfl := Option.some.inj H
  go_enter Tryz.func127, Tryz.ntmps127
  go_wp2_with (first | (refine gsD c55x9 (impl_within.calls a0 1 99 t282 _ A2.out) ?_; intro nd))
  go_ret
  exact ⟨rfl, ⟨_, rfl⟩⟩
end Go.Proofs.YtlgbblaidohljaaGreatDoor.Zk
