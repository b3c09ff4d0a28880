import Derived.Test.YtahbooeioigbgaaDoorDa0
import Derived.Test.YtahbooeioigbgaaDoorDa6
import Derived.Test.YtahbooeioigbgaaDoorDa8
namespace Go.Proofs.YtahbooeioigbgaaDoor.Da
open Go.RowKit Go.Proofs.YtahbooeioigbgaaDoorW.PrintWords Go.Proofs.YtahbooeioigbgaaDoorW.PrintLast Go.Proofs.YtahbooeioigbgaaDoorW.PrintMore
attribute [local go_sem] max2_int min2_int max_two min_two max_three min_three max_four min_four
set_option linter.unusedVariables false
set_option linter.unusedSimpArgs false
section
open Go.Shelf
attribute [local go_sem] Oper.semAt_some
def bwUpto {α : Type} (f : Nat → α) (k : Nat) : List α := (List.range k).map f
theorem bwUpto_succ {α : Type} (f : Nat → α) (k : Nat) : bwUpto f (k + 1) = bwUpto f k ++ [f k] := by simp [bwUpto, List.range_succ]
theorem bwUpto_length {α : Type} (f : Nat → α) (k : Nat) : (bwUpto f k).length = k := by simp [bwUpto]
def bwAt (zs : List Int) (j : Nat) : Int × Int := ((zs.length : Int) - 1 - (j : Int), rd zs ((zs.length : Int) - 1 - (j : Int)))
def BwInts (n₀ : Nat) (W : World) (sv : Value) (zs : List Int) : Prop :=
  ∃ A c, sv = .slice A zs.length c ∧ (0 < zs.length → ∃ ad : Addr, A = some ad ∧ ad.block < n₀ ∧ ∀ j, j < zs.length → W.cell? (ad.add j) = some (.int .i64 (rd zs j)))
theorem add_blk (a : Addr) (j : Nat) : (a.add j).block = a.block := by unfold Addr.add; split <;> rfl
theorem BwInts.below {n₀ : Nat} {A B : World} (h : Below n₀ A B) {sv : Value} {zs : List Int} : BwInts n₀ A sv zs → BwInts n₀ B sv zs
  | ⟨a, c, e, hc⟩ => ⟨a, c, e, fun hp => by
      obtain ⟨ad, e2, hb, hcs⟩ := hc hp
      exact ⟨ad, e2, hb, fun j hj => (h.cell (by rw [add_blk]; exact hb)).trans (hcs j hj)⟩⟩
def Kq (n₀ Bs : Nat) (A B : World) : Prop := Below n₀ A B ∧ B.heap[Bs]? = A.heap[Bs]?
theorem Kq.refl (n₀ Bs : Nat) (A : World) : Kq n₀ Bs A A := ⟨Below.refl _ _, rfl⟩
theorem Kq.trans {n₀ Bs : Nat} {A B C : World} (h : Kq n₀ Bs A B) (k : Kq n₀ Bs B C) : Kq n₀ Bs A C := ⟨h.1.trans k.1, k.2.trans h.2⟩
theorem Kq.box {n₀ Bs : Nat} {A B : World} (h : Kq n₀ Bs A B) {v : Value} {t : TypeId} (hb : A.heap[Bs]? = some (.cells #[v] t (0, 0))) : B.cell? ⟨Bs, 0, none⟩ = some v := blk_cell (h.2.trans hb) 0
theorem kq_b {n₀ Bs : Nat} {w : World} (hn : n₀ ≤ w.heap.size) (hB : Bs < w.heap.size) (W : World) (l : Nat) (o o' : Obj) (hl : w.heap.size ≤ l) (h : W.heap[l]? = some o) (hc : o.isCells = false) (hw : o.isWalk = false) : Kq n₀ Bs W (W.putObj l o') :=
  ⟨belowK_b hn W l o o' hl h hc hw, (belowK_b (n₀ := Bs + 1) (w := w) (by omega) W l o o' hl h hc hw).block Bs (by omega)⟩
set_option maxRecDepth 100000 in
set_option maxHeartbeats 2000000 in
theorem backward1_in (F : Fence) (n : Nat) (h8 : F.fn 136) (hro : F.round = none) (hn : 1 ≤ n) (l Bs n₀ : Nat) (A : Option Addr) (cap : Nat) (zs : List Int) (hreach : zs.length ≤ 17592186044416) (J Jx : List (Int × Int) → World → Prop)
    (hY : ∀ pre x W, J pre W → pre.length < zs.length → YieldAt F (n - 1) Tryd.prog l #[.int .i64 x.1, .int .i64 x.2] W fun e W' =>
      (e = .returned (.bool true) ∧ J (pre ++ [x]) W' ∧ Kq n₀ Bs W W') ∨ (e = .returned (.bool false) ∧ Jx (pre ++ [x]) W'))
    (W : World) (hBs : W.heap[Bs]? = some (.cells #[.slice A zs.length cap] 22 (0, 0))) (hI : BwInts n₀ W (.slice A zs.length cap) zs) (h0 : J [] W) :
    CallsIn F n Tryd.prog 136 #[.func (.yield l) #[] #[], .pointer (some ⟨Bs, 0, none⟩)] W fun e W' => (∃ v, e = .returned v) ∧
      ((∃ ys, ys = bwUpto (bwAt zs) zs.length ∧ J ys W') ∨ (∃ pre, (∃ k, k ≤ zs.length ∧ pre = bwUpto (bwAt zs) k) ∧ Jx pre W')) := by
  refine callsIn_of_wp Tryd.func136 rfl h8 ?_ hro
  simp only [Tryd.ntmps136, List.size_toArray, List.length_cons, List.length_nil, Nat.reduceAdd, Nat.reduceSub, Array.replicate_succ, Array.replicate_zero, List.push_toArray, List.append_toArray, List.nil_append, List.cons_append]
  have hb0 := (Kq.refl n₀ Bs W).box hBs
  gi_wp2
  gi_loopw [3] (fun i wr => ∃ k : Nat, k ≤ zs.length ∧ i = .int .i64 ((zs.length : Int) - 1 - k) ∧ J (bwUpto (bwAt zs) k) wr ∧ Kq n₀ Bs W wr)
    (fun i _ => (intOf i + 1).toNat)
  case atStart => exact ⟨0, Nat.zero_le _, by simp, h0, Kq.refl _ _ _⟩
  case round =>
    obtain ⟨k, hk, rfl, hJs, hnx⟩ := hrel
    have hbx := hnx.box hBs
    by_cases hlt : k < zs.length
    · obtain ⟨A', c', e1, hc⟩ := hI.below hnx.1
      injection e1 with e1 _ e3
      subst e1
      obtain ⟨ad, rfl, hb, hcs⟩ := hc (by omega)
      have hg : (0 : Int) ≤ (zs.length : Int) - 1 - (k : Int) := by omega
      have hg2 : (zs.length : Int) - 1 - (k : Int) < (zs.length : Int) := by omega
      have ei : ((zs.length - 1 - k : Nat) : Int) = (zs.length : Int) - 1 - (k : Int) := by omega
      have hcx := hcs (zs.length - 1 - k) (by omega)
      rw [ei] at hcx
      obtain ⟨fn, tmps, assign, body, hy, hR⟩ := hY _ (bwAt zs k) wr hJs (by rw [bwUpto_length]; exact hlt)
      dsimp only [bwAt] at hy
      clear hcs hc ei
      have HI := Aside0.mk hI
      have HBS := Aside0.mk hBs
      clear hI hBs e3 hb0
      gi_wp2
      refine hR.mono ?_
      rintro e W3 (⟨rfl, hJ3, hk3⟩ | ⟨rfl, hJx3⟩)
      · gi_wp2
        go_roundw
        case rel => exact ⟨k + 1, by omega, by (congr 1; omega), by rw [bwUpto_succ]; exact hJ3, hnx.trans hk3⟩
        case measure => simp [intOf]; omega
      · gi_wp2
        refine bodyPost_ret (results_none rfl _ _ _) rfl ?_
        exact ⟨⟨_, rfl⟩, .inr ⟨_, ⟨k + 1, by omega, (bwUpto_succ _ _).symm⟩, hJx3⟩⟩
    · obtain rfl : k = zs.length := by omega
      have hg : ¬ (0 : Int) ≤ (zs.length : Int) - 1 - (zs.length : Int) := by omega
      gi_wp2
      go_end0
      exact ⟨⟨_, rfl⟩, .inl hJs⟩
theorem backward_in (F : Fence) (n : Nat) (h6 : F.fn 124) (hro : F.round = none) (a : Option Addr) (len cap : Nat) (w : World) :
    CallsIn F n Tryd.prog 124 #[.slice a len cap] w fun e w' => e = .returned (.func (.func 136) #[] #[.pointer (some ⟨w.heap.size, 0, none⟩)]) ∧ w' = w.alloc (.cells #[.slice a len cap] 22) := by
  refine callsIn_of_wp Tryd.func124 rfl h6 ?_ hro
  simp only [Tryd.ntmps124, List.size_toArray, List.length_cons, List.length_nil, Nat.reduceAdd, Nat.reduceSub, Array.replicate_succ, Array.replicate_zero, List.push_toArray, List.append_toArray, List.nil_append, List.cons_append]
  gi_wp2
  go_ret
  exact ⟨rfl, rfl⟩
theorem backward_stops (F : Fence) (n : Nat) (h8 : F.fn 136) (hro : F.round = none) (hn : 1 ≤ n) (Bs n₀ : Nat) (A : Option Addr) (cap : Nat) (zs : List Int) (hreach : zs.length ≤ 17592186044416) (w : World) (hBs : Bs < w.heap.size) (hn₀ : n₀ ≤ w.heap.size)
    (hc : w.heap[Bs]? = some (.cells #[.slice A zs.length cap] 22 (0, 0))) (hI : BwInts n₀ w (.slice A zs.length cap) zs) :
    SeqStopsK F n Tryd.prog 136 #[.pointer (some ⟨Bs, 0, none⟩)] (fun x : Int × Int => #[Value.int .i64 x.1, Value.int .i64 x.2]) (Kq n₀ Bs) (fun ys => ys = bwUpto (bwAt zs) zs.length)
      (fun pre => ∃ k, k ≤ zs.length ∧ pre = bwUpto (bwAt zs) k) zs.length w := fun l J Jx W hW _ _ hY h0 =>
  backward1_in F n h8 hro hn l Bs n₀ A cap zs hreach J Jx hY W ((hW.block Bs hBs).trans hc) (hI.below (hW.mono hn₀)) h0
def hStep (x : Int) (acc : Int) (c : Int) : Int := ((impl_element_times.f acc x).bind fun t => impl_element_plus.f t c).getD 0
theorem times_tot (a b : Int) : ∃ r, impl_element_times.f a b = some r := by unfold impl_element_times.f impl_elementOf.f; exact ⟨_, rfl⟩
theorem plus_tot (a b : Int) : ∃ r, impl_element_plus.f a b = some r := by unfold impl_element_plus.f impl_elementOf.f; exact ⟨_, rfl⟩
def bwFold (x : Int) (pre : List (Int × Int)) : Int := pre.foldl (fun acc c => hStep x acc c.2) 0
theorem bwFold_snoc (x : Int) (pre : List (Int × Int)) (c : Int × Int) : bwFold x (pre ++ [c]) = hStep x (bwFold x pre) c.2 := by simp [bwFold]
set_option maxRecDepth 100000 in
set_option maxHeartbeats 4000000 in
theorem value_in (A : Option Addr) (cap : Nat) (zs : List Int) (x : Int) (hreach : zs.length ≤ 17592186044416) (w : World) (hI : BwInts w.heap.size w (.slice A zs.length cap) zs) :
    CallsIn Fence.wide 3 Tryd.prog 92 #[.slice A zs.length cap, .int .i64 x] w fun e W' => e = .returned (.int .i64 (bwFold x (bwUpto (bwAt zs) zs.length))) ∧ Below w.heap.size w W' := by
  have hro : Fence.wide.round = none := rfl
  have h1 : 1 ≤ 3 := by omega
  refine callsIn_of_wp_marks Tryd.func92 rfl trivial ?_ hro
  simp only [Tryd.ntmps92, List.size_toArray, List.length_cons, List.length_nil, Nat.reduceAdd, Nat.reduceSub, Array.replicate_succ, Array.replicate_zero, List.push_toArray, List.append_toArray, List.nil_append, List.cons_append]
  gi_wp2_with (refine ⟨trivial, ?_⟩; gi_at_call 124; refine (backward_in Fence.wide (3 - 1) trivial hro _ _ _ _).mono ?_; rintro e w' ⟨rfl, rfl⟩)
  have bX := Boxed.new w 94 (.int .i64 x)
  have bO := Boxed.new (w.alloc (.cells #[.int .i64 x] 94)) 94 (.int .i64 0)
  have bN := Boxed.new ((w.alloc (.cells #[.int .i64 x] 94)).alloc (.cells #[.int .i64 0] 94)) 22 (.slice A zs.length cap)
  simp only [World.size_alloc] at bO bN
  have hB0 : Below w.heap.size w (((w.alloc (.cells #[.int .i64 x] 94)).alloc (.cells #[.int .i64 0] 94)).alloc (.cells #[.slice A zs.length cap] 22)) := (((Below.refl _ w).alloc (Nat.le_refl _) _).alloc (by simp) _).alloc (by simp; omega) _
  have hblk : (((w.alloc (.cells #[.int .i64 x] 94)).alloc (.cells #[.int .i64 0] 94)).alloc (.cells #[.slice A zs.length cap] 22)).heap[w.heap.size + 2]? = some (.cells #[.slice A zs.length cap] 22 (0, 0)) := by
    have := blk_new ((w.alloc (.cells #[.int .i64 x] 94)).alloc (.cells #[.int .i64 0] 94)) (.cells #[.slice A zs.length cap] 22)
    simpa using this
  have hKB : ∀ (W : World) (l : Nat) (o o' : Obj), (((w.alloc (.cells #[.int .i64 x] 94)).alloc (.cells #[.int .i64 0] 94)).alloc (.cells #[.slice A zs.length cap] 22)).heap.size ≤ l → W.heap[l]? = some o → o.isCells = false → o.isWalk = false → Kq w.heap.size (w.heap.size + 2) W (W.putObj l o') :=
    kq_b (by simp <;> omega) (by simp <;> omega)
  refine wpIn_rangeFunc_ownG hro h1 (gf := 136) (lb := #[.pointer (some ⟨w.heap.size + 2, 0, none⟩)]) rfl trivial (enters_of Tryd.func136 (by kernel_rfl) rfl)
    (backward_stops Fence.wide (3 - 1) trivial hro (by omega) (w.heap.size + 2) w.heap.size A cap zs hreach _ (by simp <;> omega) (by simp <;> omega) hblk (hI.below hB0)) Kq.trans hKB (Below.refl _ _) (fun _ => rfl)
    (fun pre W => ((W.cell? ⟨w.heap.size, 0, none⟩ = some (.int .i64 x) ∧ W.frozen? ⟨w.heap.size, 0, none⟩ = false) ∧ (W.cell? ⟨w.heap.size + 1, 0, none⟩ = some (.int .i64 (bwFold x pre)) ∧ W.frozen? ⟨w.heap.size + 1, 0, none⟩ = false)) ∧ Below w.heap.size w W)
    (fun _ _ _ => False)
    (OwnFrom.and (Own.from (fun s A B row hs hg hr => ⟨⟨cell_kept hs.1.1 hg hr, (frozen_kept hs.1.1 hg hr).trans hs.1.2⟩, cell_kept hs.2.1 hg hr, (frozen_kept hs.2.1 hg hr).trans hs.2.2⟩) _) (ownFrom_below (Nat.le_refl _) (by simp; omega)))
    (fun _ _ _ _ _ hs _ _ => hs)
    ⟨⟨⟨((bX.alloc _).alloc _).cell, ((bX.alloc _).alloc _).frozen⟩, (bO.alloc _).cell, (bO.alloc _).frozen⟩, hB0⟩
    (fun y => { tmps := #[.slice A zs.length cap, .int .i64 x, undef, .pointer (some ⟨w.heap.size, 0, none⟩), .int .i64 0, .pointer (some ⟨w.heap.size + 1, 0, none⟩), undef, .int .i64 y.2, .slice A zs.length cap, .func (.func 136) #[] #[.pointer (some ⟨w.heap.size + 2, 0, none⟩)], .int .i64 y.1, .int .i64 y.2, undef, undef, undef, undef, undef, undef], defers := [] }) ?assign ?body ?done ?stop
  case assign =>
    intro l y W K hK
    gi_wp2
    exact hK
  case body =>
    rintro l pre y W ⟨⟨⟨hx, hxf⟩, hc, hf⟩, hB⟩ _
    obtain ⟨t, ht⟩ := times_tot (bwFold x pre) x
    obtain ⟨u, hu⟩ := plus_tot t y.2
    have hst : bwFold x (pre ++ [y]) = u := by rw [bwFold_snoc, hStep, ht, Option.bind_some, hu]; rfl
    gi_wp2_with (first | (refine ⟨trivial, ?_⟩; gi_at_call 93; refine (CallsIn.inRound l (callsIn_wide.2 (impl_element_times.calls _ _ _ _ ht))).mono ?_; rintro e w' ⟨rfl, ⟨nd0, rfl⟩⟩) | (refine ⟨trivial, ?_⟩; gi_at_call 96; refine (CallsIn.inRound l (callsIn_wide.2 (impl_element_plus.calls _ _ _ _ hu))).mono ?_; rintro e w' ⟨rfl, ⟨nd, rfl⟩⟩))
    have hk : KeepsOthers W (W.drewN (nd0 + nd)) := ⟨Nat.le_refl _, fun _ _ h _ => h⟩
    have hbel : Below w.heap.size W ((W.drewN (nd0 + nd)).setCell ⟨w.heap.size + 1, 0, none⟩ (.int .i64 u)) := (pw_below_drewN (Below.refl _ W) _).setCell (p := ⟨w.heap.size + 1, 0, none⟩) (by simp) _
    refine ⟨(hk.trans (KeepsOthers.setCell _ _ _)).from _, ⟨hbel, Below.heap_setCell _ _ _ _ (by simp)⟩, ⟨⟨?_, ?_⟩, ?_, ?_⟩, hB.trans hbel⟩
    · exact Eq.trans (World.cell?_setCell_other _ _ _ _ (by intro e; injection e with e; omega)) hx
    · rw [World.frozen?_setCell]; exact hxf
    · rw [hst]; exact World.cell?_setCell_same' _ _ _ (by rw [show (W.drewN (nd0 + nd)).cell? ⟨w.heap.size + 1, 0, none⟩ = _ from hc]; rfl)
    · rw [World.frozen?_setCell]; exact hf
  case done =>
    rintro D ys W hD rfl ⟨⟨_, hc, _⟩, hB⟩ hK
    gi_wp2
    refine ⟨by simp, .inl ⟨_, _, rfl, run_takeDeferred hK, ?_⟩⟩
    exact ⟨_, results_tmp rfl _ _ _, rfl, hB.trans (belowK_b (w := w) (Nat.le_refl _) W D _ _ (by simp at hD; omega) hK rfl rfl)⟩
  case stop =>
    rintro D c pre W _ _ h _
    exact h.elim
def impl_value.f (l0 : List Int) (a1 : Int) : Option Int := if l0.length ≤ 17592186044416 then some (bwFold a1 (bwUpto (bwAt l0) l0.length)) else none
theorem bwInts_of {w : World} {A : Option Addr} {c : Nat} {l : List Int} (h : Kd.C (Kd.int .i64) w A l.length l) : BwInts w.heap.size w (.slice A l.length c) l := by
  refine ⟨A, c, rfl, fun hp => ?_⟩
  obtain ⟨ad, rfl, hx⟩ := Kd.at_int h 0 (by omega) (by omega)
  refine ⟨ad, rfl, ?_, fun j hj => ?_⟩
  · have := World.block_lt_of_cell? w _ hx
    rwa [add_blk] at this
  · obtain ⟨ad2, e2, hx2⟩ := Kd.at_int h j (by omega) (by omega)
    cases e2
    simpa using hx2
theorem impl_value.calls (A0 : Option Addr) (c0 : Nat) (l0 : List Int) (a1 : Int) (r : Int) (w : World) (hr0 : Kd.C (Kd.int .i64) w A0 l0.length l0) (hc0 : l0.length ≤ c0) (h : impl_value.f l0 a1 = some r) :
    Calls Tryd.prog 92 #[.slice A0 l0.length c0, .int .i64 a1] w fun e w' => e = .returned (.int .i64 r) ∧ Below w.heap.size w w' := by
  unfold impl_value.f at h
  by_cases hl : l0.length ≤ 17592186044416
  · rw [if_pos hl] at h
    obtain rfl := Option.some.inj h
    exact callsIn_wide.1 (value_in A0 c0 l0 a1 hl w (bwInts_of hr0))
  · rw [if_neg hl] at h; cases h
end
def impl_PolyAt.f (l0 : List Int) (a1 : Int) : Option (Int) := (impl_PolyOk.f l0).bind fun t698 => (if t698 = true then ((impl_FieldOk.f a1).bind fun t699 => (if t699 = true then ((impl_value.f l0 a1).bind fun t700 => (some t700)) else (some 0))) else (some 0))
set_option maxHeartbeats 8000000 in
set_option maxRecDepth 100000 in
theorem impl_PolyAt.calls (A0 : Option Addr) (c0 : Nat) (l0 : List Int) (a1 : Int) (r : Int) (w : World) (hr0 : Kd.C (Kd.int .i64) w A0 l0.length l0) (hc0 : l0.length ≤ c0) (h : impl_PolyAt.f l0 a1 = some r) :
    Calls Tryd.prog 46 #[.slice A0 l0.length c0, .int .i64 a1] w fun e w' => e = .returned (.int .i64 r) ∧ Below w.heap.size w w' := by
  have HR0 := Aside0.mk hr0
  have HC0 := Aside0.mk hc0
  clear hr0 hc0
  have HB := Aside0.mk (Below.refl w.heap.size w)
  have H : ((impl_PolyOk.f l0).bind fun t698 => (if t698 = true then ((impl_FieldOk.f a1).bind fun t699 => (if t699 = true then ((impl_value.f l0 a1).bind fun t700 => (some t700)) else (some 0))) else (some 0))) = some r := h
  clear h
  replace H := Option.bind_eq_some_iff.mp H
  obtain ⟨t698, A30, H⟩ := H
  replace H : (if t698 = true then ((impl_FieldOk.f a1).bind fun t699 => (if t699 = true then ((impl_value.f l0 a1).bind fun t700 => (some t700)) else (some 0))) else (some 0)) = some r := H
  have A3 := Aside0.mk A30
  clear A30
  by_cases c4 : t698 = true
  · subst c4
    have H1 : ((impl_FieldOk.f a1).bind fun t699 => (if t699 = true then ((impl_value.f l0 a1).bind fun t700 => (some t700)) else (some 0))) = some r := by rw [if_pos rfl] at H; exact H
    clear H
    have H := H1
    clear H1
    replace H := Option.bind_eq_some_iff.mp H
    obtain ⟨t699, A50, H⟩ := H
    replace H : (if t699 = true then ((impl_value.f l0 a1).bind fun t700 => (some t700)) else (some 0)) = some r := H
    have A5 := Aside0.mk A50
    clear A50
    by_cases c6 : t699 = true
    · subst c6
      have H1 : ((impl_value.f l0 a1).bind fun t700 => (some t700)) = some r := by rw [if_pos rfl] at H; exact H
      clear H
      have H := H1
      clear H1
      replace H := Option.bind_eq_some_iff.mp H
      obtain ⟨t700, A70, H⟩ := H
      replace H : (some t700) = some r := H
      have A7 := Aside0.mk A70
      clear A70
      obtain rfl := Option.some.inj H
      go_enter Tryd.func46, Tryd.ntmps46
      go_wp2_with (first | ((with_reducible refine gate_callee (f := 91) rfl ?_); refine goesL_ (some 6) rfl rfl Tryd.func91 (by kernel_rfl) rfl #[.slice A0 l0.length c0] rfl (by (try simp only [List.map_toArray, List.map_cons, List.map_nil]); first | done | rfl | (simp only [List.length_drop, List.length_take]; rfl)) ?_; (with_reducible refine (impl_PolyOk.calls _ _ l0 true _ ?side1 ?side2 A3.out).mono ?_); (case side1 => repeat (first | exact HR0.out | (with_reducible refine Kd.C_alloc ?_ _) | (with_reducible refine Kd.C_drewN ?_ _) | (with_reducible refine Kd.C_drew ?_))); (case side2 => exact HC0.out); rintro e w' ⟨rfl, ⟨nd, rfl⟩⟩; refine ⟨_, rfl, ?_⟩) | (go_at_call 86; (with_reducible refine (impl_FieldOk.calls a1 true _ A5.out).mono ?_); rintro e w' ⟨rfl, ⟨nd, rfl⟩⟩) | ((with_reducible refine gate_callee (f := 92) rfl ?_); refine goesL_ (some 15) rfl rfl Tryd.func92 (by kernel_rfl) rfl #[.slice A0 l0.length c0, .int .i64 a1] rfl (by (try simp only [List.map_toArray, List.map_cons, List.map_nil]); first | done | rfl | (simp only [List.length_drop, List.length_take]; rfl)) ?_; (with_reducible refine (impl_value.calls _ _ l0 a1 t700 _ ?side1 ?side2 A7.out).mono ?_); (case side1 => repeat (first | exact HR0.out | (with_reducible refine Kd.C_alloc ?_ _) | (with_reducible refine Kd.C_drewN ?_ _) | (with_reducible refine Kd.C_drew ?_))); (case side2 => exact HC0.out); rintro e w8 ⟨rfl, hb⟩; refine ⟨_, rfl, ?_⟩; have n0_ := Aside0.mk (below_step (by repeat (first | (with_reducible first | exact HB.out | apply below_alloc | apply pw_below_drewN | apply below_drew1) | exact HB.out)) hb); clear HB; have HB := n0_; clear n0_; (try clear hb); (try clear hb2); (try clear hk); (try clear hi)))
      go_ret
      exact ⟨by first | rfl | (simp [errW_none, errW_some] <;> rfl) | (simp [*, errW_none, errW_some] <;> rfl), by repeat (first | (with_reducible first | exact HB.out | apply below_alloc | apply pw_below_drewN | apply below_drew1) | exact HB.out)⟩
    · replace c6 := Bool.eq_false_iff.mpr c6
      subst c6
      have H1 : (some 0) = some r := by rw [if_neg (show ¬ (false = true) by decide)] at H; exact H
      clear H
      have H := H1
      clear H1
      obtain rfl := Option.some.inj H
      go_enter Tryd.func46, Tryd.ntmps46
      go_wp2_with (first | ((with_reducible refine gate_callee (f := 91) rfl ?_); refine goesL_ (some 6) rfl rfl Tryd.func91 (by kernel_rfl) rfl #[.slice A0 l0.length c0] rfl (by (try simp only [List.map_toArray, List.map_cons, List.map_nil]); first | done | rfl | (simp only [List.length_drop, List.length_take]; rfl)) ?_; (with_reducible refine (impl_PolyOk.calls _ _ l0 true _ ?side1 ?side2 A3.out).mono ?_); (case side1 => repeat (first | exact HR0.out | (with_reducible refine Kd.C_alloc ?_ _) | (with_reducible refine Kd.C_drewN ?_ _) | (with_reducible refine Kd.C_drew ?_))); (case side2 => exact HC0.out); rintro e w' ⟨rfl, ⟨nd, rfl⟩⟩; refine ⟨_, rfl, ?_⟩) | (go_at_call 86; (with_reducible refine (impl_FieldOk.calls a1 false _ A5.out).mono ?_); rintro e w' ⟨rfl, ⟨nd, rfl⟩⟩))
      go_ret
      exact ⟨by first | rfl | (simp [errW_none, errW_some] <;> rfl) | (simp [*, errW_none, errW_some] <;> rfl), by repeat (first | (with_reducible first | exact HB.out | apply below_alloc | apply pw_below_drewN | apply below_drew1) | exact HB.out)⟩
  · replace c4 := Bool.eq_false_iff.mpr c4
    subst c4
    have H1 : (some 0) = some r := by rw [if_neg (show ¬ (false = true) by decide)] at H; exact H
    clear H
    have H := H1
    clear H1
    obtain rfl := Option.some.inj H
    go_enter Tryd.func46, Tryd.ntmps46
    go_wp2_with (first | ((with_reducible refine gate_callee (f := 91) rfl ?_); refine goesL_ (some 6) rfl rfl Tryd.func91 (by kernel_rfl) rfl #[.slice A0 l0.length c0] rfl (by (try simp only [List.map_toArray, List.map_cons, List.map_nil]); first | done | rfl | (simp only [List.length_drop, List.length_take]; rfl)) ?_; (with_reducible refine (impl_PolyOk.calls _ _ l0 false _ ?side1 ?side2 A3.out).mono ?_); (case side1 => repeat (first | exact HR0.out | (with_reducible refine Kd.C_alloc ?_ _) | (with_reducible refine Kd.C_drewN ?_ _) | (with_reducible refine Kd.C_drew ?_))); (case side2 => exact HC0.out); rintro e w' ⟨rfl, ⟨nd, rfl⟩⟩; refine ⟨_, rfl, ?_⟩))
    go_ret
    exact ⟨by first | rfl | (simp [errW_none, errW_some] <;> rfl) | (simp [*, errW_none, errW_some] <;> rfl), by repeat (first | (with_reducible first | exact HB.out | apply below_alloc | apply pw_below_drewN | apply below_drew1) | exact HB.out)⟩
def impl_FieldMul.f (a0 : Int) (a1 : Int) : Option (Int) := (impl_FieldOk.f a0).bind fun t701 => (if t701 = true then ((impl_FieldOk.f a1).bind fun t702 => (if t702 = true then ((impl_element_times.f a0 a1).bind fun t703 => (some t703)) else (some 0))) else (some 0))
set_option maxHeartbeats 8000000 in
set_option maxRecDepth 100000 in
theorem impl_FieldMul.calls (a0 : Int) (a1 : Int) (r : Int) (w : World) (h : impl_FieldMul.f a0 a1 = some r) :
    Calls Tryd.prog 47 #[.int .i64 a0, .int .i64 a1] w fun e w' => e = .returned (.int .i64 r) ∧ Drawn0 w w' := by
  have H : ((impl_FieldOk.f a0).bind fun t701 => (if t701 = true then ((impl_FieldOk.f a1).bind fun t702 => (if t702 = true then ((impl_element_times.f a0 a1).bind fun t703 => (some t703)) else (some 0))) else (some 0))) = some r := h
  clear h
  replace H := Option.bind_eq_some_iff.mp H
  obtain ⟨t701, A30, H⟩ := H
  replace H : (if t701 = true then ((impl_FieldOk.f a1).bind fun t702 => (if t702 = true then ((impl_element_times.f a0 a1).bind fun t703 => (some t703)) else (some 0))) else (some 0)) = some r := H
  have A3 := Aside0.mk A30
  clear A30
  by_cases c4 : t701 = true
  · subst c4
    have H1 : ((impl_FieldOk.f a1).bind fun t702 => (if t702 = true then ((impl_element_times.f a0 a1).bind fun t703 => (some t703)) else (some 0))) = some r := by rw [if_pos rfl] at H; exact H
    clear H
    have H := H1
    clear H1
    replace H := Option.bind_eq_some_iff.mp H
    obtain ⟨t702, A50, H⟩ := H
    replace H : (if t702 = true then ((impl_element_times.f a0 a1).bind fun t703 => (some t703)) else (some 0)) = some r := H
    have A5 := Aside0.mk A50
    clear A50
    by_cases c6 : t702 = true
    · subst c6
      have H1 : ((impl_element_times.f a0 a1).bind fun t703 => (some t703)) = some r := by rw [if_pos rfl] at H; exact H
      clear H
      have H := H1
      clear H1
      replace H := Option.bind_eq_some_iff.mp H
      obtain ⟨t703, A70, H⟩ := H
      replace H : (some t703) = some r := H
      have A7 := Aside0.mk A70
      clear A70
      obtain rfl := Option.some.inj H
      go_enter Tryd.func47, Tryd.ntmps47
      go_wp2_with (first | ((with_reducible refine gate_callee (f := 86) rfl ?_); refine goesL_ (some 6) rfl rfl Tryd.func86 (by kernel_rfl) rfl #[.int .i64 a0] rfl (by (try simp only [List.map_toArray, List.map_cons, List.map_nil]); first | done | rfl | (simp only [List.length_drop, List.length_take]; rfl)) ?_; (with_reducible refine (impl_FieldOk.calls a0 true _ A3.out).mono ?_); rintro e w' ⟨rfl, ⟨nd, rfl⟩⟩; refine ⟨_, rfl, ?_⟩) | (go_at_call 86; (with_reducible refine (impl_FieldOk.calls a1 true _ A5.out).mono ?_); rintro e w' ⟨rfl, ⟨nd, rfl⟩⟩) | ((with_reducible refine gate_callee (f := 93) rfl ?_); refine goesL_ (some 15) rfl rfl Tryd.func93 (by kernel_rfl) rfl #[.int .i64 a0, .int .i64 a1] rfl (by (try simp only [List.map_toArray, List.map_cons, List.map_nil]); first | done | rfl | (simp only [List.length_drop, List.length_take]; rfl)) ?_; (with_reducible refine (impl_element_times.calls a0 a1 t703 _ A7.out).mono ?_); rintro e w' ⟨rfl, ⟨nd, rfl⟩⟩; refine ⟨_, rfl, ?_⟩))
      go_ret
      exact ⟨by first | rfl | (simp; done) | (simp [*]; done), by repeat (first | exact Drawn0.refl _ | apply Drawn0.step)⟩
    · replace c6 := Bool.eq_false_iff.mpr c6
      subst c6
      have H1 : (some 0) = some r := by rw [if_neg (show ¬ (false = true) by decide)] at H; exact H
      clear H
      have H := H1
      clear H1
      obtain rfl := Option.some.inj H
      go_enter Tryd.func47, Tryd.ntmps47
      go_wp2_with (first | ((with_reducible refine gate_callee (f := 86) rfl ?_); refine goesL_ (some 6) rfl rfl Tryd.func86 (by kernel_rfl) rfl #[.int .i64 a0] rfl (by (try simp only [List.map_toArray, List.map_cons, List.map_nil]); first | done | rfl | (simp only [List.length_drop, List.length_take]; rfl)) ?_; (with_reducible refine (impl_FieldOk.calls a0 true _ A3.out).mono ?_); rintro e w' ⟨rfl, ⟨nd, rfl⟩⟩; refine ⟨_, rfl, ?_⟩) | (go_at_call 86; (with_reducible refine (impl_FieldOk.calls a1 false _ A5.out).mono ?_); rintro e w' ⟨rfl, ⟨nd, rfl⟩⟩))
      go_ret
      exact ⟨by first | rfl | (simp; done) | (simp [*]; done), by repeat (first | exact Drawn0.refl _ | apply Drawn0.step)⟩
  · replace c4 := Bool.eq_false_iff.mpr c4
    subst c4
    have H1 : (some 0) = some r := by rw [if_neg (show ¬ (false = true) by decide)] at H; exact H
    clear H
    have H := H1
    clear H1
    obtain rfl := Option.some.inj H
    go_enter Tryd.func47, Tryd.ntmps47
    go_wp2_with (first | ((with_reducible refine gate_callee (f := 86) rfl ?_); refine goesL_ (some 6) rfl rfl Tryd.func86 (by kernel_rfl) rfl #[.int .i64 a0] rfl (by (try simp only [List.map_toArray, List.map_cons, List.map_nil]); first | done | rfl | (simp only [List.length_drop, List.length_take]; rfl)) ?_; (with_reducible refine (impl_FieldOk.calls a0 false _ A3.out).mono ?_); rintro e w' ⟨rfl, ⟨nd, rfl⟩⟩; refine ⟨_, rfl, ?_⟩))
    go_ret
    exact ⟨by first | rfl | (simp; done) | (simp [*]; done), by repeat (first | exact Drawn0.refl _ | apply Drawn0.step)⟩
def impl_FieldDif.f (a0 : Int) (a1 : Int) : Option (Int) := (impl_FieldOk.f a0).bind fun t704 => (if t704 = true then ((impl_FieldOk.f a1).bind fun t705 => (if t705 = true then ((impl_element_minus.f a0 a1).bind fun t706 => (some t706)) else (some 0))) else (some 0))
set_option maxHeartbeats 8000000 in
set_option maxRecDepth 100000 in
theorem impl_FieldDif.calls (a0 : Int) (a1 : Int) (r : Int) (w : World) (h : impl_FieldDif.f a0 a1 = some r) :
    Calls Tryd.prog 48 #[.int .i64 a0, .int .i64 a1] w fun e w' => e = .returned (.int .i64 r) ∧ Drawn0 w w' := by
  have H : ((impl_FieldOk.f a0).bind fun t704 => (if t704 = true then ((impl_FieldOk.f a1).bind fun t705 => (if t705 = true then ((impl_element_minus.f a0 a1).bind fun t706 => (some t706)) else (some 0))) else (some 0))) = some r := h
  clear h
  replace H := Option.bind_eq_some_iff.mp H
  obtain ⟨t704, A30, H⟩ := H
  replace H : (if t704 = true then ((impl_FieldOk.f a1).bind fun t705 => (if t705 = true then ((impl_element_minus.f a0 a1).bind fun t706 => (some t706)) else (some 0))) else (some 0)) = some r := H
  have A3 := Aside0.mk A30
  clear A30
  by_cases c4 : t704 = true
  · subst c4
    have H1 : ((impl_FieldOk.f a1).bind fun t705 => (if t705 = true then ((impl_element_minus.f a0 a1).bind fun t706 => (some t706)) else (some 0))) = some r := by rw [if_pos rfl] at H; exact H
    clear H
    have H := H1
    clear H1
    replace H := Option.bind_eq_some_iff.mp H
    obtain ⟨t705, A50, H⟩ := H
    replace H : (if t705 = true then ((impl_element_minus.f a0 a1).bind fun t706 => (some t706)) else (some 0)) = some r := H
    have A5 := Aside0.mk A50
    clear A50
    by_cases c6 : t705 = true
    · subst c6
      have H1 : ((impl_element_minus.f a0 a1).bind fun t706 => (some t706)) = some r := by rw [if_pos rfl] at H; exact H
      clear H
      have H := H1
      clear H1
      replace H := Option.bind_eq_some_iff.mp H
      obtain ⟨t706, A70, H⟩ := H
      replace H : (some t706) = some r := H
      have A7 := Aside0.mk A70
      clear A70
      obtain rfl := Option.some.inj H
      go_enter Tryd.func48, Tryd.ntmps48
      go_wp2_with (first | ((with_reducible refine gate_callee (f := 86) rfl ?_); refine goesL_ (some 6) rfl rfl Tryd.func86 (by kernel_rfl) rfl #[.int .i64 a0] rfl (by (try simp only [List.map_toArray, List.map_cons, List.map_nil]); first | done | rfl | (simp only [List.length_drop, List.length_take]; rfl)) ?_; (with_reducible refine (impl_FieldOk.calls a0 true _ A3.out).mono ?_); rintro e w' ⟨rfl, ⟨nd, rfl⟩⟩; refine ⟨_, rfl, ?_⟩) | (go_at_call 86; (with_reducible refine (impl_FieldOk.calls a1 true _ A5.out).mono ?_); rintro e w' ⟨rfl, ⟨nd, rfl⟩⟩) | ((with_reducible refine gate_callee (f := 94) rfl ?_); refine goesL_ (some 15) rfl rfl Tryd.func94 (by kernel_rfl) rfl #[.int .i64 a0, .int .i64 a1] rfl (by (try simp only [List.map_toArray, List.map_cons, List.map_nil]); first | done | rfl | (simp only [List.length_drop, List.length_take]; rfl)) ?_; (with_reducible refine (impl_element_minus.calls a0 a1 t706 _ A7.out).mono ?_); rintro e w' ⟨rfl, ⟨nd, rfl⟩⟩; refine ⟨_, rfl, ?_⟩))
      go_ret
      exact ⟨by first | rfl | (simp; done) | (simp [*]; done), by repeat (first | exact Drawn0.refl _ | apply Drawn0.step)⟩
    · replace c6 := Bool.eq_false_iff.mpr c6
      subst c6
      have H1 : (some 0) = some r := by rw [if_neg (show ¬ (false = true) by decide)] at H; exact H
      clear H
      have H := H1
      clear H1
      obtain rfl := Option.some.inj H
      go_enter Tryd.func48, Tryd.ntmps48
      go_wp2_with (first | ((with_reducible refine gate_callee (f := 86) rfl ?_); refine goesL_ (some 6) rfl rfl Tryd.func86 (by kernel_rfl) rfl #[.int .i64 a0] rfl (by (try simp only [List.map_toArray, List.map_cons, List.map_nil]); first | done | rfl | (simp only [List.length_drop, List.length_take]; rfl)) ?_; (with_reducible refine (impl_FieldOk.calls a0 true _ A3.out).mono ?_); rintro e w' ⟨rfl, ⟨nd, rfl⟩⟩; refine ⟨_, rfl, ?_⟩) | (go_at_call 86; (with_reducible refine (impl_FieldOk.calls a1 false _ A5.out).mono ?_); rintro e w' ⟨rfl, ⟨nd, rfl⟩⟩))
      go_ret
      exact ⟨by first | rfl | (simp; done) | (simp [*]; done), by repeat (first | exact Drawn0.refl _ | apply Drawn0.step)⟩
  · replace c4 := Bool.eq_false_iff.mpr c4
    subst c4
    have H1 : (some 0) = some r := by rw [if_neg (show ¬ (false = true) by decide)] at H; exact H
    clear H
    have H := H1
    clear H1
    obtain rfl := Option.some.inj H
    go_enter Tryd.func48, Tryd.ntmps48
    go_wp2_with (first | ((with_reducible refine gate_callee (f := 86) rfl ?_); refine goesL_ (some 6) rfl rfl Tryd.func86 (by kernel_rfl) rfl #[.int .i64 a0] rfl (by (try simp only [List.map_toArray, List.map_cons, List.map_nil]); first | done | rfl | (simp only [List.length_drop, List.length_take]; rfl)) ?_; (with_reducible refine (impl_FieldOk.calls a0 false _ A3.out).mono ?_); rintro e w' ⟨rfl, ⟨nd, rfl⟩⟩; refine ⟨_, rfl, ?_⟩))
    go_ret
    exact ⟨by first | rfl | (simp; done) | (simp [*]; done), by repeat (first | exact Drawn0.refl _ | apply Drawn0.step)⟩
end Go.Proofs.YtahbooeioigbgaaDoor.Da
