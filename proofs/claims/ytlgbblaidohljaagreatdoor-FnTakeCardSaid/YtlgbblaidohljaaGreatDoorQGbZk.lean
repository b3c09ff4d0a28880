import Derived.KernelRfl
import Derived.Test.YtlgbblaidohljaaGreatDoorQGaZk
import Derived.Test.YtlgbblaidohljaaGreatDoorZk1
import Derived.Test.YtlgbblaidohljaaGreatDoorZk3
import Derived.Test.YtlgbblaidohljaaGreatDoorZk4
import Derived.Test.YtlgbblaidohljaaGreatDoorZk6
import Derived.Test.YtlgbblaidohljaaGreatDoorZk7
import Derived.Test.YtlgbblaidohljaaGreatDoorZk8
set_option linter.unusedVariables false
set_option linter.unusedSimpArgs false
namespace Go.Proofs.YtlgbblaidohljaaGreatDoor.Q
open Go.RowKit Go.Proofs.YtlgbblaidohljaaGreatDoor.Zk Go.Proofs.YtlgbblaidohljaaGreatDoorT.PrintWords Go.Proofs.YtlgbblaidohljaaGreatDoorT.PrintLast Go.Proofs.YtlgbblaidohljaaGreatDoorT.PrintMore
theorem list2 (l : List Int) (h : l.length = 2) : ∃ a b, l = [a, b] := by
  match l, h with
  | [a, b], _ => exact ⟨a, b, rfl⟩
theorem list4' (l : List Int) (h : l.length = 4) : ∃ a b c d, l = [a, b, c, d] := by
  match l, h with
  | [a, b, c, d], _ => exact ⟨a, b, c, d, rfl⟩
theorem list5 (l : List Int) (h : l.length = 5) : ∃ a b c d e, l = [a, b, c, d, e] := by
  match l, h with
  | [a, b, c, d, e], _ => exact ⟨a, b, c, d, e, rfl⟩
theorem first_f (u : Int) (v : List Int) (h : v.length ≤ 1000) : spec_l12First.f v u = some (u :: v) := by
  unfold spec_l12First.f
  rw [Option.bind_some, if_pos (by simp; omega)]
  rfl
theorem thrL_2 : thrL 2 = [⟨1, 0, 0, 0, 0⟩, ⟨30, 1, 0, 0, 0⟩] := by decide +kernel
theorem fill2 (a b : Int) (ha : 0 ≤ a ∧ a ≤ 30) (hb : 0 ≤ b ∧ b ≤ 30) : fillD [a, b] 2 = (startL 2).map (LF.ev ⟨a, b, 0, 0, 0⟩) := by
  have e : fillD [a, b] 2 = [a, b, 0, 0, 0, 0, 0, 0, 0] := by kernel_rfl
  have e2 : startL 2 = [⟨1, 0, 0, 0, 0⟩, ⟨0, 1, 0, 0, 0⟩, ⟨0, 0, 0, 0, 0⟩, ⟨0, 0, 0, 0, 0⟩, ⟨0, 0, 0, 0, 0⟩, ⟨0, 0, 0, 0, 0⟩, ⟨0, 0, 0, 0, 0⟩, ⟨0, 0, 0, 0, 0⟩, ⟨0, 0, 0, 0, 0⟩] := by decide +kernel
  rw [e, e2]
  simp only [List.map_cons, List.map_nil, LF.ev, LF.raw]
  refine List.cons_eq_cons.2 ⟨by omega, List.cons_eq_cons.2 ⟨by omega, List.cons_eq_cons.2 ⟨by omega, List.cons_eq_cons.2 ⟨by omega, List.cons_eq_cons.2 ⟨by omega, List.cons_eq_cons.2 ⟨by omega, List.cons_eq_cons.2 ⟨by omega, List.cons_eq_cons.2 ⟨by omega, List.cons_eq_cons.2 ⟨by omega, rfl⟩⟩⟩⟩⟩⟩⟩⟩⟩
theorem thrL_4 : thrL 4 = [⟨1, 0, 0, 0, 0⟩, ⟨24, 3, 14, 21, 0⟩, ⟨1, 13, 2, 15, 0⟩, ⟨5, 16, 15, 26, 0⟩] := by decide +kernel
theorem fill4 (a b c d : Int) (ha : 0 ≤ a ∧ a ≤ 30) (hb : 0 ≤ b ∧ b ≤ 30) (hc : 0 ≤ c ∧ c ≤ 30) (hd : 0 ≤ d ∧ d ≤ 30) : fillD [a, b, c, d] 4 = (startL 4).map (LF.ev ⟨a, b, c, d, 0⟩) := by
  have e : fillD [a, b, c, d] 4 = [a, b, c, d, 0, 0, 0, 0, 0] := by kernel_rfl
  have e2 : startL 4 = [⟨1, 0, 0, 0, 0⟩, ⟨0, 1, 0, 0, 0⟩, ⟨0, 0, 1, 0, 0⟩, ⟨0, 0, 0, 1, 0⟩, ⟨0, 0, 0, 0, 0⟩, ⟨0, 0, 0, 0, 0⟩, ⟨0, 0, 0, 0, 0⟩, ⟨0, 0, 0, 0, 0⟩, ⟨0, 0, 0, 0, 0⟩] := by decide +kernel
  rw [e, e2]
  simp only [List.map_cons, List.map_nil, LF.ev, LF.raw]
  refine List.cons_eq_cons.2 ⟨by omega, List.cons_eq_cons.2 ⟨by omega, List.cons_eq_cons.2 ⟨by omega, List.cons_eq_cons.2 ⟨by omega, List.cons_eq_cons.2 ⟨by omega, List.cons_eq_cons.2 ⟨by omega, List.cons_eq_cons.2 ⟨by omega, List.cons_eq_cons.2 ⟨by omega, List.cons_eq_cons.2 ⟨by omega, rfl⟩⟩⟩⟩⟩⟩⟩⟩⟩
theorem thrL_5 : thrL 5 = [⟨1, 0, 0, 0, 0⟩, ⟨16, 4, 28, 22, 23⟩, ⟨26, 6, 28, 8, 25⟩, ⟨28, 17, 29, 27, 23⟩, ⟨22, 5, 8, 5, 22⟩] := by decide +kernel
theorem fill5 (a b c d e : Int) (ha : 0 ≤ a ∧ a ≤ 30) (hb : 0 ≤ b ∧ b ≤ 30) (hc : 0 ≤ c ∧ c ≤ 30) (hd : 0 ≤ d ∧ d ≤ 30) (he : 0 ≤ e ∧ e ≤ 30) : fillD [a, b, c, d, e] 5 = (startL 5).map (LF.ev ⟨a, b, c, d, e⟩) := by
  have e : fillD [a, b, c, d, e] 5 = [a, b, c, d, e, 0, 0, 0, 0] := by kernel_rfl
  have e2 : startL 5 = [⟨1, 0, 0, 0, 0⟩, ⟨0, 1, 0, 0, 0⟩, ⟨0, 0, 1, 0, 0⟩, ⟨0, 0, 0, 1, 0⟩, ⟨0, 0, 0, 0, 1⟩, ⟨0, 0, 0, 0, 0⟩, ⟨0, 0, 0, 0, 0⟩, ⟨0, 0, 0, 0, 0⟩, ⟨0, 0, 0, 0, 0⟩] := by decide +kernel
  rw [e, e2]
  simp only [List.map_cons, List.map_nil, LF.ev, LF.raw]
  refine List.cons_eq_cons.2 ⟨by omega, List.cons_eq_cons.2 ⟨by omega, List.cons_eq_cons.2 ⟨by omega, List.cons_eq_cons.2 ⟨by omega, List.cons_eq_cons.2 ⟨by omega, List.cons_eq_cons.2 ⟨by omega, List.cons_eq_cons.2 ⟨by omega, List.cons_eq_cons.2 ⟨by omega, List.cons_eq_cons.2 ⟨by omega, rfl⟩⟩⟩⟩⟩⟩⟩⟩⟩
def lfOf (l : List Int) : LF := ⟨rd l 0, rd l 1, rd l 2, rd l 3, rd l 4⟩
def coefs (F : LF) (n : Nat) : List Int := [F.a, F.b, F.c, F.d, F.e].take n
theorem line_tab2 : ∀ x < 31, spec_l2Line.f 90 2 ((x : Nat) : Int) = some (coefs (hvL ((x : Nat) : Int) (thrL 2)) 2) ∧ ((coefs (hvL ((x : Nat) : Int) (thrL 2)) 2).all fOk = true ∧ (hvL ((x : Nat) : Int) (thrL 2)).c = 0 ∧ (hvL ((x : Nat) : Int) (thrL 2)).d = 0 ∧ (hvL ((x : Nat) : Int) (thrL 2)).e = 0) := by decide +kernel
theorem line_tab4 : ∀ x < 31, spec_l2Line.f 90 4 ((x : Nat) : Int) = some (coefs (hvL ((x : Nat) : Int) (thrL 4)) 4) ∧ ((coefs (hvL ((x : Nat) : Int) (thrL 4)) 4).all fOk = true ∧ (hvL ((x : Nat) : Int) (thrL 4)).e = 0) := by decide +kernel
theorem line_tab5 : ∀ x < 31, spec_l2Line.f 90 5 ((x : Nat) : Int) = some (coefs (hvL ((x : Nat) : Int) (thrL 5)) 5) ∧ (coefs (hvL ((x : Nat) : Int) (thrL 5)) 5).all fOk = true := by decide +kernel
theorem nat31 {x : Int} (hx : 0 ≤ x ∧ x ≤ 30) : ∃ m : Nat, m < 31 ∧ x = (m : Int) := ⟨x.toNat, by omega, by omega⟩
theorem lineDot (n : Nat) (hn : n = 2 ∨ n = 4 ∨ n = 5) (A : List Int) (lA : A.length = n) (hA : A.all fOk = true) (x : Int) (hx : 0 ≤ x ∧ x ≤ 30) :
    ∃ L f : List Int, spec_l2Line.f 90 (n : Int) x = some L ∧ L.length = n ∧ L.all fOk = true ∧ impl_through.f A = some f ∧ f.length = n ∧ f.all fOk = true ∧ dotv L A = hv x f ∧ f = (thrL n).map (LF.ev (lfOf A)) := by
  obtain ⟨m, hm, rfl⟩ := nat31 hx
  have hall : ∀ y, ((thrL n).map (LF.ev y)).all fOk = true := fun y => by rw [List.all_map, List.all_eq_true]; intro f _; exact (fOk_iff _).2 (LF.ev_bd _ _)
  rcases hn with rfl | rfl | rfl
  · obtain ⟨a, b, rfl⟩ := list2 A lA
    obtain ⟨t1, t2, t3, t4, t5⟩ := line_tab2 m hm
    simp only [List.all_cons, List.all_nil, Bool.and_true, Bool.and_eq_true, fOk_iff] at hA
    refine ⟨_, _, t1, rfl, t2, through_map (lfOf [a, b]) _ 2 rfl (by omega) (by omega) (fill2 a b hA.1 hA.2), by rw [thrL_2]; rfl, hall _, ?_, rfl⟩
    rw [hv_map]
    generalize hvL (m : Int) (thrL 2) = F at *
    obtain ⟨fa, fb, fc, fd, fe⟩ := F
    simp only at t3 t4 t5
    subst t3 t4 t5
    show ((0 + fa * a) % 31 + fb * b) % 31 = (fa * a + fb * b + 0 * 0 + 0 * 0 + 0 * 0) % 31
    omega
  · obtain ⟨a, b, c, d, rfl⟩ := list4' A lA
    obtain ⟨t1, t2, t5⟩ := line_tab4 m hm
    simp only [List.all_cons, List.all_nil, Bool.and_true, Bool.and_eq_true, fOk_iff] at hA
    refine ⟨_, _, t1, rfl, t2, through_map (lfOf [a, b, c, d]) _ 4 rfl (by omega) (by omega) (fill4 a b c d hA.1 hA.2.1 hA.2.2.1 hA.2.2.2), by rw [thrL_4]; rfl, hall _, ?_, rfl⟩
    rw [hv_map]
    generalize hvL (m : Int) (thrL 4) = F at *
    obtain ⟨fa, fb, fc, fd, fe⟩ := F
    simp only at t5
    subst t5
    show ((((0 + fa * a) % 31 + fb * b) % 31 + fc * c) % 31 + fd * d) % 31 = (fa * a + fb * b + fc * c + fd * d + 0 * 0) % 31
    omega
  · obtain ⟨a, b, c, d, e, rfl⟩ := list5 A lA
    obtain ⟨t1, t2⟩ := line_tab5 m hm
    simp only [List.all_cons, List.all_nil, Bool.and_true, Bool.and_eq_true, fOk_iff] at hA
    refine ⟨_, _, t1, rfl, t2, through_map (lfOf [a, b, c, d, e]) _ 5 rfl (by omega) (by omega) (fill5 a b c d e hA.1 hA.2.1 hA.2.2.1 hA.2.2.2.1 hA.2.2.2.2), by rw [thrL_5]; rfl, hall _, ?_, rfl⟩
    rw [hv_map]
    generalize hvL (m : Int) (thrL 5) = F at *
    obtain ⟨fa, fb, fc, fd, fe⟩ := F
    show (((((0 + fa * a) % 31 + fb * b) % 31 + fc * c) % 31 + fd * d) % 31 + fe * e) % 31 = (fa * a + fb * b + fc * c + fd * d + fe * e) % 31
    omega
theorem iCut_f (kind : Int) (l : List Int) (hl : (l.length : Int) = 3 * tLen kind + 3) :
    impl_cut.f kind l = some (l.take (tLen kind).toNat, rd l (tLen kind), rd l (tLen kind + 1), l.drop ((tLen kind).toNat + 2)) := by
  have ht := tLen_le kind
  have e2 : (tLen kind + 2).toNat = (tLen kind).toNat + 2 := by omega
  have h1 : (l.take (tLen kind).toNat).length < 17592186044416 := by rw [List.length_take]; omega
  have h2 : (l.drop ((tLen kind).toNat + 2)).length < 17592186044416 := by rw [List.length_drop]; omega
  unfold impl_cut.f impl_TypeLen.f slices_Clone_int_int.f slices_Clip_int_int.f
  rw [Option.bind_some, if_pos ht.1, if_pos (by omega), if_pos h1, Option.bind_some, Option.bind_some, if_pos (by omega), w64 (a := tLen kind + 1) (by omega) (by omega), w64 (a := tLen kind + 2) (by omega) (by omega), if_pos (by omega), if_pos (by omega), if_pos (by omega), if_pos (by omega), e2, if_pos h2, Option.bind_some, Option.bind_some]
theorem cut_f (kind : Int) (l : List Int) (hl : (l.length : Int) = 3 * tLen kind + 3) :
    impl_cut.f kind l = some (l.take (tLen kind).toNat, rd l (tLen kind), rd l (tLen kind + 1), l.drop ((tLen kind).toNat + 2)) ∧ spec_l12Cut.f kind l = some (l.take (tLen kind).toNat, rd l (tLen kind), rd l (tLen kind + 1), l.drop ((tLen kind).toNat + 2)) := by
  have ht := tLen_le kind
  have e2 : (tLen kind + 2).toNat = (tLen kind).toNat + 2 := by omega
  have h1 : (l.take (tLen kind).toNat).length < 17592186044416 := by rw [List.length_take]; omega
  have h2 : (l.drop ((tLen kind).toNat + 2)).length < 17592186044416 := by rw [List.length_drop]; omega
  refine ⟨iCut_f kind l hl, ?_⟩
  unfold spec_l12Cut.f
  rw [specTypeLen_f, Option.bind_some, Option.bind_some, if_pos ht.1, if_pos (by omega), if_pos (by simpa using h1), if_pos (by omega), w64 (a := tLen kind + 1) (by omega) (by omega), w64 (a := tLen kind + 2) (by omega) (by omega), if_pos (by omega), if_pos (by omega), Option.bind_some, if_pos (by omega), if_pos (by omega), e2, if_pos (by simpa using h2)]
  simp
def decC (c : Int) (v : List Int) : List Int := v.map fun x => (x - c) % 31
theorem decC_length (c : Int) (v : List Int) : (decC c v).length = v.length := by simp [decC]
theorem decC_all (c : Int) (v : List Int) : (decC c v).all fOk = true := by
  rw [List.all_eq_true]
  intro x hx
  obtain ⟨y, _, rfl⟩ := List.mem_map.1 hx
  exact fOk_mod _
theorem decC_snoc (c : Int) (l : List Int) (a : Int) : decC c (l ++ [a]) = decC c l ++ [(a - c) % 31] := by simp [decC]
theorem loweredC_loop (c : Int) (hc : 0 ≤ c ∧ c ≤ 30) (v : List Int) (hl : v.length ≤ 1000) (hv : v.all fOk = true) (d : Nat) : ∀ (k i : Nat), i + d = v.length → d < k → impl_lowered.l0 k c (decC c (v.take i)) v (v.length : Int) (i : Int) = some (decC c v) := by
  induction d with
  | zero =>
    intro k i hi hk
    obtain ⟨k, rfl⟩ : ∃ m, k = m + 1 := ⟨k - 1, by omega⟩
    obtain rfl : i = v.length := by omega
    simp only [impl_lowered.l0]; rw [if_neg (by omega), List.take_length]
  | succ d ih =>
    intro k i hi hk
    obtain ⟨k, rfl⟩ : ∃ m, k = m + 1 := ⟨k - 1, by omega⟩
    simp only [impl_lowered.l0]
    have h1 : i < v.length := by omega
    rw [if_pos (by omega), if_pos (by omega), if_pos (by omega), rd_nat v i h1, elMinus_f _ _ ((fOk_iff _).1 (all_get hv i h1)) hc, Option.bind_some, if_pos (by rw [decC_length, List.length_take]; omega), w64 (by omega) (by omega), ← decC_snoc, ← List.take_succ_eq_append_getElem h1]
    exact ih k (i + 1) (by omega) (by omega)
theorem loweredC_f (k : Nat) (c : Int) (hc : 0 ≤ c ∧ c ≤ 30) (v : List Int) (hl : v.length ≤ 1000) (hv : v.all fOk = true) (hk : v.length < k) : impl_lowered.f k v c = some (decC c v) := by
  unfold impl_lowered.f
  rw [if_pos (by omega), if_pos (by omega)]
  exact loweredC_loop c hc v hl hv v.length k 0 (by omega) hk
theorem fieldDif_f (a b : Int) (ha : fOk a = true) (hb : fOk b = true) : spec_FieldDif.f a b = some ((a - b) % 31) := by
  unfold spec_FieldDif.f
  have h1 := (fOk_iff a).1 ha
  have h2 := (fOk_iff b).1 hb
  rw [fieldOk_f, Option.bind_some, if_pos ha, fieldOk_f, Option.bind_some, if_pos hb, w64 (a := a + 31) (by omega) (by omega), w64 (by omega) (by omega), Int.tmod_eq_emod_of_nonneg (by omega)]
  congr 1; omega
theorem rd_fOk {l : List Int} (h : l.all fOk = true) (i : Int) : 0 ≤ rd l i ∧ rd l i ≤ 30 := by
  unfold rd
  rw [List.getD_eq_getElem?_getD]
  rcases Nat.lt_or_ge i.toNat l.length with hi | hi
  · rw [List.getElem?_eq_getElem hi]; exact (fOk_iff _).1 (all_get h _ hi)
  · rw [List.getElem?_eq_none hi]; simp
theorem all_set {l : List Int} (h : l.all fOk = true) (i : Nat) (x : Int) (hx : fOk x = true) : (l.set i x).all fOk = true := by
  rw [List.all_eq_true] at h ⊢
  intro y hy
  rcases List.mem_or_eq_of_mem_set hy with hy | rfl
  · exact h y hy
  · exact hx
theorem zeros_all (n : Nat) : (List.replicate n (0 : Int)).all fOk = true := by
  rw [List.all_eq_true]; intro x hx; obtain ⟨_, rfl⟩ := List.mem_replicate.1 hx; rfl
theorem leO_le {α : Type} {f : Nat → Option α} (h : ∀ k, LeO (f k) (f (k + 1))) {k K : Nat} (hk : k ≤ K) {r : α} (hr : f k = some r) : f K = some r := by
  obtain ⟨d, rfl⟩ : ∃ d, K = k + d := ⟨K - k, by omega⟩
  clear hk
  induction d with
  | zero => exact hr
  | succ d ih => exact h _ _ ih
theorem implFieldOk_f (a : Int) : impl_FieldOk.f a = some (fOk a) := by unfold impl_FieldOk.f; rw [within_f]; rfl
theorem ahead_f (u : Int) (v : List Int) (h : v.length ≤ 1000) : impl_ahead.f u v = some (u :: v) := by
  unfold impl_ahead.f
  rw [Option.bind_some, if_pos (by simp; omega)]
  rfl
theorem iProofLen_f (kind : Int) : impl_ProofLen.f kind = some (if kOk kind = true then 3 * tLen kind + 3 else 0) := by
  have ht := tLen_le kind
  unfold impl_ProofLen.f impl_kindOk.f impl_TypeLen.f
  rw [Option.bind_some]
  split
  · rw [Option.bind_some, w64 (a := 3 * tLen kind) (by omega) (by omega), w64 (by omega) (by omega)]
  · rfl
theorem sizedN_f (kind : Int) (s : List Int) (n : Int) (hn : n ≤ 20) : impl_sized.f kind s n = some (kOk kind && decide ((s.length : Int) = n) && s.all fOk) := by
  unfold impl_sized.f impl_kindOk.f impl_elementsOk.f
  rw [Option.bind_some]
  cases h : kOk kind
  · rfl
  · rw [if_pos rfl]
    by_cases h3 : (s.length : Int) = n
    · rw [if_pos h3, Option.bind_some]
      have : (s.length : Int) ≤ 20 := by omega
      simp [h3, this]; omega
    · rw [if_neg h3]; simp [h3]
theorem proofLen_f (kind : Int) : spec_ProofLen.f kind = some (if kOk kind = true then 3 * tLen kind + 3 else 0) ∧ impl_ProofLen.f kind = some (if kOk kind = true then 3 * tLen kind + 3 else 0) := by
  have ht := tLen_le kind
  refine ⟨?_, iProofLen_f kind⟩
  unfold spec_ProofLen.f
  rw [l11Kind_f, Option.bind_some]
  split
  · rw [specTypeLen_f, Option.bind_some, w64 (a := 3 * tLen kind) (by omega) (by omega), w64 (by omega) (by omega)]
  · rfl
end Go.Proofs.YtlgbblaidohljaaGreatDoor.Q
