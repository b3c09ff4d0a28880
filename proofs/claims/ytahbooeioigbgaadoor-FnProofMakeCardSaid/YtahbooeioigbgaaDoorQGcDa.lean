import Derived.Test.YtahbooeioigbgaaDoorDa29
import Derived.Test.YtahbooeioigbgaaDoorDa3
import Derived.Test.YtahbooeioigbgaaDoorDa4
import Derived.Test.YtahbooeioigbgaaDoorDa6
import Derived.Test.YtahbooeioigbgaaDoorDa7
import Derived.Test.YtahbooeioigbgaaDoorDa8
import Derived.Test.YtahbooeioigbgaaDoorQGaDa
import Derived.Test.YtahbooeioigbgaaDoorQGbDa
import Derived.Test.YtahbooeioigbgaaDoorQGsDa
set_option linter.unusedVariables false
set_option linter.unusedSimpArgs false
namespace Go.Proofs.YtahbooeioigbgaaDoor.Q
open Go.RowKit Go.Proofs.YtahbooeioigbgaaDoor.Da Go.Proofs.YtahbooeioigbgaaDoorW.PrintWords Go.Proofs.YtahbooeioigbgaaDoorW.PrintLast Go.Proofs.YtahbooeioigbgaaDoorW.PrintMore
def hv (x : Int) (l : List Int) : Int := l.foldr (fun c acc => (acc * x + c) % 31) 0
def pv (x : Int) (l : List Int) : Int := l.foldr (fun c acc => acc * x + c) 0
theorem hv_cons (x c : Int) (l : List Int) : hv x (c :: l) = (hv x l * x + c) % 31 := rfl
theorem pv_cons (x c : Int) (l : List Int) : pv x (c :: l) = pv x l * x + c := rfl
theorem hv_pv (x : Int) (l : List Int) : hv x l = pv x l % 31 := by
  induction l with
  | nil => rfl
  | cons c l ih => rw [hv_cons, pv_cons, ih, emod_mul]; omega
theorem hv_bd (x : Int) (l : List Int) : 0 ≤ hv x l ∧ hv x l ≤ 30 := by rw [hv_pv]; omega
theorem hStep_v (x acc c : Int) (hx : 0 ≤ x ∧ x ≤ 30) (ha : 0 ≤ acc ∧ acc ≤ 30) (hc : 0 ≤ c ∧ c ≤ 30) : hStep x acc c = (acc * x + c) % 31 := by
  unfold hStep
  rw [elTimes_f _ _ ha hx, Option.bind_some, elPlus_f _ _ (by omega) hc]
  show ((acc * x) % 31 + c) % 31 = _
  omega
theorem bwFold_hv (x : Int) (hx : 0 ≤ x ∧ x ≤ 30) (l : List Int) (hl : l.all fOk = true) (k : Nat) (hk : k ≤ l.length) : bwFold x (bwUpto (bwAt l) k) = hv x (l.drop (l.length - k)) := by
  induction k with
  | zero => rw [Nat.sub_zero, List.drop_length]; rfl
  | succ k ih =>
    have hi : l.length - (k + 1) < l.length := by omega
    rw [bwUpto_succ, bwFold_snoc, ih (by omega), List.drop_eq_getElem_cons hi, hv_cons, show l.length - (k + 1) + 1 = l.length - k by omega]
    have e : (bwAt l k).2 = l[l.length - (k + 1)] := by
      show rd l ((l.length : Int) - 1 - (k : Int)) = _
      rw [show (l.length : Int) - 1 - (k : Int) = ((l.length - (k + 1) : Nat) : Int) by omega, rd_nat l _ hi]
    rw [e, hStep_v x _ _ hx (hv_bd _ _) ((fOk_iff _).1 (all_get hl _ hi))]
theorem value_f (x : Int) (hx : 0 ≤ x ∧ x ≤ 30) (l : List Int) (hl : l.all fOk = true) (hn : l.length ≤ 1000000) : impl_value.f l x = some (hv x l) := by
  unfold impl_value.f
  rw [if_pos (by omega), bwFold_hv x hx l hl _ (Nat.le_refl _), Nat.sub_self]
  rfl
def hvL (x : Int) (F : List LF) : LF := F.foldr (fun c acc => LF.add (LF.mul acc x) c) LF.zero
theorem hv_map (y : LF) (x : Int) (F : List LF) : hv x (F.map (LF.ev y)) = LF.ev y (hvL x F) := by
  induction F with
  | nil => exact (LF.ev_zero y).symm
  | cons c F ih =>
    show (hv x (F.map (LF.ev y)) * x + LF.ev y c) % 31 = LF.ev y (LF.add (LF.mul (hvL x F) x) c)
    rw [ih, LF.ev_add, LF.ev_mul]
    omega
theorem pv_set (x : Int) (l : List Int) : ∀ (m : Nat) (v : Int), m < l.length → pv x (l.set m v) = pv x l + (v - rd l (m : Int)) * x ^ m := by
  induction l with
  | nil => intro m v h; simp at h
  | cons c l ih =>
    intro m v h
    cases m with
    | zero => show pv x (v :: l) = pv x (c :: l) + (v - c) * x ^ 0; rw [pv_cons, pv_cons]; simp; omega
    | succ m =>
      have h' : m < l.length := by simpa using h
      show pv x (c :: l.set m v) = pv x (c :: l) + (v - rd (c :: l) ((m + 1 : Nat) : Int)) * x ^ (m + 1)
      have e : rd (c :: l) ((m + 1 : Nat) : Int) = rd l (m : Int) := by rw [rd_nat _ _ h, rd_nat _ _ h']; rfl
      rw [pv_cons, pv_cons, ih m v h', e, Int.pow_succ]
      generalize x ^ m = X
      grind
theorem step31 (o a b : Int) : ∃ s, (o + (a * b) % 31) % 31 = o + a * b + 31 * s := ⟨-((a * b) / 31) - (o + (a * b) % 31) / 31, by
  have h1 := Int.emod_def (a * b) 31
  have h2 := Int.emod_def (o + (a * b) % 31) 31
  omega⟩
theorem pv_drop (x : Int) (l : List Int) (i : Nat) (h : i < l.length) : pv x (l.drop i) = pv x (l.drop (i + 1)) * x + rd l (i : Int) := by
  rw [List.drop_eq_getElem_cons h, pv_cons, rd_nat l i h]
theorem mul_pv (x : Int) (A B : List Int) (hA : A.all fOk = true) (hB : B.all fOk = true) (lA : A.length ≤ 1000) (lB : B.length ≤ 1000) (r : List Int) : ∀ k : Nat,
    (∀ (o : List Int) (i j : Nat), i < A.length → j ≤ B.length → o.all fOk = true → o.length + 1 = A.length + B.length → spec_l2Mul.l1 k A B o (i : Int) (j : Int) = some r → ∃ t, pv x r = pv x o + rd A (i : Int) * x ^ (i + j) * pv x (B.drop j) + x ^ (i + 1) * pv x (A.drop (i + 1)) * pv x B + 31 * t) ∧
    (∀ (o : List Int) (i : Nat), i ≤ A.length → o.all fOk = true → o.length + 1 = A.length + B.length → spec_l2Mul.l0 k A B o (i : Int) = some r → ∃ t, pv x r = pv x o + x ^ i * pv x (A.drop i) * pv x B + 31 * t) := by
  intro k
  induction k with
  | zero => exact ⟨fun _ _ _ _ _ _ _ h => by simp [spec_l2Mul.l1] at h, fun _ _ _ _ _ h => by simp [spec_l2Mul.l0] at h⟩
  | succ k ih =>
    refine ⟨fun o i j hi hj ho hl hr => ?_, fun o i hi ho hl hr => ?_⟩
    · simp only [spec_l2Mul.l1] at hr
      by_cases h : j < B.length
      · rw [if_pos (by omega), w64 (a := (i : Int) + j) (by omega) (by omega), if_pos (by omega), if_pos (by omega), if_pos (by omega), if_pos (by omega), if_pos (by omega), mulStep _ _ _ (rd_fOk ho _) (rd_fOk hA _) (rd_fOk hB _), w64 (a := (j : Int) + 1) (by omega) (by omega)] at hr
        obtain ⟨t, ht⟩ := ih.1 _ i (j + 1) hi (by omega) (all_set ho _ _ (fOk_mod _)) (by rw [List.length_set]; exact hl) hr
        obtain ⟨s, hs⟩ := step31 (rd o ((i : Int) + j)) (rd A (i : Int)) (rd B (j : Int))
        rw [show ((i : Int) + (j : Int)).toNat = i + j by omega, pv_set x o (i + j) _ (by omega), hs, show ((i + j : Nat) : Int) = (i : Int) + j by omega, show i + (j + 1) = (i + j) + 1 by omega, Int.pow_succ] at ht
        rw [pv_drop x B j h]
        refine ⟨t + s * x ^ (i + j), ?_⟩
        rw [ht]
        generalize x ^ (i + j) = X
        generalize x ^ (i + 1) = Y
        generalize pv x (B.drop (j + 1)) = Z
        generalize rd A (i : Int) = a
        generalize rd B (j : Int) = b
        generalize rd o ((i : Int) + j) = c
        generalize pv x o = d
        generalize pv x (A.drop (i + 1)) = e
        generalize pv x B = f
        clear ht hs hr ih
        grind
      · rw [if_neg (by omega), w64 (by omega) (by omega)] at hr
        obtain ⟨t, ht⟩ := ih.2 _ (i + 1) (by omega) ho hl hr
        obtain rfl : j = B.length := by omega
        refine ⟨t, ?_⟩
        rw [ht, List.drop_length]
        simp [pv]
    · simp only [spec_l2Mul.l0] at hr
      by_cases h : i < A.length
      · rw [if_pos (by omega)] at hr
        obtain ⟨t, ht⟩ := ih.1 _ i 0 h (by omega) ho hl hr
        refine ⟨t, ?_⟩
        rw [ht, pv_drop x A i h, List.drop_zero, Nat.add_zero, Int.pow_succ]
        generalize x ^ i = X
        generalize pv x (A.drop (i + 1)) = Z
        generalize rd A (i : Int) = a
        generalize pv x o = d
        generalize pv x B = f
        clear ht hr ih
        grind
      · rw [if_neg (by omega)] at hr
        obtain rfl := Option.some.inj hr
        obtain rfl : i = A.length := by omega
        refine ⟨0, ?_⟩
        rw [List.drop_length]
        simp [pv]
theorem pv_zeros (x : Int) (n : Nat) : pv x (List.replicate n 0) = 0 := by
  induction n with
  | zero => rfl
  | succ n ih => rw [List.replicate_succ, pv_cons, ih]; simp
theorem mul_hv (x : Int) (k : Nat) (A B r : List Int) (hA : A.all fOk = true) (hB : B.all fOk = true) (lA : A.length ≤ 1000) (lB : B.length ≤ 1000) (pA : 0 < A.length) (pB : 0 < B.length) (hr : spec_l2Mul.f k A B = some r) :
    hv x r = (hv x A * hv x B) % 31 := by
  unfold spec_l2Mul.f at hr
  rw [if_neg (by omega)] at hr
  have eb : ((B.length : Int) == 0) = false := by simp; intro h; rw [h] at pB; simp at pB
  rw [eb] at hr
  cases k with
  | zero => simp [spec_l2Mul.j0] at hr
  | succ k =>
    simp only [spec_l2Mul.j0] at hr
    rw [w64 (a := (A.length : Int) + B.length) (by omega) (by omega), w64 (by omega) (by omega), if_neg (by simp), if_pos (by omega), if_pos (by omega)] at hr
    have hl : (List.replicate ((A.length : Int) + B.length - 1).toNat (0 : Int)).length + 1 = A.length + B.length := by rw [List.length_replicate]; omega
    obtain ⟨t, ht⟩ := (mul_pv x A B hA hB lA lB r k).2 _ 0 (by omega) (zeros_all _) hl hr
    rw [pv_zeros, List.drop_zero, Int.pow_zero, Int.one_mul] at ht
    rw [hv_pv, hv_pv, hv_pv, ht]
    have e : (pv x A % 31 * (pv x B % 31)) % 31 = (pv x A * pv x B) % 31 := (Int.mul_emod _ _ _).symm
    rw [e]
    omega
theorem throughVal2 (a b : Int) (ha : 0 ≤ a ∧ a ≤ 30) (hb : 0 ≤ b ∧ b ≤ 30) : ∃ f, impl_through.f [a, b] = some f ∧ ∀ i : Nat, i < 2 → hv (i : Int) f = rd [a, b] (i : Int) := by
  refine ⟨_, through_map ⟨a, b, 0, 0, 0⟩ _ 2 rfl (by omega) (by omega) (fill2 a b ha hb), ?_⟩
  intro i hi
  rw [hv_map]
  rcases (show i = 0 ∨ i = 1 by omega) with rfl | rfl
  · rw [show hvL ((0 : Nat) : Int) (thrL 2) = ⟨1, 0, 0, 0, 0⟩ by decide +kernel]
    show LF.ev ⟨a, b, 0, 0, 0⟩ _ = a
    simp only [LF.ev, LF.raw]; omega
  · rw [show hvL ((1 : Nat) : Int) (thrL 2) = ⟨0, 1, 0, 0, 0⟩ by decide +kernel]
    show LF.ev ⟨a, b, 0, 0, 0⟩ _ = b
    simp only [LF.ev, LF.raw]; omega
theorem throughVal4 (a b c d : Int) (ha : 0 ≤ a ∧ a ≤ 30) (hb : 0 ≤ b ∧ b ≤ 30) (hc : 0 ≤ c ∧ c ≤ 30) (hd : 0 ≤ d ∧ d ≤ 30) : ∃ f, impl_through.f [a, b, c, d] = some f ∧ ∀ i : Nat, i < 4 → hv (i : Int) f = rd [a, b, c, d] (i : Int) := by
  refine ⟨_, through_map ⟨a, b, c, d, 0⟩ _ 4 rfl (by omega) (by omega) (fill4 a b c d ha hb hc hd), ?_⟩
  intro i hi
  rw [hv_map]
  rcases (show i = 0 ∨ i = 1 ∨ i = 2 ∨ i = 3 by omega) with rfl | rfl | rfl | rfl
  · rw [show hvL ((0 : Nat) : Int) (thrL 4) = ⟨1, 0, 0, 0, 0⟩ by decide +kernel]
    show LF.ev ⟨a, b, c, d, 0⟩ _ = a
    simp only [LF.ev, LF.raw]; omega
  · rw [show hvL ((1 : Nat) : Int) (thrL 4) = ⟨0, 1, 0, 0, 0⟩ by decide +kernel]
    show LF.ev ⟨a, b, c, d, 0⟩ _ = b
    simp only [LF.ev, LF.raw]; omega
  · rw [show hvL ((2 : Nat) : Int) (thrL 4) = ⟨0, 0, 1, 0, 0⟩ by decide +kernel]
    show LF.ev ⟨a, b, c, d, 0⟩ _ = c
    simp only [LF.ev, LF.raw]; omega
  · rw [show hvL ((3 : Nat) : Int) (thrL 4) = ⟨0, 0, 0, 1, 0⟩ by decide +kernel]
    show LF.ev ⟨a, b, c, d, 0⟩ _ = d
    simp only [LF.ev, LF.raw]; omega
theorem throughVal5 (a b c d e : Int) (ha : 0 ≤ a ∧ a ≤ 30) (hb : 0 ≤ b ∧ b ≤ 30) (hc : 0 ≤ c ∧ c ≤ 30) (hd : 0 ≤ d ∧ d ≤ 30) (he : 0 ≤ e ∧ e ≤ 30) : ∃ f, impl_through.f [a, b, c, d, e] = some f ∧ ∀ i : Nat, i < 5 → hv (i : Int) f = rd [a, b, c, d, e] (i : Int) := by
  refine ⟨_, through_map ⟨a, b, c, d, e⟩ _ 5 rfl (by omega) (by omega) (fill5 a b c d e ha hb hc hd he), ?_⟩
  intro i hi
  rw [hv_map]
  rcases (show i = 0 ∨ i = 1 ∨ i = 2 ∨ i = 3 ∨ i = 4 by omega) with rfl | rfl | rfl | rfl | rfl
  · rw [show hvL ((0 : Nat) : Int) (thrL 5) = ⟨1, 0, 0, 0, 0⟩ by decide +kernel]
    show LF.ev ⟨a, b, c, d, e⟩ _ = a
    simp only [LF.ev, LF.raw]; omega
  · rw [show hvL ((1 : Nat) : Int) (thrL 5) = ⟨0, 1, 0, 0, 0⟩ by decide +kernel]
    show LF.ev ⟨a, b, c, d, e⟩ _ = b
    simp only [LF.ev, LF.raw]; omega
  · rw [show hvL ((2 : Nat) : Int) (thrL 5) = ⟨0, 0, 1, 0, 0⟩ by decide +kernel]
    show LF.ev ⟨a, b, c, d, e⟩ _ = c
    simp only [LF.ev, LF.raw]; omega
  · rw [show hvL ((3 : Nat) : Int) (thrL 5) = ⟨0, 0, 0, 1, 0⟩ by decide +kernel]
    show LF.ev ⟨a, b, c, d, e⟩ _ = d
    simp only [LF.ev, LF.raw]; omega
  · rw [show hvL ((4 : Nat) : Int) (thrL 5) = ⟨0, 0, 0, 0, 1⟩ by decide +kernel]
    show LF.ev ⟨a, b, c, d, e⟩ _ = e
    simp only [LF.ev, LF.raw]; omega
theorem through_val (n : Nat) (hn : n = 2 ∨ n = 4 ∨ n = 5) (A : List Int) (lA : A.length = n) (hA : A.all fOk = true) (f : List Int) (hf : impl_through.f A = some f) : ∀ i : Nat, i < n → hv (i : Int) f = rd A (i : Int) := by
  rcases hn with rfl | rfl | rfl
  · obtain ⟨a, b, rfl⟩ := list2 A lA
    simp only [List.all_cons, List.all_nil, Bool.and_true, Bool.and_eq_true, fOk_iff] at hA
    obtain ⟨g, h1, h2⟩ := throughVal2 a b hA.1 hA.2
    rw [h1] at hf; obtain rfl := Option.some.inj hf; exact h2
  · obtain ⟨a, b, c, d, rfl⟩ := list4' A lA
    simp only [List.all_cons, List.all_nil, Bool.and_true, Bool.and_eq_true, fOk_iff] at hA
    obtain ⟨g, h1, h2⟩ := throughVal4 a b c d hA.1 hA.2.1 hA.2.2.1 hA.2.2.2
    rw [h1] at hf; obtain rfl := Option.some.inj hf; exact h2
  · obtain ⟨a, b, c, d, e, rfl⟩ := list5 A lA
    simp only [List.all_cons, List.all_nil, Bool.and_true, Bool.and_eq_true, fOk_iff] at hA
    obtain ⟨g, h1, h2⟩ := throughVal5 a b c d e hA.1 hA.2.1 hA.2.2.1 hA.2.2.2.1 hA.2.2.2.2
    rw [h1] at hf; obtain rfl := Option.some.inj hf; exact h2
def decC (c : Int) (v : List Int) : List Int := v.map fun x => (x - c) % 31
theorem decC_length (c : Int) (v : List Int) : (decC c v).length = v.length := by simp [decC]
theorem decC_all (c : Int) (v : List Int) : (decC c v).all fOk = true := by
  rw [List.all_eq_true]
  intro x hx
  obtain ⟨y, _, rfl⟩ := List.mem_map.1 hx
  exact fOk_mod _
theorem make_val (K : Nat) (hK : 100 ≤ K) (kind : Int) (v : List Int) (u w : Int) (hk : kOk kind = true) (lv : (v.length : Int) = tLen kind) (hV : v.all fOk = true) (hu : fOk u = true) (hw : fOk w = true) :
    ∃ f g h : List Int, impl_through.f (u :: v) = some f ∧ impl_through.f (w :: decC 1 v) = some g ∧ impl_ProofMake.f K kind v u w = some (u, w, h, true) ∧ spec_l12Make.f K v u w = some (u, w, h) ∧ h.all fOk = true ∧ h.length = 2 * v.length + 1 ∧ (∀ x : Int, hv x h = (hv x f * hv x g) % 31) ∧
      f.length = v.length + 1 ∧ g.length = v.length + 1 ∧ f.all fOk = true ∧ g.all fOk = true := by
  obtain ⟨K, rfl⟩ : ∃ j, K = j + 1 := ⟨K - 1, by omega⟩
  have hn : v.length + 1 = 2 ∨ v.length + 1 = 4 ∨ v.length + 1 = 5 := by
    rcases tLen_cases hk with ⟨_, e⟩ | ⟨_, e⟩ | ⟨_, e⟩ <;> omega
  obtain ⟨f, g, h, a1, a2, a3, a4, a5, a6, a7, a8, a9, a10, a11⟩ := make_both K (by omega) v u w (v.length + 1) hn rfl hV hu hw
  obtain ⟨h', h1⟩ := mul_ex (v.length + 1) hn f g a8 a9
  have h1K : spec_l2Mul.f K f g = some h' := leO_le (fun k => spec_l2Mul.mono _ _ k) (by omega) h1
  obtain ⟨p1, p2, p3⟩ := mul_f K f g h' a10 a11 (by omega) (by omega) (by omega) (by omega) h1K
  obtain rfl : h = h' := by rw [a3] at p1; exact Option.some.inj p1
  have hM : spec_l12Make.f (K + 1) v u w = some (u, w, h) := spec_l12Make.mono _ _ _ K _ a4
  refine ⟨f, g, h, a1, a2, ?_, hM, a6, by omega, fun x => mul_hv x 90 f g h a10 a11 (by omega) (by omega) (by omega) (by omega) h1, a8, a9, a10, a11⟩
  have hvec : vecOk kind v = true := by unfold vecOk; rw [hk, hV, decide_eq_true lv]; rfl
  unfold impl_ProofMake.f impl_TypeLen.f
  rw [Option.bind_some, sized_f, Option.bind_some, hvec, if_pos rfl, implFieldOk_f, Option.bind_some, hu, if_pos rfl, implFieldOk_f, Option.bind_some, hw]
  exact a5
theorem iMul (a b : Int) (ha : fOk a = true) (hb : fOk b = true) : impl_FieldMul.f a b = some ((a * b) % 31) := by
  unfold impl_FieldMul.f
  rw [implFieldOk_f, Option.bind_some, if_pos ha, implFieldOk_f, Option.bind_some, if_pos hb, elTimes_f _ _ ((fOk_iff _).1 ha) ((fOk_iff _).1 hb)]; rfl
theorem polyOk_f (l : List Int) : impl_PolyOk.f l = some (decide ((l.length : Int) ≤ 9) && l.all fOk) := by
  unfold impl_PolyOk.f impl_elementsOk.f; rfl
theorem polyAt_f (l : List Int) (a : Int) (hl : l.length ≤ 9) (hA : l.all fOk = true) (ha : 0 ≤ a ∧ a ≤ 30) : impl_PolyAt.f l a = some (hv a l) := by
  unfold impl_PolyAt.f
  rw [polyOk_f, Option.bind_some, hA, if_pos (by simp; omega), implFieldOk_f, Option.bind_some, if_pos ((fOk_iff a).2 ha), value_f a ha l hA (by omega)]; rfl
end Go.Proofs.YtahbooeioigbgaaDoor.Q
