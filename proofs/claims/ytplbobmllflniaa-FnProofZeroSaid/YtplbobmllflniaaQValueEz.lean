/- Plain lemmas about the Lean functions of the program's printed text; each theorem states its own conditions. -/
import Derived.Test.YtplbobmllflniaaEz10
import Derived.Test.YtplbobmllflniaaEz2
import Derived.Test.YtplbobmllflniaaEz4
import Derived.Test.YtplbobmllflniaaQBaseEz
import Derived.Test.YtplbobmllflniaaQListEz
import Derived.Test.YtplbobmllflniaaQProofEz
import Derived.Test.YtplbobmllflniaaQShareEz
import Derived.Test.YtplbobmllflniaaQThroughEz
set_option linter.unusedVariables false
set_option linter.unusedSimpArgs false
namespace Go.Proofs.Ytplbobmllflniaa.Q
open Go.RowKit Go.Proofs.Ytplbobmllflniaa.Ez Go.Proofs.YtplbobmllflniaaW.PrintWords Go.Proofs.YtplbobmllflniaaW.PrintLast Go.Proofs.YtplbobmllflniaaW.PrintMore
/-! a polynomial's value: as the program reckons it (from behind, modulo 31), and over the whole numbers -/
def hv (x : Int) (l : List Int) : Int := l.foldr (fun c acc => (acc * x + c) % 31) 0
def pv (x : Int) (l : List Int) : Int := l.foldr (fun c acc => acc * x + c) 0
theorem hv_cons (x c : Int) (l : List Int) : hv x (c :: l) = (hv x l * x + c) % 31 := rfl
theorem pv_cons (x c : Int) (l : List Int) : pv x (c :: l) = pv x l * x + c := rfl
theorem hv_pv (x : Int) (l : List Int) : hv x l = pv x l % 31 := by
  induction l with
  | nil => rfl
  | cons c l ih => rw [hv_cons, pv_cons, ih, emod_mul]; omega
theorem hv_bd (x : Int) (l : List Int) : 0 ≤ hv x l ∧ hv x l ≤ 30 := by rw [hv_pv]; omega
theorem hStep_v (x acc c : Int) (hx : 0 ≤ x ∧ x ≤ 30) (ha : 0 ≤ acc ∧ acc ≤ 30) (hc : 0 ≤ c ∧ c ≤ 30) : hStep x acc c = (acc * x + c) % 31 := by
  unfold hStep
  rw [elTimes_f _ _ ha hx, Option.bind_some, elPlus_f _ _ (by omega) hc]
  show ((acc * x) % 31 + c) % 31 = _
  omega
theorem bwFold_hv (x : Int) (hx : 0 ≤ x ∧ x ≤ 30) (l : List Int) (hl : l.all fOk = true) (k : Nat) (hk : k ≤ l.length) : bwFold x (bwUpto (bwAt l) k) = hv x (l.drop (l.length - k)) := by
  induction k with
  | zero => rw [Nat.sub_zero, List.drop_length]; rfl
  | succ k ih =>
    have hi : l.length - (k + 1) < l.length := by omega
    rw [bwUpto_succ, bwFold_snoc, ih (by omega), List.drop_eq_getElem_cons hi, hv_cons, show l.length - (k + 1) + 1 = l.length - k by omega]
    have e : (bwAt l k).2 = l[l.length - (k + 1)] := by
      show rd l ((l.length : Int) - 1 - (k : Int)) = _
      rw [show (l.length : Int) - 1 - (k : Int) = ((l.length - (k + 1) : Nat) : Int) by omega, rd_nat l _ hi]
    rw [e, hStep_v x _ _ hx (hv_bd _ _) ((fOk_iff _).1 (all_get hl _ hi))]
theorem value_f (x : Int) (hx : 0 ≤ x ∧ x ≤ 30) (l : List Int) (hl : l.all fOk = true) (hn : l.length ≤ 1000000) : impl_value.f l x = some (hv x l) := by
  unfold impl_value.f
  rw [if_pos (by omega), bwFold_hv x hx l hl _ (Nat.le_refl _), Nat.sub_self]
  rfl
theorem pv_set (x : Int) (l : List Int) : ∀ (m : Nat) (v : Int), m < l.length → pv x (l.set m v) = pv x l + (v - rd l (m : Int)) * x ^ m := by
  induction l with
  | nil => intro m v h; simp at h
  | cons c l ih =>
    intro m v h
    cases m with
    | zero => show pv x (v :: l) = pv x (c :: l) + (v - c) * x ^ 0; rw [pv_cons, pv_cons]; simp; omega
    | succ m =>
      have h' : m < l.length := by simpa using h
      show pv x (c :: l.set m v) = pv x (c :: l) + (v - rd (c :: l) ((m + 1 : Nat) : Int)) * x ^ (m + 1)
      have e : rd (c :: l) ((m + 1 : Nat) : Int) = rd l (m : Int) := by rw [rd_nat _ _ h, rd_nat _ _ h']; rfl
      rw [pv_cons, pv_cons, ih m v h', e, Int.pow_succ]
      generalize x ^ m = X
      grind
theorem step31 (o a b : Int) : ∃ s, (o + (a * b) % 31) % 31 = o + a * b + 31 * s := ⟨-((a * b) / 31) - (o + (a * b) % 31) / 31, by
  have h1 := Int.emod_def (a * b) 31
  have h2 := Int.emod_def (o + (a * b) % 31) 31
  omega⟩
theorem pv_drop (x : Int) (l : List Int) (i : Nat) (h : i < l.length) : pv x (l.drop i) = pv x (l.drop (i + 1)) * x + rd l (i : Int) := by
  rw [List.drop_eq_getElem_cons h, pv_cons, rd_nat l i h]
theorem mul_pv (x : Int) (A B : List Int) (hA : A.all fOk = true) (hB : B.all fOk = true) (lA : A.length ≤ 1000) (lB : B.length ≤ 1000) (r : List Int) : ∀ k : Nat,
    (∀ (o : List Int) (i j : Nat), i < A.length → j ≤ B.length → o.all fOk = true → o.length + 1 = A.length + B.length → spec_l2Mul.l1 k A B o (i : Int) (j : Int) = some r → ∃ t, pv x r = pv x o + rd A (i : Int) * x ^ (i + j) * pv x (B.drop j) + x ^ (i + 1) * pv x (A.drop (i + 1)) * pv x B + 31 * t) ∧
    (∀ (o : List Int) (i : Nat), i ≤ A.length → o.all fOk = true → o.length + 1 = A.length + B.length → spec_l2Mul.l0 k A B o (i : Int) = some r → ∃ t, pv x r = pv x o + x ^ i * pv x (A.drop i) * pv x B + 31 * t) := by
  intro k
  induction k with
  | zero => exact ⟨fun _ _ _ _ _ _ _ h => by simp [spec_l2Mul.l1] at h, fun _ _ _ _ _ h => by simp [spec_l2Mul.l0] at h⟩
  | succ k ih =>
    refine ⟨fun o i j hi hj ho hl hr => ?_, fun o i hi ho hl hr => ?_⟩
    · simp only [spec_l2Mul.l1] at hr
      by_cases h : j < B.length
      · rw [if_pos (by omega), w64 (a := (i : Int) + j) (by omega) (by omega), if_pos (by omega), if_pos (by omega), if_pos (by omega), if_pos (by omega), if_pos (by omega), mulStep _ _ _ (rd_fOk ho _) (rd_fOk hA _) (rd_fOk hB _), w64 (a := (j : Int) + 1) (by omega) (by omega)] at hr
        obtain ⟨t, ht⟩ := ih.1 _ i (j + 1) hi (by omega) (all_set ho _ _ (fOk_mod _)) (by rw [List.length_set]; exact hl) hr
        obtain ⟨s, hs⟩ := step31 (rd o ((i : Int) + j)) (rd A (i : Int)) (rd B (j : Int))
        rw [show ((i : Int) + (j : Int)).toNat = i + j by omega, pv_set x o (i + j) _ (by omega), hs, show ((i + j : Nat) : Int) = (i : Int) + j by omega, show i + (j + 1) = (i + j) + 1 by omega, Int.pow_succ] at ht
        rw [pv_drop x B j h]
        refine ⟨t + s * x ^ (i + j), ?_⟩
        rw [ht]
        generalize x ^ (i + j) = X
        generalize x ^ (i + 1) = Y
        generalize pv x (B.drop (j + 1)) = Z
        generalize rd A (i : Int) = a
        generalize rd B (j : Int) = b
        generalize rd o ((i : Int) + j) = c
        generalize pv x o = d
        generalize pv x (A.drop (i + 1)) = e
        generalize pv x B = f
        clear ht hs hr ih
        grind
      · rw [if_neg (by omega), w64 (by omega) (by omega)] at hr
        obtain ⟨t, ht⟩ := ih.2 _ (i + 1) (by omega) ho hl hr
        obtain rfl : j = B.length := by omega
        refine ⟨t, ?_⟩
        rw [ht, List.drop_length]
        simp [pv]
    · simp only [spec_l2Mul.l0] at hr
      by_cases h : i < A.length
      · rw [if_pos (by omega)] at hr
        obtain ⟨t, ht⟩ := ih.1 _ i 0 h (by omega) ho hl hr
        refine ⟨t, ?_⟩
        rw [ht, pv_drop x A i h, List.drop_zero, Nat.add_zero, Int.pow_succ]
        generalize x ^ i = X
        generalize pv x (A.drop (i + 1)) = Z
        generalize rd A (i : Int) = a
        generalize pv x o = d
        generalize pv x B = f
        clear ht hr ih
        grind
      · rw [if_neg (by omega)] at hr
        obtain rfl := Option.some.inj hr
        obtain rfl : i = A.length := by omega
        refine ⟨0, ?_⟩
        rw [List.drop_length]
        simp [pv]
theorem pv_zeros (x : Int) (n : Nat) : pv x (List.replicate n 0) = 0 := by
  induction n with
  | zero => rfl
  | succ n ih => rw [List.replicate_succ, pv_cons, ih]; simp
/-- the product's value is the product of the values -/
theorem mul_hv (x : Int) (k : Nat) (A B r : List Int) (hA : A.all fOk = true) (hB : B.all fOk = true) (lA : A.length ≤ 1000) (lB : B.length ≤ 1000) (pA : 0 < A.length) (pB : 0 < B.length) (hr : spec_l2Mul.f k A B = some r) :
    hv x r = (hv x A * hv x B) % 31 := by
  unfold spec_l2Mul.f at hr
  rw [if_neg (by omega)] at hr
  have eb : ((B.length : Int) == 0) = false := by simp; intro h; rw [h] at pB; simp at pB
  rw [eb] at hr
  cases k with
  | zero => simp [spec_l2Mul.j0] at hr
  | succ k =>
    simp only [spec_l2Mul.j0] at hr
    rw [w64 (a := (A.length : Int) + B.length) (by omega) (by omega), w64 (by omega) (by omega), if_neg (by simp), if_pos (by omega), if_pos (by omega)] at hr
    have hl : (List.replicate ((A.length : Int) + B.length - 1).toNat (0 : Int)).length + 1 = A.length + B.length := by rw [List.length_replicate]; omega
    obtain ⟨t, ht⟩ := (mul_pv x A B hA hB lA lB r k).2 _ 0 (by omega) (zeros_all _) hl hr
    rw [pv_zeros, List.drop_zero, Int.pow_zero, Int.one_mul] at ht
    rw [hv_pv, hv_pv, hv_pv, ht]
    have e : (pv x A % 31 * (pv x B % 31)) % 31 = (pv x A * pv x B) % 31 := (Int.mul_emod _ _ _).symm
    rw [e]
    omega
/-! the value of the polynomial through values -/
def hvL (x : Int) (F : List LF) : LF := F.foldr (fun c acc => LF.add (LF.mul acc x) c) LF.zero
theorem hv_map (y : LF) (x : Int) (F : List LF) : hv x (F.map (LF.ev y)) = LF.ev y (hvL x F) := by
  induction F with
  | nil => exact (LF.ev_zero y).symm
  | cons c F ih =>
    show (hv x (F.map (LF.ev y)) * x + LF.ev y c) % 31 = LF.ev y (LF.add (LF.mul (hvL x F) x) c)
    rw [ih, LF.ev_add, LF.ev_mul]
    omega

end Go.Proofs.Ytplbobmllflniaa.Q
