import Derived.KernelRfl
import Derived.Test.YtlgbblaidohljaaGreatDoorQAsk3Zc
import Derived.Test.YtlgbblaidohljaaGreatDoorQGaZc
import Derived.Test.YtlgbblaidohljaaGreatDoorQGbZc
import Derived.Test.YtlgbblaidohljaaGreatDoorQGcZc
import Derived.Test.YtlgbblaidohljaaGreatDoorQGdZc
import Derived.Test.YtlgbblaidohljaaGreatDoorZc1
import Derived.Test.YtlgbblaidohljaaGreatDoorZc10
import Derived.Test.YtlgbblaidohljaaGreatDoorZc11
import Derived.Test.YtlgbblaidohljaaGreatDoorZc13
import Derived.Test.YtlgbblaidohljaaGreatDoorZc15
import Derived.Test.YtlgbblaidohljaaGreatDoorZc3
import Derived.Test.YtlgbblaidohljaaGreatDoorZc31
import Derived.Test.YtlgbblaidohljaaGreatDoorZc4
import Derived.Test.YtlgbblaidohljaaGreatDoorZc5
import Derived.Test.YtlgbblaidohljaaGreatDoorZc7
set_option linter.unusedVariables false
set_option linter.unusedSimpArgs false
namespace Go.Proofs.YtlgbblaidohljaaGreatDoor.Q
open Go.RowKit Go.Proofs.YtlgbblaidohljaaGreatDoor.Zc Go.Proofs.YtlgbblaidohljaaGreatDoorU.PrintWords Go.Proofs.YtlgbblaidohljaaGreatDoorU.PrintLast Go.Proofs.YtlgbblaidohljaaGreatDoorU.PrintMore
theorem iSum (a b : Int) (ha : fOk a = true) (hb : fOk b = true) : impl_FieldSum.f a b = some ((a + b) % 31) := by
  unfold impl_FieldSum.f
  rw [implFieldOk_f, Option.bind_some, if_pos ha, implFieldOk_f, Option.bind_some, if_pos hb, elPlus_f _ _ ((fOk_iff _).1 ha) ((fOk_iff _).1 hb)]; rfl
theorem lowered_loop (v : List Int) (hl : v.length ≤ 1000) (hV : v.all fOk = true) (d : Nat) : ∀ (k i : Nat), i + d = v.length → d < k → impl_lowered.l0 k 1 (dec1 (v.take i)) v (v.length : Int) (i : Int) = some (dec1 v) := by
  induction d with
  | zero =>
    intro k i hi hk
    obtain ⟨k, rfl⟩ : ∃ j, k = j + 1 := ⟨k - 1, by omega⟩
    simp only [impl_lowered.l0]
    rw [if_neg (by omega)]
    obtain rfl : i = v.length := by omega
    rw [List.take_length]
  | succ d ih =>
    intro k i hi hk
    obtain ⟨k, rfl⟩ : ∃ j, k = j + 1 := ⟨k - 1, by omega⟩
    simp only [impl_lowered.l0]
    have h1 : i < v.length := by omega
    rw [if_pos (by omega), if_pos (by omega), if_pos (by omega), rd_nat v i h1, elMinus_f _ 1 ((fOk_iff _).1 (all_get hV i h1)) (by omega), Option.bind_some, if_pos (by simp [dec1]; omega), w64 (by omega) (by omega)]
    have := ih k (i + 1) (by omega) (by omega)
    rw [List.take_succ_eq_append_getElem h1, dec1_snoc] at this
    exact this
theorem lowered_f (k : Nat) (v : List Int) (hl : v.length ≤ 1000) (hV : v.all fOk = true) (hk : v.length < k) : impl_lowered.f k v 1 = some (dec1 v) := by
  unfold impl_lowered.f
  rw [if_pos (by omega), if_pos (by omega)]
  have := lowered_loop v hl hV v.length k 0 (by omega) hk
  simpa [dec1] using this
theorem mulStep (o a b : Int) (ho : 0 ≤ o ∧ o ≤ 30) (ha : 0 ≤ a ∧ a ≤ 30) (hb : 0 ≤ b ∧ b ≤ 30) : Int.tmod (wrap64 (o + wrap64 (a * b))) 31 = (o + (a * b) % 31) % 31 := by
  have := mul_bd' ha hb
  rw [w64 (a := a * b) (by omega) (by omega), w64 (by omega) (by omega), Int.tmod_eq_emod_of_nonneg (by omega)]
  omega
theorem mul_both (A B : List Int) (hA : A.all fOk = true) (hB : B.all fOk = true) (lA : A.length ≤ 1000) (lB : B.length ≤ 1000) : ∀ k : Nat,
    (∀ (o : List Int) (i j : Int), 0 ≤ i → i < A.length → 0 ≤ j → o.all fOk = true → o.length + 1 = A.length + B.length → spec_l2Mul.l1 k A B o i j = impl_product.l1 k B o i (rd A i) A A.length i B B.length j) ∧
    (∀ (o : List Int) (i : Int), 0 ≤ i → o.all fOk = true → o.length + 1 = A.length + B.length → spec_l2Mul.l0 k A B o i = impl_product.l0 k B o A A.length i) := by
  intro k
  induction k with
  | zero => exact ⟨fun _ _ _ _ _ _ _ _ => rfl, fun _ _ _ _ _ => rfl⟩
  | succ k ih =>
    refine ⟨fun o i j hi hi2 hj ho hl => ?_, fun o i hi ho hl => ?_⟩
    · simp only [spec_l2Mul.l1, impl_product.l1]
      by_cases h : j < (B.length : Int)
      · rw [if_pos h, if_pos h, w64 (a := i + j) (by omega) (by omega), if_pos (by omega), if_pos (by omega), if_pos hi, if_pos hi2, if_pos hj, if_pos hj, if_pos h, if_pos (by omega), if_pos (by omega),
          mulStep _ _ _ (rd_fOk ho _) (rd_fOk hA _) (rd_fOk hB _), elTimes_f _ _ (rd_fOk hA _) (rd_fOk hB _), Option.bind_some, elPlus_f _ _ (rd_fOk ho _) (by omega), Option.bind_some, w64 (a := j + 1) (by omega) (by omega)]
        exact ih.1 _ _ _ hi hi2 (by omega) (all_set ho _ _ (fOk_mod _)) (by rw [List.length_set]; exact hl)
      · rw [if_neg h, if_neg h, w64 (by omega) (by omega)]
        exact ih.2 _ _ (by omega) ho hl
    · simp only [spec_l2Mul.l0, impl_product.l0]
      by_cases h : i < (A.length : Int)
      · rw [if_pos h, if_pos h, if_pos hi, if_pos h]
        exact ih.1 _ _ _ hi h (by omega) ho hl
      · rw [if_neg h, if_neg h]
theorem mul_inv (A B : List Int) (hA : A.all fOk = true) (hB : B.all fOk = true) (lA : A.length ≤ 1000) (lB : B.length ≤ 1000) (r : List Int) : ∀ k : Nat,
    (∀ (o : List Int) (i j : Int), 0 ≤ i → i < A.length → 0 ≤ j → o.all fOk = true → o.length + 1 = A.length + B.length → spec_l2Mul.l1 k A B o i j = some r → r.all fOk = true ∧ r.length = o.length) ∧
    (∀ (o : List Int) (i : Int), 0 ≤ i → o.all fOk = true → o.length + 1 = A.length + B.length → spec_l2Mul.l0 k A B o i = some r → r.all fOk = true ∧ r.length = o.length) := by
  intro k
  induction k with
  | zero => exact ⟨fun _ _ _ _ _ _ _ _ h => by simp [spec_l2Mul.l1] at h, fun _ _ _ _ _ h => by simp [spec_l2Mul.l0] at h⟩
  | succ k ih =>
    refine ⟨fun o i j hi hi2 hj ho hl hr => ?_, fun o i hi ho hl hr => ?_⟩
    · simp only [spec_l2Mul.l1] at hr
      by_cases h : j < (B.length : Int)
      · rw [if_pos h, w64 (a := i + j) (by omega) (by omega), if_pos (by omega), if_pos (by omega), if_pos hi, if_pos hi2, if_pos hj, mulStep _ _ _ (rd_fOk ho _) (rd_fOk hA _) (rd_fOk hB _), w64 (a := j + 1) (by omega) (by omega)] at hr
        have := ih.1 _ _ _ hi hi2 (by omega) (all_set ho _ _ (fOk_mod _)) (by rw [List.length_set]; exact hl) hr
        rw [List.length_set] at this
        exact this
      · rw [if_neg h, w64 (by omega) (by omega)] at hr
        exact ih.2 _ _ (by omega) ho hl hr
    · simp only [spec_l2Mul.l0] at hr
      by_cases h : i < (A.length : Int)
      · rw [if_pos h] at hr
        exact ih.1 _ _ _ hi h (by omega) ho hl hr
      · rw [if_neg h] at hr
        obtain rfl := Option.some.inj hr
        exact ⟨ho, rfl⟩
theorem mul_f (k : Nat) (A B r : List Int) (hA : A.all fOk = true) (hB : B.all fOk = true) (lA : A.length ≤ 1000) (lB : B.length ≤ 1000) (pA : 0 < A.length) (pB : 0 < B.length) (hr : spec_l2Mul.f k A B = some r) :
    impl_product.f k A B = some r ∧ r.all fOk = true ∧ r.length + 1 = A.length + B.length := by
  unfold spec_l2Mul.f at hr
  unfold impl_product.f
  rw [if_neg (by omega)] at hr ⊢
  have eb : ((B.length : Int) == 0) = false := by simp; intro h; rw [h] at pB; simp at pB
  rw [eb] at hr ⊢
  cases k with
  | zero => simp [spec_l2Mul.j0] at hr
  | succ k =>
    simp only [spec_l2Mul.j0, impl_product.j0] at hr ⊢
    rw [w64 (a := (A.length : Int) + B.length) (by omega) (by omega), w64 (by omega) (by omega), if_neg (by simp), if_pos (by omega), if_pos (by omega)] at hr ⊢
    have hl : (List.replicate ((A.length : Int) + B.length - 1).toNat (0 : Int)).length + 1 = A.length + B.length := by rw [List.length_replicate]; omega
    have h1 := (mul_both A B hA hB lA lB k).2 _ 0 (by omega) (zeros_all _) hl
    have h2 := (mul_inv A B hA hB lA lB r k).2 _ 0 (by omega) (zeros_all _) hl hr
    exact ⟨h1 ▸ hr, h2.1, by omega⟩
theorem pv_set (x : Int) (l : List Int) : ∀ (m : Nat) (v : Int), m < l.length → pv x (l.set m v) = pv x l + (v - rd l (m : Int)) * x ^ m := by
  induction l with
  | nil => intro m v h; simp at h
  | cons c l ih =>
    intro m v h
    cases m with
    | zero => show pv x (v :: l) = pv x (c :: l) + (v - c) * x ^ 0; rw [pv_cons, pv_cons]; simp; omega
    | succ m =>
      have h' : m < l.length := by simpa using h
      show pv x (c :: l.set m v) = pv x (c :: l) + (v - rd (c :: l) ((m + 1 : Nat) : Int)) * x ^ (m + 1)
      have e : rd (c :: l) ((m + 1 : Nat) : Int) = rd l (m : Int) := by rw [rd_nat _ _ h, rd_nat _ _ h']; rfl
      rw [pv_cons, pv_cons, ih m v h', e, Int.pow_succ]
      generalize x ^ m = X
      grind
theorem step31 (o a b : Int) : ∃ s, (o + (a * b) % 31) % 31 = o + a * b + 31 * s := ⟨-((a * b) / 31) - (o + (a * b) % 31) / 31, by
  have h1 := Int.emod_def (a * b) 31
  have h2 := Int.emod_def (o + (a * b) % 31) 31
  omega⟩
theorem pv_drop (x : Int) (l : List Int) (i : Nat) (h : i < l.length) : pv x (l.drop i) = pv x (l.drop (i + 1)) * x + rd l (i : Int) := by
  rw [List.drop_eq_getElem_cons h, pv_cons, rd_nat l i h]
theorem mul_pv (x : Int) (A B : List Int) (hA : A.all fOk = true) (hB : B.all fOk = true) (lA : A.length ≤ 1000) (lB : B.length ≤ 1000) (r : List Int) : ∀ k : Nat,
    (∀ (o : List Int) (i j : Nat), i < A.length → j ≤ B.length → o.all fOk = true → o.length + 1 = A.length + B.length → spec_l2Mul.l1 k A B o (i : Int) (j : Int) = some r → ∃ t, pv x r = pv x o + rd A (i : Int) * x ^ (i + j) * pv x (B.drop j) + x ^ (i + 1) * pv x (A.drop (i + 1)) * pv x B + 31 * t) ∧
    (∀ (o : List Int) (i : Nat), i ≤ A.length → o.all fOk = true → o.length + 1 = A.length + B.length → spec_l2Mul.l0 k A B o (i : Int) = some r → ∃ t, pv x r = pv x o + x ^ i * pv x (A.drop i) * pv x B + 31 * t) := by
  intro k
  induction k with
  | zero => exact ⟨fun _ _ _ _ _ _ _ h => by simp [spec_l2Mul.l1] at h, fun _ _ _ _ _ h => by simp [spec_l2Mul.l0] at h⟩
  | succ k ih =>
    refine ⟨fun o i j hi hj ho hl hr => ?_, fun o i hi ho hl hr => ?_⟩
    · simp only [spec_l2Mul.l1] at hr
      by_cases h : j < B.length
      · rw [if_pos (by omega), w64 (a := (i : Int) + j) (by omega) (by omega), if_pos (by omega), if_pos (by omega), if_pos (by omega), if_pos (by omega), if_pos (by omega), mulStep _ _ _ (rd_fOk ho _) (rd_fOk hA _) (rd_fOk hB _), w64 (a := (j : Int) + 1) (by omega) (by omega)] at hr
        obtain ⟨t, ht⟩ := ih.1 _ i (j + 1) hi (by omega) (all_set ho _ _ (fOk_mod _)) (by rw [List.length_set]; exact hl) hr
        obtain ⟨s, hs⟩ := step31 (rd o ((i : Int) + j)) (rd A (i : Int)) (rd B (j : Int))
        rw [show ((i : Int) + (j : Int)).toNat = i + j by omega, pv_set x o (i + j) _ (by omega), hs, show ((i + j : Nat) : Int) = (i : Int) + j by omega, show i + (j + 1) = (i + j) + 1 by omega, Int.pow_succ] at ht
        rw [pv_drop x B j h]
        refine ⟨t + s * x ^ (i + j), ?_⟩
        rw [ht]
        generalize x ^ (i + j) = X
        generalize x ^ (i + 1) = Y
        generalize pv x (B.drop (j + 1)) = Z
        generalize rd A (i : Int) = a
        generalize rd B (j : Int) = b
        generalize rd o ((i : Int) + j) = c
        generalize pv x o = d
        generalize pv x (A.drop (i + 1)) = e
        generalize pv x B = f
        clear ht hs hr ih
        grind
      · rw [if_neg (by omega), w64 (by omega) (by omega)] at hr
        obtain ⟨t, ht⟩ := ih.2 _ (i + 1) (by omega) ho hl hr
        obtain rfl : j = B.length := by omega
        refine ⟨t, ?_⟩
        rw [ht, List.drop_length]
        simp [pv]
    · simp only [spec_l2Mul.l0] at hr
      by_cases h : i < A.length
      · rw [if_pos (by omega)] at hr
        obtain ⟨t, ht⟩ := ih.1 _ i 0 h (by omega) ho hl hr
        refine ⟨t, ?_⟩
        rw [ht, pv_drop x A i h, List.drop_zero, Nat.add_zero, Int.pow_succ]
        generalize x ^ i = X
        generalize pv x (A.drop (i + 1)) = Z
        generalize rd A (i : Int) = a
        generalize pv x o = d
        generalize pv x B = f
        clear ht hr ih
        grind
      · rw [if_neg (by omega)] at hr
        obtain rfl := Option.some.inj hr
        obtain rfl : i = A.length := by omega
        refine ⟨0, ?_⟩
        rw [List.drop_length]
        simp [pv]
theorem pv_zeros (x : Int) (n : Nat) : pv x (List.replicate n 0) = 0 := by
  induction n with
  | zero => rfl
  | succ n ih => rw [List.replicate_succ, pv_cons, ih]; simp
theorem mul_hv (x : Int) (k : Nat) (A B r : List Int) (hA : A.all fOk = true) (hB : B.all fOk = true) (lA : A.length ≤ 1000) (lB : B.length ≤ 1000) (pA : 0 < A.length) (pB : 0 < B.length) (hr : spec_l2Mul.f k A B = some r) :
    hv x r = (hv x A * hv x B) % 31 := by
  unfold spec_l2Mul.f at hr
  rw [if_neg (by omega)] at hr
  have eb : ((B.length : Int) == 0) = false := by simp; intro h; rw [h] at pB; simp at pB
  rw [eb] at hr
  cases k with
  | zero => simp [spec_l2Mul.j0] at hr
  | succ k =>
    simp only [spec_l2Mul.j0] at hr
    rw [w64 (a := (A.length : Int) + B.length) (by omega) (by omega), w64 (by omega) (by omega), if_neg (by simp), if_pos (by omega), if_pos (by omega)] at hr
    have hl : (List.replicate ((A.length : Int) + B.length - 1).toNat (0 : Int)).length + 1 = A.length + B.length := by rw [List.length_replicate]; omega
    obtain ⟨t, ht⟩ := (mul_pv x A B hA hB lA lB r k).2 _ 0 (by omega) (zeros_all _) hl hr
    rw [pv_zeros, List.drop_zero, Int.pow_zero, Int.one_mul] at ht
    rw [hv_pv, hv_pv, hv_pv, ht]
    have e : (pv x A % 31 * (pv x B % 31)) % 31 = (pv x A * pv x B) % 31 := (Int.mul_emod _ _ _).symm
    rw [e]
    omega
theorem inv31 : ∀ m : Fin 31, m.val ≠ 0 → ∃ b : Fin 31, (m.val * b.val) % 31 = 1 := by decide +kernel
theorem mul_nz {p a : Int} (hp : p % 31 ≠ 0) (ha : 1 ≤ a ∧ a ≤ 30) : (p * a) % 31 ≠ 0 := by
  intro h
  obtain ⟨m, rfl⟩ : ∃ m : Nat, a = (m : Int) := ⟨a.toNat, by omega⟩
  obtain ⟨b, hb⟩ := inv31 ⟨m, by omega⟩ (by simp; omega)
  have h1 : (p * (m : Int) * (b.val : Int)) % 31 = 0 := by rw [Int.mul_emod, h]; simp
  have h2 : ((m : Int) * (b.val : Int)) % 31 = 1 := by
    have : ((m * b.val : Nat) : Int) % 31 = 1 := by simp only at hb; omega
    rw [← this]; push_cast; rfl
  rw [Int.mul_assoc, Int.mul_emod, h2] at h1
  omega
theorem pow_nz {p a : Int} (hp : p % 31 ≠ 0) (ha : 1 ≤ a ∧ a ≤ 30) (m : Nat) : (p * a ^ m) % 31 ≠ 0 := by
  induction m with
  | zero => simpa using hp
  | succ m ih => rw [Int.pow_succ, ← Int.mul_assoc]; exact mul_nz ih ha
theorem pv_setAt (x c : Int) (l : List Int) : ∀ m : Nat, (hm : m < l.length) → pv x (l.set m c) = pv x l + (c - l[m]) * x ^ m := by
  induction l with
  | nil => intro m hm; exact absurd hm (by simp)
  | cons b l ih =>
    intro m hm
    cases m with
    | zero => simp only [List.set_cons_zero, pv_cons, List.getElem_cons_zero, Int.pow_zero, Int.mul_one]; omega
    | succ m =>
      simp only [List.set_cons_succ, pv_cons, List.getElem_cons_succ]
      rw [ih m (by simpa using hm), Int.add_mul, Int.pow_succ, ← Int.mul_assoc]
      omega
theorem hv_set_ne {x c : Int} {l : List Int} {m : Nat} (hx : 1 ≤ x ∧ x ≤ 30) (hm : m < l.length) (hc : (c - l[m]) % 31 ≠ 0) : hv x (l.set m c) ≠ hv x l := by
  rw [hv_pv, hv_pv, pv_setAt x c l m hm]
  have := pow_nz hc hx m
  omega
theorem l2Through2_raw (a b : Int) : spec_l2Through.f 90 [a, b] = some [(lin (lin 0 a 1) b 0), (lin (lin 0 a 30) b 1)] := by kernel_rfl
theorem l2Through4_raw (a b c d : Int) : spec_l2Through.f 90 [a, b, c, d] = some [(lin (lin (lin (lin 0 a 1) b 0) c 0) d 0), (lin (lin (lin (lin 0 a 24) b 3) c 14) d 21), (lin (lin (lin (lin 0 a 1) b 13) c 2) d 15), (lin (lin (lin (lin 0 a 5) b 16) c 15) d 26)] := by kernel_rfl
theorem l2Through5_raw (a b c d e : Int) : spec_l2Through.f 90 [a, b, c, d, e] = some [(lin (lin (lin (lin (lin 0 a 1) b 0) c 0) d 0) e 0), (lin (lin (lin (lin (lin 0 a 16) b 4) c 28) d 22) e 23), (lin (lin (lin (lin (lin 0 a 26) b 6) c 28) d 8) e 25), (lin (lin (lin (lin (lin 0 a 28) b 17) c 29) d 27) e 23), (lin (lin (lin (lin (lin 0 a 22) b 5) c 8) d 5) e 22)] := by kernel_rfl
theorem l2Through2 (a b : Int) (ha : 0 ≤ a ∧ a ≤ 30) (hb : 0 ≤ b ∧ b ≤ 30) : spec_l2Through.f 90 [a, b] = some ((thrL 2).map (LF.ev ⟨a, b, 0, 0, 0⟩)) := by
  rw [l2Through2_raw, thrL_2]
  simp only [List.map_cons, List.map_nil, LF.ev, LF.raw]
  have z : ∀ v c : Int, 0 ≤ v ∧ v ≤ 30 → 0 ≤ c ∧ c ≤ 30 → lin 0 v c = (v * c) % 31 := fun v c hV hc => by have := lin_v 0 v c hV hc; simpa using this
  have e0 : (lin (lin 0 a 1) b 0) = (a * 1 + b * 0) % 31 := by rw [z a 1 ha (by omega), lin_v _ b 0 hb (by omega)]
  have e1 : (lin (lin 0 a 30) b 1) = (a * 30 + b * 1) % 31 := by rw [z a 30 ha (by omega), lin_v _ b 1 hb (by omega)]
  rw [e0, e1]
  congr 1
  refine List.cons_eq_cons.2 ⟨by omega, List.cons_eq_cons.2 ⟨by omega, rfl⟩⟩
theorem through2 (a b : Int) (ha : 0 ≤ a ∧ a ≤ 30) (hb : 0 ≤ b ∧ b ≤ 30) : ∃ r : List Int, spec_l2Through.f 90 [a, b] = some r ∧ impl_through.f [a, b] = some r ∧ r.length = 2 ∧ r.all fOk = true :=
  ⟨_, l2Through2 a b ha hb, through_map ⟨a, b, 0, 0, 0⟩ _ 2 rfl (by omega) (by omega) (fill2 a b ha hb), by rw [thrL_2]; rfl, by rw [List.all_map, List.all_eq_true]; intro f _; exact (fOk_iff _).2 (LF.ev_bd _ _)⟩
theorem l2Through4 (a b c d : Int) (ha : 0 ≤ a ∧ a ≤ 30) (hb : 0 ≤ b ∧ b ≤ 30) (hc : 0 ≤ c ∧ c ≤ 30) (hd : 0 ≤ d ∧ d ≤ 30) : spec_l2Through.f 90 [a, b, c, d] = some ((thrL 4).map (LF.ev ⟨a, b, c, d, 0⟩)) := by
  rw [l2Through4_raw, thrL_4]
  simp only [List.map_cons, List.map_nil, LF.ev, LF.raw]
  have z : ∀ v c : Int, 0 ≤ v ∧ v ≤ 30 → 0 ≤ c ∧ c ≤ 30 → lin 0 v c = (v * c) % 31 := fun v c hV hc => by have := lin_v 0 v c hV hc; simpa using this
  have e0 : (lin (lin (lin (lin 0 a 1) b 0) c 0) d 0) = (a * 1 + b * 0 + c * 0 + d * 0) % 31 := by rw [z a 1 ha (by omega), lin_v _ b 0 hb (by omega), lin_v _ c 0 hc (by omega), lin_v _ d 0 hd (by omega)]
  have e1 : (lin (lin (lin (lin 0 a 24) b 3) c 14) d 21) = (a * 24 + b * 3 + c * 14 + d * 21) % 31 := by rw [z a 24 ha (by omega), lin_v _ b 3 hb (by omega), lin_v _ c 14 hc (by omega), lin_v _ d 21 hd (by omega)]
  have e2 : (lin (lin (lin (lin 0 a 1) b 13) c 2) d 15) = (a * 1 + b * 13 + c * 2 + d * 15) % 31 := by rw [z a 1 ha (by omega), lin_v _ b 13 hb (by omega), lin_v _ c 2 hc (by omega), lin_v _ d 15 hd (by omega)]
  have e3 : (lin (lin (lin (lin 0 a 5) b 16) c 15) d 26) = (a * 5 + b * 16 + c * 15 + d * 26) % 31 := by rw [z a 5 ha (by omega), lin_v _ b 16 hb (by omega), lin_v _ c 15 hc (by omega), lin_v _ d 26 hd (by omega)]
  rw [e0, e1, e2, e3]
  congr 1
  refine List.cons_eq_cons.2 ⟨by omega, List.cons_eq_cons.2 ⟨by omega, List.cons_eq_cons.2 ⟨by omega, List.cons_eq_cons.2 ⟨by omega, rfl⟩⟩⟩⟩
theorem through4 (a b c d : Int) (ha : 0 ≤ a ∧ a ≤ 30) (hb : 0 ≤ b ∧ b ≤ 30) (hc : 0 ≤ c ∧ c ≤ 30) (hd : 0 ≤ d ∧ d ≤ 30) : ∃ r : List Int, spec_l2Through.f 90 [a, b, c, d] = some r ∧ impl_through.f [a, b, c, d] = some r ∧ r.length = 4 ∧ r.all fOk = true :=
  ⟨_, l2Through4 a b c d ha hb hc hd, through_map ⟨a, b, c, d, 0⟩ _ 4 rfl (by omega) (by omega) (fill4 a b c d ha hb hc hd), by rw [thrL_4]; rfl, by rw [List.all_map, List.all_eq_true]; intro f _; exact (fOk_iff _).2 (LF.ev_bd _ _)⟩
theorem l2Through5 (a b c d e : Int) (ha : 0 ≤ a ∧ a ≤ 30) (hb : 0 ≤ b ∧ b ≤ 30) (hc : 0 ≤ c ∧ c ≤ 30) (hd : 0 ≤ d ∧ d ≤ 30) (he : 0 ≤ e ∧ e ≤ 30) : spec_l2Through.f 90 [a, b, c, d, e] = some ((thrL 5).map (LF.ev ⟨a, b, c, d, e⟩)) := by
  rw [l2Through5_raw, thrL_5]
  simp only [List.map_cons, List.map_nil, LF.ev, LF.raw]
  have z : ∀ v c : Int, 0 ≤ v ∧ v ≤ 30 → 0 ≤ c ∧ c ≤ 30 → lin 0 v c = (v * c) % 31 := fun v c hV hc => by have := lin_v 0 v c hV hc; simpa using this
  have e0 : (lin (lin (lin (lin (lin 0 a 1) b 0) c 0) d 0) e 0) = (a * 1 + b * 0 + c * 0 + d * 0 + e * 0) % 31 := by rw [z a 1 ha (by omega), lin_v _ b 0 hb (by omega), lin_v _ c 0 hc (by omega), lin_v _ d 0 hd (by omega), lin_v _ e 0 he (by omega)]
  have e1 : (lin (lin (lin (lin (lin 0 a 16) b 4) c 28) d 22) e 23) = (a * 16 + b * 4 + c * 28 + d * 22 + e * 23) % 31 := by rw [z a 16 ha (by omega), lin_v _ b 4 hb (by omega), lin_v _ c 28 hc (by omega), lin_v _ d 22 hd (by omega), lin_v _ e 23 he (by omega)]
  have e2 : (lin (lin (lin (lin (lin 0 a 26) b 6) c 28) d 8) e 25) = (a * 26 + b * 6 + c * 28 + d * 8 + e * 25) % 31 := by rw [z a 26 ha (by omega), lin_v _ b 6 hb (by omega), lin_v _ c 28 hc (by omega), lin_v _ d 8 hd (by omega), lin_v _ e 25 he (by omega)]
  have e3 : (lin (lin (lin (lin (lin 0 a 28) b 17) c 29) d 27) e 23) = (a * 28 + b * 17 + c * 29 + d * 27 + e * 23) % 31 := by rw [z a 28 ha (by omega), lin_v _ b 17 hb (by omega), lin_v _ c 29 hc (by omega), lin_v _ d 27 hd (by omega), lin_v _ e 23 he (by omega)]
  have e4 : (lin (lin (lin (lin (lin 0 a 22) b 5) c 8) d 5) e 22) = (a * 22 + b * 5 + c * 8 + d * 5 + e * 22) % 31 := by rw [z a 22 ha (by omega), lin_v _ b 5 hb (by omega), lin_v _ c 8 hc (by omega), lin_v _ d 5 hd (by omega), lin_v _ e 22 he (by omega)]
  rw [e0, e1, e2, e3, e4]
  congr 1
  refine List.cons_eq_cons.2 ⟨by omega, List.cons_eq_cons.2 ⟨by omega, List.cons_eq_cons.2 ⟨by omega, List.cons_eq_cons.2 ⟨by omega, List.cons_eq_cons.2 ⟨by omega, rfl⟩⟩⟩⟩⟩
theorem through5 (a b c d e : Int) (ha : 0 ≤ a ∧ a ≤ 30) (hb : 0 ≤ b ∧ b ≤ 30) (hc : 0 ≤ c ∧ c ≤ 30) (hd : 0 ≤ d ∧ d ≤ 30) (he : 0 ≤ e ∧ e ≤ 30) : ∃ r : List Int, spec_l2Through.f 90 [a, b, c, d, e] = some r ∧ impl_through.f [a, b, c, d, e] = some r ∧ r.length = 5 ∧ r.all fOk = true :=
  ⟨_, l2Through5 a b c d e ha hb hc hd he, through_map ⟨a, b, c, d, e⟩ _ 5 rfl (by omega) (by omega) (fill5 a b c d e ha hb hc hd he), by rw [thrL_5]; rfl, by rw [List.all_map, List.all_eq_true]; intro f _; exact (fOk_iff _).2 (LF.ev_bd _ _)⟩
theorem mul2 (a b c d : Int) : ∃ r, spec_l2Mul.f 90 [a, b] [c, d] = some r := Option.isSome_iff_exists.1 (by kernel_rfl)
theorem mul4 (a b c d e f g h : Int) : ∃ r, spec_l2Mul.f 90 [a, b, c, d] [e, f, g, h] = some r := Option.isSome_iff_exists.1 (by kernel_rfl)
theorem mul5 (a b c d e f g h i j : Int) : ∃ r, spec_l2Mul.f 90 [a, b, c, d, e] [f, g, h, i, j] = some r := Option.isSome_iff_exists.1 (by kernel_rfl)
theorem mul_ex (n : Nat) (hn : n = 2 ∨ n = 4 ∨ n = 5) (A B : List Int) (lA : A.length = n) (lB : B.length = n) : ∃ r, spec_l2Mul.f 90 A B = some r := by
  rcases hn with rfl | rfl | rfl
  · obtain ⟨a, b, rfl⟩ := list2 A lA
    obtain ⟨c, d, rfl⟩ := list2 B lB
    exact mul2 _ _ _ _
  · obtain ⟨a, b, c, d, rfl⟩ := list4' A lA
    obtain ⟨e, f, g, h, rfl⟩ := list4' B lB
    exact mul4 _ _ _ _ _ _ _ _
  · obtain ⟨a, b, c, d, x, rfl⟩ := list5 A lA
    obtain ⟨e, f, g, h, y, rfl⟩ := list5 B lB
    exact mul5 _ _ _ _ _ _ _ _ _ _
theorem through_ex (n : Nat) (hn : n = 2 ∨ n = 4 ∨ n = 5) (A : List Int) (lA : A.length = n) (hA : A.all fOk = true) : ∃ r : List Int, spec_l2Through.f 90 A = some r ∧ impl_through.f A = some r ∧ r.length = n ∧ r.all fOk = true := by
  rcases hn with rfl | rfl | rfl
  · obtain ⟨a, b, rfl⟩ := list2 A lA
    simp only [List.all_cons, List.all_nil, Bool.and_true, Bool.and_eq_true, fOk_iff] at hA
    exact through2 a b hA.1 hA.2
  · obtain ⟨a, b, c, d, rfl⟩ := list4' A lA
    simp only [List.all_cons, List.all_nil, Bool.and_true, Bool.and_eq_true, fOk_iff] at hA
    exact through4 a b c d hA.1 hA.2.1 hA.2.2.1 hA.2.2.2
  · obtain ⟨a, b, c, d, e, rfl⟩ := list5 A lA
    simp only [List.all_cons, List.all_nil, Bool.and_true, Bool.and_eq_true, fOk_iff] at hA
    exact through5 a b c d e hA.1 hA.2.1 hA.2.2.1 hA.2.2.2.1 hA.2.2.2.2
theorem dec1_length (v : List Int) : (dec1 v).length = v.length := by simp [dec1]
theorem make_both (K : Nat) (hK : 95 ≤ K) (v : List Int) (u w : Int) (n : Nat) (hn : n = 2 ∨ n = 4 ∨ n = 5) (lv : v.length + 1 = n) (hV : v.all fOk = true) (hu : fOk u = true) (hw : fOk w = true) :
    ∃ f g h : List Int, impl_through.f (u :: v) = some f ∧ impl_through.f (w :: dec1 v) = some g ∧ impl_product.f K f g = some h ∧ spec_l12Make.f K v u w = some (u, w, h) ∧ impl_ProofMake.j0 (K + 1) v u w false = some (u, w, h, true) ∧ h.all fOk = true ∧ h.length + 1 = n + n ∧ f.length = n ∧ g.length = n ∧ f.all fOk = true ∧ g.all fOk = true := by
  have l9 : v.length ≤ 1000 := by omega
  obtain ⟨f, f1, f2, f3, f4⟩ := through_ex n hn (u :: v) (by simpa using lv) (by simp [hu]; simpa using hV)
  obtain ⟨g, g1, g2, g3, g4⟩ := through_ex n hn (w :: dec1 v) (by simp [dec1_length]; exact lv) (by have := dec1_all v; simp [hw]; simpa using this)
  obtain ⟨h, h1⟩ := mul_ex n hn f g f3 g3
  have h1K : spec_l2Mul.f K f g = some h := leO_le (fun k => spec_l2Mul.mono _ _ k) (by omega) h1
  have f1K : spec_l2Through.f K (u :: v) = some f := leO_le (fun k => spec_l2Through.mono _ k) (by omega) f1
  have g1K : spec_l2Through.f K (w :: dec1 v) = some g := leO_le (fun k => spec_l2Through.mono _ k) (by omega) g1
  obtain ⟨p1, p2, p3⟩ := mul_f K f g h f4 g4 (by omega) (by omega) (by omega) (by omega) h1K
  refine ⟨f, g, h, f2, g2, p1, ?_, ?_, p2, by omega, f3, g3, f4, g4⟩
  · unfold spec_l12Make.f
    rw [first_f _ _ l9, Option.bind_some, f1K, Option.bind_some, second_f K v w l9 hV (by omega), Option.bind_some, g1K, Option.bind_some, h1K]; rfl
  · simp only [impl_ProofMake.j0]
    rw [if_neg (by simp), ahead_f _ _ l9, Option.bind_some, f2, Option.bind_some, lowered_f K v l9 hV (by omega), Option.bind_some, ahead_f _ _ (by rw [dec1_length]; exact l9), Option.bind_some, g2, Option.bind_some, p1]; rfl
theorem make_ok (K : Nat) (hK : 100 ≤ K) (kind : Int) (v : List Int) (u w : Int) (hk : kOk kind = true) (lv : (v.length : Int) = tLen kind) (hV : v.all fOk = true) (hu : fOk u = true) (hw : fOk w = true) :
    ∃ h : List Int, impl_ProofMake.f K kind v u w = some (u, w, h, true) ∧ spec_l12Make.f K v u w = some (u, w, h) ∧ h.all fOk = true ∧ h.length = 2 * v.length + 1 := by
  obtain ⟨K, rfl⟩ : ∃ j, K = j + 1 := ⟨K - 1, by omega⟩
  have hn : v.length + 1 = 2 ∨ v.length + 1 = 4 ∨ v.length + 1 = 5 := by
    rcases tLen_cases hk with ⟨_, e⟩ | ⟨_, e⟩ | ⟨_, e⟩ <;> omega
  obtain ⟨f, g, h, a1, a2, a3, a4, a5, a6, a7, _⟩ := make_both K (by omega) v u w (v.length + 1) hn rfl hV hu hw
  have hM : spec_l12Make.f (K + 1) v u w = some (u, w, h) := spec_l12Make.mono _ _ _ K _ a4
  refine ⟨h, ?_, hM, a6, by omega⟩
  have hvec : vecOk kind v = true := by unfold vecOk; rw [hk, hV, decide_eq_true lv]; rfl
  unfold impl_ProofMake.f impl_TypeLen.f
  rw [Option.bind_some, sized_f, Option.bind_some, hvec, if_pos rfl, implFieldOk_f, Option.bind_some, hu, if_pos rfl, implFieldOk_f, Option.bind_some, hw]
  exact a5
noncomputable def pok (kind : Int) (v : List Int) (u w : Int) (h : List Int) : Bool := vecOk kind v && hotOk kind v && formOk kind u w h && decide (impl_ProofMake.f 1000 kind v u w = some (u, w, h, true))
theorem formOk_u {kind u w : Int} {h : List Int} (hf : formOk kind u w h = true) : fOk u = true ∧ fOk w = true ∧ h.all fOk = true ∧ (h.length : Int) = 2 * tLen kind + 1 := by
  unfold formOk at hf
  simp only [Bool.and_eq_true, decide_eq_true_eq] at hf
  exact ⟨hf.1.1.1, hf.1.1.2, hf.1.2.2, hf.2⟩
theorem pok_i (K : Nat) (kind : Int) (v : List Int) (u w : Int) (h : List Int) (hl : v.length ≤ 1048576000) (hh : h.length ≤ 1048576000) (hK : v.length + h.length + 200 ≤ K) :
    impl_ProofOk.f K kind v u w h = some (pok kind v u w h) := by
  unfold impl_ProofOk.f pok
  rw [typeOk_f K (by omega), Option.bind_some]
  cases hVec : vecOk kind v
  · rw [if_neg (by simp)]
    rfl
  have hVec' := hVec
  unfold vecOk at hVec'
  simp only [Bool.and_eq_true, decide_eq_true_eq] at hVec'
  obtain ⟨⟨hk, hlen⟩, hall⟩ := hVec'
  have ht := tLen_le kind
  simp only [Bool.true_and, Option.bind_some, if_true]
  cases hf : formOk kind u w h
  · cases hotOk kind v <;> rfl
  cases ho : hotOk kind v
  · rfl
  obtain ⟨hu, hw, ha, hn⟩ := formOk_u hf
  simp only [if_true]
  obtain ⟨H, m1, m2, m3, m4⟩ := make_ok K (by omega) kind v u w hk hlen hall hu hw
  obtain ⟨H', n1, n2, n3, n4⟩ := make_ok 1000 (by omega) kind v u w hk hlen hall hu hw
  have e : H = H' := by
    rcases Nat.le_total K 1000 with hle | hle
    · have := leO_le (fun k => spec_l12Make.mono _ _ _ k) hle m2
      rw [n2] at this; simpa using this.symm
    · have := leO_le (fun k => spec_l12Make.mono _ _ _ k) hle n2
      rw [m2] at this; simpa using this
  subst e
  rw [m1, n1, Option.bind_some]
  simp only [if_true]
  rw [sEqual_f K H h (by omega) (by omega), Option.bind_some]
  have e1 : decide (H = h) = decide (some (u, w, H, true) = some (u, w, h, true)) := by simp
  rw [e1]; rfl
theorem make_val (K : Nat) (hK : 100 ≤ K) (kind : Int) (v : List Int) (u w : Int) (hk : kOk kind = true) (lv : (v.length : Int) = tLen kind) (hV : v.all fOk = true) (hu : fOk u = true) (hw : fOk w = true) :
    ∃ f g h : List Int, impl_through.f (u :: v) = some f ∧ impl_through.f (w :: decC 1 v) = some g ∧ impl_ProofMake.f K kind v u w = some (u, w, h, true) ∧ spec_l12Make.f K v u w = some (u, w, h) ∧ h.all fOk = true ∧ h.length = 2 * v.length + 1 ∧ (∀ x : Int, hv x h = (hv x f * hv x g) % 31) ∧
      f.length = v.length + 1 ∧ g.length = v.length + 1 ∧ f.all fOk = true ∧ g.all fOk = true := by
  obtain ⟨K, rfl⟩ : ∃ j, K = j + 1 := ⟨K - 1, by omega⟩
  have hn : v.length + 1 = 2 ∨ v.length + 1 = 4 ∨ v.length + 1 = 5 := by
    rcases tLen_cases hk with ⟨_, e⟩ | ⟨_, e⟩ | ⟨_, e⟩ <;> omega
  obtain ⟨f, g, h, a1, a2, a3, a4, a5, a6, a7, a8, a9, a10, a11⟩ := make_both K (by omega) v u w (v.length + 1) hn rfl hV hu hw
  obtain ⟨h', h1⟩ := mul_ex (v.length + 1) hn f g a8 a9
  have h1K : spec_l2Mul.f K f g = some h' := leO_le (fun k => spec_l2Mul.mono _ _ k) (by omega) h1
  obtain ⟨p1, p2, p3⟩ := mul_f K f g h' a10 a11 (by omega) (by omega) (by omega) (by omega) h1K
  obtain rfl : h = h' := by rw [a3] at p1; exact Option.some.inj p1
  have hM : spec_l12Make.f (K + 1) v u w = some (u, w, h) := spec_l12Make.mono _ _ _ K _ a4
  refine ⟨f, g, h, a1, a2, ?_, hM, a6, by omega, fun x => mul_hv x 90 f g h a10 a11 (by omega) (by omega) (by omega) (by omega) h1, a8, a9, a10, a11⟩
  have hvec : vecOk kind v = true := by unfold vecOk; rw [hk, hV, decide_eq_true lv]; rfl
  unfold impl_ProofMake.f impl_TypeLen.f
  rw [Option.bind_some, sized_f, Option.bind_some, hvec, if_pos rfl, implFieldOk_f, Option.bind_some, hu, if_pos rfl, implFieldOk_f, Option.bind_some, hw]
  exact a5
def tck (w : Int) (v : List Int) : Nat → Int | 0 => 0 | j + 1 => (tck w v j + ((pw w j * rd v j) % 31 * ((rd v j - 1) % 31)) % 31) % 31
theorem chk_tck (w : Int) (v h : List Int) (hh : ∀ j : Nat, j < v.length → hv ((j : Int) + 1) h = (rd v j * ((rd v j - 1) % 31)) % 31) : ∀ j : Nat, j ≤ v.length → chk w h j = tck w v j := by
  intro j
  induction j with
  | zero => intro _; rfl
  | succ j ih =>
    intro hj
    rw [chk, tck, ih (by omega), hh j (by omega)]
    generalize rd v j = x
    generalize pw w j = p
    generalize hy : (x - 1) % 31 = y
    have e1 : (p * x) % 31 * y = x * y * p - 31 * (p * x / 31 * y) := by
      rw [emod_mul, Int.mul_comm p x, Int.mul_assoc, Int.mul_assoc, Int.mul_comm p y]
    have e2 : p * ((x * y) % 31) = x * y * p - 31 * (x * y / 31 * p) := by rw [Int.mul_comm p, emod_mul]
    rw [e1, e2]
    omega
theorem throughVal2 (a b : Int) (ha : 0 ≤ a ∧ a ≤ 30) (hb : 0 ≤ b ∧ b ≤ 30) : ∃ f, impl_through.f [a, b] = some f ∧ ∀ i : Nat, i < 2 → hv (i : Int) f = rd [a, b] (i : Int) := by
  refine ⟨_, through_map ⟨a, b, 0, 0, 0⟩ _ 2 rfl (by omega) (by omega) (fill2 a b ha hb), ?_⟩
  intro i hi
  rw [hv_map]
  rcases (show i = 0 ∨ i = 1 by omega) with rfl | rfl
  · rw [show hvL ((0 : Nat) : Int) (thrL 2) = ⟨1, 0, 0, 0, 0⟩ by decide +kernel]
    show LF.ev ⟨a, b, 0, 0, 0⟩ _ = a
    simp only [LF.ev, LF.raw]; omega
  · rw [show hvL ((1 : Nat) : Int) (thrL 2) = ⟨0, 1, 0, 0, 0⟩ by decide +kernel]
    show LF.ev ⟨a, b, 0, 0, 0⟩ _ = b
    simp only [LF.ev, LF.raw]; omega
theorem throughVal4 (a b c d : Int) (ha : 0 ≤ a ∧ a ≤ 30) (hb : 0 ≤ b ∧ b ≤ 30) (hc : 0 ≤ c ∧ c ≤ 30) (hd : 0 ≤ d ∧ d ≤ 30) : ∃ f, impl_through.f [a, b, c, d] = some f ∧ ∀ i : Nat, i < 4 → hv (i : Int) f = rd [a, b, c, d] (i : Int) := by
  refine ⟨_, through_map ⟨a, b, c, d, 0⟩ _ 4 rfl (by omega) (by omega) (fill4 a b c d ha hb hc hd), ?_⟩
  intro i hi
  rw [hv_map]
  rcases (show i = 0 ∨ i = 1 ∨ i = 2 ∨ i = 3 by omega) with rfl | rfl | rfl | rfl
  · rw [show hvL ((0 : Nat) : Int) (thrL 4) = ⟨1, 0, 0, 0, 0⟩ by decide +kernel]
    show LF.ev ⟨a, b, c, d, 0⟩ _ = a
    simp only [LF.ev, LF.raw]; omega
  · rw [show hvL ((1 : Nat) : Int) (thrL 4) = ⟨0, 1, 0, 0, 0⟩ by decide +kernel]
    show LF.ev ⟨a, b, c, d, 0⟩ _ = b
    simp only [LF.ev, LF.raw]; omega
  · rw [show hvL ((2 : Nat) : Int) (thrL 4) = ⟨0, 0, 1, 0, 0⟩ by decide +kernel]
    show LF.ev ⟨a, b, c, d, 0⟩ _ = c
    simp only [LF.ev, LF.raw]; omega
  · rw [show hvL ((3 : Nat) : Int) (thrL 4) = ⟨0, 0, 0, 1, 0⟩ by decide +kernel]
    show LF.ev ⟨a, b, c, d, 0⟩ _ = d
    simp only [LF.ev, LF.raw]; omega
theorem throughVal5 (a b c d e : Int) (ha : 0 ≤ a ∧ a ≤ 30) (hb : 0 ≤ b ∧ b ≤ 30) (hc : 0 ≤ c ∧ c ≤ 30) (hd : 0 ≤ d ∧ d ≤ 30) (he : 0 ≤ e ∧ e ≤ 30) : ∃ f, impl_through.f [a, b, c, d, e] = some f ∧ ∀ i : Nat, i < 5 → hv (i : Int) f = rd [a, b, c, d, e] (i : Int) := by
  refine ⟨_, through_map ⟨a, b, c, d, e⟩ _ 5 rfl (by omega) (by omega) (fill5 a b c d e ha hb hc hd he), ?_⟩
  intro i hi
  rw [hv_map]
  rcases (show i = 0 ∨ i = 1 ∨ i = 2 ∨ i = 3 ∨ i = 4 by omega) with rfl | rfl | rfl | rfl | rfl
  · rw [show hvL ((0 : Nat) : Int) (thrL 5) = ⟨1, 0, 0, 0, 0⟩ by decide +kernel]
    show LF.ev ⟨a, b, c, d, e⟩ _ = a
    simp only [LF.ev, LF.raw]; omega
  · rw [show hvL ((1 : Nat) : Int) (thrL 5) = ⟨0, 1, 0, 0, 0⟩ by decide +kernel]
    show LF.ev ⟨a, b, c, d, e⟩ _ = b
    simp only [LF.ev, LF.raw]; omega
  · rw [show hvL ((2 : Nat) : Int) (thrL 5) = ⟨0, 0, 1, 0, 0⟩ by decide +kernel]
    show LF.ev ⟨a, b, c, d, e⟩ _ = c
    simp only [LF.ev, LF.raw]; omega
  · rw [show hvL ((3 : Nat) : Int) (thrL 5) = ⟨0, 0, 0, 1, 0⟩ by decide +kernel]
    show LF.ev ⟨a, b, c, d, e⟩ _ = d
    simp only [LF.ev, LF.raw]; omega
  · rw [show hvL ((4 : Nat) : Int) (thrL 5) = ⟨0, 0, 0, 0, 1⟩ by decide +kernel]
    show LF.ev ⟨a, b, c, d, e⟩ _ = e
    simp only [LF.ev, LF.raw]; omega
theorem through_val (n : Nat) (hn : n = 2 ∨ n = 4 ∨ n = 5) (A : List Int) (lA : A.length = n) (hA : A.all fOk = true) (f : List Int) (hf : impl_through.f A = some f) : ∀ i : Nat, i < n → hv (i : Int) f = rd A (i : Int) := by
  rcases hn with rfl | rfl | rfl
  · obtain ⟨a, b, rfl⟩ := list2 A lA
    simp only [List.all_cons, List.all_nil, Bool.and_true, Bool.and_eq_true, fOk_iff] at hA
    obtain ⟨g, h1, h2⟩ := throughVal2 a b hA.1 hA.2
    rw [h1] at hf; obtain rfl := Option.some.inj hf; exact h2
  · obtain ⟨a, b, c, d, rfl⟩ := list4' A lA
    simp only [List.all_cons, List.all_nil, Bool.and_true, Bool.and_eq_true, fOk_iff] at hA
    obtain ⟨g, h1, h2⟩ := throughVal4 a b c d hA.1 hA.2.1 hA.2.2.1 hA.2.2.2
    rw [h1] at hf; obtain rfl := Option.some.inj hf; exact h2
  · obtain ⟨a, b, c, d, e, rfl⟩ := list5 A lA
    simp only [List.all_cons, List.all_nil, Bool.and_true, Bool.and_eq_true, fOk_iff] at hA
    obtain ⟨g, h1, h2⟩ := throughVal5 a b c d e hA.1 hA.2.1 hA.2.2.1 hA.2.2.2.1 hA.2.2.2.2
    rw [h1] at hf; obtain rfl := Option.some.inj hf; exact h2
theorem tck_zero (w : Int) (v : List Int) (h01 : ∀ x ∈ v, x = 0 ∨ x = 1) : ∀ j : Nat, j ≤ v.length → tck w v j = 0 := by
  intro j
  induction j with
  | zero => intro _; rfl
  | succ j ih =>
    intro hj
    have hx := h01 v[j] (List.getElem_mem (by omega))
    simp only [tck]
    rw [ih (by omega), rd_nat v j (by omega)]
    rcases hx with e | e <;> rw [e] <;> simp
theorem fold_sum (v : List Int) : ∀ s : Int, 0 ≤ s ∧ s ≤ 30 → v.foldl (fun s x => (s + x) % 31) s = (s + v.sum) % 31 := by
  induction v with
  | nil => intro s hs; simp; omega
  | cons x v ih =>
    intro s hs
    simp only [List.foldl_cons, List.sum_cons]
    rw [ih _ (by omega)]
    omega
theorem totv_sum (v : List Int) : totv v = v.sum % 31 := by
  unfold totv
  rw [fold_sum v 0 (by omega)]
  simp
theorem hot_01 {kind : Int} {v : List Int} (hVec : vecOk kind v = true) (ho : hotOk kind v = true) : ∀ x ∈ v, x = 0 ∨ x = 1 := by
  unfold vecOk at hVec
  unfold hotOk at ho
  simp only [Bool.and_eq_true] at hVec ho
  intro x hx
  have h1 := (fOk_iff x).1 (List.all_eq_true.1 hVec.2 x hx)
  have h2 := List.all_eq_true.1 ho.1 x hx
  simp only [decide_eq_true_eq] at h2
  omega
theorem right_ask (kind : Int) (l : List Int) (hk : kOk kind = true) (hl : (l.length : Int) = 3 * tLen kind + 3) (ha : l.all fOk = true) (hp : pok kind (l.take (tLen kind).toNat) (rd l (tLen kind)) (rd l (tLen kind + 1)) (l.drop ((tLen kind).toNat + 2)) = true) (a w : Int) (hat : 0 ≤ a ∧ a ≤ 30) (hw : fOk w = true) :
    ∃ x y : Int, askV kind l true a w = [x, y, (x * y) % 31, 0] ∧ (0 ≤ x ∧ x ≤ 30) ∧ (0 ≤ y ∧ y ≤ 30) := by
  have ht := tLen_le kind
  have lv : ((l.take (tLen kind).toNat).length : Int) = tLen kind := by rw [List.length_take]; omega
  have hV := all_take ha (tLen kind).toNat
  have hu : fOk (rd l (tLen kind)) = true := (fOk_iff _).2 (rd_fOk ha _)
  have hq : fOk (rd l (tLen kind + 1)) = true := (fOk_iff _).2 (rd_fOk ha _)
  unfold askV
  simp only [if_true]
  generalize rd l (tLen kind) = u at *
  generalize rd l (tLen kind + 1) = q at *
  generalize l.take (tLen kind).toNat = x at *
  generalize l.drop ((tLen kind).toNat + 2) = p at *
  unfold pok at hp
  simp only [Bool.and_eq_true, decide_eq_true_eq] at hp
  obtain ⟨⟨⟨hVec, ho⟩, hf⟩, hm⟩ := hp
  obtain ⟨f, g, m, f1, g1, m1, _, m2, m3, m4, lf, lg, f2, g2⟩ := make_val 1000 (by omega) kind x u q hk lv hV hu hq
  obtain rfl : m = p := by rw [m1] at hm; simpa using hm
  have hn := tLen_n hk
  have lx : (tLen kind).toNat = x.length := by omega
  obtain ⟨L, f', _, _, _, t4, t5, t6, _, t8⟩ := lineDot _ hn (u :: x) (by simp [lx]) (by simp [hu]; simpa using hV) a hat
  obtain ⟨L', g', _, _, _, n4, n5, n6, _, n8⟩ := lineDot _ hn (q :: decC 1 x) (by simp [lx, decC_length]) (by have := decC_all 1 x; simp [hq]; simpa using this) a hat
  obtain rfl : f = f' := by rw [f1] at t4; exact Option.some.inj t4
  obtain rfl : g = g' := by rw [g1] at n4; exact Option.some.inj n4
  have e3 : thr (u :: x) = f := by rw [t8]; unfold thr; rw [List.length_cons, lx]
  have e4 : thr (q :: decC 1 x) = g := by rw [n8]; unfold thr; rw [List.length_cons, decC_length, lx]
  rw [e3, e4, lx]
  clear t8 n8 e3 e4
  have hc : ∀ j : Nat, j < x.length → hv ((j : Int) + 1) m = (rd x j * ((rd x j - 1) % 31)) % 31 := by
    intro j hj
    have hn' : x.length + 1 = 2 ∨ x.length + 1 = 4 ∨ x.length + 1 = 5 := by rw [lx] at hn; exact hn
    have v1 := through_val (x.length + 1) hn' (u :: x) (by simp) (by simp [hu]; simpa using hV) f f1 (j + 1) (by omega)
    have v2 := through_val (x.length + 1) hn' (q :: decC 1 x) (by simp [decC_length]) (by have := decC_all 1 x; simp [hq]; simpa using this) g g1 (j + 1) (by omega)
    rw [show ((j : Int) + 1) = ((j + 1 : Nat) : Int) by omega, m4, v1, v2, rd_nat _ _ (by simp; omega), rd_nat _ _ (by simp [decC_length]; omega), rd_nat x j hj]
    simp [decC]
  have h01 := hot_01 hVec ho
  have hck : chk w m x.length = 0 := (chk_tck w x m hc x.length (Nat.le_refl _)).trans (tck_zero w x h01 x.length (Nat.le_refl _))
  have hhot : hotv kind w 1 x (chk w m x.length) = 0 := by
    rw [hck]
    unfold hotv
    by_cases h2 : kind = 2
    · rw [if_pos h2]
      unfold hotOk at ho
      rw [h2] at ho
      have hs : x.sum = 1 := by simpa using (by simpa using ho : _ ∧ _).2
      rw [totv_sum, hs]
      simp
    · rw [if_neg h2]
  rw [hhot, m4 a]
  exact ⟨_, _, rfl, hv_bd _ _, hv_bd _ _⟩
end Go.Proofs.YtlgbblaidohljaaGreatDoor.Q
