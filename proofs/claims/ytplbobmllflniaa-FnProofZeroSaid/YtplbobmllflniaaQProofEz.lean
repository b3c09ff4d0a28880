/- Plain lemmas about the Lean functions of the program's printed text; each theorem states its own conditions. -/
import Derived.Test.YtplbobmllflniaaEz2
import Derived.Test.YtplbobmllflniaaEz3
import Derived.Test.YtplbobmllflniaaEz4
import Derived.Test.YtplbobmllflniaaEz5
import Derived.Test.YtplbobmllflniaaQBaseEz
import Derived.Test.YtplbobmllflniaaQListEz
import Derived.Test.YtplbobmllflniaaQShareEz
import Derived.Test.YtplbobmllflniaaQThroughEz
set_option linter.unusedVariables false
set_option linter.unusedSimpArgs false
namespace Go.Proofs.Ytplbobmllflniaa.Q
open Go.RowKit Go.Proofs.Ytplbobmllflniaa.Ez Go.Proofs.YtplbobmllflniaaW.PrintWords Go.Proofs.YtplbobmllflniaaW.PrintLast Go.Proofs.YtplbobmllflniaaW.PrintMore
theorem leO_le {α : Type} {f : Nat → Option α} (h : ∀ k, LeO (f k) (f (k + 1))) {k K : Nat} (hk : k ≤ K) {r : α} (hr : f k = some r) : f K = some r := by
  obtain ⟨d, rfl⟩ : ∃ d, K = k + d := ⟨K - k, by omega⟩
  clear hk
  induction d with
  | zero => exact hr
  | succ d ih => exact h _ _ ih
theorem fieldDif_f (a b : Int) (ha : fOk a = true) (hb : fOk b = true) : spec_FieldDif.f a b = some ((a - b) % 31) := by
  unfold spec_FieldDif.f
  have h1 := (fOk_iff a).1 ha
  have h2 := (fOk_iff b).1 hb
  rw [fieldOk_f, Option.bind_some, if_pos ha, fieldOk_f, Option.bind_some, if_pos hb, w64 (a := a + 31) (by omega) (by omega), w64 (by omega) (by omega), Int.tmod_eq_emod_of_nonneg (by omega)]
  congr 1; omega
/-- each number less 1 -/
def dec1 (v : List Int) : List Int := v.map fun x => (x - 1) % 31
theorem dec1_all (v : List Int) : (dec1 v).all fOk = true := by
  rw [List.all_eq_true]
  intro x hx
  obtain ⟨y, _, rfl⟩ := List.mem_map.1 hx
  exact fOk_mod _
theorem dec1_snoc (l : List Int) (a : Int) : dec1 (l ++ [a]) = dec1 l ++ [(a - 1) % 31] := by simp [dec1]
theorem second_loop (v : List Int) (w : Int) (hl : v.length ≤ 1000) (hv : v.all fOk = true) (d : Nat) : ∀ (k i : Nat), i + d = v.length → d < k → spec_l12Second.l0 k v (w :: dec1 (v.take i)) (i : Int) = some (w :: dec1 v) := by
  induction d with
  | zero =>
    intro k i hi hk
    obtain ⟨k, rfl⟩ : ∃ j, k = j + 1 := ⟨k - 1, by omega⟩
    simp only [spec_l12Second.l0]
    rw [if_neg (by omega)]
    obtain rfl : i = v.length := by omega
    rw [List.take_length]
  | succ d ih =>
    intro k i hi hk
    obtain ⟨k, rfl⟩ : ∃ j, k = j + 1 := ⟨k - 1, by omega⟩
    simp only [spec_l12Second.l0]
    have h1 : i < v.length := by omega
    rw [if_pos (by omega), if_pos (by omega), rd_nat v i h1, fieldDif_f _ 1 (all_get hv i h1) rfl, Option.bind_some, if_pos (by simp [dec1]; omega), w64 (by omega) (by omega)]
    have := ih k (i + 1) (by omega) (by omega)
    rw [List.take_succ_eq_append_getElem h1, dec1_snoc] at this
    exact this
theorem second_f (k : Nat) (v : List Int) (w : Int) (hl : v.length ≤ 1000) (hv : v.all fOk = true) (hk : v.length < k) : spec_l12Second.f k v w = some (w :: dec1 v) := by
  unfold spec_l12Second.f
  have := second_loop v w hl hv v.length k 0 (by omega) hk
  simpa [dec1] using this
theorem elMinus_f (a b : Int) (ha : 0 ≤ a ∧ a ≤ 30) (hb : 0 ≤ b ∧ b ≤ 30) : impl_element_minus.f a b = some ((a - b) % 31) := by
  rw [eMinus_f, eMinus_v a b ha hb]
theorem elPlus_f (a b : Int) (ha : 0 ≤ a ∧ a ≤ 30) (hb : 0 ≤ b ∧ b ≤ 30) : impl_element_plus.f a b = some ((a + b) % 31) := by
  rw [ePlus_f, ePlus_v a b ha hb]
theorem elTimes_f (a b : Int) (ha : 0 ≤ a ∧ a ≤ 30) (hb : 0 ≤ b ∧ b ≤ 30) : impl_element_times.f a b = some ((a * b) % 31) := by
  rw [eTimes_f, eTimes_v a b ha hb]
theorem lowered_loop (v : List Int) (hl : v.length ≤ 1000) (hv : v.all fOk = true) (d : Nat) : ∀ (k i : Nat), i + d = v.length → d < k → impl_lowered.l0 k 1 (dec1 (v.take i)) v (v.length : Int) (i : Int) = some (dec1 v) := by
  induction d with
  | zero =>
    intro k i hi hk
    obtain ⟨k, rfl⟩ : ∃ j, k = j + 1 := ⟨k - 1, by omega⟩
    simp only [impl_lowered.l0]
    rw [if_neg (by omega)]
    obtain rfl : i = v.length := by omega
    rw [List.take_length]
  | succ d ih =>
    intro k i hi hk
    obtain ⟨k, rfl⟩ : ∃ j, k = j + 1 := ⟨k - 1, by omega⟩
    simp only [impl_lowered.l0]
    have h1 : i < v.length := by omega
    rw [if_pos (by omega), if_pos (by omega), if_pos (by omega), rd_nat v i h1, elMinus_f _ 1 ((fOk_iff _).1 (all_get hv i h1)) (by omega), Option.bind_some, if_pos (by simp [dec1]; omega), w64 (by omega) (by omega)]
    have := ih k (i + 1) (by omega) (by omega)
    rw [List.take_succ_eq_append_getElem h1, dec1_snoc] at this
    exact this
theorem lowered_f (k : Nat) (v : List Int) (hl : v.length ≤ 1000) (hv : v.all fOk = true) (hk : v.length < k) : impl_lowered.f k v 1 = some (dec1 v) := by
  unfold impl_lowered.f
  rw [if_pos (by omega), if_pos (by omega)]
  have := lowered_loop v hl hv v.length k 0 (by omega) hk
  simpa [dec1] using this
theorem rd_fOk {l : List Int} (h : l.all fOk = true) (i : Int) : 0 ≤ rd l i ∧ rd l i ≤ 30 := by
  unfold rd
  rw [List.getD_eq_getElem?_getD]
  rcases Nat.lt_or_ge i.toNat l.length with hi | hi
  · rw [List.getElem?_eq_getElem hi]; exact (fOk_iff _).1 (all_get h _ hi)
  · rw [List.getElem?_eq_none hi]; simp
theorem all_set {l : List Int} (h : l.all fOk = true) (i : Nat) (x : Int) (hx : fOk x = true) : (l.set i x).all fOk = true := by
  rw [List.all_eq_true] at h ⊢
  intro y hy
  rcases List.mem_or_eq_of_mem_set hy with hy | rfl
  · exact h y hy
  · exact hx
theorem mulStep (o a b : Int) (ho : 0 ≤ o ∧ o ≤ 30) (ha : 0 ≤ a ∧ a ≤ 30) (hb : 0 ≤ b ∧ b ≤ 30) : Int.tmod (wrap64 (o + wrap64 (a * b))) 31 = (o + (a * b) % 31) % 31 := by
  have := mul_bd' ha hb
  rw [w64 (a := a * b) (by omega) (by omega), w64 (by omega) (by omega), Int.tmod_eq_emod_of_nonneg (by omega)]
  omega
theorem mul_both (A B : List Int) (hA : A.all fOk = true) (hB : B.all fOk = true) (lA : A.length ≤ 1000) (lB : B.length ≤ 1000) : ∀ k : Nat,
    (∀ (o : List Int) (i j : Int), 0 ≤ i → i < A.length → 0 ≤ j → o.all fOk = true → o.length + 1 = A.length + B.length → spec_l2Mul.l1 k A B o i j = impl_product.l1 k B o i (rd A i) A A.length i B B.length j) ∧
    (∀ (o : List Int) (i : Int), 0 ≤ i → o.all fOk = true → o.length + 1 = A.length + B.length → spec_l2Mul.l0 k A B o i = impl_product.l0 k B o A A.length i) := by
  intro k
  induction k with
  | zero => exact ⟨fun _ _ _ _ _ _ _ _ => rfl, fun _ _ _ _ _ => rfl⟩
  | succ k ih =>
    refine ⟨fun o i j hi hi2 hj ho hl => ?_, fun o i hi ho hl => ?_⟩
    · simp only [spec_l2Mul.l1, impl_product.l1]
      by_cases h : j < (B.length : Int)
      · rw [if_pos h, if_pos h, w64 (a := i + j) (by omega) (by omega), if_pos (by omega), if_pos (by omega), if_pos hi, if_pos hi2, if_pos hj, if_pos hj, if_pos h, if_pos (by omega), if_pos (by omega),
          mulStep _ _ _ (rd_fOk ho _) (rd_fOk hA _) (rd_fOk hB _), elTimes_f _ _ (rd_fOk hA _) (rd_fOk hB _), Option.bind_some, elPlus_f _ _ (rd_fOk ho _) (by omega), Option.bind_some, w64 (a := j + 1) (by omega) (by omega)]
        exact ih.1 _ _ _ hi hi2 (by omega) (all_set ho _ _ (fOk_mod _)) (by rw [List.length_set]; exact hl)
      · rw [if_neg h, if_neg h, w64 (by omega) (by omega)]
        exact ih.2 _ _ (by omega) ho hl
    · simp only [spec_l2Mul.l0, impl_product.l0]
      by_cases h : i < (A.length : Int)
      · rw [if_pos h, if_pos h, if_pos hi, if_pos h]
        exact ih.1 _ _ _ hi h (by omega) ho hl
      · rw [if_neg h, if_neg h]
theorem mul_inv (A B : List Int) (hA : A.all fOk = true) (hB : B.all fOk = true) (lA : A.length ≤ 1000) (lB : B.length ≤ 1000) (r : List Int) : ∀ k : Nat,
    (∀ (o : List Int) (i j : Int), 0 ≤ i → i < A.length → 0 ≤ j → o.all fOk = true → o.length + 1 = A.length + B.length → spec_l2Mul.l1 k A B o i j = some r → r.all fOk = true ∧ r.length = o.length) ∧
    (∀ (o : List Int) (i : Int), 0 ≤ i → o.all fOk = true → o.length + 1 = A.length + B.length → spec_l2Mul.l0 k A B o i = some r → r.all fOk = true ∧ r.length = o.length) := by
  intro k
  induction k with
  | zero => exact ⟨fun _ _ _ _ _ _ _ _ h => by simp [spec_l2Mul.l1] at h, fun _ _ _ _ _ h => by simp [spec_l2Mul.l0] at h⟩
  | succ k ih =>
    refine ⟨fun o i j hi hi2 hj ho hl hr => ?_, fun o i hi ho hl hr => ?_⟩
    · simp only [spec_l2Mul.l1] at hr
      by_cases h : j < (B.length : Int)
      · rw [if_pos h, w64 (a := i + j) (by omega) (by omega), if_pos (by omega), if_pos (by omega), if_pos hi, if_pos hi2, if_pos hj, mulStep _ _ _ (rd_fOk ho _) (rd_fOk hA _) (rd_fOk hB _), w64 (a := j + 1) (by omega) (by omega)] at hr
        have := ih.1 _ _ _ hi hi2 (by omega) (all_set ho _ _ (fOk_mod _)) (by rw [List.length_set]; exact hl) hr
        rw [List.length_set] at this
        exact this
      · rw [if_neg h, w64 (by omega) (by omega)] at hr
        exact ih.2 _ _ (by omega) ho hl hr
    · simp only [spec_l2Mul.l0] at hr
      by_cases h : i < (A.length : Int)
      · rw [if_pos h] at hr
        exact ih.1 _ _ _ hi h (by omega) ho hl hr
      · rw [if_neg h] at hr
        obtain rfl := Option.some.inj hr
        exact ⟨ho, rfl⟩
theorem zeros_all (n : Nat) : (List.replicate n (0 : Int)).all fOk = true := by
  rw [List.all_eq_true]; intro x hx; obtain ⟨_, rfl⟩ := List.mem_replicate.1 hx; rfl
theorem mul_f (k : Nat) (A B r : List Int) (hA : A.all fOk = true) (hB : B.all fOk = true) (lA : A.length ≤ 1000) (lB : B.length ≤ 1000) (pA : 0 < A.length) (pB : 0 < B.length) (hr : spec_l2Mul.f k A B = some r) :
    impl_product.f k A B = some r ∧ r.all fOk = true ∧ r.length + 1 = A.length + B.length := by
  unfold spec_l2Mul.f at hr
  unfold impl_product.f
  rw [if_neg (by omega)] at hr ⊢
  have eb : ((B.length : Int) == 0) = false := by simp; intro h; rw [h] at pB; simp at pB
  rw [eb] at hr ⊢
  cases k with
  | zero => simp [spec_l2Mul.j0] at hr
  | succ k =>
    simp only [spec_l2Mul.j0, impl_product.j0] at hr ⊢
    rw [w64 (a := (A.length : Int) + B.length) (by omega) (by omega), w64 (by omega) (by omega), if_neg (by simp), if_pos (by omega), if_pos (by omega)] at hr ⊢
    have hl : (List.replicate ((A.length : Int) + B.length - 1).toNat (0 : Int)).length + 1 = A.length + B.length := by rw [List.length_replicate]; omega
    have h1 := (mul_both A B hA hB lA lB k).2 _ 0 (by omega) (zeros_all _) hl
    have h2 := (mul_inv A B hA hB lA lB r k).2 _ 0 (by omega) (zeros_all _) hl hr
    exact ⟨h1 ▸ hr, h2.1, by omega⟩

end Go.Proofs.Ytplbobmllflniaa.Q
