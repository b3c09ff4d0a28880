import Derived.KernelRfl
import Derived.Test.YtplbobmllflniaaEi2
import Derived.Test.YtplbobmllflniaaEi3
import Derived.Test.YtplbobmllflniaaEi4
import Derived.Test.YtplbobmllflniaaEi5
import Derived.Test.YtplbobmllflniaaEi6
import Derived.Test.YtplbobmllflniaaEi7
import Derived.Test.YtplbobmllflniaaQBaseEi
import Derived.Test.YtplbobmllflniaaQElEi
import Derived.Test.YtplbobmllflniaaQHvEi
import Derived.Test.YtplbobmllflniaaQRdEi
import Derived.Test.YtplbobmllflniaaQShareEi
import Derived.Test.YtplbobmllflniaaQThroughEi
set_option linter.unusedVariables false
set_option linter.unusedSimpArgs false
namespace Go.Proofs.Ytplbobmllflniaa.Q
open Go.RowKit Go.Proofs.Ytplbobmllflniaa.Ei Go.Proofs.YtplbobmllflniaaW.PrintWords Go.Proofs.YtplbobmllflniaaW.PrintLast Go.Proofs.YtplbobmllflniaaW.PrintMore
theorem implFieldOk_f (a : Int) : impl_FieldOk.f a = some (fOk a) := by unfold impl_FieldOk.f; rw [within_f]; rfl
theorem cut_f (kind : Int) (l : List Int) (hl : (l.length : Int) = 3 * tLen kind + 3) :
    impl_cut.f kind l = some (l.take (tLen kind).toNat, rd l (tLen kind), rd l (tLen kind + 1), l.drop ((tLen kind).toNat + 2)) ∧ spec_l12Cut.f kind l = some (l.take (tLen kind).toNat, rd l (tLen kind), rd l (tLen kind + 1), l.drop ((tLen kind).toNat + 2)) := by
  have ht := tLen_le kind
  have e2 : (tLen kind + 2).toNat = (tLen kind).toNat + 2 := by omega
  have h1 : (l.take (tLen kind).toNat).length < 17592186044416 := by rw [List.length_take]; omega
  have h2 : (l.drop ((tLen kind).toNat + 2)).length < 17592186044416 := by rw [List.length_drop]; omega
  constructor
  · unfold impl_cut.f impl_TypeLen.f slices_Clone_int_int.f slices_Clip_int_int.f
    rw [Option.bind_some, if_pos ht.1, if_pos (by omega), if_pos h1, Option.bind_some, Option.bind_some, if_pos (by omega), w64 (a := tLen kind + 1) (by omega) (by omega), w64 (a := tLen kind + 2) (by omega) (by omega), if_pos (by omega), if_pos (by omega), if_pos (by omega), if_pos (by omega), e2, if_pos h2, Option.bind_some, Option.bind_some]
  · unfold spec_l12Cut.f
    rw [specTypeLen_f, Option.bind_some, Option.bind_some, if_pos ht.1, if_pos (by omega), if_pos (by simpa using h1), if_pos (by omega), w64 (a := tLen kind + 1) (by omega) (by omega), w64 (a := tLen kind + 2) (by omega) (by omega), if_pos (by omega), if_pos (by omega), Option.bind_some, if_pos (by omega), if_pos (by omega), e2, if_pos (by simpa using h2)]
    simp
def pw (w : Int) : Nat → Int | 0 => 1 | j + 1 => (pw w j * w) % 31
theorem pw_bd (w : Int) (j : Nat) : 0 ≤ pw w j ∧ pw w j ≤ 30 := by
  cases j with
  | zero => show (0 : Int) ≤ 1 ∧ (1 : Int) ≤ 30; omega
  | succ j => rw [pw]; omega
theorem power_loop (w : Int) (hw : 0 ≤ w ∧ w ≤ 30) (n d : Nat) (hn : n ≤ 1000) : ∀ (k j : Nat), j + d = n → d < k → impl_element_power.l0 k w (pw w j) (n : Int) (j : Int) = some (pw w n) := by
  induction d with
  | zero =>
    intro k j hj hk
    obtain ⟨k, rfl⟩ : ∃ m, k = m + 1 := ⟨k - 1, by omega⟩
    obtain rfl : j = n := by omega
    simp only [impl_element_power.l0]; rw [if_neg (by omega)]
  | succ d ih =>
    intro k j hj hk
    obtain ⟨k, rfl⟩ : ∃ m, k = m + 1 := ⟨k - 1, by omega⟩
    simp only [impl_element_power.l0]
    rw [if_pos (by omega), elTimes_f _ _ (pw_bd w j) hw, Option.bind_some, w64 (by omega) (by omega)]
    exact ih k (j + 1) (by omega) (by omega)
theorem power_f (k : Nat) (w : Int) (hw : 0 ≤ w ∧ w ≤ 30) (n : Nat) (hn : n ≤ 1000) (hk : n < k) : impl_element_power.f k w (n : Int) = some (pw w n) :=
  power_loop w hw n n hn k 0 (by omega) hk
def totv (v : List Int) : Int := v.foldl (fun s x => (s + x) % 31) 0
theorem totv_snoc (v : List Int) (x : Int) : totv (v ++ [x]) = (totv v + x) % 31 := by simp [totv]
theorem fold31 (l : List Int) : ∀ s : Int, 0 ≤ s ∧ s ≤ 30 → 0 ≤ l.foldl (fun s x => (s + x) % 31) s ∧ l.foldl (fun s x => (s + x) % 31) s ≤ 30 := by
  induction l with
  | nil => exact fun s h => h
  | cons x l ih => intro s _; rw [List.foldl_cons]; exact ih _ (by omega)
theorem totv_bd (v : List Int) : 0 ≤ totv v ∧ totv v ≤ 30 := fold31 v 0 (by omega)
theorem total_loop (v : List Int) (hv : v.all fOk = true) (hl : v.length ≤ 1000) (d : Nat) : ∀ (k j : Nat), j + d = v.length → d < k → impl_total.l0 k (totv (v.take j)) v (v.length : Int) (j : Int) = some (totv v) := by
  induction d with
  | zero =>
    intro k j hj hk
    obtain ⟨k, rfl⟩ : ∃ m, k = m + 1 := ⟨k - 1, by omega⟩
    obtain rfl : j = v.length := by omega
    simp only [impl_total.l0]; rw [if_neg (by omega), List.take_length]
  | succ d ih =>
    intro k j hj hk
    obtain ⟨k, rfl⟩ : ∃ m, k = m + 1 := ⟨k - 1, by omega⟩
    simp only [impl_total.l0]
    have h1 : j < v.length := by omega
    rw [if_pos (by omega), if_pos (by omega), if_pos (by omega), rd_nat v j h1, elPlus_f _ _ (totv_bd _) ((fOk_iff _).1 (all_get hv j h1)), Option.bind_some, w64 (by omega) (by omega), ← totv_snoc, ← List.take_succ_eq_append_getElem h1]
    exact ih k (j + 1) (by omega) (by omega)
theorem total_f (k : Nat) (v : List Int) (hv : v.all fOk = true) (hl : v.length ≤ 1000) (hk : v.length < k) : impl_total.f k v = some (totv v) :=
  total_loop v hv hl v.length k 0 (by omega) hk
def decC (c : Int) (v : List Int) : List Int := v.map fun x => (x - c) % 31
theorem decC_length (c : Int) (v : List Int) : (decC c v).length = v.length := by simp [decC]
theorem decC_all (c : Int) (v : List Int) : (decC c v).all fOk = true := by
  rw [List.all_eq_true]
  intro x hx
  obtain ⟨y, _, rfl⟩ := List.mem_map.1 hx
  exact fOk_mod _
theorem decC_snoc (c : Int) (l : List Int) (a : Int) : decC c (l ++ [a]) = decC c l ++ [(a - c) % 31] := by simp [decC]
theorem loweredC_loop (c : Int) (hc : 0 ≤ c ∧ c ≤ 30) (v : List Int) (hl : v.length ≤ 1000) (hv : v.all fOk = true) (d : Nat) : ∀ (k i : Nat), i + d = v.length → d < k → impl_lowered.l0 k c (decC c (v.take i)) v (v.length : Int) (i : Int) = some (decC c v) := by
  induction d with
  | zero =>
    intro k i hi hk
    obtain ⟨k, rfl⟩ : ∃ m, k = m + 1 := ⟨k - 1, by omega⟩
    obtain rfl : i = v.length := by omega
    simp only [impl_lowered.l0]; rw [if_neg (by omega), List.take_length]
  | succ d ih =>
    intro k i hi hk
    obtain ⟨k, rfl⟩ : ∃ m, k = m + 1 := ⟨k - 1, by omega⟩
    simp only [impl_lowered.l0]
    have h1 : i < v.length := by omega
    rw [if_pos (by omega), if_pos (by omega), if_pos (by omega), rd_nat v i h1, elMinus_f _ _ ((fOk_iff _).1 (all_get hv i h1)) hc, Option.bind_some, if_pos (by rw [decC_length, List.length_take]; omega), w64 (by omega) (by omega), ← decC_snoc, ← List.take_succ_eq_append_getElem h1]
    exact ih k (i + 1) (by omega) (by omega)
theorem loweredC_f (k : Nat) (c : Int) (hc : 0 ≤ c ∧ c ≤ 30) (v : List Int) (hl : v.length ≤ 1000) (hv : v.all fOk = true) (hk : v.length < k) : impl_lowered.f k v c = some (decC c v) := by
  unfold impl_lowered.f
  rw [if_pos (by omega), if_pos (by omega)]
  exact loweredC_loop c hc v hl hv v.length k 0 (by omega) hk
theorem at_loop (x : Int) (hx : 0 ≤ x ∧ x ≤ 30) (p : List Int) (hp : p.all fOk = true) (hl : p.length ≤ 1000000) (d : Nat) : ∀ (k : Nat), d ≤ p.length → d < k → spec_l2At.l0 k p x (hv x (p.drop d)) ((d : Int) - 1) = some (hv x p) := by
  induction d with
  | zero =>
    intro k _ hk
    obtain ⟨k, rfl⟩ : ∃ m, k = m + 1 := ⟨k - 1, by omega⟩
    simp only [spec_l2At.l0]; rw [if_neg (by omega)]; rfl
  | succ d ih =>
    intro k hd hk
    obtain ⟨k, rfl⟩ : ∃ m, k = m + 1 := ⟨k - 1, by omega⟩
    simp only [spec_l2At.l0]
    have h1 : d < p.length := by omega
    have hb := hv_bd x (p.drop (d + 1))
    have hm := mul_bd' hb hx
    have hc := (fOk_iff _).1 (all_get hp d h1)
    rw [show ((d + 1 : Nat) : Int) - 1 = (d : Int) by omega, if_pos (by omega), if_pos (by omega), if_pos (by omega), rd_nat p d h1, w64 (a := hv x (p.drop (d + 1)) * x) (by omega) (by omega), w64 (a := _ + p[d]) (by omega) (by omega), Int.tmod_eq_emod_of_nonneg (by omega), w64 (a := (d : Int) - 1) (by omega) (by omega)]
    have := ih k (by omega) (by omega)
    rwa [List.drop_eq_getElem_cons h1, hv_cons] at this
theorem at_f (k : Nat) (x : Int) (hx : 0 ≤ x ∧ x ≤ 30) (p : List Int) (hp : p.all fOk = true) (hl : p.length ≤ 1000000) (hk : p.length < k) : spec_l2At.f k p x = some (hv x p) := by
  unfold spec_l2At.f
  rw [w64 (by omega) (by omega)]
  have := at_loop x hx p hp hl p.length k (Nat.le_refl _) hk
  rwa [List.drop_length] at this
def dotv (a b : List Int) : Int := (List.zipWith (· * ·) a b).foldl (fun s x => (s + x) % 31) 0
theorem dotv_snoc (a b : List Int) (x y : Int) (h : a.length = b.length) : dotv (a ++ [x]) (b ++ [y]) = (dotv a b + x * y) % 31 := by
  unfold dotv; rw [List.zipWith_append h]; simp
theorem dotv_bd (a b : List Int) : 0 ≤ dotv a b ∧ dotv a b ≤ 30 := fold31 _ 0 (by omega)
theorem dot_loop (a b : List Int) (ha : a.all fOk = true) (hb : b.all fOk = true) (hl : a.length = b.length) (hn : a.length ≤ 1000) (d : Nat) : ∀ (k j : Nat), j + d = a.length → d < k → spec_l13Dot.l0 k a b (dotv (a.take j) (b.take j)) (j : Int) = some (dotv a b) := by
  induction d with
  | zero =>
    intro k j hj hk
    obtain ⟨k, rfl⟩ : ∃ m, k = m + 1 := ⟨k - 1, by omega⟩
    obtain rfl : j = a.length := by omega
    simp only [spec_l13Dot.l0]; rw [if_neg (by omega), List.take_length, hl, List.take_length]
  | succ d ih =>
    intro k j hj hk
    obtain ⟨k, rfl⟩ : ∃ m, k = m + 1 := ⟨k - 1, by omega⟩
    simp only [spec_l13Dot.l0]
    have h1 : j < a.length := by omega
    have h2 : j < b.length := by omega
    have hp := mul_bd' ((fOk_iff _).1 (all_get ha j h1)) ((fOk_iff _).1 (all_get hb j h2))
    have hd := dotv_bd (a.take j) (b.take j)
    rw [if_pos (by omega), if_pos (by omega), if_pos (by omega), rd_nat a j h1, rd_nat b j h2, w64 (a := a[j] * b[j]) (by omega) (by omega), w64 (a := _ + a[j] * b[j]) (by omega) (by omega), Int.tmod_eq_emod_of_nonneg (by omega), w64 (by omega) (by omega), ← dotv_snoc _ _ _ _ (by simp; omega), ← List.take_succ_eq_append_getElem h1, ← List.take_succ_eq_append_getElem h2]
    exact ih k (j + 1) (by omega) (by omega)
theorem dot_f (k : Nat) (a b : List Int) (ha : a.all fOk = true) (hb : b.all fOk = true) (hl : a.length = b.length) (hn : a.length ≤ 1000) (hk : a.length < k) : spec_l13Dot.f k a b = some (dotv a b) :=
  dot_loop a b ha hb hl hn a.length k 0 (by omega) hk
end Go.Proofs.Ytplbobmllflniaa.Q
