import Derived.Test.YtahbooeioigbgaaDoorDa1
import Derived.Test.YtahbooeioigbgaaDoorDa3
import Derived.Test.YtahbooeioigbgaaDoorDa4
import Derived.Test.YtahbooeioigbgaaDoorDa6
import Derived.Test.YtahbooeioigbgaaDoorDa9
import Derived.Test.YtahbooeioigbgaaDoorQGaDa
set_option linter.unusedVariables false
set_option linter.unusedSimpArgs false
namespace Go.Proofs.YtahbooeioigbgaaDoor.Q
open Go.RowKit Go.Proofs.YtahbooeioigbgaaDoor.Da Go.Proofs.YtahbooeioigbgaaDoorW.PrintWords Go.Proofs.YtahbooeioigbgaaDoorW.PrintLast Go.Proofs.YtahbooeioigbgaaDoorW.PrintMore
theorem rd_fOk {l : List Int} (h : l.all fOk = true) (i : Int) : 0 ≤ rd l i ∧ rd l i ≤ 30 := by
  unfold rd
  rw [List.getD_eq_getElem?_getD]
  rcases Nat.lt_or_ge i.toNat l.length with hi | hi
  · rw [List.getElem?_eq_getElem hi]; exact (fOk_iff _).1 (all_get h _ hi)
  · rw [List.getElem?_eq_none hi]; simp
theorem all_set {l : List Int} (h : l.all fOk = true) (i : Nat) (x : Int) (hx : fOk x = true) : (l.set i x).all fOk = true := by
  rw [List.all_eq_true] at h ⊢
  intro y hy
  rcases List.mem_or_eq_of_mem_set hy with hy | rfl
  · exact h y hy
  · exact hx
theorem zeros_all (n : Nat) : (List.replicate n (0 : Int)).all fOk = true := by
  rw [List.all_eq_true]; intro x hx; obtain ⟨_, rfl⟩ := List.mem_replicate.1 hx; rfl
theorem leO_le {α : Type} {f : Nat → Option α} (h : ∀ k, LeO (f k) (f (k + 1))) {k K : Nat} (hk : k ≤ K) {r : α} (hr : f k = some r) : f K = some r := by
  obtain ⟨d, rfl⟩ : ∃ d, K = k + d := ⟨K - k, by omega⟩
  clear hk
  induction d with
  | zero => exact hr
  | succ d ih => exact h _ _ ih
theorem list2 (l : List Int) (h : l.length = 2) : ∃ a b, l = [a, b] := by
  match l, h with
  | [a, b], _ => exact ⟨a, b, rfl⟩
theorem list4' (l : List Int) (h : l.length = 4) : ∃ a b c d, l = [a, b, c, d] := by
  match l, h with
  | [a, b, c, d], _ => exact ⟨a, b, c, d, rfl⟩
theorem list5 (l : List Int) (h : l.length = 5) : ∃ a b c d e, l = [a, b, c, d, e] := by
  match l, h with
  | [a, b, c, d, e], _ => exact ⟨a, b, c, d, e, rfl⟩
theorem first_f (u : Int) (v : List Int) (h : v.length ≤ 1000) : spec_l12First.f v u = some (u :: v) := by
  unfold spec_l12First.f
  rw [Option.bind_some, if_pos (by simp; omega)]
  rfl
theorem fieldDif_f (a b : Int) (ha : fOk a = true) (hb : fOk b = true) : spec_FieldDif.f a b = some ((a - b) % 31) := by
  unfold spec_FieldDif.f
  have h1 := (fOk_iff a).1 ha
  have h2 := (fOk_iff b).1 hb
  rw [fieldOk_f, Option.bind_some, if_pos ha, fieldOk_f, Option.bind_some, if_pos hb, w64 (a := a + 31) (by omega) (by omega), w64 (by omega) (by omega), Int.tmod_eq_emod_of_nonneg (by omega)]
  congr 1; omega
def dec1 (v : List Int) : List Int := v.map fun x => (x - 1) % 31
theorem dec1_all (v : List Int) : (dec1 v).all fOk = true := by
  rw [List.all_eq_true]
  intro x hx
  obtain ⟨y, _, rfl⟩ := List.mem_map.1 hx
  exact fOk_mod _
theorem dec1_snoc (l : List Int) (a : Int) : dec1 (l ++ [a]) = dec1 l ++ [(a - 1) % 31] := by simp [dec1]
theorem second_loop (v : List Int) (w : Int) (hl : v.length ≤ 1000) (hV : v.all fOk = true) (d : Nat) : ∀ (k i : Nat), i + d = v.length → d < k → spec_l12Second.l0 k v (w :: dec1 (v.take i)) (i : Int) = some (w :: dec1 v) := by
  induction d with
  | zero =>
    intro k i hi hk
    obtain ⟨k, rfl⟩ : ∃ j, k = j + 1 := ⟨k - 1, by omega⟩
    simp only [spec_l12Second.l0]
    rw [if_neg (by omega)]
    obtain rfl : i = v.length := by omega
    rw [List.take_length]
  | succ d ih =>
    intro k i hi hk
    obtain ⟨k, rfl⟩ : ∃ j, k = j + 1 := ⟨k - 1, by omega⟩
    simp only [spec_l12Second.l0]
    have h1 : i < v.length := by omega
    rw [if_pos (by omega), if_pos (by omega), rd_nat v i h1, fieldDif_f _ 1 (all_get hV i h1) rfl, Option.bind_some, if_pos (by simp [dec1]; omega), w64 (by omega) (by omega)]
    have := ih k (i + 1) (by omega) (by omega)
    rw [List.take_succ_eq_append_getElem h1, dec1_snoc] at this
    exact this
theorem second_f (k : Nat) (v : List Int) (w : Int) (hl : v.length ≤ 1000) (hV : v.all fOk = true) (hk : v.length < k) : spec_l12Second.f k v w = some (w :: dec1 v) := by
  unfold spec_l12Second.f
  have := second_loop v w hl hV v.length k 0 (by omega) hk
  simpa [dec1] using this
theorem polyOkS_loop (l : List Int) (hl : l.length ≤ 1048576000) (d : Nat) : ∀ (k : Nat) (i : Nat), i + d = l.length → (l.take i).all fOk = true → d < k → spec_PolyOk.l0 k l (i : Int) = some (l.all fOk && decide ((l.length : Int) ≤ 9)) := by
  induction d with
  | zero =>
    intro k i hi ht hk
    obtain ⟨k, rfl⟩ : ∃ j, k = j + 1 := ⟨k - 1, by omega⟩
    simp only [spec_PolyOk.l0]
    rw [if_neg (by omega)]
    obtain rfl : i = l.length := by omega
    rw [List.take_length] at ht
    simp [ht]
  | succ d ih =>
    intro k i hi ht hk
    obtain ⟨k, rfl⟩ : ∃ j, k = j + 1 := ⟨k - 1, by omega⟩
    simp only [spec_PolyOk.l0]
    have h1 : i < l.length := by omega
    rw [if_pos (by omega), if_pos (by omega), fieldOk_f, Option.bind_some, rd_nat l i h1, w64 (by omega) (by omega)]
    cases e : fOk l[i]
    · rw [if_neg (by simp)]
      have : l.all fOk = false := by
        cases h : l.all fOk
        · rfl
        · rw [all_get h i h1] at e; cases e
      rw [this]; rfl
    · rw [if_pos rfl]
      have := ih k (i + 1) (by omega) (by rw [List.take_succ_eq_append_getElem h1, List.all_append, ht]; simp [e]) (by omega)
      simpa using this
theorem polyOkS_f (k : Nat) (l : List Int) (hl : l.length ≤ 1048576000) (hk : l.length < k) : spec_PolyOk.f k l = some (l.all fOk && decide ((l.length : Int) ≤ 9)) :=
  polyOkS_loop l hl l.length k 0 (by omega) (by simp) hk
theorem l12Form_f (K : Nat) (kind a b : Int) (l : List Int) (hl : l.length ≤ 1048576000) (hK : l.length < K) : spec_l12Form.f K kind a b l = some (kOk kind && formOk kind a b l) := by
  unfold spec_l12Form.f
  have ht := tLen_le kind
  rw [l11Kind_f, Option.bind_some]
  cases hk : kOk kind
  · rfl
  rw [if_pos rfl, fieldOk_f, Option.bind_some]
  unfold formOk
  cases ha : fOk a
  · rfl
  rw [if_pos rfl, fieldOk_f, Option.bind_some]
  cases hb : fOk b
  · rfl
  rw [if_pos rfl, polyOkS_f K l hl hK, Option.bind_some]
  cases hA : l.all fOk
  · simp
  by_cases h9 : (l.length : Int) ≤ 9
  · rw [if_pos (by simp [h9]), specTypeLen_f, Option.bind_some, w64 (a := 2 * tLen kind) (by omega) (by omega), w64 (a := 2 * tLen kind + 1) (by omega) (by omega)]
    simp [h9]; rfl
  · rw [if_neg (by simp; omega)]; simp [h9]
end Go.Proofs.YtahbooeioigbgaaDoor.Q
