import Derived.KernelRfl
import Derived.Test.YtahbooeioigbgaaDoorDf1
import Derived.Test.YtahbooeioigbgaaDoorDf5
import Derived.Test.YtahbooeioigbgaaDoorDf6
import Derived.Test.YtahbooeioigbgaaDoorQGaDf
set_option linter.unusedVariables false
set_option linter.unusedSimpArgs false
namespace Go.Proofs.YtahbooeioigbgaaDoor.Q
open Go.RowKit Go.Proofs.YtahbooeioigbgaaDoor.Df Go.Proofs.YtahbooeioigbgaaDoorS.PrintWords Go.Proofs.YtahbooeioigbgaaDoorS.PrintLast Go.Proofs.YtahbooeioigbgaaDoorS.PrintMore
theorem rd_fOk {l : List Int} (h : l.all fOk = true) (i : Int) : 0 ≤ rd l i ∧ rd l i ≤ 30 := by
  unfold rd
  rw [List.getD_eq_getElem?_getD]
  rcases Nat.lt_or_ge i.toNat l.length with hi | hi
  · rw [List.getElem?_eq_getElem hi]; exact (fOk_iff _).1 (all_get h _ hi)
  · rw [List.getElem?_eq_none hi]; simp
theorem all_set {l : List Int} (h : l.all fOk = true) (i : Nat) (x : Int) (hx : fOk x = true) : (l.set i x).all fOk = true := by
  rw [List.all_eq_true] at h ⊢
  intro y hy
  rcases List.mem_or_eq_of_mem_set hy with hy | rfl
  · exact h y hy
  · exact hx
theorem zeros_all (n : Nat) : (List.replicate n (0 : Int)).all fOk = true := by
  rw [List.all_eq_true]; intro x hx; obtain ⟨_, rfl⟩ := List.mem_replicate.1 hx; rfl
theorem leO_le {α : Type} {f : Nat → Option α} (h : ∀ k, LeO (f k) (f (k + 1))) {k K : Nat} (hk : k ≤ K) {r : α} (hr : f k = some r) : f K = some r := by
  obtain ⟨d, rfl⟩ : ∃ d, K = k + d := ⟨K - k, by omega⟩
  clear hk
  induction d with
  | zero => exact hr
  | succ d ih => exact h _ _ ih
theorem list2 (l : List Int) (h : l.length = 2) : ∃ a b, l = [a, b] := by
  match l, h with
  | [a, b], _ => exact ⟨a, b, rfl⟩
theorem list4' (l : List Int) (h : l.length = 4) : ∃ a b c d, l = [a, b, c, d] := by
  match l, h with
  | [a, b, c, d], _ => exact ⟨a, b, c, d, rfl⟩
theorem list5 (l : List Int) (h : l.length = 5) : ∃ a b c d e, l = [a, b, c, d, e] := by
  match l, h with
  | [a, b, c, d, e], _ => exact ⟨a, b, c, d, e, rfl⟩
theorem first_f (u : Int) (v : List Int) (h : v.length ≤ 1000) : spec_l12First.f v u = some (u :: v) := by
  unfold spec_l12First.f
  rw [Option.bind_some, if_pos (by simp; omega)]
  rfl
theorem fieldDif_f (a b : Int) (ha : fOk a = true) (hb : fOk b = true) : spec_FieldDif.f a b = some ((a - b) % 31) := by
  unfold spec_FieldDif.f
  have h1 := (fOk_iff a).1 ha
  have h2 := (fOk_iff b).1 hb
  rw [fieldOk_f, Option.bind_some, if_pos ha, fieldOk_f, Option.bind_some, if_pos hb, w64 (a := a + 31) (by omega) (by omega), w64 (by omega) (by omega), Int.tmod_eq_emod_of_nonneg (by omega)]
  congr 1; omega
def dec1 (v : List Int) : List Int := v.map fun x => (x - 1) % 31
theorem dec1_all (v : List Int) : (dec1 v).all fOk = true := by
  rw [List.all_eq_true]
  intro x hx
  obtain ⟨y, _, rfl⟩ := List.mem_map.1 hx
  exact fOk_mod _
theorem dec1_snoc (l : List Int) (a : Int) : dec1 (l ++ [a]) = dec1 l ++ [(a - 1) % 31] := by simp [dec1]
theorem second_loop (v : List Int) (w : Int) (hl : v.length ≤ 1000) (hV : v.all fOk = true) (d : Nat) : ∀ (k i : Nat), i + d = v.length → d < k → spec_l12Second.l0 k v (w :: dec1 (v.take i)) (i : Int) = some (w :: dec1 v) := by
  induction d with
  | zero =>
    intro k i hi hk
    obtain ⟨k, rfl⟩ : ∃ j, k = j + 1 := ⟨k - 1, by omega⟩
    simp only [spec_l12Second.l0]
    rw [if_neg (by omega)]
    obtain rfl : i = v.length := by omega
    rw [List.take_length]
  | succ d ih =>
    intro k i hi hk
    obtain ⟨k, rfl⟩ : ∃ j, k = j + 1 := ⟨k - 1, by omega⟩
    simp only [spec_l12Second.l0]
    have h1 : i < v.length := by omega
    rw [if_pos (by omega), if_pos (by omega), rd_nat v i h1, fieldDif_f _ 1 (all_get hV i h1) rfl, Option.bind_some, if_pos (by simp [dec1]; omega), w64 (by omega) (by omega)]
    have := ih k (i + 1) (by omega) (by omega)
    rw [List.take_succ_eq_append_getElem h1, dec1_snoc] at this
    exact this
theorem second_f (k : Nat) (v : List Int) (w : Int) (hl : v.length ≤ 1000) (hV : v.all fOk = true) (hk : v.length < k) : spec_l12Second.f k v w = some (w :: dec1 v) := by
  unfold spec_l12Second.f
  have := second_loop v w hl hV v.length k 0 (by omega) hk
  simpa [dec1] using this
theorem lenOf {α : Type} {o : Option α} {g : α → Nat} {n : Nat} (h : o.map g = some n) : ∃ x, o = some x ∧ g x = n := by
  cases o with
  | none => cases h
  | some x => exact ⟨x, rfl, by simpa using h⟩
theorem mulLen2 (a b c d : Int) : (spec_l2Mul.f 90 [a, b] [c, d]).map List.length = some 3 := by kernel_rfl
theorem mulLen4 (a b c d e f g h : Int) : (spec_l2Mul.f 90 [a, b, c, d] [e, f, g, h]).map List.length = some 7 := by kernel_rfl
theorem mulLen5 (a b c d e f g h i j : Int) : (spec_l2Mul.f 90 [a, b, c, d, e] [f, g, h, i, j]).map List.length = some 9 := by kernel_rfl
theorem mulEx (n : Nat) (hn : n = 2 ∨ n = 4 ∨ n = 5) (A B : List Int) (hA : A.length = n) (hB : B.length = n) : ∃ r, spec_l2Mul.f 90 A B = some r ∧ r.length + 1 = n + n := by
  rcases hn with rfl | rfl | rfl
  · match A, hA, B, hB with
    | [a, b], _, [c, d], _ => obtain ⟨r, e, l⟩ := lenOf (mulLen2 a b c d); exact ⟨r, e, by omega⟩
  · match A, hA, B, hB with
    | [a, b, c, d], _, [e, f, g, h], _ => obtain ⟨r, e, l⟩ := lenOf (mulLen4 a b c d e f g h); exact ⟨r, e, by omega⟩
  · match A, hA, B, hB with
    | [a, b, c, d, e], _, [f, g, h, i, j], _ => obtain ⟨r, e, l⟩ := lenOf (mulLen5 a b c d e f g h i j); exact ⟨r, e, by omega⟩
def lin (o v c : Int) : Int := Int.tmod (wrap64 (o + wrap64 (v * c))) 31
theorem l2Through2_raw (a b : Int) : spec_l2Through.f 90 [a, b] = some [(lin (lin 0 a 1) b 0), (lin (lin 0 a 30) b 1)] := by kernel_rfl
theorem l2Through4_raw (a b c d : Int) : spec_l2Through.f 90 [a, b, c, d] = some [(lin (lin (lin (lin 0 a 1) b 0) c 0) d 0), (lin (lin (lin (lin 0 a 24) b 3) c 14) d 21), (lin (lin (lin (lin 0 a 1) b 13) c 2) d 15), (lin (lin (lin (lin 0 a 5) b 16) c 15) d 26)] := by kernel_rfl
theorem l2Through5_raw (a b c d e : Int) : spec_l2Through.f 90 [a, b, c, d, e] = some [(lin (lin (lin (lin (lin 0 a 1) b 0) c 0) d 0) e 0), (lin (lin (lin (lin (lin 0 a 16) b 4) c 28) d 22) e 23), (lin (lin (lin (lin (lin 0 a 26) b 6) c 28) d 8) e 25), (lin (lin (lin (lin (lin 0 a 28) b 17) c 29) d 27) e 23), (lin (lin (lin (lin (lin 0 a 22) b 5) c 8) d 5) e 22)] := by kernel_rfl
end Go.Proofs.YtahbooeioigbgaaDoor.Q
