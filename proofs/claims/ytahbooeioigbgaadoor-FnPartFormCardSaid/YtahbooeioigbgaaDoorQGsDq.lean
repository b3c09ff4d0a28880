import Derived.KernelRfl
import Derived.Test.YtahbooeioigbgaaDoorDq1
import Derived.Test.YtahbooeioigbgaaDoorDq5
import Derived.Test.YtahbooeioigbgaaDoorDq6
import Derived.Test.YtahbooeioigbgaaDoorQGaDq
set_option linter.unusedVariables false
set_option linter.unusedSimpArgs false
namespace Go.Proofs.YtahbooeioigbgaaDoor.Q
open Go.RowKit Go.Proofs.YtahbooeioigbgaaDoor.Dq Go.Proofs.YtahbooeioigbgaaDoorT.PrintWords Go.Proofs.YtahbooeioigbgaaDoorT.PrintLast Go.Proofs.YtahbooeioigbgaaDoorT.PrintMore
theorem leO_le {α : Type} {f : Nat → Option α} (h : ∀ k, LeO (f k) (f (k + 1))) {k K : Nat} (hk : k ≤ K) {r : α} (hr : f k = some r) : f K = some r := by
  obtain ⟨d, rfl⟩ : ∃ d, K = k + d := ⟨K - k, by omega⟩
  clear hk
  induction d with
  | zero => exact hr
  | succ d ih => exact h _ _ ih
theorem first_f (u : Int) (v : List Int) (h : v.length ≤ 1000) : spec_l12First.f v u = some (u :: v) := by
  unfold spec_l12First.f
  rw [Option.bind_some, if_pos (by simp; omega)]
  rfl
theorem fieldDif_f (a b : Int) (ha : fOk a = true) (hb : fOk b = true) : spec_FieldDif.f a b = some ((a - b) % 31) := by
  unfold spec_FieldDif.f
  have h1 := (fOk_iff a).1 ha
  have h2 := (fOk_iff b).1 hb
  rw [fieldOk_f, Option.bind_some, if_pos ha, fieldOk_f, Option.bind_some, if_pos hb, w64 (a := a + 31) (by omega) (by omega), w64 (by omega) (by omega), Int.tmod_eq_emod_of_nonneg (by omega)]
  congr 1; omega
def dec1 (v : List Int) : List Int := v.map fun x => (x - 1) % 31
theorem dec1_snoc (l : List Int) (a : Int) : dec1 (l ++ [a]) = dec1 l ++ [(a - 1) % 31] := by simp [dec1]
theorem second_loop (v : List Int) (w : Int) (hl : v.length ≤ 1000) (hV : v.all fOk = true) (d : Nat) : ∀ (k i : Nat), i + d = v.length → d < k → spec_l12Second.l0 k v (w :: dec1 (v.take i)) (i : Int) = some (w :: dec1 v) := by
  induction d with
  | zero =>
    intro k i hi hk
    obtain ⟨k, rfl⟩ : ∃ j, k = j + 1 := ⟨k - 1, by omega⟩
    simp only [spec_l12Second.l0]
    rw [if_neg (by omega)]
    obtain rfl : i = v.length := by omega
    rw [List.take_length]
  | succ d ih =>
    intro k i hi hk
    obtain ⟨k, rfl⟩ : ∃ j, k = j + 1 := ⟨k - 1, by omega⟩
    simp only [spec_l12Second.l0]
    have h1 : i < v.length := by omega
    rw [if_pos (by omega), if_pos (by omega), rd_nat v i h1, fieldDif_f _ 1 (all_get hV i h1) rfl, Option.bind_some, if_pos (by simp [dec1]; omega), w64 (by omega) (by omega)]
    have := ih k (i + 1) (by omega) (by omega)
    rw [List.take_succ_eq_append_getElem h1, dec1_snoc] at this
    exact this
theorem second_f (k : Nat) (v : List Int) (w : Int) (hl : v.length ≤ 1000) (hV : v.all fOk = true) (hk : v.length < k) : spec_l12Second.f k v w = some (w :: dec1 v) := by
  unfold spec_l12Second.f
  have := second_loop v w hl hV v.length k 0 (by omega) hk
  simpa [dec1] using this
theorem lenOf {α : Type} {o : Option α} {g : α → Nat} {n : Nat} (h : o.map g = some n) : ∃ x, o = some x ∧ g x = n := by
  cases o with
  | none => cases h
  | some x => exact ⟨x, rfl, by simpa using h⟩
theorem thrLen2 (a b : Int) : (spec_l2Through.f 90 [a, b]).map List.length = some 2 := by kernel_rfl
theorem thrLen4 (a b c d : Int) : (spec_l2Through.f 90 [a, b, c, d]).map List.length = some 4 := by kernel_rfl
theorem thrLen5 (a b c d e : Int) : (spec_l2Through.f 90 [a, b, c, d, e]).map List.length = some 5 := by kernel_rfl
theorem mulLen2 (a b c d : Int) : (spec_l2Mul.f 90 [a, b] [c, d]).map List.length = some 3 := by kernel_rfl
theorem mulLen4 (a b c d e f g h : Int) : (spec_l2Mul.f 90 [a, b, c, d] [e, f, g, h]).map List.length = some 7 := by kernel_rfl
theorem mulLen5 (a b c d e f g h i j : Int) : (spec_l2Mul.f 90 [a, b, c, d, e] [f, g, h, i, j]).map List.length = some 9 := by kernel_rfl
theorem thrEx (n : Nat) (hn : n = 2 ∨ n = 4 ∨ n = 5) (A : List Int) (hA : A.length = n) : ∃ r, spec_l2Through.f 90 A = some r ∧ r.length = n := by
  rcases hn with rfl | rfl | rfl
  · match A, hA with
    | [a, b], _ => exact lenOf (thrLen2 a b)
  · match A, hA with
    | [a, b, c, d], _ => exact lenOf (thrLen4 a b c d)
  · match A, hA with
    | [a, b, c, d, e], _ => exact lenOf (thrLen5 a b c d e)
theorem mulEx (n : Nat) (hn : n = 2 ∨ n = 4 ∨ n = 5) (A B : List Int) (hA : A.length = n) (hB : B.length = n) : ∃ r, spec_l2Mul.f 90 A B = some r ∧ r.length + 1 = n + n := by
  rcases hn with rfl | rfl | rfl
  · match A, hA, B, hB with
    | [a, b], _, [c, d], _ => obtain ⟨r, e, l⟩ := lenOf (mulLen2 a b c d); exact ⟨r, e, by omega⟩
  · match A, hA, B, hB with
    | [a, b, c, d], _, [e, f, g, h], _ => obtain ⟨r, e, l⟩ := lenOf (mulLen4 a b c d e f g h); exact ⟨r, e, by omega⟩
  · match A, hA, B, hB with
    | [a, b, c, d, e], _, [f, g, h, i, j], _ => obtain ⟨r, e, l⟩ := lenOf (mulLen5 a b c d e f g h i j); exact ⟨r, e, by omega⟩
theorem l12Make_ex (K : Nat) (hK : 95 ≤ K) (v : List Int) (hv' : v.length = 1 ∨ v.length = 3 ∨ v.length = 4) (hV : v.all fOk = true) (u w : Int) : ∃ x, spec_l12Make.f K v u w = some x ∧ 1 ≤ x.2.2.length ∧ x.2.2.length ≤ 9 := by
  have hn : v.length + 1 = 2 ∨ v.length + 1 = 4 ∨ v.length + 1 = 5 := by omega
  have l9 : v.length ≤ 1000 := by omega
  obtain ⟨f, f1, f2⟩ := thrEx _ hn (u :: v) rfl
  obtain ⟨g, g1, g2⟩ := thrEx _ hn (w :: dec1 v) (by simp [dec1])
  obtain ⟨h, h1, h2⟩ := mulEx _ hn f g f2 g2
  have f1K : spec_l2Through.f K (u :: v) = some f := leO_le (fun k => spec_l2Through.mono _ k) (by omega) f1
  have g1K : spec_l2Through.f K (w :: dec1 v) = some g := leO_le (fun k => spec_l2Through.mono _ k) (by omega) g1
  have h1K : spec_l2Mul.f K f g = some h := leO_le (fun k => spec_l2Mul.mono _ _ k) (by omega) h1
  unfold spec_l12Make.f
  rw [first_f _ _ l9, Option.bind_some, f1K, Option.bind_some, second_f K v w l9 hV (by omega), Option.bind_some, g1K, Option.bind_some, h1K, Option.bind_some]
  exact ⟨_, rfl, by simp only; omega, by simp only; omega⟩
end Go.Proofs.YtahbooeioigbgaaDoor.Q
