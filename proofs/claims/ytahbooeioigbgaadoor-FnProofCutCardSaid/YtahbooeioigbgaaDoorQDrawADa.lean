import Derived.KernelRfl
import Derived.Test.YtahbooeioigbgaaDoorDa14
import Derived.Test.YtahbooeioigbgaaDoorDa16
import Derived.Test.YtahbooeioigbgaaDoorDa3
import Derived.Test.YtahbooeioigbgaaDoorDa4
import Derived.Test.YtahbooeioigbgaaDoorDa6
import Derived.Test.YtahbooeioigbgaaDoorQGaDa
import Derived.Test.YtahbooeioigbgaaDoorQGeDa
import Derived.Test.YtahbooeioigbgaaDoorQGsDa
set_option linter.unusedVariables false
set_option linter.unusedSimpArgs false
namespace Go.Proofs.YtahbooeioigbgaaDoor.Q
open Go.RowKit Go.Proofs.YtahbooeioigbgaaDoor.Da Go.Proofs.YtahbooeioigbgaaDoorW.PrintWords Go.Proofs.YtahbooeioigbgaaDoorW.PrintLast Go.Proofs.YtahbooeioigbgaaDoorW.PrintMore
theorem lenOf {α : Type} {o : Option α} {g : α → Nat} {n : Nat} (h : o.map g = some n) : ∃ x, o = some x ∧ g x = n := by
  cases o with
  | none => cases h
  | some x => exact ⟨x, rfl, by simpa using h⟩
theorem thrLen2 (a b : Int) : (spec_l2Through.f 90 [a, b]).map List.length = some 2 := by kernel_rfl
theorem thrLen4 (a b c d : Int) : (spec_l2Through.f 90 [a, b, c, d]).map List.length = some 4 := by kernel_rfl
theorem thrLen5 (a b c d e : Int) : (spec_l2Through.f 90 [a, b, c, d, e]).map List.length = some 5 := by kernel_rfl
theorem mulLen2 (a b c d : Int) : (spec_l2Mul.f 90 [a, b] [c, d]).map List.length = some 3 := by kernel_rfl
theorem mulLen4 (a b c d e f g h : Int) : (spec_l2Mul.f 90 [a, b, c, d] [e, f, g, h]).map List.length = some 7 := by kernel_rfl
theorem mulLen5 (a b c d e f g h i j : Int) : (spec_l2Mul.f 90 [a, b, c, d, e] [f, g, h, i, j]).map List.length = some 9 := by kernel_rfl
theorem thrEx (n : Nat) (hn : n = 2 ∨ n = 4 ∨ n = 5) (A : List Int) (hA : A.length = n) : ∃ r, spec_l2Through.f 90 A = some r ∧ r.length = n := by
  rcases hn with rfl | rfl | rfl
  · match A, hA with
    | [a, b], _ => exact lenOf (thrLen2 a b)
  · match A, hA with
    | [a, b, c, d], _ => exact lenOf (thrLen4 a b c d)
  · match A, hA with
    | [a, b, c, d, e], _ => exact lenOf (thrLen5 a b c d e)
theorem mulEx (n : Nat) (hn : n = 2 ∨ n = 4 ∨ n = 5) (A B : List Int) (hA : A.length = n) (hB : B.length = n) : ∃ r, spec_l2Mul.f 90 A B = some r ∧ r.length + 1 = n + n := by
  rcases hn with rfl | rfl | rfl
  · match A, hA, B, hB with
    | [a, b], _, [c, d], _ => obtain ⟨r, e, l⟩ := lenOf (mulLen2 a b c d); exact ⟨r, e, by omega⟩
  · match A, hA, B, hB with
    | [a, b, c, d], _, [e, f, g, h], _ => obtain ⟨r, e, l⟩ := lenOf (mulLen4 a b c d e f g h); exact ⟨r, e, by omega⟩
  · match A, hA, B, hB with
    | [a, b, c, d, e], _, [f, g, h, i, j], _ => obtain ⟨r, e, l⟩ := lenOf (mulLen5 a b c d e f g h i j); exact ⟨r, e, by omega⟩
theorem l12Make_ex (K : Nat) (hK : 95 ≤ K) (v : List Int) (hv' : v.length = 1 ∨ v.length = 3 ∨ v.length = 4) (hV : v.all fOk = true) (u w : Int) : ∃ x, spec_l12Make.f K v u w = some x ∧ 1 ≤ x.2.2.length ∧ x.2.2.length ≤ 9 := by
  have hn : v.length + 1 = 2 ∨ v.length + 1 = 4 ∨ v.length + 1 = 5 := by omega
  have l9 : v.length ≤ 1000 := by omega
  obtain ⟨f, f1, f2⟩ := thrEx _ hn (u :: v) rfl
  obtain ⟨g, g1, g2⟩ := thrEx _ hn (w :: dec1 v) (by simp [dec1])
  obtain ⟨h, h1, h2⟩ := mulEx _ hn f g f2 g2
  have f1K : spec_l2Through.f K (u :: v) = some f := leO_le (fun k => spec_l2Through.mono _ k) (by omega) f1
  have g1K : spec_l2Through.f K (w :: dec1 v) = some g := leO_le (fun k => spec_l2Through.mono _ k) (by omega) g1
  have h1K : spec_l2Mul.f K f g = some h := leO_le (fun k => spec_l2Mul.mono _ _ k) (by omega) h1
  unfold spec_l12Make.f
  rw [first_f _ _ l9, Option.bind_some, f1K, Option.bind_some, second_f K v w l9 hV (by omega), Option.bind_some, g1K, Option.bind_some, h1K, Option.bind_some]
  exact ⟨_, rfl, by simp only; omega, by simp only; omega⟩
theorem specMake_ex (K : Nat) (kind : Int) (v : List Int) (u w : Int) (hl : v.length ≤ 1000) (hK : 1100 ≤ K) :
    ∃ u' w' h b, spec_ProofMake.f K kind v u w = some (u', w', h, b) ∧ h.length ≤ 9 ∧ (b = true → 1 ≤ h.length ∧ 1 ≤ v.length) := by
  unfold spec_ProofMake.f
  rw [l11Vec_f _ _ _ (by omega) (by omega), Option.bind_some]
  cases hV : vecOk kind v
  · exact ⟨_, _, _, _, rfl, by simp, fun h => by cases h⟩
  rw [if_pos rfl, fieldOk_f, Option.bind_some]
  cases fOk u
  · exact ⟨_, _, _, _, rfl, by simp, fun h => by cases h⟩
  rw [if_pos rfl, fieldOk_f, Option.bind_some]
  cases fOk w
  · exact ⟨_, _, _, _, rfl, by simp, fun h => by cases h⟩
  unfold vecOk at hV
  simp only [Bool.and_eq_true, decide_eq_true_eq] at hV
  obtain ⟨⟨hk, hlen⟩, hall⟩ := hV
  have hn : v.length = 1 ∨ v.length = 3 ∨ v.length = 4 := by
    rcases tLen_cases hk with ⟨_, e⟩ | ⟨_, e⟩ | ⟨_, e⟩ <;> omega
  obtain ⟨x, e, h1, h2⟩ := l12Make_ex K (by omega) v hn hall u w
  rw [if_pos rfl, e, Option.bind_some]
  exact ⟨_, _, _, _, rfl, h2, fun _ => ⟨h1, by omega⟩⟩
theorem rdr_le {b : List Int} {p B C : Int} (h : Rdr b p B) (hC : B ≤ C) : Rdr b p C := ⟨h.bytes, h.len, h.lo, by have := h.hi; omega⟩
theorem drawProof_f {b : List Int} {p B : Int} (h : Rdr b p B) (hB : B ≤ 700000) (K : Nat) (hK : 1200 ≤ K) :
    ∃ kind v u w H q, spec_l91Proof.f K b p = some (kind, v, u, w, H, q) ∧ v.length ≤ 5 ∧ H.length ≤ 9 ∧ Rdr b q (B + 40) := by
  obtain ⟨k, rfl⟩ : ∃ j, K = j + 1 := ⟨K - 1, by omega⟩
  unfold spec_l91Proof.f
  obtain ⟨kind, l, q, e1, hl, r1⟩ := vec_f h (by omega) (k + 1) (by omega)
  rw [e1, Option.bind_some]
  obtain ⟨u, e2, r2, _⟩ := pick_f r1 (by omega) 31 k
  rw [e2, Option.bind_some]
  obtain ⟨w, e3, r3, _⟩ := pick_f r2 (by omega) 31 k
  rw [e3, Option.bind_some]
  obtain ⟨u', w', H, ok, e4, lH, hok⟩ := specMake_ex (k + 1) kind l u w (by omega) (by omega)
  simp only
  rw [e4, Option.bind_some]
  cases ok
  · exact ⟨_, _, _, _, _, _, rfl, hl, lH, rdr_le r3 (by omega)⟩
  obtain ⟨lH1, l1⟩ := hok rfl
  obtain ⟨c, e5, r5, _⟩ := pick_f r3 (by omega) 8 k
  rw [if_pos rfl, e5, Option.bind_some]
  simp only
  by_cases c0 : c = 0
  · rw [if_pos c0]
    obtain ⟨i, e6, r6, i0, i1, _⟩ := pick_f r5 (by omega) (H.length : Int) k
    have i2 := i1 (by omega)
    obtain ⟨x, e7, r7, _⟩ := pick_f r6 (by omega) 31 k
    obtain ⟨y, e8, r8, _⟩ := pick_f r7 (by omega) 60 k
    rw [e6, Option.bind_some]
    simp only
    rw [e7, Option.bind_some]
    simp only
    rw [if_pos i0, if_pos i2, Option.bind_some, e8, Option.bind_some]
    simp only
    by_cases y0 : y = 0
    · rw [if_pos y0, if_pos (by omega)]
      exact ⟨_, _, _, _, _, _, rfl, hl, by simp; omega, rdr_le r8 (by omega)⟩
    · rw [if_neg y0]
      exact ⟨_, _, _, _, _, _, rfl, hl, by simp; omega, rdr_le r8 (by omega)⟩
  rw [if_neg c0]
  by_cases c1 : c = 1
  · rw [if_pos c1]
    obtain ⟨x, e7, r7, _⟩ := pick_f r5 (by omega) 32 k
    obtain ⟨y, e8, r8, _⟩ := pick_f r7 (by omega) 60 k
    rw [e7, Option.bind_some]
    simp only
    rw [e8, Option.bind_some]
    simp only
    by_cases y0 : y = 0
    · rw [if_pos y0, if_pos (by omega)]
      exact ⟨_, _, _, _, _, _, rfl, hl, by simp; omega, rdr_le r8 (by omega)⟩
    · rw [if_neg y0]
      exact ⟨_, _, _, _, _, _, rfl, hl, lH, rdr_le r8 (by omega)⟩
  rw [if_neg c1]
  by_cases c2 : c = 2
  · rw [if_pos c2]
    obtain ⟨i, e6, r6, i0, i1, _⟩ := pick_f r5 (by omega) (l.length : Int) k
    have i2 := i1 (by omega)
    obtain ⟨x, e7, r7, _⟩ := pick_f r6 (by omega) 3 k
    obtain ⟨y, e8, r8, _⟩ := pick_f r7 (by omega) 60 k
    rw [e6, Option.bind_some]
    simp only
    rw [e7, Option.bind_some]
    simp only
    rw [if_pos i0, if_pos i2, Option.bind_some, e8, Option.bind_some]
    simp only
    by_cases y0 : y = 0
    · rw [if_pos y0, if_pos (by omega)]
      exact ⟨_, _, _, _, _, _, rfl, by simp; omega, by simp; omega, rdr_le r8 (by omega)⟩
    · rw [if_neg y0]
      exact ⟨_, _, _, _, _, _, rfl, by simp; omega, lH, rdr_le r8 (by omega)⟩
  · rw [if_neg c2]
    obtain ⟨y, e8, r8, _⟩ := pick_f r5 (by omega) 60 k
    rw [e8, Option.bind_some]
    simp only
    by_cases y0 : y = 0
    · rw [if_pos y0, if_pos (by omega)]
      exact ⟨_, _, _, _, _, _, rfl, hl, by simp; omega, rdr_le r8 (by omega)⟩
    · rw [if_neg y0]
      exact ⟨_, _, _, _, _, _, rfl, hl, lH, rdr_le r8 (by omega)⟩
end Go.Proofs.YtahbooeioigbgaaDoor.Q
