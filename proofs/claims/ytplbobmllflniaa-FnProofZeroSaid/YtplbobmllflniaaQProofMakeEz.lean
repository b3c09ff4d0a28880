/- Plain lemmas about the Lean functions of the program's printed text; each theorem states its own conditions. -/
import Derived.KernelRfl
import Derived.Test.YtplbobmllflniaaEz2
import Derived.Test.YtplbobmllflniaaEz3
import Derived.Test.YtplbobmllflniaaEz4
import Derived.Test.YtplbobmllflniaaEz5
import Derived.Test.YtplbobmllflniaaQBaseEz
import Derived.Test.YtplbobmllflniaaQProofEz
import Derived.Test.YtplbobmllflniaaQShareEz
import Derived.Test.YtplbobmllflniaaQThrough2Ez
import Derived.Test.YtplbobmllflniaaQVecEz
set_option linter.unusedVariables false
set_option linter.unusedSimpArgs false
namespace Go.Proofs.Ytplbobmllflniaa.Q
open Go.RowKit Go.Proofs.Ytplbobmllflniaa.Ez Go.Proofs.YtplbobmllflniaaW.PrintWords Go.Proofs.YtplbobmllflniaaW.PrintLast Go.Proofs.YtplbobmllflniaaW.PrintMore
theorem mul2 (a b c d : Int) : ∃ r, spec_l2Mul.f 90 [a, b] [c, d] = some r := Option.isSome_iff_exists.1 (by kernel_rfl)
theorem mul4 (a b c d e f g h : Int) : ∃ r, spec_l2Mul.f 90 [a, b, c, d] [e, f, g, h] = some r := Option.isSome_iff_exists.1 (by kernel_rfl)
theorem mul5 (a b c d e f g h i j : Int) : ∃ r, spec_l2Mul.f 90 [a, b, c, d, e] [f, g, h, i, j] = some r := Option.isSome_iff_exists.1 (by kernel_rfl)
theorem list2 (l : List Int) (h : l.length = 2) : ∃ a b, l = [a, b] := by
  match l, h with
  | [a, b], _ => exact ⟨a, b, rfl⟩
theorem list4' (l : List Int) (h : l.length = 4) : ∃ a b c d, l = [a, b, c, d] := by
  match l, h with
  | [a, b, c, d], _ => exact ⟨a, b, c, d, rfl⟩
theorem list5 (l : List Int) (h : l.length = 5) : ∃ a b c d e, l = [a, b, c, d, e] := by
  match l, h with
  | [a, b, c, d, e], _ => exact ⟨a, b, c, d, e, rfl⟩
theorem mul_ex (n : Nat) (hn : n = 2 ∨ n = 4 ∨ n = 5) (A B : List Int) (lA : A.length = n) (lB : B.length = n) : ∃ r, spec_l2Mul.f 90 A B = some r := by
  rcases hn with rfl | rfl | rfl
  · obtain ⟨a, b, rfl⟩ := list2 A lA
    obtain ⟨c, d, rfl⟩ := list2 B lB
    exact mul2 _ _ _ _
  · obtain ⟨a, b, c, d, rfl⟩ := list4' A lA
    obtain ⟨e, f, g, h, rfl⟩ := list4' B lB
    exact mul4 _ _ _ _ _ _ _ _
  · obtain ⟨a, b, c, d, x, rfl⟩ := list5 A lA
    obtain ⟨e, f, g, h, y, rfl⟩ := list5 B lB
    exact mul5 _ _ _ _ _ _ _ _ _ _
theorem through_ex (n : Nat) (hn : n = 2 ∨ n = 4 ∨ n = 5) (A : List Int) (lA : A.length = n) (hA : A.all fOk = true) : ∃ r : List Int, spec_l2Through.f 90 A = some r ∧ impl_through.f A = some r ∧ r.length = n ∧ r.all fOk = true := by
  rcases hn with rfl | rfl | rfl
  · obtain ⟨a, b, rfl⟩ := list2 A lA
    simp only [List.all_cons, List.all_nil, Bool.and_true, Bool.and_eq_true, fOk_iff] at hA
    exact through2 a b hA.1 hA.2
  · obtain ⟨a, b, c, d, rfl⟩ := list4' A lA
    simp only [List.all_cons, List.all_nil, Bool.and_true, Bool.and_eq_true, fOk_iff] at hA
    exact through4 a b c d hA.1 hA.2.1 hA.2.2.1 hA.2.2.2
  · obtain ⟨a, b, c, d, e, rfl⟩ := list5 A lA
    simp only [List.all_cons, List.all_nil, Bool.and_true, Bool.and_eq_true, fOk_iff] at hA
    exact through5 a b c d e hA.1 hA.2.1 hA.2.2.1 hA.2.2.2.1 hA.2.2.2.2
theorem ahead_f (u : Int) (v : List Int) (h : v.length ≤ 1000) : impl_ahead.f u v = some (u :: v) := by
  unfold impl_ahead.f
  rw [Option.bind_some, if_pos (by simp; omega)]
  rfl
theorem first_f (u : Int) (v : List Int) (h : v.length ≤ 1000) : spec_l12First.f v u = some (u :: v) := ahead_f u v h
theorem dec1_length (v : List Int) : (dec1 v).length = v.length := by simp [dec1]
/-- the proof, of both: the polynomials through the values, and their product -/
theorem make_both (K : Nat) (hK : 95 ≤ K) (v : List Int) (u w : Int) (n : Nat) (hn : n = 2 ∨ n = 4 ∨ n = 5) (lv : v.length + 1 = n) (hv : v.all fOk = true) (hu : fOk u = true) (hw : fOk w = true) :
    ∃ f g h : List Int, impl_through.f (u :: v) = some f ∧ impl_through.f (w :: dec1 v) = some g ∧ impl_product.f K f g = some h ∧ spec_l12Make.f K v u w = some (u, w, h) ∧ impl_ProofMake.j0 (K + 1) v u w false = some (u, w, h, true) ∧ h.all fOk = true ∧ h.length + 1 = n + n ∧ f.length = n ∧ g.length = n ∧ f.all fOk = true ∧ g.all fOk = true := by
  have l9 : v.length ≤ 1000 := by omega
  obtain ⟨f, f1, f2, f3, f4⟩ := through_ex n hn (u :: v) (by simpa using lv) (by simp [hu]; simpa using hv)
  obtain ⟨g, g1, g2, g3, g4⟩ := through_ex n hn (w :: dec1 v) (by simp [dec1_length]; exact lv) (by have := dec1_all v; simp [hw]; simpa using this)
  obtain ⟨h, h1⟩ := mul_ex n hn f g f3 g3
  have h1K : spec_l2Mul.f K f g = some h := leO_le (fun k => spec_l2Mul.mono _ _ k) (by omega) h1
  have f1K : spec_l2Through.f K (u :: v) = some f := leO_le (fun k => spec_l2Through.mono _ k) (by omega) f1
  have g1K : spec_l2Through.f K (w :: dec1 v) = some g := leO_le (fun k => spec_l2Through.mono _ k) (by omega) g1
  obtain ⟨p1, p2, p3⟩ := mul_f K f g h f4 g4 (by omega) (by omega) (by omega) (by omega) h1K
  refine ⟨f, g, h, f2, g2, p1, ?_, ?_, p2, by omega, f3, g3, f4, g4⟩
  · unfold spec_l12Make.f
    rw [first_f _ _ l9, Option.bind_some, f1K, Option.bind_some, second_f K v w l9 hv (by omega), Option.bind_some, g1K, Option.bind_some, h1K]; rfl
  · simp only [impl_ProofMake.j0]
    rw [if_neg (by simp), ahead_f _ _ l9, Option.bind_some, f2, Option.bind_some, lowered_f K v l9 hv (by omega), Option.bind_some, ahead_f _ _ (by rw [dec1_length]; exact l9), Option.bind_some, g2, Option.bind_some, p1]; rfl
/-- both at any arguments -/
theorem proofMake_both (K : Nat) (kind : Int) (v : List Int) (u w : Int) (hl : v.length ≤ 1048576000) (hK : v.length + 100 ≤ K) :
    ∃ h : List Int, h.length ≤ 9 ∧ h.all fOk = true ∧ ((spec_ProofMake.f K kind v u w = some (u, w, h, true) ∧ impl_ProofMake.f K kind v u w = some (u, w, h, true) ∧ vecOk kind v = true ∧ fOk u = true ∧ fOk w = true) ∨
      (spec_ProofMake.f K kind v u w = some (0, 0, h, false) ∧ impl_ProofMake.f K kind v u w = some (0, 0, h, false) ∧ (vecOk kind v && fOk u && fOk w) = false)) := by
  have hff : ∀ k a, impl_ProofMake.j0 (k + 1) v a w true = some (0, 0, [], false) := fun k a => rfl
  obtain ⟨K, rfl⟩ : ∃ j, K = j + 1 := ⟨K - 1, by omega⟩
  unfold spec_ProofMake.f impl_ProofMake.f impl_TypeLen.f
  rw [l11Vec_f _ _ _ hl (by omega), Option.bind_some, Option.bind_some, sized_f, Option.bind_some]
  cases hv : vecOk kind v
  · exact ⟨[], by simp, rfl, .inr ⟨rfl, by rw [if_neg (by simp)]; exact hff _ _, rfl⟩⟩
  · rw [if_pos rfl, if_pos rfl, fieldOk_f, Option.bind_some]
    have hFu : impl_FieldOk.f u = some (fOk u) := by unfold impl_FieldOk.f; rw [within_f]; rfl
    have hFw : impl_FieldOk.f w = some (fOk w) := by unfold impl_FieldOk.f; rw [within_f]; rfl
    rw [hFu, Option.bind_some]
    cases hu : fOk u
    · exact ⟨[], by simp, rfl, .inr ⟨rfl, by rw [if_neg (by simp)]; exact hff _ _, rfl⟩⟩
    · rw [if_pos rfl, if_pos rfl, fieldOk_f, Option.bind_some, hFw, Option.bind_some]
      cases hw : fOk w
      · exact ⟨[], by simp, rfl, .inr ⟨rfl, hff _ _, rfl⟩⟩
      · have hv' := hv
        unfold vecOk at hv'
        simp only [Bool.and_eq_true, decide_eq_true_eq] at hv'
        obtain ⟨⟨hk, hlen⟩, hall⟩ := hv'
        have hn : v.length + 1 = 2 ∨ v.length + 1 = 4 ∨ v.length + 1 = 5 := by
          rcases tLen_cases hk with ⟨_, e⟩ | ⟨_, e⟩ | ⟨_, e⟩ <;> omega
        obtain ⟨f, g, h, _, _, _, s1, _, h2, h3, _⟩ := make_both (K + 1) (by omega) v u w (v.length + 1) hn rfl hall hu hw
        obtain ⟨f', g', h', _, _, _, s1', i1, _⟩ := make_both K (by omega) v u w (v.length + 1) hn rfl hall hu hw
        have hM : spec_l12Make.f (K + 1) v u w = some (u, w, h') := spec_l12Make.mono _ _ _ K _ s1'
        rw [s1] at hM
        obtain rfl : h = h' := by simpa using hM
        exact ⟨h, by omega, h2, .inl ⟨by rw [if_pos rfl, s1]; rfl, i1, rfl, rfl, rfl⟩⟩

end Go.Proofs.Ytplbobmllflniaa.Q
