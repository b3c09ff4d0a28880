/- Plain lemmas about the Lean functions of the program's printed text; each theorem states its own conditions. -/
import Derived.Test.YtplbobmllflniaaEz4
import Derived.Test.YtplbobmllflniaaQProofMakeEz
import Derived.Test.YtplbobmllflniaaQShareEz
import Derived.Test.YtplbobmllflniaaQThrough2Ez
import Derived.Test.YtplbobmllflniaaQThroughEz
import Derived.Test.YtplbobmllflniaaQValueEz
set_option linter.unusedVariables false
set_option linter.unusedSimpArgs false
namespace Go.Proofs.Ytplbobmllflniaa.Q
open Go.RowKit Go.Proofs.Ytplbobmllflniaa.Ez Go.Proofs.YtplbobmllflniaaW.PrintWords Go.Proofs.YtplbobmllflniaaW.PrintLast Go.Proofs.YtplbobmllflniaaW.PrintMore
theorem throughVal2 (a b : Int) (ha : 0 ≤ a ∧ a ≤ 30) (hb : 0 ≤ b ∧ b ≤ 30) : ∃ f, impl_through.f [a, b] = some f ∧ ∀ i : Nat, i < 2 → hv (i : Int) f = rd [a, b] (i : Int) := by
  refine ⟨_, through_map ⟨a, b, 0, 0, 0⟩ _ 2 rfl (by omega) (by omega) (fill2 a b ha hb), ?_⟩
  intro i hi
  rw [hv_map]
  rcases (show i = 0 ∨ i = 1 by omega) with rfl | rfl
  · rw [show hvL ((0 : Nat) : Int) (thrL 2) = ⟨1, 0, 0, 0, 0⟩ by decide +kernel]
    show LF.ev ⟨a, b, 0, 0, 0⟩ _ = a
    simp only [LF.ev, LF.raw]; omega
  · rw [show hvL ((1 : Nat) : Int) (thrL 2) = ⟨0, 1, 0, 0, 0⟩ by decide +kernel]
    show LF.ev ⟨a, b, 0, 0, 0⟩ _ = b
    simp only [LF.ev, LF.raw]; omega
theorem throughVal4 (a b c d : Int) (ha : 0 ≤ a ∧ a ≤ 30) (hb : 0 ≤ b ∧ b ≤ 30) (hc : 0 ≤ c ∧ c ≤ 30) (hd : 0 ≤ d ∧ d ≤ 30) : ∃ f, impl_through.f [a, b, c, d] = some f ∧ ∀ i : Nat, i < 4 → hv (i : Int) f = rd [a, b, c, d] (i : Int) := by
  refine ⟨_, through_map ⟨a, b, c, d, 0⟩ _ 4 rfl (by omega) (by omega) (fill4 a b c d ha hb hc hd), ?_⟩
  intro i hi
  rw [hv_map]
  rcases (show i = 0 ∨ i = 1 ∨ i = 2 ∨ i = 3 by omega) with rfl | rfl | rfl | rfl
  · rw [show hvL ((0 : Nat) : Int) (thrL 4) = ⟨1, 0, 0, 0, 0⟩ by decide +kernel]
    show LF.ev ⟨a, b, c, d, 0⟩ _ = a
    simp only [LF.ev, LF.raw]; omega
  · rw [show hvL ((1 : Nat) : Int) (thrL 4) = ⟨0, 1, 0, 0, 0⟩ by decide +kernel]
    show LF.ev ⟨a, b, c, d, 0⟩ _ = b
    simp only [LF.ev, LF.raw]; omega
  · rw [show hvL ((2 : Nat) : Int) (thrL 4) = ⟨0, 0, 1, 0, 0⟩ by decide +kernel]
    show LF.ev ⟨a, b, c, d, 0⟩ _ = c
    simp only [LF.ev, LF.raw]; omega
  · rw [show hvL ((3 : Nat) : Int) (thrL 4) = ⟨0, 0, 0, 1, 0⟩ by decide +kernel]
    show LF.ev ⟨a, b, c, d, 0⟩ _ = d
    simp only [LF.ev, LF.raw]; omega
theorem throughVal5 (a b c d e : Int) (ha : 0 ≤ a ∧ a ≤ 30) (hb : 0 ≤ b ∧ b ≤ 30) (hc : 0 ≤ c ∧ c ≤ 30) (hd : 0 ≤ d ∧ d ≤ 30) (he : 0 ≤ e ∧ e ≤ 30) : ∃ f, impl_through.f [a, b, c, d, e] = some f ∧ ∀ i : Nat, i < 5 → hv (i : Int) f = rd [a, b, c, d, e] (i : Int) := by
  refine ⟨_, through_map ⟨a, b, c, d, e⟩ _ 5 rfl (by omega) (by omega) (fill5 a b c d e ha hb hc hd he), ?_⟩
  intro i hi
  rw [hv_map]
  rcases (show i = 0 ∨ i = 1 ∨ i = 2 ∨ i = 3 ∨ i = 4 by omega) with rfl | rfl | rfl | rfl | rfl
  · rw [show hvL ((0 : Nat) : Int) (thrL 5) = ⟨1, 0, 0, 0, 0⟩ by decide +kernel]
    show LF.ev ⟨a, b, c, d, e⟩ _ = a
    simp only [LF.ev, LF.raw]; omega
  · rw [show hvL ((1 : Nat) : Int) (thrL 5) = ⟨0, 1, 0, 0, 0⟩ by decide +kernel]
    show LF.ev ⟨a, b, c, d, e⟩ _ = b
    simp only [LF.ev, LF.raw]; omega
  · rw [show hvL ((2 : Nat) : Int) (thrL 5) = ⟨0, 0, 1, 0, 0⟩ by decide +kernel]
    show LF.ev ⟨a, b, c, d, e⟩ _ = c
    simp only [LF.ev, LF.raw]; omega
  · rw [show hvL ((3 : Nat) : Int) (thrL 5) = ⟨0, 0, 0, 1, 0⟩ by decide +kernel]
    show LF.ev ⟨a, b, c, d, e⟩ _ = d
    simp only [LF.ev, LF.raw]; omega
  · rw [show hvL ((4 : Nat) : Int) (thrL 5) = ⟨0, 0, 0, 0, 1⟩ by decide +kernel]
    show LF.ev ⟨a, b, c, d, e⟩ _ = e
    simp only [LF.ev, LF.raw]; omega
theorem through_val (n : Nat) (hn : n = 2 ∨ n = 4 ∨ n = 5) (A : List Int) (lA : A.length = n) (hA : A.all fOk = true) (f : List Int) (hf : impl_through.f A = some f) : ∀ i : Nat, i < n → hv (i : Int) f = rd A (i : Int) := by
  rcases hn with rfl | rfl | rfl
  · obtain ⟨a, b, rfl⟩ := list2 A lA
    simp only [List.all_cons, List.all_nil, Bool.and_true, Bool.and_eq_true, fOk_iff] at hA
    obtain ⟨g, h1, h2⟩ := throughVal2 a b hA.1 hA.2
    rw [h1] at hf; obtain rfl := Option.some.inj hf; exact h2
  · obtain ⟨a, b, c, d, rfl⟩ := list4' A lA
    simp only [List.all_cons, List.all_nil, Bool.and_true, Bool.and_eq_true, fOk_iff] at hA
    obtain ⟨g, h1, h2⟩ := throughVal4 a b c d hA.1 hA.2.1 hA.2.2.1 hA.2.2.2
    rw [h1] at hf; obtain rfl := Option.some.inj hf; exact h2
  · obtain ⟨a, b, c, d, e, rfl⟩ := list5 A lA
    simp only [List.all_cons, List.all_nil, Bool.and_true, Bool.and_eq_true, fOk_iff] at hA
    obtain ⟨g, h1, h2⟩ := throughVal5 a b c d e hA.1 hA.2.1 hA.2.2.1 hA.2.2.2.1 hA.2.2.2.2
    rw [h1] at hf; obtain rfl := Option.some.inj hf; exact h2

end Go.Proofs.Ytplbobmllflniaa.Q
