import Derived.KernelRfl
import Derived.Test.YtplbobmllflniaaEi3
import Derived.Test.YtplbobmllflniaaEi5
import Derived.Test.YtplbobmllflniaaQAsk1Ei
import Derived.Test.YtplbobmllflniaaQHvEi
import Derived.Test.YtplbobmllflniaaQListsEi
import Derived.Test.YtplbobmllflniaaQShareEi
import Derived.Test.YtplbobmllflniaaQThrEi
import Derived.Test.YtplbobmllflniaaQThroughEi
set_option linter.unusedVariables false
set_option linter.unusedSimpArgs false
namespace Go.Proofs.Ytplbobmllflniaa.Q
open Go.RowKit Go.Proofs.Ytplbobmllflniaa.Ei Go.Proofs.YtplbobmllflniaaW.PrintWords Go.Proofs.YtplbobmllflniaaW.PrintLast Go.Proofs.YtplbobmllflniaaW.PrintMore
def lfOf (l : List Int) : LF := ⟨rd l 0, rd l 1, rd l 2, rd l 3, rd l 4⟩
def coefs (F : LF) (n : Nat) : List Int := [F.a, F.b, F.c, F.d, F.e].take n
theorem line_tab2 : ∀ x < 31, spec_l2Line.f 90 2 ((x : Nat) : Int) = some (coefs (hvL ((x : Nat) : Int) (thrL 2)) 2) ∧ ((coefs (hvL ((x : Nat) : Int) (thrL 2)) 2).all fOk = true ∧ (hvL ((x : Nat) : Int) (thrL 2)).c = 0 ∧ (hvL ((x : Nat) : Int) (thrL 2)).d = 0 ∧ (hvL ((x : Nat) : Int) (thrL 2)).e = 0) := by decide +kernel
theorem line_tab4 : ∀ x < 31, spec_l2Line.f 90 4 ((x : Nat) : Int) = some (coefs (hvL ((x : Nat) : Int) (thrL 4)) 4) ∧ ((coefs (hvL ((x : Nat) : Int) (thrL 4)) 4).all fOk = true ∧ (hvL ((x : Nat) : Int) (thrL 4)).e = 0) := by decide +kernel
theorem line_tab5 : ∀ x < 31, spec_l2Line.f 90 5 ((x : Nat) : Int) = some (coefs (hvL ((x : Nat) : Int) (thrL 5)) 5) ∧ (coefs (hvL ((x : Nat) : Int) (thrL 5)) 5).all fOk = true := by decide +kernel
theorem nat31 {x : Int} (hx : 0 ≤ x ∧ x ≤ 30) : ∃ m : Nat, m < 31 ∧ x = (m : Int) := ⟨x.toNat, by omega, by omega⟩
theorem lineDot (n : Nat) (hn : n = 2 ∨ n = 4 ∨ n = 5) (A : List Int) (lA : A.length = n) (hA : A.all fOk = true) (x : Int) (hx : 0 ≤ x ∧ x ≤ 30) :
    ∃ L f : List Int, spec_l2Line.f 90 (n : Int) x = some L ∧ L.length = n ∧ L.all fOk = true ∧ impl_through.f A = some f ∧ f.length = n ∧ f.all fOk = true ∧ dotv L A = hv x f ∧ f = (thrL n).map (LF.ev (lfOf A)) := by
  obtain ⟨m, hm, rfl⟩ := nat31 hx
  have hall : ∀ y, ((thrL n).map (LF.ev y)).all fOk = true := fun y => by rw [List.all_map, List.all_eq_true]; intro f _; exact (fOk_iff _).2 (LF.ev_bd _ _)
  rcases hn with rfl | rfl | rfl
  · obtain ⟨a, b, rfl⟩ := list2 A lA
    obtain ⟨t1, t2, t3, t4, t5⟩ := line_tab2 m hm
    simp only [List.all_cons, List.all_nil, Bool.and_true, Bool.and_eq_true, fOk_iff] at hA
    refine ⟨_, _, t1, rfl, t2, through_map (lfOf [a, b]) _ 2 rfl (by omega) (by omega) (fill2 a b hA.1 hA.2), by rw [thrL_2]; rfl, hall _, ?_, rfl⟩
    rw [hv_map]
    generalize hvL (m : Int) (thrL 2) = F at *
    obtain ⟨fa, fb, fc, fd, fe⟩ := F
    simp only at t3 t4 t5
    subst t3 t4 t5
    show ((0 + fa * a) % 31 + fb * b) % 31 = (fa * a + fb * b + 0 * 0 + 0 * 0 + 0 * 0) % 31
    omega
  · obtain ⟨a, b, c, d, rfl⟩ := list4' A lA
    obtain ⟨t1, t2, t5⟩ := line_tab4 m hm
    simp only [List.all_cons, List.all_nil, Bool.and_true, Bool.and_eq_true, fOk_iff] at hA
    refine ⟨_, _, t1, rfl, t2, through_map (lfOf [a, b, c, d]) _ 4 rfl (by omega) (by omega) (fill4 a b c d hA.1 hA.2.1 hA.2.2.1 hA.2.2.2), by rw [thrL_4]; rfl, hall _, ?_, rfl⟩
    rw [hv_map]
    generalize hvL (m : Int) (thrL 4) = F at *
    obtain ⟨fa, fb, fc, fd, fe⟩ := F
    simp only at t5
    subst t5
    show ((((0 + fa * a) % 31 + fb * b) % 31 + fc * c) % 31 + fd * d) % 31 = (fa * a + fb * b + fc * c + fd * d + 0 * 0) % 31
    omega
  · obtain ⟨a, b, c, d, e, rfl⟩ := list5 A lA
    obtain ⟨t1, t2⟩ := line_tab5 m hm
    simp only [List.all_cons, List.all_nil, Bool.and_true, Bool.and_eq_true, fOk_iff] at hA
    refine ⟨_, _, t1, rfl, t2, through_map (lfOf [a, b, c, d, e]) _ 5 rfl (by omega) (by omega) (fill5 a b c d e hA.1 hA.2.1 hA.2.2.1 hA.2.2.2.1 hA.2.2.2.2), by rw [thrL_5]; rfl, hall _, ?_, rfl⟩
    rw [hv_map]
    generalize hvL (m : Int) (thrL 5) = F at *
    obtain ⟨fa, fb, fc, fd, fe⟩ := F
    show (((((0 + fa * a) % 31 + fb * b) % 31 + fc * c) % 31 + fd * d) % 31 + fe * e) % 31 = (fa * a + fb * b + fc * c + fd * d + fe * e) % 31
    omega
end Go.Proofs.Ytplbobmllflniaa.Q
