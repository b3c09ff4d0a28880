import Derived.Test.YtahbooeioigbgaaDoorDf1
import Derived.Test.YtahbooeioigbgaaDoorDf10
import Derived.Test.YtahbooeioigbgaaDoorQGaDf
import Derived.Test.YtahbooeioigbgaaDoorQGeDf
import Derived.Test.YtahbooeioigbgaaDoorQPdDf
set_option linter.unusedVariables false
set_option linter.unusedSimpArgs false
namespace Go.Proofs.YtahbooeioigbgaaDoor.Q
open Go.RowKit Go.Proofs.YtahbooeioigbgaaDoor.Df Go.Proofs.YtahbooeioigbgaaDoorS.PrintWords Go.Proofs.YtahbooeioigbgaaDoorS.PrintLast Go.Proofs.YtahbooeioigbgaaDoorS.PrintMore
theorem twoJ {b : List Int} {p B : Int} (h : Rdr b p B) (hB : B ≤ 900000) (k : Nat) (i kd s i' kd' s' : Int) (l l' : List Int) (hl : 0 < l.length) (l20 : l.length ≤ 20) (l20' : l'.length ≤ 20) :
    ∃ a0 a1 a2 x b0 b1 b2 y q, spec_l92Two.j0 (k + 2) b p i kd s l i' kd' s' l' = some (a0, a1, a2, x, b0, b1, b2, y, q) ∧ x.length ≤ 20 ∧ y.length ≤ 20 ∧ Rdr b q (B + 10) := by
  simp only [spec_l92Two.j0]
  obtain ⟨c, e1, r1, _⟩ := pick_f h (by omega) 8 k
  rw [e1, Option.bind_some]
  simp only
  by_cases c0 : c = 0
  · rw [if_pos c0]
    obtain ⟨j, e2, r2, j0, j1, _⟩ := pick_f r1 (by omega) (l.length : Int) k
    have j2 := j1 (by omega)
    obtain ⟨x, e3, r3, _⟩ := pick_f r2 (by omega) 31 k
    rw [e2, Option.bind_some]
    simp only
    rw [e3, Option.bind_some]
    simp only
    rw [if_pos j0, if_pos j2]
    exact ⟨_, _, _, _, _, _, _, _, _, rfl, by simp; omega, l20', rdr_le r3 (by omega)⟩
  rw [if_neg c0]
  by_cases c1 : c = 1
  · rw [if_pos c1]
    obtain ⟨x, e3, r3, _⟩ := pick_f r1 (by omega) 12 k
    rw [e3, Option.bind_some]
    exact ⟨_, _, _, _, _, _, _, _, _, rfl, l20, l20', rdr_le r3 (by omega)⟩
  rw [if_neg c1]
  by_cases c2 : c = 2
  · rw [if_pos c2]
    obtain ⟨x, e3, r3, _⟩ := pick_f r1 (by omega) 3 k
    rw [e3, Option.bind_some]
    simp only
    by_cases x0 : x = 0
    · rw [if_pos x0]
      exact ⟨_, _, _, _, _, _, _, _, _, rfl, l20', l20, rdr_le r3 (by omega)⟩
    · rw [if_neg x0]
      exact ⟨_, _, _, _, _, _, _, _, _, rfl, l20, l20', rdr_le r3 (by omega)⟩
  rw [if_neg c2]
  exact ⟨_, _, _, _, _, _, _, _, _, rfl, l20, l20', rdr_le r1 (by omega)⟩
theorem l92Two_f {b : List Int} {p B : Int} (h : Rdr b p B) (hB : B ≤ 800000) (K : Nat) (hK : 1400 ≤ K) : ∃ a0 a1 a2 x b0 b1 b2 y q, spec_l92Two.f K b p = some (a0, a1, a2, x, b0, b1, b2, y, q) ∧ x.length ≤ 20 ∧ y.length ≤ 20 ∧ Rdr b q (B + 40) := by
  obtain ⟨k, rfl⟩ : ∃ j, K = j + 2 := ⟨K - 2, by omega⟩
  unfold spec_l92Two.f
  obtain ⟨kind, val, q, e1, k0, k4, r1⟩ := val_f h (by omega) (k + 1)
  rw [e1, Option.bind_some]
  simp only
  obtain ⟨x, e2, r2, x0, x1, _⟩ := pick_f r1 (by omega) 12 (k + 1)
  have x2 := x1 (by omega)
  rw [e2, Option.bind_some]
  simp only
  obtain ⟨y, e3, r3, y0, y1, _⟩ := pick_f r2 (by omega) 1000 (k + 1)
  have y2 := y1 (by omega)
  rw [e3, Option.bind_some, w64 (a := 1 + x) (by omega) (by omega)]
  simp only
  have ht := tLen_le kind
  rcases partsMakeS (k + 2) (1 + x) kind val y (by omega) ⟨k0, k4⟩ (by omega) (by omega) with ⟨l, m, e4, _, l4, m4, _⟩ | ⟨e4, _⟩
  · rw [e4, Option.bind_some]
    simp only
    rw [if_pos trivial]
    obtain ⟨a0, a1, a2, x, b0, b1, b2, y, q, e5, g1, g2, g3⟩ := twoJ r3 (by omega) k (1 + x) kind 1 (1 + x) kind 2 l m (by omega) (by omega) (by omega)
    exact ⟨a0, a1, a2, x, b0, b1, b2, y, q, e5, g1, g2, rdr_le g3 (by omega)⟩
  · rw [e4, Option.bind_some]
    simp only
    rw [if_neg (by simp)]
    obtain ⟨v, e5, r5, v0, v1, _⟩ := pick_f r3 (by omega) 4 (k + 1)
    have v2 := v1 (by omega)
    rw [e5, Option.bind_some]
    simp only
    obtain ⟨z, e6, r6, z0, z1, _⟩ := pick_f r5 (by omega) 1000 (k + 1)
    have z2 := z1 (by omega)
    rw [e6, Option.bind_some]
    simp only
    have t2 : tLen 2 = 4 := rfl
    rcases partsMakeS (k + 2) 3 2 v z (by omega) (by omega) (by omega) (by omega) with ⟨l, m, e7, _, l4, m4, _⟩ | ⟨_, hno⟩
    · rw [e7, Option.bind_some]
      simp only
      obtain ⟨a0, a1, a2, x, b0, b1, b2, y, q, e8, g1, g2, g3⟩ := twoJ r6 (by omega) k 3 2 1 3 2 2 l m (by omega) (by omega) (by omega)
      exact ⟨a0, a1, a2, x, b0, b1, b2, y, q, e8, g1, g2, rdr_le g3 (by omega)⟩
    · exact absurd ⟨rfl, v0, 3, rfl, by omega⟩ hno
end Go.Proofs.YtahbooeioigbgaaDoor.Q
