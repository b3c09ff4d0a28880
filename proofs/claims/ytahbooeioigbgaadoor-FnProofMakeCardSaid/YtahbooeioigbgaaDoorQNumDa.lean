import Derived.Test.YtahbooeioigbgaaDoorDa27
import Derived.Test.YtahbooeioigbgaaDoorQGeDa
set_option linter.unusedVariables false
set_option linter.unusedSimpArgs false
namespace Go.Proofs.YtahbooeioigbgaaDoor.Q
open Go.RowKit Go.Proofs.YtahbooeioigbgaaDoor.Da Go.Proofs.YtahbooeioigbgaaDoorW.PrintWords Go.Proofs.YtahbooeioigbgaaDoorW.PrintLast Go.Proofs.YtahbooeioigbgaaDoorW.PrintMore
theorem num_f {b : List Int} {p B : Int} (h : Rdr b p B) (hB : B ≤ 999990) (k : Nat) : ∃ v q, spec_l91Num.f (k + 1) b p = some (v, q) ∧ Rdr b q (B + 3) := by
  unfold spec_l91Num.f
  obtain ⟨v, e1, r1, h0, h1, _⟩ := pick_f h (by omega) 10 k
  rw [e1, Option.bind_some]
  simp only
  have w1 : Rdr b (p + 1) (B + 3) := ⟨r1.bytes, r1.len, r1.lo, by have := r1.hi; omega⟩
  by_cases c0 : v = 0
  · rw [if_pos c0]; exact ⟨_, _, rfl, w1⟩
  rw [if_neg c0]
  by_cases c1 : v = 1
  · rw [if_pos c1, Option.bind_some]
    obtain ⟨u, e2, r2, g0, g1, _⟩ := pick_f r1 (by omega) 2 k
    have g2 := g1 (by omega)
    rw [e2, Option.bind_some]
    simp only [List.length_cons, List.length_nil]
    rw [if_pos g0, if_pos (by omega)]
    exact ⟨_, _, rfl, ⟨r2.bytes, r2.len, r2.lo, by have := r2.hi; omega⟩⟩
  rw [if_neg c1]
  by_cases c2 : v = 2
  · rw [if_pos c2]
    obtain ⟨u, e2, r2, g0, g1, _⟩ := pick_f r1 (by omega) 5 k
    rw [e2, Option.bind_some]
    simp only
    by_cases c3 : u = 0
    · rw [if_pos c3, Option.bind_some]
      obtain ⟨t, e3, r3, f0, f1, _⟩ := pick_f r2 (by omega) 2 k
      have f2 := f1 (by omega)
      rw [e3, Option.bind_some]
      simp only [List.length_cons, List.length_nil]
      rw [if_pos f0, if_pos (by omega)]
      exact ⟨_, _, rfl, ⟨r3.bytes, r3.len, r3.lo, by have := r3.hi; omega⟩⟩
    · rw [if_neg c3]
      obtain ⟨t, e3, r3, _⟩ := pick_f r2 (by omega) 31 k
      rw [e3, Option.bind_some]
      exact ⟨_, _, rfl, ⟨r3.bytes, r3.len, r3.lo, by have := r3.hi; omega⟩⟩
  · rw [if_neg c2]
    obtain ⟨t, e3, r3, _⟩ := pick_f r1 (by omega) 31 k
    rw [e3, Option.bind_some]
    exact ⟨_, _, rfl, ⟨r3.bytes, r3.len, r3.lo, by have := r3.hi; omega⟩⟩
end Go.Proofs.YtahbooeioigbgaaDoor.Q
