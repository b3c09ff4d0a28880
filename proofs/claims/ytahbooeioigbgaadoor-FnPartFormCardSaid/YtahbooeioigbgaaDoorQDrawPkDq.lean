import Derived.Test.YtahbooeioigbgaaDoorDq11
import Derived.Test.YtahbooeioigbgaaDoorQGeDq
import Derived.Test.YtahbooeioigbgaaDoorQPdDq
set_option linter.unusedVariables false
set_option linter.unusedSimpArgs false
namespace Go.Proofs.YtahbooeioigbgaaDoor.Q
open Go.RowKit Go.Proofs.YtahbooeioigbgaaDoor.Dq Go.Proofs.YtahbooeioigbgaaDoorT.PrintWords Go.Proofs.YtahbooeioigbgaaDoorT.PrintLast Go.Proofs.YtahbooeioigbgaaDoorT.PrintMore
theorem drawPartOk_f (l0 : List Int) (hb : Bytes l0) (K : Nat) (hK : 1500 ≤ K) : ∃ i kd s l, spec_DrawPartOk.f K l0 = some (i, kd, s, l) ∧ l.length ≤ 20 := by
  obtain ⟨k, rfl⟩ : ∃ j, K = j + 1 := ⟨K - 1, by omega⟩
  obtain ⟨b, e, r0⟩ := l6Open_f l0 hb
  unfold spec_DrawPartOk.f
  rw [e, Option.bind_some]
  simp only
  obtain ⟨i, kd, s, l, q, e1, l1, r1⟩ := l92Part_f r0 (by omega) (k + 1) (by omega)
  rw [e1, Option.bind_some]
  simp only
  obtain ⟨x, e2, r2, _⟩ := pick_f r1 (by omega) 8 k
  rw [e2, Option.bind_some]
  simp only
  by_cases x0 : x = 0
  · rw [if_pos x0, Option.bind_some]
    obtain ⟨y, e3, r3, y0, y1, _⟩ := pick_f r2 (by omega) 3 k
    have y2 := y1 (by omega)
    rw [e3, Option.bind_some]
    simp only [List.length_cons, List.length_nil]
    rw [if_pos y0, if_pos (by omega)]
    exact ⟨_, _, _, _, rfl, l1⟩
  rw [if_neg x0]
  by_cases x1 : x = 1
  · rw [if_pos x1]
    obtain ⟨y, e3, r3, _⟩ := pick_f r2 (by omega) 4 k
    rw [e3, Option.bind_some]
    exact ⟨_, _, _, _, rfl, l1⟩
  rw [if_neg x1]
  by_cases x2 : x = 2
  · rw [if_pos x2]
    obtain ⟨y, e3, r3, _⟩ := pick_f r2 (by omega) 5 k
    rw [e3, Option.bind_some]
    exact ⟨_, _, _, _, rfl, l1⟩
  rw [if_neg x2]
  exact ⟨_, _, _, _, rfl, l1⟩
end Go.Proofs.YtahbooeioigbgaaDoor.Q
