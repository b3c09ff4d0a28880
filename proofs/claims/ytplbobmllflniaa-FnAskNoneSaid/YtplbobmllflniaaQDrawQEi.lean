import Derived.Test.YtplbobmllflniaaEi14
import Derived.Test.YtplbobmllflniaaQDrawAEi
import Derived.Test.YtplbobmllflniaaQDrawEi
import Derived.Test.YtplbobmllflniaaQDrawVecEi
set_option linter.unusedVariables false
set_option linter.unusedSimpArgs false
namespace Go.Proofs.Ytplbobmllflniaa.Q
open Go.RowKit Go.Proofs.Ytplbobmllflniaa.Ei Go.Proofs.YtplbobmllflniaaW.PrintWords Go.Proofs.YtplbobmllflniaaW.PrintLast Go.Proofs.YtplbobmllflniaaW.PrintMore
theorem drawQueryAsk_f (l0 : List Int) (hb : Bytes l0) (K : Nat) (hK : 1400 ≤ K) : ∃ kind l first a w, spec_DrawQueryAsk.f K l0 = some (kind, l, first, a, w) ∧ l.length ≤ 20 := by
  obtain ⟨k, rfl⟩ : ∃ j, K = j + 1 := ⟨K - 1, by omega⟩
  obtain ⟨b, e, r0⟩ := l6Open_f l0 hb
  unfold spec_DrawQueryAsk.f
  rw [e, Option.bind_some]
  simp only
  obtain ⟨kind, l, q, e1, hl, r1⟩ := drawAll_f r0 (by omega) (k + 1) (by omega)
  obtain ⟨x, e2, r2, _⟩ := pick_f r1 (by omega) 2 k
  obtain ⟨y, e3, r3, _⟩ := pick_f r2 (by omega) 26 k
  obtain ⟨z, e4, r4, _⟩ := pick_f r3 (by omega) 16 k
  obtain ⟨w, q5, e5, r5⟩ := num_f r4 (by omega) k
  rw [e1, Option.bind_some]
  simp only
  rw [e2, Option.bind_some]
  simp only
  rw [e3, Option.bind_some]
  simp only
  rw [e4, Option.bind_some]
  simp only
  rw [e5, Option.bind_some]
  exact ⟨_, _, _, _, _, rfl, hl⟩
end Go.Proofs.Ytplbobmllflniaa.Q
