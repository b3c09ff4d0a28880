/- The law FnExactQueryAsk returns true for all arguments: QueryAsk of the program and of the reference are one, and what it hands back is new memory. -/
import Derived.Test.YtplbobmllflniaaEh8
import Derived.Test.YtplbobmllflniaaQAsk3Eh
import Derived.Test.YtplbobmllflniaaQIntsEh
import Derived.Test.YtplbobmllflniaaQMarkEh
import Derived.Test.YtplbobmllflniaaQToEh
set_option linter.unusedVariables false
set_option linter.unusedSimpArgs false
namespace Go.Proofs.Ytplbobmllflniaa.Pure
open Go.RowKit Go.Proofs.Ytplbobmllflniaa.Eh Go.Proofs.YtplbobmllflniaaW.PrintWords Go.Proofs.YtplbobmllflniaaW.PrintLast Go.Proofs.YtplbobmllflniaaW.PrintMore Go.Proofs.Ytplbobmllflniaa.Q
theorem FnExactQueryAsk : laws_FnExactQueryAsk.Pure := by
  intro kind l first a w _ hl _ _ _ _
  refine ⟨l.length + 300, ?_⟩
  unfold laws_FnExactQueryAsk.f
  by_cases h : (l.length : Int) > 1048576
  · rw [if_pos h]
  rw [if_neg h, toIntS_f _ l (by omega) (by omega)]
  simp only [Option.bind_some]
  obtain ⟨e1, _⟩ := queryAsk_both (l.length + 300) kind l (by omega) (by omega) first a w
  obtain ⟨_, e2⟩ := queryAsk_both (l.length + 300) kind l (by omega) (by omega) first a w
  obtain ⟨_, e3⟩ := queryAsk_both (l.length + 298) kind l (by omega) (by omega) first a w
  obtain ⟨r, b, hr, hrb⟩ : ∃ (r : List Int) (b : Bool), (if askMay kind l a w = true then (askV kind l first a w, true) else ([], false)) = (r, b) ∧ r.length ≤ 4 := by
    cases askMay kind l a w
    · exact ⟨[], false, rfl, by simp⟩
    · exact ⟨_, true, rfl, by rw [askV_length]; omega⟩
  rw [hr] at e1 e2 e3
  rw [e1, Option.bind_some, e2, Option.bind_some]
  simp only
  rw [eqIntS_f _ r r (by omega) (by omega), Option.bind_some, if_pos (by simp)]
  simp only [bne_self_eq_false]
  simp only [laws_FnExactQueryAsk.j0]
  rw [if_neg (by simp), toIntS_f _ l (by omega) (by omega), Option.bind_some, eqIntS_f _ l l (by omega) (by omega), Option.bind_some, if_pos (by simp), markIntS_f _ l 1 (by omega) (by omega) (by omega) (by omega), Option.bind_some]
  simp only
  rw [if_neg (by omega), eqIntS_f _ r r (by omega) (by omega), Option.bind_some, if_pos (by simp)]
  simp only [bne_self_eq_false]
  simp only [laws_FnExactQueryAsk.j1]
  rw [if_neg (by simp), markIntS_f _ r 1 (by omega) (by omega) (by omega) (by omega), Option.bind_some]
  simp only
  rw [heldIntS_f _ _ 1 (by omega) (by omega) (by omega) (by omega), Option.bind_some, if_neg (by omega), if_pos rfl, toIntS_f _ l (by omega) (by omega), Option.bind_some, e3, Option.bind_some]
  simp only
  rw [eqIntS_f _ r r (by omega) (by omega), Option.bind_some, if_pos (by simp)]
  simp only [bne_self_eq_false, laws_FnExactQueryAsk.j2]
  rw [if_neg (by simp), heldIntS_f _ _ 1 (by omega) (by omega) (by omega) (by omega), Option.bind_some, if_neg (by omega), if_pos rfl]

end Go.Proofs.Ytplbobmllflniaa.Pure
