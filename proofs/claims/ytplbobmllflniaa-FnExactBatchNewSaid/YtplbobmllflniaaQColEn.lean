/- Plain lemmas about the Lean functions of the program's printed text; each theorem states its own conditions. -/
import Derived.Test.YtplbobmllflniaaEn1
import Derived.Test.YtplbobmllflniaaEn2
import Derived.Test.YtplbobmllflniaaQBaseEn
import Derived.Test.YtplbobmllflniaaQMarkEn
set_option linter.unusedVariables false
set_option linter.unusedSimpArgs false
namespace Go.Proofs.Ytplbobmllflniaa.Q
open Go.RowKit Go.Proofs.Ytplbobmllflniaa.En Go.Proofs.YtplbobmllflniaaW.PrintWords Go.Proofs.YtplbobmllflniaaW.PrintLast Go.Proofs.YtplbobmllflniaaW.PrintMore
/-- a new collector: its side, its kind, its sum, its reports, and whether there is one -/
def colNew (side kind : Int) : Int × Int × List Int × List Int × Bool :=
  if (decide (1 ≤ side) && decide (side ≤ 2) && kOk kind) = true then (side, kind, List.replicate (tLen kind).toNat 0, [], true) else (0, 0, [], [], false)
theorem specColNew_f (a b : Int) : spec_ColNew.f a b = some (colNew a b) := by
  unfold spec_ColNew.f colNew
  rw [l6In_f, Option.bind_some]
  have := tLen_le b
  cases h : (decide (1 ≤ a) && decide (a ≤ 2))
  · rfl
  · rw [if_pos rfl, l11Kind_f, Option.bind_some]
    cases h2 : kOk b
    · rfl
    · rw [if_pos rfl, specTypeLen_f, Option.bind_some, if_pos this.1, if_pos (by omega)]; rfl
theorem implColNew_f (a b : Int) : impl_ColNew.f a b = some (colNew a b) := by
  unfold impl_ColNew.f colNew impl_kindOk.f impl_TypeLen.f
  rw [within_f, Option.bind_some]
  have := tLen_le b
  cases h : (decide (1 ≤ a) && decide (a ≤ 2))
  · rfl
  · rw [if_pos rfl, Option.bind_some]
    cases h2 : kOk b
    · rfl
    · rw [if_pos rfl, Option.bind_some, if_pos this.1, if_pos (by omega)]; rfl
theorem colNew_short (a b : Int) : (colNew a b).2.2.1.length ≤ 4 ∧ (colNew a b).2.2.2.1.length = 0 := by
  unfold colNew
  have := tLen_le b
  split <;> simp; omega
theorem markCol_f (k : Nat) (a b : Int) (s i : List Int) (m : Int) (hm : 0 ≤ m) (hm2 : m ≤ 1000000000) (hs : s.length ≤ 1048576000) (hi : i.length ≤ 1048576000) (hk : s.length < k) (hk2 : i.length < k) :
    laws_markCol.f k a b s i m = some (m + s.length + i.length, marks m s.length, marks (m + s.length) i.length) := by
  unfold laws_markCol.f
  rw [markIntS_f k s m (by omega) (by omega) hs hk, Option.bind_some]
  simp only
  rw [markIntS_f k i _ (by omega) (by omega) hi hk2, Option.bind_some]
theorem heldCol_f (k : Nat) (a b : Int) (m : Int) (n1 n2 : Nat) (hm : 0 ≤ m) (hm2 : m ≤ 1000000000) (hs : n1 ≤ 1048576000) (hi : n2 ≤ 1048576000) (hk : n1 < k) (hk2 : n2 < k) :
    laws_heldCol.f k a b (marks m n1) (marks (m + n1) n2) m = some (m + n1 + n2) := by
  unfold laws_heldCol.f
  rw [heldIntS_f k n1 m (by omega) (by omega) hs hk, Option.bind_some, if_neg (by omega), heldIntS_f k n2 _ (by omega) (by omega) hi hk2, Option.bind_some, if_neg (by omega)]

end Go.Proofs.Ytplbobmllflniaa.Q
