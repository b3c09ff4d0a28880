import Derived.Test.YtlgbblaidohljaaGreatDoorQAsk3Zk
import Derived.Test.YtlgbblaidohljaaGreatDoorQGcZk
import Derived.Test.YtlgbblaidohljaaGreatDoorQGdZk
import Derived.Test.YtlgbblaidohljaaGreatDoorZk20
set_option linter.unusedVariables false
set_option linter.unusedSimpArgs false
namespace Go.Proofs.YtlgbblaidohljaaGreatDoor.Pure
open Go.RowKit Go.Proofs.YtlgbblaidohljaaGreatDoor.Zk Go.Proofs.YtlgbblaidohljaaGreatDoorT.PrintWords Go.Proofs.YtlgbblaidohljaaGreatDoorT.PrintLast Go.Proofs.YtlgbblaidohljaaGreatDoorT.PrintMore Go.Proofs.YtlgbblaidohljaaGreatDoor.Q
theorem FnTake : laws_FnTake.Pure := by
  intro l0 _ _ hb
  refine ⟨3000, ?_⟩
  unfold laws_FnTake.f
  by_cases h : (l0.length : Int) > 1048576
  · rw [if_pos h]
  rw [if_neg h]
  obtain ⟨a, b, c, l, a', b', c', l', at_, w, e1, ll, ll'⟩ := drawPartsTake_f l0 (bytes_of hb) 3000 (by omega)
  rw [e1, Option.bind_some]
  simp only
  obtain ⟨t1, t2⟩ := partsTake_both 3000 a b c l a' b' c' l' at_ w (by omega) (by omega) (by omega) (by omega)
  obtain ⟨_, f2⟩ := partsFit_f 3000 a b c l a' b' c' l' (by omega) (by omega) (by omega) (by omega)
  have q1 := queryAsk_i 3000 b l (by omega) (by omega) true at_ w
  have q2 := queryAsk_i 3000 b' l' (by omega) (by omega) false at_ w
  rw [t2, Option.bind_some, t1, Option.bind_some, if_neg (by simp), q1, Option.bind_some, q2, Option.bind_some, f2, Option.bind_some]
  unfold takeV
  cases hf : fitOk a b c l a' b' c' l'
  · rw [if_neg (by simp)]; simp
  rw [if_pos rfl]
  cases h1 : askMay b l at_ w
  · simp
  cases h2 : askMay b' l' at_ w
  · simp
  simp only [if_true]
  rw [queryDecide_ask, Option.bind_some]
  simp
end Go.Proofs.YtlgbblaidohljaaGreatDoor.Pure
