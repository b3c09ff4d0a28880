/- The law FnColNew returns true for every code: a new collector is the reference's, is in order, and holds nothing. -/
import Derived.Test.YtplbobmllflniaaEc1
import Derived.Test.YtplbobmllflniaaEc3
import Derived.Test.YtplbobmllflniaaEc5
import Derived.Test.YtplbobmllflniaaEc6
import Derived.Test.YtplbobmllflniaaQBaseEc
import Derived.Test.YtplbobmllflniaaQColEc
import Derived.Test.YtplbobmllflniaaQColOkEc
import Derived.Test.YtplbobmllflniaaQDrawEc
import Derived.Test.YtplbobmllflniaaQListEc
import Derived.Test.YtplbobmllflniaaQLoColEc
import Derived.Test.YtplbobmllflniaaQLoEc
set_option linter.unusedVariables false
set_option linter.unusedSimpArgs false
namespace Go.Proofs.Ytplbobmllflniaa.Pure
open Go.RowKit Go.Proofs.Ytplbobmllflniaa.Ec Go.Proofs.YtplbobmllflniaaW.PrintWords Go.Proofs.YtplbobmllflniaaW.PrintLast Go.Proofs.YtplbobmllflniaaW.PrintMore Go.Proofs.Ytplbobmllflniaa.Q
theorem zeros_loop (kind : Int) (a b : Int) (n : Nat) (i : List Int) (x : Bool) (hn : n ≤ 1048576) (hx : impl_ColOk.f a b (List.replicate n 0) i = some true) (hi : i = []) (ht : impl_TypeLen.f kind = some (n : Int)) (d : Nat) : ∀ (k : Nat) (j : Nat), j + d = n → d < k → laws_FnColNew.l0 k kind (j : Int) a b (List.replicate n 0) i = some true := by
  induction d with
  | zero =>
    intro k j hj hk
    obtain ⟨k, rfl⟩ : ∃ q, k = q + 1 := ⟨k - 1, by omega⟩
    simp only [laws_FnColNew.l0, List.length_replicate]
    rw [if_neg (by omega), hx, Option.bind_some, if_pos rfl, hi, if_pos (by simp), ht, Option.bind_some]
    simp
  | succ d ih =>
    intro k j hj hk
    obtain ⟨k, rfl⟩ : ∃ q, k = q + 1 := ⟨k - 1, by omega⟩
    simp only [laws_FnColNew.l0, List.length_replicate]
    rw [if_pos (by omega), if_pos (by omega), rd_nat _ j (by simp; omega), List.getElem_replicate, if_pos rfl, w64 (by omega) (by omega)]
    have := ih k (j + 1) (by omega) (by omega)
    simpa using this
theorem FnColNew : laws_FnColNew.Pure := by
  intro l _ _ hb
  refine ⟨20, ?_⟩
  unfold laws_FnColNew.f
  by_cases h : (l.length : Int) > 1048576
  · rw [if_pos h]
  rw [if_neg h]
  obtain ⟨b, e, r0⟩ := l6Open_f l (bytes_of hb)
  unfold spec_DrawColNew.f
  rw [e, Option.bind_some]
  obtain ⟨side, e1, r1, g0, g1, _⟩ := pick_f r0 (by omega) 4 19
  simp only [e1, Option.bind_some]
  obtain ⟨kind, q, e2, r2, h0, h1⟩ := l91Kind_f r1 (by omega) 19
  simp only [e2, Option.bind_some, specColNew_f, implColNew_f, bne_self_eq_false]
  have hsh := colNew_short side kind
  rw [if_neg (by simp), loCol_f _ _ _ _ _ _ _ _ _ (by omega) (by omega) (by omega) (by omega), Option.bind_some, if_pos (by simp)]
  simp only [laws_FnColNew.j0]
  unfold colNew
  by_cases hc : (decide (1 ≤ side) && decide (side ≤ 2) && kOk kind) = true
  · simp only [if_pos hc]
    rw [if_neg (by simp)]
    have ht := tLen_le kind
    have hk : kOk kind = true := by simp only [Bool.and_eq_true] at hc; exact hc.2
    have hs : (decide (1 ≤ side) && decide (side ≤ 2)) = true := by simp only [Bool.and_eq_true] at hc ⊢; exact hc.1
    refine zeros_loop kind side kind (tLen kind).toNat [] true (by omega) ?_ rfl ?_ (tLen kind).toNat 19 0 (by omega) (by omega)
    · rw [implColOk_f _ _ _ _ (by simp) rfl]
      unfold colOk vecOk
      rw [hs, hk]
      simp [fOk]; omega
    · unfold impl_TypeLen.f; congr 1; omega
  · simp only [if_neg hc]
    rw [if_pos (by simp)]
    simp only [laws_loCol.f]
    rw [if_pos (by simp), if_pos trivial, if_pos trivial, loInts_f _ _ _ (by simp) (by simp), Option.bind_some, if_pos (by simp)]
    simp only [Option.bind_some]
    rw [if_pos (by simp)]
    unfold impl_TypeLen.f
    rw [Option.bind_some]
    cases hk : kOk kind
    · rw [tLen_0 hk, if_neg (by omega)]; rfl
    · rw [if_pos (tLen_pos.2 hk)]
      rw [hk] at hc
      simp at hc
      by_cases h1 : side = 1
      · omega
      · rw [if_neg h1]
        by_cases h2 : side = 2
        · omega
        · simp [h2]

end Go.Proofs.Ytplbobmllflniaa.Pure
