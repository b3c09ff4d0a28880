import Derived.Test.YtplbobmllflniaaEa1
import Derived.Test.YtplbobmllflniaaEa17
import Derived.Test.YtplbobmllflniaaEa22
import Derived.Test.YtplbobmllflniaaQall
set_option linter.unusedVariables false
set_option linter.unusedSimpArgs false
namespace Go.Proofs.Ytplbobmllflniaa.Pure
open Go.RowKit Go.Proofs.Ytplbobmllflniaa.Ea Go.Proofs.YtplbobmllflniaaW.PrintWords Go.Proofs.YtplbobmllflniaaW.PrintLast Go.Proofs.YtplbobmllflniaaW.PrintMore Go.Proofs.Ytplbobmllflniaa.Q
theorem FnAskCheck : laws_FnAskCheck.Pure := by
  intro l _ _ hb
  refine ⟨1600, ?_⟩
  unfold laws_FnAskCheck.f
  by_cases h : (l.length : Int) > 1048576
  · rw [if_pos h]
  rw [if_neg h]
  obtain ⟨kind, v, first, a, w, e1, hl⟩ := drawQueryAsk_f l (bytes_of hb) 1600 (by omega)
  rw [e1, Option.bind_some]
  simp only
  obtain ⟨q1, q2⟩ := queryAsk_both 1600 kind v (by omega) (by omega) first a w
  rw [q1, Option.bind_some, q2, Option.bind_some]
  cases hm : askMay kind v a w
  · rw [if_neg (by simp)]
    rw [if_neg (by simp), loInts_f _ [] [] (by simp) (by simp), Option.bind_some, if_pos (by simp)]
    simp only [laws_FnAskCheck.j0]
    rw [if_pos (by rfl), if_pos (by rfl), loInts_f _ [] [] (by simp) (by simp), Option.bind_some]
    simp
  · rw [if_pos rfl]
    simp only
    have l4 := askV_length kind v first a w
    rw [if_neg (by simp), loInts_f _ _ _ (by omega) (by omega), Option.bind_some, if_pos (by simp)]
    simp only [laws_FnAskCheck.j0]
    rw [if_neg (by simp)]
    have hm' := hm
    unfold askMay at hm'
    simp only [Bool.and_eq_true, decide_eq_true_eq] at hm'
    obtain ⟨⟨⟨⟨hk, h2, h3⟩, h4⟩, h5⟩, h6⟩ := hm'
    have ht := tLen_le kind
    have ha : 0 ≤ a ∧ a ≤ 30 := by omega
    have hw := (fOk_iff _).1 h4
    obtain ⟨_, q3⟩ := queryAsk_both 1599 kind v (by omega) (by omega) true a w
    have lv : ((v.take (tLen kind).toNat).length : Int) = tLen kind := by rw [List.length_take]; omega
    have hv' := all_take h6 (tLen kind).toNat
    have hu : fOk (rd v (tLen kind)) = true := (fOk_iff _).2 (rd_fOk h6 _)
    have hq : fOk (rd v (tLen kind + 1)) = true := (fOk_iff _).2 (rd_fOk h6 _)
    have lh : (v.drop ((tLen kind).toNat + 2)).length ≤ 20 := by rw [List.length_drop]; omega
    rw [proofCut_f kind v hk h5 h6, Option.bind_some]
    simp only
    unfold askV at q3
    simp only [if_true] at q3
    generalize rd v (tLen kind) = u at *
    generalize rd v (tLen kind + 1) = q at *
    generalize v.take (tLen kind).toNat = x at *
    generalize v.drop ((tLen kind).toNat + 2) = p at *
    obtain ⟨f, g, m, f1, g1, m1, _, m2, m3, m4, lf, lg, f2, g2⟩ := make_val 1599 (by omega) kind x u q hk lv hv' hu hq
    rw [m1, Option.bind_some, q3, Option.bind_some, if_pos hm]
    simp only
    rw [if_pos trivial, loProof_f _ _ _ _ _ _ _ (by omega) (by omega), Option.bind_some]
    by_cases hp : m = p
    · subst hp
      have hn := tLen_n hk
      have lx : (tLen kind).toNat = x.length := by omega
      obtain ⟨L, f', _, _, _, t4, t5, t6, _, t8⟩ := lineDot _ hn (u :: x) (by simp [lx]) (by simp [hu]; simpa using hv') a ha
      obtain ⟨L', g', _, _, _, n4, n5, n6, _, n8⟩ := lineDot _ hn (q :: decC 1 x) (by simp [lx, decC_length]) (by have := decC_all 1 x; simp [hq]; simpa using this) a ha
      obtain rfl : f = f' := by rw [f1] at t4; exact Option.some.inj t4
      obtain rfl : g = g' := by rw [g1] at n4; exact Option.some.inj n4
      have e3 : thr (u :: x) = f := by rw [t8]; unfold thr; rw [List.length_cons, lx]
      have e4 : thr (q :: decC 1 x) = g := by rw [n8]; unfold thr; rw [List.length_cons, decC_length, lx]
      rw [e3, e4, lx]
      clear t8 n8 e3 e4
      rw [if_pos (by simp), if_pos (by simp), typeCheck_f 1599 (by omega) kind w x hk lv hv' h4, Option.bind_some]
      have hc : ∀ j : Nat, j < x.length → hv ((j : Int) + 1) m = (rd x j * ((rd x j - 1) % 31)) % 31 := by
        intro j hj
        have hn' : x.length + 1 = 2 ∨ x.length + 1 = 4 ∨ x.length + 1 = 5 := by rw [lx] at hn; exact hn
        have v1 := through_val (x.length + 1) hn' (u :: x) (by simp) (by simp [hu]; simpa using hv') f f1 (j + 1) (by omega)
        have v2 := through_val (x.length + 1) hn' (q :: decC 1 x) (by simp [decC_length]) (by have := decC_all 1 x; simp [hq]; simpa using this) g g1 (j + 1) (by omega)
        rw [show ((j : Int) + 1) = ((j + 1 : Nat) : Int) by omega, m4, v1, v2, rd_nat _ _ (by simp; omega), rd_nat _ _ (by simp [decC_length]; omega), rd_nat x j hj]
        simp [decC]
      rw [show chk w m x.length = tck w x x.length from chk_tck w x m hc x.length (Nat.le_refl _), if_pos (by rfl), if_pos (by simp), if_pos (by simp)]
      have e5 : impl_FieldMul.f (rd [hv a f, hv a g, hv a m, hotv kind w 1 x (tck w x x.length)] 0) (rd [hv a f, hv a g, hv a m, hotv kind w 1 x (tck w x x.length)] 1) = some (hv a m) := by
        show impl_FieldMul.f (hv a f) (hv a g) = _
        rw [iMul _ _ ((fOk_iff _).2 (hv_bd _ _)) ((fOk_iff _).2 (hv_bd _ _)), m4]
      rw [e5, Option.bind_some, if_pos (by simp)]
      show some (hv a m == hv a m) = _
      simp
    · have : decide ((u, q, m) = (u, q, p)) = false := by simp [hp]
      simp [hp]
end Go.Proofs.Ytplbobmllflniaa.Pure
