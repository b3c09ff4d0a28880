import Derived.Test.YtplbobmllflniaaEa1
import Derived.Test.YtplbobmllflniaaEa19
import Derived.Test.YtplbobmllflniaaQall
set_option linter.unusedVariables false
set_option linter.unusedSimpArgs false
namespace Go.Proofs.Ytplbobmllflniaa.Pure
open Go.RowKit Go.Proofs.Ytplbobmllflniaa.Ea Go.Proofs.YtplbobmllflniaaW.PrintWords Go.Proofs.YtplbobmllflniaaW.PrintLast Go.Proofs.YtplbobmllflniaaW.PrintMore Go.Proofs.Ytplbobmllflniaa.Q
theorem wholeLoop (kind a w u q : Int) (ans v h : List Int) (hw : 0 ≤ w ∧ w ≤ 30) (hv' : v.all fOk = true) (lv : v.length ≤ 4) (hh : h.all fOk = true) (lh : h.length ≤ 9) (d : Nat) : ∀ (k j : Nat), j + d = v.length → d + 50 < k →
    ∃ k', 49 ≤ k' ∧ laws_FnAskWhole.l0 k kind a w ans v (q :: decC 1 (v.take j)) (chk w h j) (pw w j) (totv (v.take j)) (j : Int) u q h = laws_FnAskWhole.j2 k' a ans v (q :: decC 1 v) (hotv kind w 1 v (chk w h v.length)) u q h := by
  induction d with
  | zero =>
    intro k j hj hk
    obtain ⟨k, rfl⟩ : ∃ m, k = m + 1 := ⟨k - 1, by omega⟩
    obtain rfl : j = v.length := by omega
    refine ⟨k, by omega, ?_⟩
    simp only [laws_FnAskWhole.l0]
    rw [if_neg (by omega), List.take_length]
    unfold hotv
    by_cases h2 : kind = 2
    · rw [if_pos h2, if_pos h2, iDif _ _ ((fOk_iff _).2 (totv_bd v)) rfl, Option.bind_some, iMul _ _ ((fOk_iff _).2 (pw_bd _ _)) (fOk_mod _), Option.bind_some, iSum _ _ ((fOk_iff _).2 (chk_bd _ _ _)) (fOk_mod _), Option.bind_some]
      congr 1
      generalize pw w v.length * ((totv v - 1) % 31) = z
      omega
    · rw [if_neg h2, if_neg h2]
  | succ d ih =>
    intro k j hj hk
    obtain ⟨k, rfl⟩ : ∃ m, k = m + 1 := ⟨k - 1, by omega⟩
    have h1 : j < v.length := by omega
    have hx := all_get hv' j h1
    have hp := pw_bd w j
    have hb := hv_bd ((j : Int) + 1) h
    simp only [laws_FnAskWhole.l0]
    rw [if_pos (by omega), if_pos (by omega), rd_nat v j h1, iDif _ _ hx rfl, Option.bind_some, if_pos (by simp [decC]; omega), w64 (a := (j : Int) + 1) (by omega) (by omega), polyAt_f h _ lh hh (by omega), Option.bind_some,
      iMul _ _ ((fOk_iff _).2 hp) ((fOk_iff _).2 hb), Option.bind_some, iSum _ _ ((fOk_iff _).2 (chk_bd _ _ _)) (fOk_mod _), Option.bind_some, iMul _ _ ((fOk_iff _).2 hp) ((fOk_iff _).2 hw), Option.bind_some, iSum _ _ ((fOk_iff _).2 (totv_bd _)) hx, Option.bind_some]
    obtain ⟨k', hk', e⟩ := ih k (j + 1) (by omega) (by omega)
    refine ⟨k', hk', ?_⟩
    have e3 : (chk w h j + (pw w j * hv ((j : Int) + 1) h) % 31) % 31 = chk w h (j + 1) := by
      rw [chk]
      generalize pw w j * hv ((j : Int) + 1) h = z
      omega
    rw [← e, e3, List.take_succ_eq_append_getElem h1, decC_snoc, totv_snoc]
    rfl
theorem FnAskWhole : laws_FnAskWhole.Pure := by
  intro l _ _ hb
  refine ⟨1600, ?_⟩
  unfold laws_FnAskWhole.f
  by_cases h : (l.length : Int) > 1048576
  · rw [if_pos h]
  rw [if_neg h]
  obtain ⟨kind, v, first, a, w, e1, hl⟩ := drawQueryAsk_f l (bytes_of hb) 1600 (by omega)
  rw [e1, Option.bind_some]
  simp only
  obtain ⟨q1, q2⟩ := queryAsk_both 1600 kind v (by omega) (by omega) first a w
  rw [q1, Option.bind_some, q2, Option.bind_some]
  cases hm : askMay kind v a w
  · rw [if_neg (by simp)]
    rw [if_neg (by simp), loInts_f _ [] [] (by simp) (by simp), Option.bind_some, if_pos (by simp)]
    simp only [laws_FnAskWhole.j0]
    rw [if_pos (by rfl), if_pos (by rfl), loInts_f _ [] [] (by simp) (by simp), Option.bind_some]
    simp
  · rw [if_pos rfl]
    simp only
    have l4 := askV_length kind v first a w
    rw [if_neg (by simp), loInts_f _ _ _ (by omega) (by omega), Option.bind_some, if_pos (by simp)]
    simp only [laws_FnAskWhole.j0]
    rw [if_neg (by simp)]
    have hm' := hm
    unfold askMay at hm'
    simp only [Bool.and_eq_true, decide_eq_true_eq] at hm'
    obtain ⟨⟨⟨⟨hk, h2, h3⟩, h4⟩, h5⟩, h6⟩ := hm'
    have ht := tLen_le kind
    have ha : 0 ≤ a ∧ a ≤ 30 := by omega
    have hw := (fOk_iff _).1 h4
    obtain ⟨_, q3⟩ := queryAsk_both 1599 kind v (by omega) (by omega) true a w
    rw [proofCut_f kind v hk h5 h6, Option.bind_some, q3, Option.bind_some, if_pos hm]
    simp only
    have hn := tLen_n hk
    have lv : (v.take (tLen kind).toNat).length = (tLen kind).toNat := by rw [List.length_take]; omega
    have hv' := all_take h6 (tLen kind).toNat
    have hh := all_drop h6 ((tLen kind).toNat + 2)
    have lh : (v.drop ((tLen kind).toNat + 2)).length ≤ 9 := by rw [List.length_drop]; omega
    have hu : fOk (rd v (tLen kind)) = true := (fOk_iff _).2 (rd_fOk h6 _)
    have hq : fOk (rd v (tLen kind + 1)) = true := (fOk_iff _).2 (rd_fOk h6 _)
    unfold askV
    simp only [if_true]
    generalize rd v (tLen kind) = u at *
    generalize rd v (tLen kind + 1) = q at *
    generalize v.take (tLen kind).toNat = x at *
    generalize v.drop ((tLen kind).toNat + 2) = p at *
    have lx : x.length ≤ 4 := by omega
    obtain ⟨k', hk', e2⟩ := wholeLoop kind a w u q ([hv a (thr (u :: x)), hv a (thr (q :: decC 1 x)), hv a p, hotv kind w 1 x (chk w p (tLen kind).toNat)]) x p hw hv' lx hh lh x.length 1599 0 (by omega) (by omega)
    refine Eq.trans e2 ?_
    obtain ⟨m, rfl⟩ : ∃ m, k' = m + 1 := ⟨k' - 1, by omega⟩
    simp only [laws_FnAskWhole.j2]
    have u1 : (u :: x).all fOk = true := by simp [hu]; simpa using hv'
    have u2 : (q :: decC 1 x).all fOk = true := by have := decC_all 1 x; simp [hq]; simpa using this
    obtain ⟨L, f, _, _, _, t4, t5, t6, _, t8⟩ := lineDot _ hn (u :: x) (by simp [lv]) u1 a ha
    obtain ⟨L', g, _, _, _, m4, m5, m6, _, m8⟩ := lineDot _ hn (q :: decC 1 x) (by simp [lv, decC_length]) u2 a ha
    have f1 : thr (u :: x) = f := by rw [t8]; unfold thr; rw [List.length_cons, lv]
    have f2 : thr (q :: decC 1 x) = g := by rw [m8]; unfold thr; rw [List.length_cons, decC_length, lv]
    rw [f1, f2]
    have lf : f.length ≤ 9 := by omega
    have lg : g.length ≤ 9 := by omega
    clear t8 m8 f1 f2
    rw [Option.bind_some, if_pos (by simp; omega), List.cons_append, List.nil_append, polyThrough_f _ f (by simp; omega) u1 t4, Option.bind_some, polyAt_f f a lf t6 ha, Option.bind_some, polyThrough_f _ g (by simp [decC_length]; omega) u2 m4, Option.bind_some, polyAt_f g a lg m6 ha, Option.bind_some,
      polyAt_f p a lh hh ha, Option.bind_some, lv, loInts_f _ _ _ (by simp) (by simp; omega), Option.bind_some]
    simp
end Go.Proofs.Ytplbobmllflniaa.Pure
