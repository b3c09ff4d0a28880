import Derived.Test.YtplbobmllflniaaEi14
import Derived.Test.YtplbobmllflniaaEi4
import Derived.Test.YtplbobmllflniaaQAsk1Ei
import Derived.Test.YtplbobmllflniaaQAsk3Ei
import Derived.Test.YtplbobmllflniaaQBaseEi
import Derived.Test.YtplbobmllflniaaQDrawEi
import Derived.Test.YtplbobmllflniaaQDrawQEi
import Derived.Test.YtplbobmllflniaaQHvEi
import Derived.Test.YtplbobmllflniaaQLoEi
set_option linter.unusedVariables false
set_option linter.unusedSimpArgs false
namespace Go.Proofs.Ytplbobmllflniaa.Pure
open Go.RowKit Go.Proofs.Ytplbobmllflniaa.Ei Go.Proofs.YtplbobmllflniaaW.PrintWords Go.Proofs.YtplbobmllflniaaW.PrintLast Go.Proofs.YtplbobmllflniaaW.PrintMore Go.Proofs.Ytplbobmllflniaa.Q
theorem hv_zeros (x : Int) (n : Nat) : hv x (List.replicate n 0) = 0 := by
  induction n with
  | zero => rfl
  | succ n ih =>
    rw [List.replicate_succ]
    show (hv x (List.replicate n 0) * x + 0) % 31 = 0
    rw [ih]; simp
theorem chk_zeros (w : Int) (n j : Nat) : chk w (List.replicate n 0) j = 0 := by
  induction j with
  | zero => rfl
  | succ j ih =>
    show (chk w (List.replicate n 0) j + pw w j * hv ((j : Int) + 1) (List.replicate n 0)) % 31 = 0
    rw [ih, hv_zeros]; simp
theorem thr2 : thr (List.replicate 2 0) = List.replicate 2 0 := by decide +kernel
theorem thr4 : thr (List.replicate 4 0) = List.replicate 4 0 := by decide +kernel
theorem thr5 : thr (List.replicate 5 0) = List.replicate 5 0 := by decide +kernel
theorem askV_zeros (kind : Int) (hk : kOk kind = true) (a w : Int) (n : Nat) (hn : (n : Int) = 3 * tLen kind + 3) : askV kind (List.replicate n 0) false a w = [0, 0, 0, 0] := by
  rcases tLen_cases hk with ⟨rfl, e⟩ | ⟨rfl, e⟩ | ⟨rfl, e⟩
  · obtain rfl : n = 6 := by omega
    show [hv a (thr (List.replicate 2 0)), hv a (thr (List.replicate 2 0)), hv a (List.replicate 3 0), chk w (List.replicate 3 0) 1] = _
    rw [thr2, hv_zeros, hv_zeros, chk_zeros]
  · obtain rfl : n = 15 := by omega
    show [hv a (thr (List.replicate 5 0)), hv a (thr (List.replicate 5 0)), hv a (List.replicate 9 0), (chk w (List.replicate 9 0) 4 + pw w 4 * (((0 : Int) - 0) % 31)) % 31] = _
    rw [thr5, hv_zeros, hv_zeros, chk_zeros]; simp
  · obtain rfl : n = 12 := by omega
    show [hv a (thr (List.replicate 4 0)), hv a (thr (List.replicate 4 0)), hv a (List.replicate 7 0), chk w (List.replicate 7 0) 3] = _
    rw [thr4, hv_zeros, hv_zeros, chk_zeros]
theorem FnAskNone : laws_FnAskNone.Pure := by
  intro l _ _ hb
  refine ⟨1600, ?_⟩
  unfold laws_FnAskNone.f
  by_cases h : (l.length : Int) > 1048576
  · rw [if_pos h]
  rw [if_neg h]
  obtain ⟨kind, v, first, a, w, e1, hl⟩ := drawQueryAsk_f l (bytes_of hb) 1600 (by omega)
  rw [e1, Option.bind_some]
  simp only
  obtain ⟨q1, q2⟩ := queryAsk_both 1600 kind v (by omega) (by omega) first a w
  rw [q1, Option.bind_some, q2, Option.bind_some]
  cases hm : askMay kind v a w
  · rw [if_neg (by simp)]
    rw [if_neg (by simp), loInts_f _ [] [] (by simp) (by simp), Option.bind_some, if_pos (by simp)]
    simp only [laws_FnAskNone.j0]
    rw [if_pos (by rfl), if_pos (by rfl), loInts_f _ [] [] (by simp) (by simp), Option.bind_some]
    simp
  · rw [if_pos rfl]
    simp only
    have l4 := askV_length kind v first a w
    rw [if_neg (by simp), loInts_f _ _ _ (by omega) (by omega), Option.bind_some, if_pos (by simp)]
    simp only [laws_FnAskNone.j0]
    rw [if_neg (by simp), if_pos (by omega), if_pos (by omega)]
    have hm' := hm
    unfold askMay at hm'
    simp only [Bool.and_eq_true, decide_eq_true_eq] at hm'
    obtain ⟨⟨⟨⟨hk, h2, h3⟩, h4⟩, h5⟩, h6⟩ := hm'
    have hz : askMay kind (List.replicate ((v.length : Int)).toNat 0) a w = true := by
      unfold askMay
      simp only [Bool.and_eq_true, decide_eq_true_eq]
      refine ⟨⟨⟨⟨hk, h2, h3⟩, h4⟩, by rw [List.length_replicate]; omega⟩, ?_⟩
      rw [List.all_eq_true]
      intro x hx
      obtain rfl := (List.mem_replicate.1 hx).2
      rfl
    obtain ⟨_, q3⟩ := queryAsk_both 1599 kind (List.replicate ((v.length : Int)).toNat 0) (by rw [List.length_replicate]; omega) (by rw [List.length_replicate]; omega) false a w
    rw [q3, Option.bind_some, if_pos hz, askV_zeros kind hk a w _ (by omega)]
    simp only
    rw [if_pos trivial, loInts_f _ _ _ (by simp) (by simp), Option.bind_some, if_pos (by simp), l4]
    rfl
end Go.Proofs.Ytplbobmllflniaa.Pure
