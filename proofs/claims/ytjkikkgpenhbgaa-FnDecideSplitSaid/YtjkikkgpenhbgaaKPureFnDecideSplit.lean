import Derived.Test.YtjkikkgpenhbgaaKBa3
import Derived.Test.YtjkikkgpenhbgaaKBa4
import Derived.Test.YtjkikkgpenhbgaaKBa6
import Derived.Test.YtjkikkgpenhbgaaKBa7
import Derived.Test.YtjkikkgpenhbgaaKBa8
import Derived.Test.YtjkikkgpenhbgaaKBa9
import Derived.Test.YtjkikkgpenhbgaaKQGaBa
set_option linter.unusedVariables false
set_option linter.unusedSimpArgs false
namespace Go.Proofs.Ytjkikkgpenhbgaa.Pure
open Go.RowKit Go.Proofs.Ytjkikkgpenhbgaa.Ba Go.Proofs.YtjkikkgpenhbgaaW.PrintWords Go.Proofs.YtjkikkgpenhbgaaW.PrintLast Go.Proofs.YtjkikkgpenhbgaaW.PrintMore Go.Proofs.Ytjkikkgpenhbgaa.Q
theorem loStep (k : Nat) (n : Int) (h0 : 0 ≤ n) (h1 : n ≤ 1048576) (l : List Int) (hl : l.length < 10) (i : Int) (hi : i = 0 ∨ i = 1 ∨ i = 2 ∨ i = 3) :
  laws_loSome.l0 (k + 1) n 4 l i = laws_loSome.l0 k n 4 (l ++ [(n * (i + 3) + i * i) % 31]) (i + 1) := by
 have w1 : wrap64 (i + 3) = i + 3 := w64 (by omega) (by omega)
 have w2 : wrap64 (i * i) = i * i := by rcases hi with rfl | rfl | rfl | rfl <;> exact w64 (by omega) (by omega)
 have w3 : wrap64 (n * (i + 3)) = n * (i + 3) := by rcases hi with rfl | rfl | rfl | rfl <;> exact w64 (by omega) (by omega)
 have w4 : wrap64 (n * (i + 3) + i * i) = n * (i + 3) + i * i := by rcases hi with rfl | rfl | rfl | rfl <;> exact w64 (by omega) (by omega)
 have w5 : wrap64 (i + 1) = i + 1 := w64 (by omega) (by omega)
 have w6 : Int.tmod (n * (i + 3) + i * i) 31 = (n * (i + 3) + i * i) % 31 := Int.tmod_eq_emod_of_nonneg (by rcases hi with rfl | rfl | rfl | rfl <;> omega)
 simp only [laws_loSome.l0, laws_loNum.f, w1, w2, w3, w4, w5, w6]
 rw [if_pos (by omega), Option.bind_some, if_pos (by omega)]
theorem loSome4 (k : Nat) (n : Int) (h0 : 0 ≤ n) (h1 : n ≤ 1048576) : laws_loSome.f (k + 5) n 4 = some [n * 3 % 31, (n * 4 + 1) % 31, (n * 5 + 4) % 31, (n * 6 + 9) % 31] := by
 unfold laws_loSome.f
 rw [loStep (k + 4) n h0 h1 [] (by simp) 0 (by omega), loStep (k + 3) n h0 h1 _ (by simp) (0 + 1) (by omega), loStep (k + 2) n h0 h1 _ (by simp) (0 + 1 + 1) (by omega), loStep (k + 1) n h0 h1 _ (by simp) (0 + 1 + 1 + 1) (by omega)]
 simp only [laws_loSome.l0]
 rw [if_neg (by omega)]
 simp
theorem split4 (a0 a1 a2 a3 b0 b1 b2 b3 d0 d1 d2 d3 : Int) :
  dec4 (Go.Proofs.Ytjkikkgpenhbgaa.Sim.eachVals .plus [a0, a1, a2, a3] [d0, d1, d2, d3]) (Go.Proofs.Ytjkikkgpenhbgaa.Sim.eachVals .minus [b0, b1, b2, b3] [d0, d1, d2, d3]) = dec4 [a0, a1, a2, a3] [b0, b1, b2, b3] := by
 have e : ∀ j, fourSum (Go.Proofs.Ytjkikkgpenhbgaa.Sim.eachVals .plus [a0, a1, a2, a3] [d0, d1, d2, d3]) (Go.Proofs.Ytjkikkgpenhbgaa.Sim.eachVals .minus [b0, b1, b2, b3] [d0, d1, d2, d3]) j = fourSum [a0, a1, a2, a3] [b0, b1, b2, b3] j := by
  intro j
  show (rd [(a0 + d0) % 31, (a1 + d1) % 31, (a2 + d2) % 31, (a3 + d3) % 31] j + rd [(b0 - d0 + 31) % 31, (b1 - d1 + 31) % 31, (b2 - d2 + 31) % 31, (b3 - d3 + 31) % 31] j) % 31 = (rd [a0, a1, a2, a3] j + rd [b0, b1, b2, b3] j) % 31
  match j with
  | 0 => simp only [rd, Int.toNat_natCast, List.getD_cons_zero]; omega
  | 1 => simp only [rd, Int.toNat_natCast, List.getD_cons_zero, List.getD_cons_succ]; omega
  | 2 => simp only [rd, Int.toNat_natCast, List.getD_cons_zero, List.getD_cons_succ]; omega
  | 3 => simp only [rd, Int.toNat_natCast, List.getD_cons_zero, List.getD_cons_succ]; omega
  | j + 4 => simp only [rd, Int.toNat_natCast, List.getD_cons_succ, List.getD_nil]
 unfold dec4
 rw [e, e, e, e]
theorem fnDecideSplit (K : Nat) (hK : 1200 ≤ K) (l m : List Int) (hb : Bytes l) : laws_FnDecideSplit.f (K + 2) l m = some true := by
 unfold laws_FnDecideSplit.f
 by_cases h : (l.length : Int) > 1048576
 ·rw [if_pos h]
  simp [laws_FnDecideSplit.j0]
 rw [if_neg h]
 by_cases h2 : (m.length : Int) > 1048576
 ·simp [laws_FnDecideSplit.j0, h2]
 rw [decide_eq_false h2]
 simp only [laws_FnDecideSplit.j0]
 rw [if_neg (by simp)]
 obtain ⟨a, b, e, hl, hb4, ha, hbo⟩ := drawDecide_f l hb (K + 1) (by omega)
 rw [e, Option.bind_some]
 simp only
 rw [specQueryDecide_f (K + 1) a b (by omega) (by omega) (by omega) (by omega) (by omega)]
 rcases hl with h4 | h3
 ·rw [qDec_ok a b h4 hb4 ha hbo, Option.bind_some, Option.bind_some, if_neg (by simp), if_pos (by omega)]
  have e4 : ((b.length : Int) != 4) = false := by simp; omega
  rw [e4]
  simp only [laws_FnDecideSplit.j1]
  rw [if_neg (by simp)]
  obtain ⟨k, rfl⟩ : ∃ j, K = j + 5 := ⟨K - 5, by omega⟩
  rw [loSome4 k _ (by omega) (by omega), Option.bind_some]
  have hd : ([(m.length : Int) * 3 % 31, ((m.length : Int) * 4 + 1) % 31, ((m.length : Int) * 5 + 4) % 31, ((m.length : Int) * 6 + 9) % 31] : List Int).all fOk = true := all4d (by omega) (by omega) (by omega) (by omega)
  unfold impl_ShareSum.f impl_ShareDrawn.f
  rw [eachF_of .plus a _ ha hd (by simpa using h4) (by omega), Option.bind_some, eachF_of .minus b _ hbo hd (by simpa using hb4) (by omega), Option.bind_some]
  simp only [if_true]
  obtain ⟨a0, a1, a2, a3, rfl⟩ := list4d a h4
  obtain ⟨b0, b1, b2, b3, rfl⟩ := list4d b hb4
  have hx : ∀ d0 d1 d2 d3 : Int, (Go.Proofs.Ytjkikkgpenhbgaa.Sim.eachVals .plus [a0, a1, a2, a3] [d0, d1, d2, d3]).all fOk = true := by
   intro d0 d1 d2 d3
   show ([(a0 + d0) % 31, (a1 + d1) % 31, (a2 + d2) % 31, (a3 + d3) % 31] : List Int).all fOk = true
   exact all4d (by omega) (by omega) (by omega) (by omega)
  have hy : ∀ d0 d1 d2 d3 : Int, (Go.Proofs.Ytjkikkgpenhbgaa.Sim.eachVals .minus [b0, b1, b2, b3] [d0, d1, d2, d3]).all fOk = true := by
   intro d0 d1 d2 d3
   show ([(b0 - d0 + 31) % 31, (b1 - d1 + 31) % 31, (b2 - d2 + 31) % 31, (b3 - d3 + 31) % 31] : List Int).all fOk = true
   exact all4d (by omega) (by omega) (by omega) (by omega)
  rw [qDec_ok _ _ rfl rfl (hx _ _ _ _) (hy _ _ _ _), split4, Option.bind_some]
  simp
 ·rw [qDec_no a b (.inl (by omega)), Option.bind_some, Option.bind_some, if_neg (by simp), if_neg (by omega)]
  simp only [laws_FnDecideSplit.j1]
  rw [if_pos trivial, specQueryDecide_f K a b (by omega) (by omega) (by omega) (by omega) (by omega), qDec_no a b (.inl (by omega)), Option.bind_some]
  simp
theorem FnDecideSplit : laws_FnDecideSplit.Pure := fun l m _ _ hb _ _ _ => ⟨1202, fnDecideSplit 1200 (by omega) l m (bytes_of hb)⟩
end Go.Proofs.Ytjkikkgpenhbgaa.Pure
