import Derived.Test.YtjkikkgpenhbgaaLBa11
import Derived.Test.YtjkikkgpenhbgaaLBa12
import Derived.Test.YtjkikkgpenhbgaaLBa19
import Derived.Test.YtjkikkgpenhbgaaLBa3
import Derived.Test.YtjkikkgpenhbgaaLQGaBa
import Derived.Test.YtjkikkgpenhbgaaLQGbBa
set_option linter.unusedVariables false
set_option linter.unusedSimpArgs false
namespace Go.Proofs.Ytjkikkgpenhbgaa.Pure
open Go.RowKit Go.Proofs.Ytjkikkgpenhbgaa.Ba Go.Proofs.YtjkikkgpenhbgaaW.PrintWords Go.Proofs.YtjkikkgpenhbgaaW.PrintLast Go.Proofs.YtjkikkgpenhbgaaW.PrintMore Go.Proofs.Ytjkikkgpenhbgaa.Q
theorem newV (kind need : Int) (hk : kOk kind = true) (h1 : 1 ≤ need) (h9 : need ≤ 9) : batchV 1 kind (List.replicate (tLen kind).toNat 0) [] 2 kind (List.replicate (tLen kind).toNat 0) [] need = true := by
 have := tLen_le kind
 unfold batchV colOk vecOk
 rw [hk]
 simp [fOk]
 omega
theorem FnBatchNew : laws_FnBatchNew.Pure := by
 intro l _ _ hb
 refine ⟨40, ?_⟩
 unfold laws_FnBatchNew.f
 by_cases h : (l.length : Int) > 1048576
 ·rw [if_pos h]
 rw [if_neg h]
 obtain ⟨b, e, r0⟩ := l6Open_f l (bytes_of hb)
 unfold spec_DrawBatchNew.f
 rw [e, Option.bind_some]
 obtain ⟨kind, q, e2, r2, h0, h1⟩ := l91Kind_f r0 (by omega) 39
 simp only [e2, Option.bind_some]
 obtain ⟨need, e3, r3, g0, g1, _⟩ := pick_f r2 (by omega) 12 39
 simp only [e3, Option.bind_some, specBatchNew_f, implBatchNew_f, bne_self_eq_false]
 obtain ⟨s1, s2, s3, s4⟩ := batchNew_short kind need
 rw [if_neg (by simp), loBatch_f _ _ _ _ _ _ _ _ _ _ (by omega) (by omega) (by omega) (by omega) (by omega) (by omega) (by omega) (by omega), Option.bind_some, if_pos rfl]
 simp only [laws_FnBatchNew.j0]
 rw [loBatch_f _ _ _ _ _ _ _ _ _ _ (by omega) (by omega) (by omega) (by omega) (by omega) (by omega) (by omega) (by omega)]
 unfold batchNew
 have ht := tLen_le kind
 by_cases hc : (kOk kind && (decide (1 ≤ need) && decide (need ≤ 9))) = true
 ·simp only [if_pos hc]
  simp only [Bool.and_eq_true, decide_eq_true_eq] at hc
  obtain ⟨hk, hn1, hn9⟩ := hc
  have hl : (List.replicate (tLen kind).toNat (0 : Int)).length ≤ 4 := by simp; omega
  have hv := newV kind need hk hn1 hn9
  have e1 := (tellV_both 39 1 kind (List.replicate (tLen kind).toNat 0) [] 2 kind (List.replicate (tLen kind).toNat 0) [] need (by omega) (by simp) (by omega) (by simp) (by simp; omega) rfl rfl).2
  have e4 := (batchV_both 39 1 kind (List.replicate (tLen kind).toNat 0) [] 2 kind (List.replicate (tLen kind).toNat 0) [] need (by omega) (by simp) (by omega) (by simp) (by simp; omega) rfl rfl).2
  have et : tellV 1 kind (List.replicate (tLen kind).toNat 0) [] 2 kind (List.replicate (tLen kind).toNat 0) [] need = ([], 0, false) := by
   unfold tellV
   rw [if_pos hv, if_pos (by simp; omega)]
  rw [if_neg (by simp), e1, et, Option.bind_some, e4, hv, Option.bind_some]
  simp
 ·simp only [if_neg hc]
  rw [if_pos (by simp), if_pos (by simp), Option.bind_some, if_pos rfl]
  unfold impl_TypeLen.f
  rw [Option.bind_some]
  cases hk : kOk kind
  ·rw [tLen_0 hk, if_neg (by omega)]; rfl
  ·rw [if_pos (tLen_pos.2 hk)]
   rw [hk] at hc
   simp only [Bool.true_and, Bool.and_eq_true, decide_eq_true_eq, not_and] at hc
   by_cases h1 : need ≥ 1
   ·rw [if_pos h1]
    simp
    have := hc h1
    omega
   ·rw [if_neg h1]; rfl
end Go.Proofs.Ytjkikkgpenhbgaa.Pure
