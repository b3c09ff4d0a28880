import Derived.Test.YtjkikkgpenhbgaaKBa3
import Derived.Test.YtjkikkgpenhbgaaKBa4
import Derived.Test.YtjkikkgpenhbgaaKBa5
import Derived.Test.YtjkikkgpenhbgaaKQGaBa
set_option linter.unusedVariables false
set_option linter.unusedSimpArgs false
namespace Go.Proofs.Ytjkikkgpenhbgaa.Pure
open Go.RowKit Go.Proofs.Ytjkikkgpenhbgaa.Ba Go.Proofs.YtjkikkgpenhbgaaW.PrintWords Go.Proofs.YtjkikkgpenhbgaaW.PrintLast Go.Proofs.YtjkikkgpenhbgaaW.PrintMore Go.Proofs.Ytjkikkgpenhbgaa.Q
theorem FnDecide : laws_FnDecide.Pure := by
 intro l _ _ hb
 refine ⟨1200, ?_⟩
 unfold laws_FnDecide.f
 by_cases h : (l.length : Int) > 1048576
 ·rw [if_pos h]
 rw [if_neg h]
 obtain ⟨a, b, e, hl, hb4, ha, hbo⟩ := drawDecide_f l (bytes_of hb) 1200 (by omega)
 rw [e, Option.bind_some]
 simp only
 rw [specQueryDecide_f 1200 a b (by omega) (by omega) (by omega) (by omega) (by omega)]
 rcases hl with h4 | h3
 ·rw [qDec_ok a b h4 hb4 ha hbo, qDec_ok b a hb4 h4 hbo ha, dec4_comm b a, Option.bind_some, Option.bind_some, if_neg (by simp)]
  unfold impl_ShareSum.f
  rw [eachF_of .plus a b ha hbo (by omega) (by omega), Option.bind_some]
  obtain ⟨a0, a1, a2, a3, rfl⟩ := list4d a h4
  obtain ⟨b0, b1, b2, b3, rfl⟩ := list4d b hb4
  rw [sumL_four]
  have em : impl_FieldMul.f ((a0 + b0) % 31) ((a1 + b1) % 31) = some ((a0 + b0) % 31 * ((a1 + b1) % 31) % 31) := iMulB _ _ (fOk_mod _) (fOk_mod _)
  have hd : dec4 [a0, a1, a2, a3] [b0, b1, b2, b3] = (((a0 + b0) % 31 * ((a1 + b1) % 31) % 31 == (a2 + b2) % 31) && ((a3 + b3) % 31 == 0)) := rfl
  rw [hd]
  by_cases h5 : (a0 + b0) % 31 * ((a1 + b1) % 31) % 31 = (a2 + b2) % 31
  ·by_cases h6 : (a3 + b3) % 31 = 0 <;> simp [rd, em, h5, h6]
  ·by_cases h6 : (a3 + b3) % 31 = 0 <;> simp [rd, em, h5, h6]
 ·rw [qDec_no a b (.inl (by omega)), qDec_no b a (.inr (by omega)), Option.bind_some, Option.bind_some, if_neg (by simp)]
  unfold impl_ShareSum.f
  rw [eachF_not .plus a b (by omega), Option.bind_some]
  simp
end Go.Proofs.Ytjkikkgpenhbgaa.Pure
