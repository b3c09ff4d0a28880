/- The law FnProofZero returns true for every two codes: a proof's polynomial is, at the places of the numbers, the same whatever was drawn, and at 0 the product of what was drawn. -/
import Derived.Test.YtplbobmllflniaaEz10
import Derived.Test.YtplbobmllflniaaEz11
import Derived.Test.YtplbobmllflniaaEz2
import Derived.Test.YtplbobmllflniaaEz4
import Derived.Test.YtplbobmllflniaaEz5
import Derived.Test.YtplbobmllflniaaEz9
import Derived.Test.YtplbobmllflniaaQBaseEz
import Derived.Test.YtplbobmllflniaaQDrawEz
import Derived.Test.YtplbobmllflniaaQDrawVecEz
import Derived.Test.YtplbobmllflniaaQListEz
import Derived.Test.YtplbobmllflniaaQLoProofEz
import Derived.Test.YtplbobmllflniaaQProofEz
import Derived.Test.YtplbobmllflniaaQProofMakeEz
import Derived.Test.YtplbobmllflniaaQShareEz
import Derived.Test.YtplbobmllflniaaQValue2Ez
import Derived.Test.YtplbobmllflniaaQValueEz
import Derived.Test.YtplbobmllflniaaQVecEz
set_option linter.unusedVariables false
set_option linter.unusedSimpArgs false
namespace Go.Proofs.Ytplbobmllflniaa.Pure
open Go.RowKit Go.Proofs.Ytplbobmllflniaa.Ez Go.Proofs.YtplbobmllflniaaW.PrintWords Go.Proofs.YtplbobmllflniaaW.PrintLast Go.Proofs.YtplbobmllflniaaW.PrintMore Go.Proofs.Ytplbobmllflniaa.Q
theorem polyAt_f (x : Int) (hx : fOk x = true) (l : List Int) (hl : l.all fOk = true) (hn : l.length ≤ 9) : impl_PolyAt.f l x = some (hv x l) := by
  unfold impl_PolyAt.f impl_PolyOk.f impl_elementsOk.f
  have e : (decide ((l.length : Int) ≤ 9) && l.all fOk) = true := by rw [hl]; simp; omega
  have hFx : impl_FieldOk.f x = some (fOk x) := by unfold impl_FieldOk.f; rw [within_f]; rfl
  rw [e, Option.bind_some, Option.bind_some, if_pos rfl, hFx, Option.bind_some, if_pos hx, value_f x ((fOk_iff x).1 hx) l hl (by omega)]
  rfl
/-- the values of a proof's polynomial -/
theorem make_vals (v : List Int) (u w : Int) (hv1 : v.length + 1 = 2 ∨ v.length + 1 = 4 ∨ v.length + 1 = 5) (hva : v.all fOk = true) (hu : fOk u = true) (hw : fOk w = true) (K : Nat) (hK : 96 ≤ K) :
    ∃ h, impl_ProofMake.j0 K v u w false = some (u, w, h, true) ∧ h.all fOk = true ∧ h.length ≤ 9 ∧ ∀ i : Nat, i < v.length + 1 → hv (i : Int) h = (rd (u :: v) (i : Int) * rd (w :: dec1 v) (i : Int)) % 31 := by
  obtain ⟨K, rfl⟩ : ∃ j, K = j + 1 := ⟨K - 1, by omega⟩
  obtain ⟨f, g, h, f1, g1, p1, s1, j1, h2, h3, f3, g3, f4, g4⟩ := make_both K (by omega) v u w (v.length + 1) hv1 rfl hva hu hw
  have hmul : spec_l2Mul.f K f g = some h := by
    obtain ⟨r, hr⟩ := mul_ex (v.length + 1) hv1 f g f3 g3
    have hr' := leO_le (K := K) (fun k => spec_l2Mul.mono f g k) (by omega) hr
    have := (mul_f K f g r f4 g4 (by omega) (by omega) (by omega) (by omega) hr').1
    rw [p1] at this
    obtain rfl : h = r := by simpa using this
    exact hr'
  refine ⟨h, j1, h2, by omega, fun i hi => ?_⟩
  rw [mul_hv _ K f g h f4 g4 (by omega) (by omega) (by omega) (by omega) hmul,
    through_val (v.length + 1) hv1 (u :: v) (by simp) (by simp [hu]; simpa using hva) f f1 i hi,
    through_val (v.length + 1) hv1 (w :: dec1 v) (by simp [dec1_length]) (by have := dec1_all v; simp [hw]; simpa using this) g g1 i hi]
theorem zero_loop (v : List Int) (a b : Int) (u1 w1 : Int) (H G : List Int) (x1 x2 : Int) (hH : H.all fOk = true) (hG : G.all fOk = true) (lH : H.length ≤ 9) (lG : G.length ≤ 9) (hv4 : v.length ≤ 4)
    (hs : ∀ i : Nat, 1 ≤ i → i < v.length + 1 → hv (i : Int) G = hv (i : Int) H) (h0 : hv 0 G = (a * b) % 31) (ha : fOk a = true) (hb : fOk b = true) (d : Nat) : ∀ (k i : Nat), i + d = v.length + 1 → 1 ≤ i → d < k → laws_FnProofZero.l0 k v a b (i : Int) u1 w1 H x1 x2 G = some true := by
  induction d with
  | zero =>
    intro k i hi h1 hk
    obtain ⟨k, rfl⟩ : ∃ j, k = j + 1 := ⟨k - 1, by omega⟩
    simp only [laws_FnProofZero.l0]
    have hFa : impl_FieldOk.f a = some (fOk a) := by unfold impl_FieldOk.f; rw [within_f]; rfl
    have hFb : impl_FieldOk.f b = some (fOk b) := by unfold impl_FieldOk.f; rw [within_f]; rfl
    have hm : impl_FieldMul.f a b = some ((a * b) % 31) := by
      unfold impl_FieldMul.f
      rw [hFa, Option.bind_some, if_pos ha, hFb, Option.bind_some, if_pos hb, elTimes_f _ _ ((fOk_iff a).1 ha) ((fOk_iff b).1 hb)]; rfl
    rw [if_neg (by omega), polyAt_f 0 rfl G hG lG, Option.bind_some, hm, Option.bind_some, h0]
    simp
  | succ d ih =>
    intro k i hi h1 hk
    obtain ⟨k, rfl⟩ : ∃ j, k = j + 1 := ⟨k - 1, by omega⟩
    simp only [laws_FnProofZero.l0]
    have hfi : fOk (i : Int) = true := (fOk_iff _).2 (by omega)
    rw [if_pos (by omega), polyAt_f _ hfi G hG lG, Option.bind_some, polyAt_f _ hfi H hH lH, Option.bind_some, if_pos (hs i h1 (by omega)), w64 (by omega) (by omega)]
    have := ih k (i + 1) (by omega) (by omega) (by omega)
    simpa using this
theorem FnProofZero : laws_FnProofZero.Pure := by
  intro l m _ _ hb hm _ _
  refine ⟨300, ?_⟩
  unfold laws_FnProofZero.f
  by_cases h : (l.length : Int) > 1048576
  · rw [if_pos h]; rfl
  rw [if_neg h]
  by_cases h2 : (m.length : Int) > 1048576
  · rw [decide_eq_true h2]; rfl
  rw [decide_eq_false h2]
  simp only [laws_FnProofZero.j0]
  rw [if_neg (by simp)]
  obtain ⟨kind, v, u, w, ed, hl5⟩ := drawProofMake_f l (bytes_of hb) 299 (by omega)
  rw [ed, Option.bind_some]
  simp only
  obtain ⟨H, hH9, hHa, hc⟩ := proofMake_both 299 kind v u w (by omega) (by omega)
  rcases hc with ⟨e1, e2, hvec, hu, hw⟩ | ⟨e1, e2, _⟩
  · rw [e1, Option.bind_some, e2, Option.bind_some]
    simp only [bne_self_eq_false]
    rw [if_neg (by simp), loProof_f _ _ _ _ _ _ _ (by omega) (by omega), Option.bind_some, if_pos (by simp)]
    simp only [laws_FnProofZero.j1]
    rw [if_neg (by simp)]
    have ha : fOk (Int.tmod (m.length : Int) 31) = true := by rw [Int.tmod_eq_emod_of_nonneg (by omega)]; exact fOk_mod _
    have hbb : fOk (Int.tmod ((m.length : Int) + 4) 31) = true := by rw [Int.tmod_eq_emod_of_nonneg (by omega)]; exact fOk_mod _
    unfold laws_loNum.f
    rw [Option.bind_some, Option.bind_some, w64 (by omega) (by omega)]
    generalize Int.tmod (m.length : Int) 31 = a at ha ⊢
    generalize Int.tmod ((m.length : Int) + 4) 31 = b at hbb ⊢
    have hvec' := hvec
    unfold vecOk at hvec'
    simp only [Bool.and_eq_true, decide_eq_true_eq] at hvec'
    obtain ⟨⟨hk, hlen⟩, hall⟩ := hvec'
    have hn : v.length + 1 = 2 ∨ v.length + 1 = 4 ∨ v.length + 1 = 5 := by
      rcases tLen_cases hk with ⟨_, e⟩ | ⟨_, e⟩ | ⟨_, e⟩ <;> omega
    have hj : ∀ (K : Nat) (x y : Int), fOk x = true → fOk y = true → impl_ProofMake.f K kind v x y = impl_ProofMake.j0 K v x y false := by
      intro K x y hx hy
      have hFx : impl_FieldOk.f x = some (fOk x) := by unfold impl_FieldOk.f; rw [within_f]; rfl
      have hFy : impl_FieldOk.f y = some (fOk y) := by unfold impl_FieldOk.f; rw [within_f]; rfl
      unfold impl_ProofMake.f impl_TypeLen.f
      rw [Option.bind_some, sized_f, Option.bind_some, if_pos hvec, hFx, Option.bind_some, if_pos hx, hFy, Option.bind_some, hy]; rfl
    obtain ⟨G, gj, ga, g9, gv⟩ := make_vals v a b hn hall ha hbb 298 (by omega)
    obtain ⟨H', hj', _, _, hv'⟩ := make_vals v u w hn hall hu hw 299 (by omega)
    rw [hj 299 u w hu hw, hj'] at e2
    obtain rfl : H' = H := by simpa using e2
    rw [hj 298 a b ha hbb, gj, Option.bind_some]
    simp only
    refine zero_loop v a b _ _ H' G _ _ hHa ga hH9 g9 (by omega) (fun i h1 hi => ?_) ?_ ha hbb v.length 298 1 (by omega) (by omega) (by omega)
    · rw [gv i hi, hv' i hi]
      obtain ⟨i, rfl⟩ : ∃ j, i = j + 1 := ⟨i - 1, by omega⟩
      have r1 : ∀ (z : Int) (q : List Int), i < q.length → rd (z :: q) ((i + 1 : Nat) : Int) = rd q (i : Int) := fun z q hq => by rw [rd_nat _ _ (by simpa using hq), rd_nat _ _ hq]; rfl
      rw [r1 a v (by omega), r1 u v (by omega), r1 b (dec1 v) (by rw [dec1_length]; omega), r1 w (dec1 v) (by rw [dec1_length]; omega)]
    · exact gv 0 (by omega)
  · rw [e1, Option.bind_some, e2, Option.bind_some]
    simp only [bne_self_eq_false]
    rw [if_neg (by simp), loProof_f _ _ _ _ _ _ _ (by omega) (by omega), Option.bind_some, if_pos (by simp)]
    simp only [laws_FnProofZero.j1]
    rw [if_pos (by simp), if_pos (by simp), loProof_f _ _ _ _ _ _ _ (by omega) (by omega), Option.bind_some]
    simp

end Go.Proofs.Ytplbobmllflniaa.Pure
