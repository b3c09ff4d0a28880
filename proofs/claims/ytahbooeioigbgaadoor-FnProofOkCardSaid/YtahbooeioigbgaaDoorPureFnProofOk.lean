import Derived.Test.YtahbooeioigbgaaDoorDa33
import Derived.Test.YtahbooeioigbgaaDoorDa6
import Derived.Test.YtahbooeioigbgaaDoorDa7
import Derived.Test.YtahbooeioigbgaaDoorDa9
import Derived.Test.YtahbooeioigbgaaDoorQDrawODa
import Derived.Test.YtahbooeioigbgaaDoorQGaDa
import Derived.Test.YtahbooeioigbgaaDoorQGbDa
import Derived.Test.YtahbooeioigbgaaDoorQGeDa
import Derived.Test.YtahbooeioigbgaaDoorQGlDa
import Derived.Test.YtahbooeioigbgaaDoorQGsDa
import Derived.Test.YtahbooeioigbgaaDoorQISumDa
set_option linter.unusedVariables false
set_option linter.unusedSimpArgs false
namespace Go.Proofs.YtahbooeioigbgaaDoor.Pure
open Go.RowKit Go.Proofs.YtahbooeioigbgaaDoor.Da Go.Proofs.YtahbooeioigbgaaDoorW.PrintWords Go.Proofs.YtahbooeioigbgaaDoorW.PrintLast Go.Proofs.YtahbooeioigbgaaDoorW.PrintMore Go.Proofs.YtahbooeioigbgaaDoor.Q
theorem pok_parts {kind u w : Int} {v h : List Int} (hp : pok kind v u w h = true) : vecOk kind v = true ∧ hotOk kind v = true ∧ formOk kind u w h = true ∧ impl_ProofMake.f 1000 kind v u w = some (u, w, h, true) := by
  unfold pok at hp
  simp only [Bool.and_eq_true, decide_eq_true_eq] at hp
  exact ⟨hp.1.1.1, hp.1.1.2, hp.1.2, hp.2⟩
theorem spoilt_j1 (l1 : List Int) (hl1 : l1.length ≤ 1048576) (kind u w : Int) (v h : List Int) (lv : v.length ≤ 5) (lh : h.length ≤ 9) (K : Nat) (hK : 600 ≤ K) : laws_FnProofOk.j1 K l1 kind v (pok kind v u w h) false u w h = some true := by
  obtain ⟨k, rfl⟩ : ∃ j, K = j + 1 := ⟨K - 1, by omega⟩
  simp only [laws_FnProofOk.j1]
  rw [if_neg (by simp)]
  cases hp : pok kind v u w h
  · rw [if_neg (by simp)]
  obtain ⟨_, _, hf, hm⟩ := pok_parts hp
  obtain ⟨hu, hw, hA, hn⟩ := formOk_u hf
  have ht := tLen_le kind
  have hpos : 0 < (h.length : Int) := by omega
  have hi0 : 0 ≤ (l1.length : Int) % (h.length : Int) := Int.emod_nonneg _ (by omega)
  have hi1 : (l1.length : Int) % (h.length : Int) < (h.length : Int) := Int.emod_lt_of_pos _ hpos
  rw [if_pos rfl, Option.bind_some, List.nil_append, if_pos (by simp; omega), Option.bind_some, if_neg (by omega), if_pos hi0, if_pos hi1]
  generalize (l1.length : Int) % (h.length : Int) = i at hi0 hi1
  have hx : fOk (rd h i) = true := (fOk_iff _).2 (rd_fOk hA _)
  have hy : fOk (1 + (l1.length : Int) % 30) = true := (fOk_iff _).2 (by omega)
  rw [iSum _ _ hx hy, Option.bind_some]
  have hne : h.set i.toNat ((rd h i + (1 + (l1.length : Int) % 30)) % 31) ≠ h := by
    intro hc
    have g : i.toNat < h.length := by omega
    have e : rd h i = h[i.toNat] := by rw [← rd_nat h _ g]; congr 1; omega
    have e2 : (h.set i.toNat ((rd h i + (1 + (l1.length : Int) % 30)) % 31))[i.toNat]'(by simpa using g) = h[i.toNat] := by simp only [hc]
    rw [List.getElem_set_self, ← e] at e2
    have := (fOk_iff _).1 hx
    omega
  rw [(pok_f k kind v u w _ (by omega) (by simp; omega) (by simp; omega)).1, Option.bind_some]
  have : pok kind v u w (h.set i.toNat ((rd h i + (1 + (l1.length : Int) % 30)) % 31)) = false := by
    cases hq : pok kind v u w (h.set i.toNat ((rd h i + (1 + (l1.length : Int) % 30)) % 31))
    · rfl
    · obtain ⟨_, _, _, hm2⟩ := pok_parts hq
      rw [hm] at hm2
      exact absurd (by simpa using hm2.symm) hne
  rw [this]; rfl
theorem FnProofOk : laws_FnProofOk.Pure := by
  intro l0 l1 _ _ hb _ _ _
  refine ⟨1700, ?_⟩
  unfold laws_FnProofOk.f
  by_cases h0 : (l0.length : Int) > 1048576
  · rw [if_pos h0]
    simp only [laws_FnProofOk.j0]
    rw [if_pos trivial]
  rw [if_neg h0]
  by_cases h1 : (l1.length : Int) > 1048576
  · rw [decide_eq_true h1]
    simp only [laws_FnProofOk.j0]
    rw [if_pos trivial]
  rw [decide_eq_false h1]
  simp only [laws_FnProofOk.j0]
  rw [if_neg (by simp)]
  obtain ⟨kind, v, u, w, h, e1, lv, lh⟩ := drawProofOk_f l0 (bytes_of hb) 1699 (by omega)
  rw [e1, Option.bind_some]
  simp only
  obtain ⟨q1, q2⟩ := pok_f 1699 kind v u w h (by omega) (by omega) (by omega)
  rw [q1, Option.bind_some, q2, Option.bind_some, if_neg (by simp)]
  have fin := spoilt_j1 l1 (by omega) kind u w v h lv lh 1699 (by omega)
  obtain ⟨H, lH, hA, hc⟩ := proofMake_both 1699 kind v u w (by omega) (by omega)
  rcases hc with ⟨s1, s2, hVec, hu, hw⟩ | ⟨s1, s2, hno⟩
  · rw [s2, Option.bind_some]
    simp only
    rw [if_pos trivial, typeOk_f _ (by omega), Option.bind_some]
    cases ho : hotOk kind v
    · have hp : pok kind v u w h = false := by unfold pok; rw [ho]; simp
      rw [if_neg (by simp)]
      rw [hp] at fin ⊢
      exact fin
    · rw [hVec, if_pos (by rfl), loProof_f _ _ _ _ _ _ _ (by omega) (by omega), Option.bind_some]
      have hp : pok kind v u w h = (decide (u = u) && decide (w = w) && decide (h = H)) := by
        have hVec' := hVec
        unfold vecOk at hVec'
        simp only [Bool.and_eq_true, decide_eq_true_eq] at hVec'
        obtain ⟨⟨hk, hlen⟩, hall⟩ := hVec'
        obtain ⟨m, n1, _, n3, n4⟩ := make_ok 1000 (by omega) kind v u w hk hlen hall hu hw
        have a2 := leO_le (fun k => impl_ProofMake.mono _ _ _ _ k) (show 1000 ≤ 1699 by omega) n1
        obtain rfl : m = H := by rw [s2] at a2; simpa using a2.symm
        unfold pok
        rw [hVec, ho, n1]
        by_cases e : h = m
        · subst e
          have hform : formOk kind u w h = true := by
            unfold formOk
            rw [hu, hw, n3]
            simp only [Bool.and_true, Bool.true_and, Bool.and_eq_true, decide_eq_true_eq]
            omega
          rw [hform]; simp
        · have e' : ¬ m = h := fun x => e x.symm
          simp [e, e']
      rw [← hp]
      have hz : (pok kind v u w h != pok kind v u w h) = false := by simp
      rw [hz]
      exact fin
  · rw [s2, Option.bind_some]
    simp only
    rw [if_neg (by simp)]
    have hp : pok kind v u w h = false := by
      cases hq : pok kind v u w h
      · rfl
      · obtain ⟨a1, _, a3, _⟩ := pok_parts hq
        obtain ⟨b1, b2, _⟩ := formOk_u a3
        rw [a1, b1, b2] at hno
        simp at hno
    rw [hp] at fin ⊢
    exact fin
end Go.Proofs.YtahbooeioigbgaaDoor.Pure
