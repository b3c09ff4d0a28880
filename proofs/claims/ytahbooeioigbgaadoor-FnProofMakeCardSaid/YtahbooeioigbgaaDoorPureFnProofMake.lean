import Derived.Test.YtahbooeioigbgaaDoorDa10
import Derived.Test.YtahbooeioigbgaaDoorDa30
import Derived.Test.YtahbooeioigbgaaDoorDa4
import Derived.Test.YtahbooeioigbgaaDoorDa6
import Derived.Test.YtahbooeioigbgaaDoorDa7
import Derived.Test.YtahbooeioigbgaaDoorDa8
import Derived.Test.YtahbooeioigbgaaDoorDa9
import Derived.Test.YtahbooeioigbgaaDoorQDrawMDa
import Derived.Test.YtahbooeioigbgaaDoorQGaDa
import Derived.Test.YtahbooeioigbgaaDoorQGbDa
import Derived.Test.YtahbooeioigbgaaDoorQGcDa
import Derived.Test.YtahbooeioigbgaaDoorQGeDa
import Derived.Test.YtahbooeioigbgaaDoorQGlDa
import Derived.Test.YtahbooeioigbgaaDoorQGsDa
import Derived.Test.YtahbooeioigbgaaDoorQIDifDa
set_option linter.unusedVariables false
set_option linter.unusedSimpArgs false
namespace Go.Proofs.YtahbooeioigbgaaDoor.Pure
open Go.RowKit Go.Proofs.YtahbooeioigbgaaDoor.Da Go.Proofs.YtahbooeioigbgaaDoorW.PrintWords Go.Proofs.YtahbooeioigbgaaDoorW.PrintLast Go.Proofs.YtahbooeioigbgaaDoorW.PrintMore Go.Proofs.YtahbooeioigbgaaDoor.Q
theorem proofMake_loop (kind u w : Int) (v f g h : List Int) (hl : v.length ≤ 4) (hn : v.length + 1 = 2 ∨ v.length + 1 = 4 ∨ v.length + 1 = 5) (hV : v.all fOk = true) (hu : fOk u = true) (hw : fOk w = true) (hf : impl_through.f (u :: v) = some f) (hg : impl_through.f (w :: decC 1 v) = some g) (ha : h.all fOk = true) (lh : h.length = 2 * v.length + 1) (hh : ∀ x : Int, hv x h = (hv x f * hv x g) % 31) (t : Bool) (hp : ∀ k, 500 ≤ k → impl_ProofOk.f k kind v u w h = some t ∧ impl_TypeOk.f k kind v = some t)
    (d : Nat) : ∀ (k i : Nat), i + d = v.length → d + 600 < k → laws_FnProofMake.l0 k kind v u w (i : Int) u w h = some true := by
  have hn' : (u :: v).length = v.length + 1 := by simp
  have v1 := through_val (v.length + 1) hn (u :: v) (by simp) (by simp [hu]; simpa using hV) f hf
  have v2 := through_val (v.length + 1) hn (w :: decC 1 v) (by simp [decC_length]) (by have := decC_all 1 v; simp [hw]; simpa using this) g hg
  induction d with
  | zero =>
    intro k i hi hk
    obtain ⟨k, rfl⟩ : ∃ j, k = j + 1 := ⟨k - 1, by omega⟩
    simp only [laws_FnProofMake.l0]
    rw [if_neg (by omega), if_pos trivial, if_pos trivial, polyAt_f h 0 (by omega) ha (by omega), Option.bind_some, iMul _ _ hu hw, Option.bind_some]
    have e0 : hv 0 h = (u * w) % 31 := by
      have a1 := v1 0 (by omega)
      have a2 := v2 0 (by omega)
      rw [rd_nat _ _ (by simp)] at a1 a2
      have b1 : hv 0 f = u := by simpa using a1
      have b2 : hv 0 g = w := by simpa using a2
      rw [hh, b1, b2]
    rw [if_pos e0, w64 (a := 2 * (v.length : Int)) (by omega) (by omega), w64 (by omega) (by omega), if_pos (by omega), (hp k (by omega)).1, Option.bind_some, (hp k (by omega)).2, Option.bind_some]
    simp
  | succ d ih =>
    intro k i hi hk
    obtain ⟨k, rfl⟩ : ∃ j, k = j + 1 := ⟨k - 1, by omega⟩
    simp only [laws_FnProofMake.l0]
    have h1 : i < v.length := by omega
    have hx := all_get hV i h1
    rw [if_pos (by omega), w64 (a := (i : Int) + 1) (by omega) (by omega), polyAt_f h ((i : Int) + 1) (by omega) ha (by omega), Option.bind_some, if_pos (by omega), rd_nat v i h1, iDif _ 1 hx (by decide), Option.bind_some, iMul _ _ hx (fOk_mod _), Option.bind_some]
    have e0 : hv ((i : Int) + 1) h = (v[i] * ((v[i] - 1) % 31)) % 31 := by
      have a1 := v1 (i + 1) (by omega)
      have a2 := v2 (i + 1) (by omega)
      rw [rd_nat _ _ (by simp; omega)] at a1
      rw [rd_nat _ _ (by simp [decC_length]; omega)] at a2
      have e : ((i + 1 : Nat) : Int) = (i : Int) + 1 := by omega
      rw [e] at a1 a2
      rw [hh, a1, a2]
      simp [decC]
    rw [if_pos e0]
    have := ih k (i + 1) (by omega) (by omega)
    rwa [show ((i + 1 : Nat) : Int) = (i : Int) + 1 by omega] at this
theorem FnProofMake : laws_FnProofMake.Pure := by
  intro l _ _ hb
  refine ⟨1600, ?_⟩
  unfold laws_FnProofMake.f
  by_cases h : (l.length : Int) > 1048576
  · rw [if_pos h]
  rw [if_neg h]
  obtain ⟨kind, v, u, w, e1, lv⟩ := drawProofMake_f l (bytes_of hb) 1600 (by omega)
  rw [e1, Option.bind_some]
  simp only
  obtain ⟨H, lH, hA, hc⟩ := proofMake_both 1600 kind v u w (by omega) (by omega)
  rcases hc with ⟨s1, s2, hVec, hu, hw⟩ | ⟨s1, s2, hno⟩
  · rw [s1, Option.bind_some, s2, Option.bind_some]
    simp only
    rw [if_neg (by simp), loProof_f _ _ _ _ _ _ _ (by omega) (by omega), Option.bind_some, if_pos (by simp)]
    simp only [laws_FnProofMake.j0]
    rw [if_neg (by simp)]
    have hVec' := hVec
    unfold vecOk at hVec'
    simp only [Bool.and_eq_true, decide_eq_true_eq] at hVec'
    obtain ⟨⟨hk, hlen⟩, hall⟩ := hVec'
    have ht := tLen_le kind
    obtain ⟨f, g, m, f1, g1, m1, _, m2, m3, m4, _⟩ := make_val 1600 (by omega) kind v u w hk hlen hall hu hw
    obtain rfl : m = H := by rw [s2] at m1; simpa using m1.symm
    have hn : v.length + 1 = 2 ∨ v.length + 1 = 4 ∨ v.length + 1 = 5 := by
      rcases tLen_cases hk with ⟨_, e⟩ | ⟨_, e⟩ | ⟨_, e⟩ <;> omega
    refine proofMake_loop kind u w v f g m (by omega) hn hall hu hw f1 g1 m2 m3 m4 (vecOk kind v && hotOk kind v) ?_ v.length 1599 0 (by omega) (by omega)
    intro k hk5
    refine ⟨?_, typeOk_f k (by omega) kind v⟩
    rw [(pok_f k kind v u w m (by omega) (by omega) (by omega)).1]
    obtain ⟨m', n1, n2, n3, n4⟩ := make_ok 1000 (by omega) kind v u w hk hlen hall hu hw
    have e : m' = m := by
      obtain ⟨_, _, x, _, _, _, x2, _⟩ := make_val 1600 (by omega) kind v u w hk hlen hall hu hw
      have a1 := leO_le (fun k => spec_l12Make.mono _ _ _ k) (show 1000 ≤ 1600 by omega) n2
      have a2 := leO_le (fun k => impl_ProofMake.mono _ _ _ _ k) (show 1000 ≤ 1600 by omega) n1
      rw [s2] at a2; simpa using a2.symm
    subst e
    have hform : formOk kind u w m' = true := by
      unfold formOk
      rw [hu, hw, n3]
      simp only [Bool.and_true, Bool.true_and, Bool.and_eq_true, decide_eq_true_eq]
      omega
    unfold pok
    rw [hform, n1]
    simp
  · rw [s1, Option.bind_some, s2, Option.bind_some]
    simp only
    rw [if_neg (by simp), loProof_f _ _ _ _ _ _ _ (by omega) (by omega), Option.bind_some, if_pos (by simp)]
    simp only [laws_FnProofMake.j0]
    rw [if_pos (by rfl), if_pos (by rfl), loProof_f _ _ _ _ _ _ _ (by omega) (by omega), Option.bind_some]
    simp
end Go.Proofs.YtahbooeioigbgaaDoor.Pure
