import Derived.Test.YtahbooeioigbgaaDoorDa1
import Derived.Test.YtahbooeioigbgaaDoorDa12
import Derived.Test.YtahbooeioigbgaaDoorDa14
import Derived.Test.YtahbooeioigbgaaDoorDa23
import Derived.Test.YtahbooeioigbgaaDoorDa6
import Derived.Test.YtahbooeioigbgaaDoorQDrawADa
import Derived.Test.YtahbooeioigbgaaDoorQGaDa
import Derived.Test.YtahbooeioigbgaaDoorQGeDa
set_option linter.unusedVariables false
set_option linter.unusedSimpArgs false
namespace Go.Proofs.YtahbooeioigbgaaDoor.Q
open Go.RowKit Go.Proofs.YtahbooeioigbgaaDoor.Da Go.Proofs.YtahbooeioigbgaaDoorW.PrintWords Go.Proofs.YtahbooeioigbgaaDoorW.PrintLast Go.Proofs.YtahbooeioigbgaaDoorW.PrintMore
theorem polyOk_loop (l : List Int) (hl : l.length ≤ 1048576000) (d : Nat) : ∀ (k i : Nat), i + d = l.length → d < k → ∃ t, spec_PolyOk.l0 k l (i : Int) = some t := by
  induction d with
  | zero =>
    intro k i hi hk
    obtain ⟨k, rfl⟩ : ∃ j, k = j + 1 := ⟨k - 1, by omega⟩
    simp only [spec_PolyOk.l0]
    rw [if_neg (by omega)]
    exact ⟨_, rfl⟩
  | succ d ih =>
    intro k i hi hk
    obtain ⟨k, rfl⟩ : ∃ j, k = j + 1 := ⟨k - 1, by omega⟩
    simp only [spec_PolyOk.l0]
    rw [if_pos (by omega), if_pos (by omega), fieldOk_f, Option.bind_some, w64 (by omega) (by omega)]
    cases fOk (rd l (i : Int))
    · exact ⟨_, rfl⟩
    · exact ih k (i + 1) (by omega) (by omega)
theorem l12Form_ex (K : Nat) (kind a b : Int) (l : List Int) (hl : l.length ≤ 1048576000) (hK : l.length < K) : ∃ t, spec_l12Form.f K kind a b l = some t := by
  unfold spec_l12Form.f
  rw [l11Kind_f, Option.bind_some]
  cases kOk kind
  · exact ⟨_, rfl⟩
  rw [if_pos rfl, fieldOk_f, Option.bind_some]
  cases fOk a
  · exact ⟨_, rfl⟩
  rw [if_pos rfl, fieldOk_f, Option.bind_some]
  cases fOk b
  · exact ⟨_, rfl⟩
  rw [if_pos rfl]
  obtain ⟨t, e⟩ := polyOk_loop l hl l.length K 0 (by omega) (by omega)
  have e' : spec_PolyOk.f K l = some t := e
  rw [e', Option.bind_some]
  cases t
  · exact ⟨_, rfl⟩
  rw [if_pos rfl, specTypeLen_f, Option.bind_some]
  exact ⟨_, rfl⟩
theorem specProofAll_ex (K : Nat) (kind : Int) (v : List Int) (a b : Int) (l : List Int) (hv' : v.length ≤ 1000) (hl : l.length ≤ 1000) (hK : 1100 ≤ K) :
    ∃ r t, spec_ProofAll.f K kind v a b l = some (r, t) ∧ r.length ≤ v.length + l.length + 2 := by
  unfold spec_ProofAll.f
  obtain ⟨t, e⟩ := l12Form_ex K kind a b l (by omega) (by omega)
  rw [e, Option.bind_some]
  cases t
  · exact ⟨_, _, rfl, by simp⟩
  rw [if_pos rfl, l11Vec_f _ _ _ (by omega) (by omega), Option.bind_some]
  cases vecOk kind v
  · exact ⟨_, _, rfl, by simp⟩
  rw [if_pos rfl]
  unfold spec_l12All.f
  simp only [Option.bind_some, List.nil_append, List.length_nil, List.length_append, List.length_cons]
  rw [if_pos (by omega), if_pos (by omega), if_pos (by omega), Option.bind_some]
  exact ⟨_, _, rfl, by simp; omega⟩
theorem drawAll_f {b : List Int} {p B : Int} (h : Rdr b p B) (hB : B ≤ 600000) (K : Nat) (hK : 1300 ≤ K) :
    ∃ kind l q, spec_l91All.f K b p = some (kind, l, q) ∧ l.length ≤ 20 ∧ Rdr b q (B + 80) := by
  obtain ⟨k, rfl⟩ : ∃ j, K = j + 1 := ⟨K - 1, by omega⟩
  unfold spec_l91All.f
  obtain ⟨kind, v, u, w, H, q, e1, lv, lH, r1⟩ := drawProof_f h (by omega) (k + 1) (by omega)
  rw [e1, Option.bind_some]
  simp only
  obtain ⟨r, t, e2, lr⟩ := specProofAll_ex (k + 1) kind v u w H (by omega) (by omega) (by omega)
  rw [e2, Option.bind_some]
  cases t
  · obtain ⟨m, q2, e3, lm, r3⟩ := list_f r1 (by omega) 15 (by omega) (k + 1) (by omega)
    have e3' : spec_l91List.f (k + 1) b q 15 = some (m, q2) := e3
    simp only
    rw [if_neg (by simp), e3', Option.bind_some]
    exact ⟨kind, m, q2, rfl, by omega, rdr_le r3 (by omega)⟩
  · obtain ⟨y, e4, r4, _⟩ := pick_f r1 (by omega) 30 k
    simp only
    rw [if_pos trivial, e4, Option.bind_some]
    simp only
    by_cases y0 : y = 0
    · obtain ⟨m, q2, e3, lm, r3⟩ := list_f r4 (by omega) 15 (by omega) (k + 1) (by omega)
      have e3' : spec_l91List.f (k + 1) b (q + 1) 15 = some (m, q2) := e3
      rw [if_pos y0, e3', Option.bind_some]
      exact ⟨kind, m, q2, rfl, by omega, rdr_le r3 (by omega)⟩
    · rw [if_neg y0]
      exact ⟨kind, r, _, rfl, by omega, rdr_le r4 (by omega)⟩
end Go.Proofs.YtahbooeioigbgaaDoor.Q
