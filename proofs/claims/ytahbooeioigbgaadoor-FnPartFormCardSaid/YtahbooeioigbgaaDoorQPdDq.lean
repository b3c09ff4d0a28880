import Derived.Test.YtahbooeioigbgaaDoorDq1
import Derived.Test.YtahbooeioigbgaaDoorDq10
import Derived.Test.YtahbooeioigbgaaDoorDq3
import Derived.Test.YtahbooeioigbgaaDoorDq4
import Derived.Test.YtahbooeioigbgaaDoorDq7
import Derived.Test.YtahbooeioigbgaaDoorDq8
import Derived.Test.YtahbooeioigbgaaDoorDq9
import Derived.Test.YtahbooeioigbgaaDoorQGaDq
import Derived.Test.YtahbooeioigbgaaDoorQGeDq
import Derived.Test.YtahbooeioigbgaaDoorQGsDq
import Derived.Test.YtahbooeioigbgaaDoorQPartSDq
set_option linter.unusedVariables false
set_option linter.unusedSimpArgs false
namespace Go.Proofs.YtahbooeioigbgaaDoor.Q
open Go.RowKit Go.Proofs.YtahbooeioigbgaaDoor.Dq Go.Proofs.YtahbooeioigbgaaDoorT.PrintWords Go.Proofs.YtahbooeioigbgaaDoorT.PrintLast Go.Proofs.YtahbooeioigbgaaDoorT.PrintMore
theorem rdr_le {b : List Int} {p B C : Int} (h : Rdr b p B) (hC : B ≤ C) : Rdr b p C := ⟨h.bytes, h.len, h.lo, by have := h.hi; omega⟩
theorem most_f (kind : Int) (h1 : 0 ≤ kind) (h2 : kind ≤ 3) : ∃ m, spec_l11Most.f kind = some m ∧ 0 ≤ m ∧ m ≤ 7 := by
  rcases (show kind = 0 ∨ kind = 1 ∨ kind = 2 ∨ kind = 3 by omega) with rfl | rfl | rfl | rfl
  · exact ⟨0, rfl, by omega, by omega⟩
  · exact ⟨1, rfl, by omega, by omega⟩
  · exact ⟨3, rfl, by omega, by omega⟩
  · exact ⟨7, rfl, by omega, by omega⟩
theorem makeOk (kind val : Int) (h1 : 1 ≤ kind) (h2 : kind ≤ 3) (h3 : 0 ≤ val) (h4 : val ≤ 7) : ∃ l, spec_l11Make.f 40 kind val = some l ∧ (l.length : Int) = tLen kind ∧ l.all fOk = true := by
  have key : ∀ o : Option (List Int), (match o with | some l => decide ((l.length : Int) = tLen kind) && l.all fOk | none => false) = true → ∃ l, o = some l ∧ (l.length : Int) = tLen kind ∧ l.all fOk = true := by
    intro o h
    cases o with
    | none => cases h
    | some l => exact ⟨l, rfl, by simpa using h⟩
  apply key
  rcases (show kind = 1 ∨ kind = 2 ∨ kind = 3 by omega) with rfl | rfl | rfl <;>
    rcases (show val = 0 ∨ val = 1 ∨ val = 2 ∨ val = 3 ∨ val = 4 ∨ val = 5 ∨ val = 6 ∨ val = 7 by omega) with rfl | rfl | rfl | rfl | rfl | rfl | rfl | rfl <;> decide +kernel
theorem l3Dif_loop (a b : List Int) (hl : a.length = b.length) (hn : a.length ≤ 1048576000) (ha : a.all fOk = true) (hb : b.all fOk = true) (d : Nat) : ∀ (k : Nat) (i : Nat) (o : List Int), i + d = a.length → o.length = i → d < k → ∃ r, spec_l3Dif.l0 k a b o (i : Int) = some r ∧ r.length = a.length := by
  induction d with
  | zero =>
    intro k i o hi ho hk
    obtain ⟨k, rfl⟩ : ∃ j, k = j + 1 := ⟨k - 1, by omega⟩
    simp only [spec_l3Dif.l0]
    rw [if_neg (by omega)]
    exact ⟨o, rfl, by omega⟩
  | succ d ih =>
    intro k i o hi ho hk
    obtain ⟨k, rfl⟩ : ∃ j, k = j + 1 := ⟨k - 1, by omega⟩
    simp only [spec_l3Dif.l0]
    have h1 : i < a.length := by omega
    have h2 : i < b.length := by omega
    rw [if_pos (by omega), if_pos (by omega), if_pos (by omega), rd_nat a i h1, rd_nat b i h2, fieldDif_f _ _ (all_get ha i h1) (all_get hb i h2), Option.bind_some, if_pos (by omega), w64 (by omega) (by omega)]
    have := ih k (i + 1) (o ++ [(a[i] - b[i]) % 31]) (by omega) (by simp; omega) (by omega)
    simpa using this
theorem shareMake_ex (K : Nat) (a b : List Int) (hl : a.length ≤ 1000) (hl' : b.length ≤ 1000) (hK : 1100 ≤ K) : ∃ x y t, spec_ShareMake.f K a b = some (x, y, t) ∧ x.length ≤ a.length ∧ y.length ≤ b.length := by
  unfold spec_ShareMake.f
  rw [shareOk_f K a (by omega) (by omega), Option.bind_some]
  cases h1 : a.all fOk && decide ((a.length : Int) ≤ 20)
  · exact ⟨_, _, _, rfl, by simp, by simp⟩
  rw [if_pos rfl, shareOk_f K b (by omega) (by omega), Option.bind_some]
  cases h2 : b.all fOk && decide ((b.length : Int) ≤ 20)
  · exact ⟨_, _, _, rfl, by simp, by simp⟩
  rw [if_pos rfl]
  simp only [Bool.and_eq_true] at h1 h2
  by_cases h3 : (a.length : Int) = (b.length : Int)
  · rw [if_pos h3]
    obtain ⟨r, e, er⟩ := l3Dif_loop a b (by omega) (by omega) h1.1 h2.1 a.length K 0 [] (by omega) rfl (by omega)
    unfold spec_l3Dif.f
    have e' : spec_l3Dif.l0 K a b [] 0 = some r := e
    rw [e', Option.bind_some, Option.bind_some, if_pos (by simp; omega)]
    exact ⟨_, _, _, rfl, by omega, by simp⟩
  · rw [if_neg h3]
    exact ⟨_, _, _, rfl, by simp, by simp⟩
theorem partsOf_ex (K : Nat) (id kind : Int) (a b : List Int) (hl : a.length ≤ 1000) (hl' : b.length ≤ 1000) (hK : 1100 ≤ K) : ∃ a0 a1 a2 l b0 b1 b2 m t, spec_PartsOf.f K id kind a b = some (a0, a1, a2, l, b0, b1, b2, m, t) ∧ l.length ≤ a.length ∧ m.length ≤ b.length := by
  unfold spec_PartsOf.f
  obtain ⟨x, y, t, e, ex, ey⟩ := shareMake_ex K a b hl hl' hK
  rw [e, Option.bind_some]
  simp only
  cases t
  · exact ⟨_, _, _, _, _, _, _, _, _, rfl, by simp, by simp⟩
  rw [if_pos rfl, specPartOk_f K id kind 1 x (by omega) (by omega), Option.bind_some]
  cases partOk id kind 1 x
  · exact ⟨_, _, _, _, _, _, _, _, _, rfl, by simp, by simp⟩
  rw [if_pos rfl, specPartOk_f K id kind 2 y (by omega) (by omega), Option.bind_some]
  cases partOk id kind 2 y
  · exact ⟨_, _, _, _, _, _, _, _, _, rfl, by simp, by simp⟩
  exact ⟨_, _, _, _, _, _, _, _, _, rfl, ex, ey⟩
theorem l4Vec_loop (s n : Int) (hn : 0 ≤ n ∧ n ≤ 100) (d : Nat) : ∀ (k : Nat) (i : Nat) (o : List Int), (i : Int) + d = n → o.length = i → d < k → ∃ r, spec_l4Vec.l0 k s n o (i : Int) = some r ∧ (r.length : Int) = n := by
  induction d with
  | zero =>
    intro k i o hi ho hk
    obtain ⟨k, rfl⟩ : ∃ j, k = j + 1 := ⟨k - 1, by omega⟩
    simp only [spec_l4Vec.l0]
    rw [if_neg (by omega)]
    exact ⟨o, rfl, by omega⟩
  | succ d ih =>
    intro k i o hi ho hk
    obtain ⟨k, rfl⟩ : ∃ j, k = j + 1 := ⟨k - 1, by omega⟩
    simp only [spec_l4Vec.l0]
    unfold spec_l4At.f
    rw [if_pos (by omega), Option.bind_some, if_pos (by omega), w64 (a := (i : Int) + 1) (by omega) (by omega)]
    exact ih k (i + 1) _ (by omega) (by simp; omega) (by omega)
theorem partsMake_ex (K : Nat) (id kind val seed : Int) (hk0 : 0 ≤ kind) (hk4 : kind ≤ 4) (hK : 1300 ≤ K) : ∃ a0 a1 a2 l b0 b1 b2 m t, spec_PartsMake.f K id kind val seed = some (a0, a1, a2, l, b0, b1, b2, m, t) ∧ l.length ≤ 20 ∧ m.length ≤ 20 := by
  obtain ⟨K, rfl⟩ : ∃ j, K = j + 1 := ⟨K - 1, by omega⟩
  have ht := tLen_le kind
  unfold spec_PartsMake.f spec_TypeMake.f
  have hno : ∀ v : List Int, ∃ a0 a1 a2 l b0 b1 b2 m t, spec_PartsMake.j0 (K + 1) id kind seed v true = some (a0, a1, a2, l, b0, b1, b2, m, t) ∧ l.length ≤ 20 ∧ m.length ≤ 20 := fun v => by
    simp only [spec_PartsMake.j0]
    exact ⟨_, _, _, _, _, _, _, _, _, rfl, by simp, by simp⟩
  rw [l11Kind_f, Option.bind_some]
  cases hk : kOk kind
  · rw [if_neg (by simp), Option.bind_some]
    exact hno []
  have hkr : 1 ≤ kind ∧ kind ≤ 3 := by rw [kOk_iff] at hk; simpa using hk
  obtain ⟨mo, em, m0, m7⟩ := most_f kind (by omega) (by omega)
  rw [if_pos rfl, em, Option.bind_some, l6In_f, Option.bind_some]
  cases hv0 : decide (0 ≤ val) && decide (val ≤ mo)
  · rw [if_neg (by simp), Option.bind_some]
    exact hno []
  have hv1 : 0 ≤ val ∧ val ≤ mo := by simpa using hv0
  obtain ⟨v, e1, l1, a1⟩ := makeOk kind val hkr.1 hkr.2 hv1.1 (by omega)
  have e1K : spec_l11Make.f (K + 1) kind val = some v := leO_le (fun k => spec_l11Make.mono _ _ k) (by omega) e1
  rw [if_pos rfl, e1K, Option.bind_some, Option.bind_some]
  simp only
  rw [if_pos trivial, l6In_f, Option.bind_some]
  cases hs : decide (0 ≤ seed) && decide (seed ≤ 999)
  · exact hno _
  simp only [spec_PartsMake.j0]
  rw [if_neg (by simp)]
  unfold spec_l4At.f
  rw [Option.bind_some, Option.bind_some]
  have hlv : v.length = 1 ∨ v.length = 3 ∨ v.length = 4 := by
    rcases tLen_cases hk with ⟨_, e⟩ | ⟨_, e⟩ | ⟨_, e⟩ <;> omega
  generalize Int.tmod (wrap64 ((wrap64 ((wrap64 ((wrap64 (seed + (wrap64 ((wrap64 (Int.tdiv seed 31)) * 7)))) + (wrap64 ((wrap64 ((19 : Int) * 19)) * 11)))) + (wrap64 ((wrap64 ((19 : Int) * (Int.tmod seed 31))) * 26)))) + (wrap64 ((19 : Int) * 3)))) 31 = u
  generalize Int.tmod (wrap64 ((wrap64 ((wrap64 ((wrap64 (seed + (wrap64 ((wrap64 (Int.tdiv seed 31)) * 7)))) + (wrap64 ((wrap64 ((20 : Int) * 20)) * 11)))) + (wrap64 ((wrap64 ((20 : Int) * (Int.tmod seed 31))) * 26)))) + (wrap64 ((20 : Int) * 3)))) 31 = w
  obtain ⟨x, e2, x1, x9⟩ := l12Make_ex K (by omega) v hlv a1 u w
  rw [e2, Option.bind_some]
  unfold spec_l12All.f
  simp only [Option.bind_some, List.nil_append, List.length_nil, List.length_append, List.length_cons]
  rw [if_pos (by omega), if_pos (by omega), if_pos (by omega), Option.bind_some, specProofLen_f, Option.bind_some, if_pos hk]
  obtain ⟨d, e3, d1⟩ := l4Vec_loop seed (3 * tLen kind + 3) (by omega) (3 * tLen kind + 3).toNat K 0 [] (by omega) rfl (by omega)
  have e3' : spec_l4Vec.f K seed (3 * tLen kind + 3) = some d := e3
  rw [e3', Option.bind_some]
  obtain ⟨a0, a1', a2, l, b0, b1, b2, m, t, e4, l4, m4⟩ := partsOf_ex K id kind (v ++ [x.1, x.2.1] ++ x.2.2) d (by simp; omega) (by omega) (by omega)
  rw [e4, Option.bind_some]
  refine ⟨_, _, _, _, _, _, _, _, _, rfl, ?_, ?_⟩
  · simp at l4 ⊢; omega
  · simp only; omega
theorem val_f {b : List Int} {p B : Int} (h : Rdr b p B) (hB : B ≤ 900000) (k : Nat) : ∃ kind val q, spec_l91Val.f (k + 1) b p = some (kind, val, q) ∧ 0 ≤ kind ∧ kind ≤ 4 ∧ Rdr b q (B + 10) := by
  unfold spec_l91Val.f
  obtain ⟨x, e1, r1, x0, x1, _⟩ := pick_f h (by omega) 3 k
  have x2 := x1 (by omega)
  rw [e1, Option.bind_some]
  simp only
  rw [w64 (a := 1 + x) (by omega) (by omega)]
  obtain ⟨mo, em, m0, m7⟩ := most_f (1 + x) (by omega) (by omega)
  rw [em, Option.bind_some, w64 (by omega) (by omega)]
  obtain ⟨y, e2, r2, y0, y1, _⟩ := pick_f r1 (by omega) (mo + 1) k
  rw [e2, Option.bind_some]
  simp only
  obtain ⟨z, e3, r3, z0, z1, _⟩ := pick_f r2 (by omega) 30 k
  rw [e3, Option.bind_some]
  simp only
  by_cases hz : z = 0
  · rw [if_pos hz]
    obtain ⟨kd, q, e4, r4, k0, k4⟩ := l91Kind_f r3 (by omega) k
    rw [e4, Option.bind_some]
    simp only
    obtain ⟨g, e5, r5, _⟩ := pick_f r4 (by omega) 10 k
    rw [e5, Option.bind_some]
    exact ⟨_, _, _, rfl, k0, k4, rdr_le r5 (by omega)⟩
  · rw [if_neg hz]
    exact ⟨_, _, _, rfl, by omega, by omega, rdr_le r3 (by omega)⟩
theorem l92Part_f {b : List Int} {p B : Int} (h : Rdr b p B) (hB : B ≤ 800000) (K : Nat) (hK : 1400 ≤ K) : ∃ i kd s l q, spec_l92Part.f K b p = some (i, kd, s, l, q) ∧ l.length ≤ 20 ∧ Rdr b q (B + 20) := by
  obtain ⟨k, rfl⟩ : ∃ j, K = j + 1 := ⟨K - 1, by omega⟩
  unfold spec_l92Part.f
  obtain ⟨kind, val, q, e1, k0, k4, r1⟩ := val_f h (by omega) k
  rw [e1, Option.bind_some]
  simp only
  obtain ⟨x, e2, r2, _⟩ := pick_f r1 (by omega) 12 k
  rw [e2, Option.bind_some]
  simp only
  obtain ⟨y, e3, r3, _⟩ := pick_f r2 (by omega) 1000 k
  rw [e3, Option.bind_some]
  simp only
  obtain ⟨a0, a1, a2, l, b0, b1, b2, m, t, e4, l4, m4⟩ := partsMake_ex (k + 1) (wrap64 (1 + x)) kind val y k0 k4 (by omega)
  rw [e4, Option.bind_some]
  simp only
  cases t
  · rw [if_neg (by simp)]
    exact ⟨_, _, _, _, _, rfl, m4, rdr_le r3 (by omega)⟩
  rw [if_pos rfl]
  obtain ⟨z, e5, r5, _⟩ := pick_f r3 (by omega) 2 k
  rw [e5, Option.bind_some]
  simp only
  by_cases hz : z = 0
  · rw [if_pos hz]
    exact ⟨_, _, _, _, _, rfl, m4, rdr_le r5 (by omega)⟩
  · rw [if_neg hz]
    exact ⟨_, _, _, _, _, rfl, l4, rdr_le r5 (by omega)⟩
end Go.Proofs.YtahbooeioigbgaaDoor.Q
