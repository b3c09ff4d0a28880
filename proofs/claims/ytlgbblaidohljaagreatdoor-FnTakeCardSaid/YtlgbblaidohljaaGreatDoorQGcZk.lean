import Derived.KernelRfl
import Derived.Test.YtlgbblaidohljaaGreatDoorQGaZk
import Derived.Test.YtlgbblaidohljaaGreatDoorQGbZk
import Derived.Test.YtlgbblaidohljaaGreatDoorZk1
import Derived.Test.YtlgbblaidohljaaGreatDoorZk10
import Derived.Test.YtlgbblaidohljaaGreatDoorZk11
import Derived.Test.YtlgbblaidohljaaGreatDoorZk12
import Derived.Test.YtlgbblaidohljaaGreatDoorZk13
import Derived.Test.YtlgbblaidohljaaGreatDoorZk14
import Derived.Test.YtlgbblaidohljaaGreatDoorZk15
import Derived.Test.YtlgbblaidohljaaGreatDoorZk6
set_option linter.unusedVariables false
set_option linter.unusedSimpArgs false
namespace Go.Proofs.YtlgbblaidohljaaGreatDoor.Q
open Go.RowKit Go.Proofs.YtlgbblaidohljaaGreatDoor.Zk Go.Proofs.YtlgbblaidohljaaGreatDoorT.PrintWords Go.Proofs.YtlgbblaidohljaaGreatDoorT.PrintLast Go.Proofs.YtlgbblaidohljaaGreatDoorT.PrintMore
theorem xor_i64 (a b : Nat) (ha : a < 9223372036854775808) (hb : b < 9223372036854775808) : Go.bits .xor .i64 (a : Int) (b : Int) = ((a ^^^ b : Nat) : Int) := by
  have hx : a ^^^ b < 2 ^ 63 := Nat.xor_lt_two_pow (by omega) (by omega)
  have h1 : (BitVec.ofInt 64 (a : Int)).toNat = a := by
    rw [BitVec.ofInt_natCast, BitVec.toNat_ofNat]; exact Nat.mod_eq_of_lt (by omega)
  have h2 : (BitVec.ofInt 64 (b : Int)).toNat = b := by
    rw [BitVec.ofInt_natCast, BitVec.toNat_ofNat]; exact Nat.mod_eq_of_lt (by omega)
  show IntKind.i64.wrap ((BitVec.ofInt 64 (a : Int) ^^^ BitVec.ofInt 64 (b : Int)).toNat : Int) = _
  rw [BitVec.toNat_xor, h1, h2]
  simp [IntKind.wrap, IntKind.bits, IntKind.signed]
  omega
theorem xor_nonneg (a b : Int) (h1 : 0 ≤ a) (h2 : a ≤ 9223372036854775807) (h3 : 0 ≤ b) (h4 : b ≤ 9223372036854775807) : 0 ≤ Go.bits .xor .i64 a b := by
  obtain ⟨m, rfl⟩ := Int.eq_ofNat_of_zero_le h1
  obtain ⟨n, rfl⟩ := Int.eq_ofNat_of_zero_le h3
  rw [xor_i64 m n (by omega) (by omega)]
  omega
def Bytes (b : List Int) : Prop := ∀ x ∈ b, 0 ≤ x ∧ x ≤ 255
theorem Bytes.at_ {b : List Int} (h : Bytes b) (i : Int) : 0 ≤ rd b i ∧ rd b i ≤ 255 := by
  unfold rd
  rw [List.getD_eq_getElem?_getD]
  rcases Nat.lt_or_ge i.toNat b.length with hi | hi
  · rw [List.getElem?_eq_getElem hi]; exact h _ (List.getElem_mem hi)
  · rw [List.getElem?_eq_none hi]; simp
theorem Bytes.take {b : List Int} (h : Bytes b) (n : Nat) : Bytes (b.take n) := fun x hx => h x (List.mem_of_mem_take hx)
theorem bytes_of {b : List Int} (h : ∀ x ∈ b, (Lit.int .u8 x).wf = true) : Bytes b := fun x hx => wf8 (h x hx)
theorem tmod_range {x n : Int} (hx : 0 ≤ x) (hn : 1 ≤ n) : 0 ≤ Int.tmod x n ∧ Int.tmod x n < n := by
  rw [Int.tmod_eq_emod_of_nonneg hx]
  exact ⟨Int.emod_nonneg _ (by omega), Int.emod_lt_of_pos _ (by omega)⟩
structure Rdr (b : List Int) (p : Int) (B : Int) : Prop where
  bytes : Bytes b
  len : b.length ≤ 2000
  lo : 0 ≤ p
  hi : p ≤ B
theorem l6Open_f (l : List Int) (h : Bytes l) : ∃ b, spec_l6Open.f l = some (b, 0) ∧ Rdr b 0 0 := by
  unfold spec_l6Open.f
  by_cases h1 : (l.length : Int) > 2000
  · rw [if_pos h1, if_pos (by omega)]
    exact ⟨_, rfl, h.take _, by rw [List.length_take]; omega, by omega, by omega⟩
  · rw [if_neg h1]
    exact ⟨_, rfl, h, by omega, by omega, by omega⟩
theorem pick_f {b : List Int} {p B : Int} (h : Rdr b p B) (hB : B ≤ 1000000) (n : Int) (k : Nat) :
    ∃ v, spec_l6Rd_pick.f (k + 1) b p n = some (v, p + 1) ∧ Rdr b (p + 1) (B + 1) ∧ 0 ≤ v ∧ (1 ≤ n → v < n) ∧ (n < 1 → v = 0) := by
  have hr : Rdr b (p + 1) (B + 1) := ⟨h.bytes, h.len, by have := h.lo; omega, by have := h.hi; omega⟩
  have hlo := h.lo
  have hhi := h.hi
  unfold spec_l6Rd_pick.f
  rw [w64 (a := p + 1) (by omega) (by omega)]
  by_cases hn : n < 1
  · rw [if_pos hn]
    simp only [spec_l6Rd_pick.j0]
    rw [if_pos trivial]
    exact ⟨0, rfl, hr, by omega, fun h => by omega, fun _ => rfl⟩
  · rw [if_neg hn]
    simp only [spec_l6Rd_pick.j0]
    by_cases h0 : (b.length : Int) = 0
    · rw [if_pos (by simp [h0])]
      exact ⟨0, rfl, hr, by omega, fun h => by omega, fun _ => rfl⟩
    · rw [if_neg (by simpa using h0)]
      have e : wrap64 (p + 1 - 1) = p := by rw [w64 (by omega) (by omega)]; omega
      simp only [e]
      by_cases h1 : p < (b.length : Int)
      · rw [if_pos h1, if_pos hlo, if_neg (by omega)]
        have hb := h.bytes.at_ p
        rw [w64 (a := rd b p) (by omega) (by omega)]
        have := tmod_range (x := rd b p) (n := n) hb.1 (by omega)
        exact ⟨_, rfl, hr, this.1, fun _ => this.2, fun h => by omega⟩
      · have hl := h.len
        have r1 := tmod_range (x := p) (n := (b.length : Int)) hlo (by omega)
        have e2 : wrap64 (wrap64 (p * 7) + 3) = p * 7 + 3 := by rw [w64 (a := p * 7) (by omega) (by omega), w64 (by omega) (by omega)]
        have r2 := tmod_range (x := p * 7 + 3) (n := (b.length : Int)) (by omega) (by omega)
        rw [if_neg h1, if_neg h0, if_pos r1.1, if_pos r1.2, e2, if_pos r2.1, if_pos r2.2, if_neg (by omega)]
        have b1 := h.bytes.at_ (Int.tmod p b.length)
        have b2 := h.bytes.at_ (Int.tmod (p * 7 + 3) b.length)
        generalize rd b (Int.tmod p b.length) = x1 at b1 ⊢
        generalize rd b (Int.tmod (p * 7 + 3) b.length) = x2 at b2 ⊢
        have e3 : Int.tdiv p (b.length : Int) = p / (b.length : Int) := Int.tdiv_eq_ediv_of_nonneg hlo
        have d1 : 0 ≤ p / (b.length : Int) := Int.ediv_nonneg hlo (by omega)
        have d2 : p / (b.length : Int) ≤ p := Int.ediv_le_self _ hlo
        rw [e3]
        generalize p / (b.length : Int) = d at d1 d2 ⊢
        rw [w64 (a := x1) (by omega) (by omega), w64 (a := x2) (by omega) (by omega), w64 (a := d) (by omega) (by omega)]
        rw [w64 (a := x1 * 131) (by omega) (by omega), w64 (a := x2 * 1117) (by omega) (by omega), w64 (a := p * 29) (by omega) (by omega), w64 (a := d * 53) (by omega) (by omega)]
        rw [w64 (a := x1 * 131 + x2 * 1117) (by omega) (by omega), w64 (a := x1 * 131 + x2 * 1117 + p * 29) (by omega) (by omega), w64 (a := x1 * 131 + x2 * 1117 + p * 29 + d * 53) (by omega) (by omega)]
        have hy : 0 ≤ x1 * 131 + x2 * 1117 + p * 29 + d * 53 ∧ x1 * 131 + x2 * 1117 + p * 29 + d * 53 ≤ 1000000000 := by omega
        generalize x1 * 131 + x2 * 1117 + p * 29 + d * 53 = y at hy ⊢
        rw [Int.tdiv_eq_ediv_of_nonneg hy.1, w64 (a := y / 64) (by omega) (by omega)]
        have hx := xor_nonneg y (y / 64) hy.1 (by omega) (by omega) (by omega)
        generalize Go.bits .xor .i64 y (y / 64) = z at hx ⊢
        have := tmod_range (x := z) (n := n) hx (by omega)
        exact ⟨_, rfl, hr, this.1, fun _ => this.2, fun h => by omega⟩
theorem l91Kind_f {b : List Int} {p B : Int} (h : Rdr b p B) (hB : B ≤ 999990) (k : Nat) : ∃ v q, spec_l91Kind.f (k + 1) b p = some (v, q) ∧ Rdr b q (B + 2) ∧ 0 ≤ v ∧ v ≤ 4 := by
  unfold spec_l91Kind.f
  obtain ⟨v, e1, r1, h0, h1, _⟩ := pick_f h (by omega) 60 k
  rw [e1, Option.bind_some]
  by_cases hv0 : v = 0
  · simp only [if_pos hv0, Option.bind_some]
    obtain ⟨u, e2, r2, g0, g1, _⟩ := pick_f r1 (by omega) 2 k
    rw [e2, Option.bind_some]
    have g2 := g1 (by omega)
    simp only [List.length_cons, List.length_nil]
    rw [if_pos g0, if_pos (by omega)]
    refine ⟨_, _, rfl, ⟨r2.bytes, r2.len, r2.lo, by have := r2.hi; omega⟩, ?_⟩
    rcases (show u = 0 ∨ u = 1 by omega) with rfl | rfl <;> decide
  · simp only [if_neg hv0]
    obtain ⟨u, e2, r2, g0, g1, _⟩ := pick_f r1 (by omega) 3 k
    rw [e2, Option.bind_some]
    have g2 := g1 (by omega)
    simp only
    rw [w64 (by omega) (by omega)]
    exact ⟨_, _, rfl, ⟨r2.bytes, r2.len, r2.lo, by have := r2.hi; omega⟩, by omega, by omega⟩
theorem num_f {b : List Int} {p B : Int} (h : Rdr b p B) (hB : B ≤ 999990) (k : Nat) : ∃ v q, spec_l91Num.f (k + 1) b p = some (v, q) ∧ Rdr b q (B + 3) := by
  unfold spec_l91Num.f
  obtain ⟨v, e1, r1, h0, h1, _⟩ := pick_f h (by omega) 10 k
  rw [e1, Option.bind_some]
  simp only
  have w1 : Rdr b (p + 1) (B + 3) := ⟨r1.bytes, r1.len, r1.lo, by have := r1.hi; omega⟩
  by_cases c0 : v = 0
  · rw [if_pos c0]; exact ⟨_, _, rfl, w1⟩
  rw [if_neg c0]
  by_cases c1 : v = 1
  · rw [if_pos c1, Option.bind_some]
    obtain ⟨u, e2, r2, g0, g1, _⟩ := pick_f r1 (by omega) 2 k
    have g2 := g1 (by omega)
    rw [e2, Option.bind_some]
    simp only [List.length_cons, List.length_nil]
    rw [if_pos g0, if_pos (by omega)]
    exact ⟨_, _, rfl, ⟨r2.bytes, r2.len, r2.lo, by have := r2.hi; omega⟩⟩
  rw [if_neg c1]
  by_cases c2 : v = 2
  · rw [if_pos c2]
    obtain ⟨u, e2, r2, g0, g1, _⟩ := pick_f r1 (by omega) 5 k
    rw [e2, Option.bind_some]
    simp only
    by_cases c3 : u = 0
    · rw [if_pos c3, Option.bind_some]
      obtain ⟨t, e3, r3, f0, f1, _⟩ := pick_f r2 (by omega) 2 k
      have f2 := f1 (by omega)
      rw [e3, Option.bind_some]
      simp only [List.length_cons, List.length_nil]
      rw [if_pos f0, if_pos (by omega)]
      exact ⟨_, _, rfl, ⟨r3.bytes, r3.len, r3.lo, by have := r3.hi; omega⟩⟩
    · rw [if_neg c3]
      obtain ⟨t, e3, r3, _⟩ := pick_f r2 (by omega) 31 k
      rw [e3, Option.bind_some]
      exact ⟨_, _, rfl, ⟨r3.bytes, r3.len, r3.lo, by have := r3.hi; omega⟩⟩
  · rw [if_neg c2]
    obtain ⟨t, e3, r3, _⟩ := pick_f r1 (by omega) 31 k
    rw [e3, Option.bind_some]
    exact ⟨_, _, rfl, ⟨r3.bytes, r3.len, r3.lo, by have := r3.hi; omega⟩⟩
theorem rdr_le {b : List Int} {p B C : Int} (h : Rdr b p B) (hC : B ≤ C) : Rdr b p C := ⟨h.bytes, h.len, h.lo, by have := h.hi; omega⟩
theorem makeOk (kind val : Int) (h1 : 1 ≤ kind) (h2 : kind ≤ 3) (h3 : 0 ≤ val) (h4 : val ≤ 7) : ∃ l, spec_l11Make.f 40 kind val = some l ∧ (l.length : Int) = tLen kind ∧ l.all fOk = true := by
  have key : ∀ o : Option (List Int), (match o with | some l => decide ((l.length : Int) = tLen kind) && l.all fOk | none => false) = true → ∃ l, o = some l ∧ (l.length : Int) = tLen kind ∧ l.all fOk = true := by
    intro o h
    cases o with
    | none => cases h
    | some l => exact ⟨l, rfl, by simpa using h⟩
  apply key
  rcases (show kind = 1 ∨ kind = 2 ∨ kind = 3 by omega) with rfl | rfl | rfl <;>
    rcases (show val = 0 ∨ val = 1 ∨ val = 2 ∨ val = 3 ∨ val = 4 ∨ val = 5 ∨ val = 6 ∨ val = 7 by omega) with rfl | rfl | rfl | rfl | rfl | rfl | rfl | rfl <;> decide +kernel
def dec1 (v : List Int) : List Int := v.map fun x => (x - 1) % 31
theorem dec1_all (v : List Int) : (dec1 v).all fOk = true := by
  rw [List.all_eq_true]
  intro x hx
  obtain ⟨y, _, rfl⟩ := List.mem_map.1 hx
  exact fOk_mod _
theorem dec1_snoc (l : List Int) (a : Int) : dec1 (l ++ [a]) = dec1 l ++ [(a - 1) % 31] := by simp [dec1]
theorem second_loop (v : List Int) (w : Int) (hl : v.length ≤ 1000) (hV : v.all fOk = true) (d : Nat) : ∀ (k i : Nat), i + d = v.length → d < k → spec_l12Second.l0 k v (w :: dec1 (v.take i)) (i : Int) = some (w :: dec1 v) := by
  induction d with
  | zero =>
    intro k i hi hk
    obtain ⟨k, rfl⟩ : ∃ j, k = j + 1 := ⟨k - 1, by omega⟩
    simp only [spec_l12Second.l0]
    rw [if_neg (by omega)]
    obtain rfl : i = v.length := by omega
    rw [List.take_length]
  | succ d ih =>
    intro k i hi hk
    obtain ⟨k, rfl⟩ : ∃ j, k = j + 1 := ⟨k - 1, by omega⟩
    simp only [spec_l12Second.l0]
    have h1 : i < v.length := by omega
    rw [if_pos (by omega), if_pos (by omega), rd_nat v i h1, fieldDif_f _ 1 (all_get hV i h1) rfl, Option.bind_some, if_pos (by simp [dec1]; omega), w64 (by omega) (by omega)]
    have := ih k (i + 1) (by omega) (by omega)
    rw [List.take_succ_eq_append_getElem h1, dec1_snoc] at this
    exact this
theorem second_f (k : Nat) (v : List Int) (w : Int) (hl : v.length ≤ 1000) (hV : v.all fOk = true) (hk : v.length < k) : spec_l12Second.f k v w = some (w :: dec1 v) := by
  unfold spec_l12Second.f
  have := second_loop v w hl hV v.length k 0 (by omega) hk
  simpa [dec1] using this
theorem lenOf {α : Type} {o : Option α} {g : α → Nat} {n : Nat} (h : o.map g = some n) : ∃ x, o = some x ∧ g x = n := by
  cases o with
  | none => cases h
  | some x => exact ⟨x, rfl, by simpa using h⟩
theorem mulLen2 (a b c d : Int) : (spec_l2Mul.f 90 [a, b] [c, d]).map List.length = some 3 := by kernel_rfl
theorem mulLen4 (a b c d e f g h : Int) : (spec_l2Mul.f 90 [a, b, c, d] [e, f, g, h]).map List.length = some 7 := by kernel_rfl
theorem mulLen5 (a b c d e f g h i j : Int) : (spec_l2Mul.f 90 [a, b, c, d, e] [f, g, h, i, j]).map List.length = some 9 := by kernel_rfl
theorem mulEx (n : Nat) (hn : n = 2 ∨ n = 4 ∨ n = 5) (A B : List Int) (hA : A.length = n) (hB : B.length = n) : ∃ r, spec_l2Mul.f 90 A B = some r ∧ r.length + 1 = n + n := by
  rcases hn with rfl | rfl | rfl
  · match A, hA, B, hB with
    | [a, b], _, [c, d], _ => obtain ⟨r, e, l⟩ := lenOf (mulLen2 a b c d); exact ⟨r, e, by omega⟩
  · match A, hA, B, hB with
    | [a, b, c, d], _, [e, f, g, h], _ => obtain ⟨r, e, l⟩ := lenOf (mulLen4 a b c d e f g h); exact ⟨r, e, by omega⟩
  · match A, hA, B, hB with
    | [a, b, c, d, e], _, [f, g, h, i, j], _ => obtain ⟨r, e, l⟩ := lenOf (mulLen5 a b c d e f g h i j); exact ⟨r, e, by omega⟩
theorem most_f (kind : Int) (h1 : 0 ≤ kind) (h2 : kind ≤ 3) : ∃ m, spec_l11Most.f kind = some m ∧ 0 ≤ m ∧ m ≤ 7 := by
  rcases (show kind = 0 ∨ kind = 1 ∨ kind = 2 ∨ kind = 3 by omega) with rfl | rfl | rfl | rfl
  · exact ⟨0, rfl, by omega, by omega⟩
  · exact ⟨1, rfl, by omega, by omega⟩
  · exact ⟨3, rfl, by omega, by omega⟩
  · exact ⟨7, rfl, by omega, by omega⟩
theorem specProofLen_f (kind : Int) : spec_ProofLen.f kind = some (if kOk kind = true then 3 * tLen kind + 3 else 0) := by
  have ht := tLen_le kind
  unfold spec_ProofLen.f
  rw [l11Kind_f, Option.bind_some]
  split
  · rw [specTypeLen_f, Option.bind_some, w64 (a := 3 * tLen kind) (by omega) (by omega), w64 (by omega) (by omega)]
  · rfl
theorem specPartOk_f (K : Nat) (id kind side : Int) (l : List Int) (hl : l.length ≤ 1048576000) (hK : l.length < K) : spec_PartOk.f K id kind side l = some (partOk id kind side l) := by
  have ht := tLen_le kind
  unfold spec_PartOk.f partOk
  rw [l6In_f, Option.bind_some]
  cases h1 : decide (1 ≤ id) && decide (id ≤ 99)
  · rfl
  rw [if_pos rfl, l11Kind_f, Option.bind_some]
  cases h2 : kOk kind
  · simp
  rw [if_pos rfl, l6In_f, Option.bind_some]
  cases h3 : decide (1 ≤ side) && decide (side ≤ 2)
  · simp
  rw [if_pos rfl, shareOk_f K l hl hK, Option.bind_some]
  cases h4 : l.all fOk
  · simp
  by_cases h5 : (l.length : Int) ≤ 20
  · rw [if_pos (by simp [h5]), specProofLen_f, Option.bind_some, if_pos h2]
    simp; rfl
  · rw [if_neg (by simp; omega)]
    have : ¬ ((l.length : Int) = 3 * tLen kind + 3) := by omega
    simp [this]
end Go.Proofs.YtlgbblaidohljaaGreatDoor.Q
