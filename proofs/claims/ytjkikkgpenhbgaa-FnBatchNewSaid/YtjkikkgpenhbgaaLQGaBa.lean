import Derived.Test.YtjkikkgpenhbgaaLBa1
import Derived.Test.YtjkikkgpenhbgaaLBa10
import Derived.Test.YtjkikkgpenhbgaaLBa12
import Derived.Test.YtjkikkgpenhbgaaLBa0
import Derived.Test.YtjkikkgpenhbgaaLBa3
import Derived.Test.YtjkikkgpenhbgaaLBa4
set_option linter.unusedVariables false
set_option linter.unusedSimpArgs false
namespace Go.Proofs.Ytjkikkgpenhbgaa.Q
open Go.RowKit Go.Proofs.Ytjkikkgpenhbgaa.Ba Go.Proofs.YtjkikkgpenhbgaaW.PrintWords Go.Proofs.YtjkikkgpenhbgaaW.PrintLast Go.Proofs.YtjkikkgpenhbgaaW.PrintMore
theorem wf8 {a : Int} (h : (Lit.int .u8 a).wf = true) : 0 ≤ a ∧ a ≤ 255 := by
 simpa [Lit.wf, IntKind.min, IntKind.max, IntKind.signed, IntKind.bits] using h
theorem w64 {a : Int} (h1 : -9223372036854775808 ≤ a) (h2 : a ≤ 9223372036854775807) : wrap64 a = a := by unfold wrap64; omega
theorem l6In_f (a b c : Int) : spec_l6In.f a b c = some (decide (b ≤ a) && decide (a ≤ c)) := by
 unfold spec_l6In.f
 by_cases h : a ≥ b
 ·rw [if_pos h]; have : decide (b ≤ a) = true := decide_eq_true h; rw [this]; rfl
 ·rw [if_neg h]; have : decide (b ≤ a) = false := decide_eq_false h; rw [this]; rfl
theorem within_f (a b c : Int) : impl_within.f a b c = some (decide (b ≤ a) && decide (a ≤ c)) := l6In_f a b c
theorem kOk_iff (n : Int) : kOk n = (decide (1 ≤ n) && decide (n ≤ 3)) := by
 unfold kOk
 rw [Bool.eq_iff_iff]; simp; omega
theorem l11Kind_f (a : Int) : spec_l11Kind.f a = some (kOk a) := by
 unfold spec_l11Kind.f; rw [l6In_f, kOk_iff]; rfl
theorem specTypeLen_f (a : Int) : spec_TypeLen.f a = some (tLen a) := by
 unfold spec_TypeLen.f tLen
 split
 ·rfl
 split
 ·rfl
 split <;> rfl
theorem tLen_0 {a : Int} (h : kOk a = false) : tLen a = 0 := by
 simp [kOk] at h; simp [tLen, h]
theorem tLen_le (a : Int) : 0 ≤ tLen a ∧ tLen a ≤ 4 := by
 unfold tLen; split <;> (try split) <;> (try split) <;> omega
theorem tLen_pos {a : Int} : 0 < tLen a ↔ kOk a = true := by
 unfold tLen kOk; simp; split <;> (try split) <;> (try split) <;> simp_all
theorem rd_nat (l : List Int) (i : Nat) (h : i < l.length) : rd l (i : Int) = l[i] := by
 simp [rd, h]
theorem fieldOk_f (a : Int) : spec_FieldOk.f a = some (fOk a) := by
 unfold spec_FieldOk.f; rw [l6In_f]; rfl
theorem fOk_iff (a : Int) : fOk a = true ↔ 0 ≤ a ∧ a ≤ 30 := by simp [fOk]
theorem all_get {l : List Int} (h : l.all fOk = true) (i : Nat) (hi : i < l.length) : fOk l[i] = true := List.all_eq_true.1 h _ (List.getElem_mem hi)
theorem shareOk_loop (l : List Int) (hl : l.length ≤ 1048576000) (d : Nat) : ∀ (k : Nat) (i : Nat), i + d = l.length → (l.take i).all fOk = true → d < k → spec_ShareOk.l0 k l (i : Int) = some (l.all fOk && decide ((l.length : Int) ≤ 20)) := by
 induction d with
 | zero =>
  intro k i hi ht hk
  obtain ⟨k, rfl⟩ : ∃ j, k = j + 1 := ⟨k - 1, by omega⟩
  simp only [spec_ShareOk.l0]
  rw [if_neg (by omega)]
  obtain rfl : i = l.length := by omega
  rw [List.take_length] at ht
  simp [ht]
 | succ d ih =>
  intro k i hi ht hk
  obtain ⟨k, rfl⟩ : ∃ j, k = j + 1 := ⟨k - 1, by omega⟩
  simp only [spec_ShareOk.l0]
  have h1 : i < l.length := by omega
  rw [if_pos (by omega), if_pos (by omega), fieldOk_f, Option.bind_some, rd_nat l i h1, w64 (by omega) (by omega)]
  cases e : fOk l[i]
  ·rw [if_neg (by simp)]
   have : l.all fOk = false := by
    cases h : l.all fOk
    ·rfl
    ·rw [all_get h i h1] at e; cases e
   rw [this]; rfl
  ·rw [if_pos rfl]
   have := ih k (i + 1) (by omega) (by rw [List.take_succ_eq_append_getElem h1, List.all_append, ht]; simp [e]) (by omega)
   simpa using this
theorem shareOk_f (k : Nat) (l : List Int) (hl : l.length ≤ 1048576000) (hk : l.length < k) : spec_ShareOk.f k l = some (l.all fOk && decide ((l.length : Int) ≤ 20)) :=
 shareOk_loop l hl l.length k 0 (by omega) (by simp) hk
theorem fieldSum_f (a b : Int) (ha : fOk a = true) (hb : fOk b = true) : spec_FieldSum.f a b = some ((a + b) % 31) := by
 unfold spec_FieldSum.f
 have h1 := (fOk_iff a).1 ha
 have h2 := (fOk_iff b).1 hb
 rw [fieldOk_f, Option.bind_some, if_pos ha, fieldOk_f, Option.bind_some, if_pos hb, w64 (by omega) (by omega), Int.tmod_eq_emod_of_nonneg (by omega)]
def sumL (a b : List Int) : List Int := List.zipWith (fun x y => (x + y) % 31) a b
theorem sumL_length (a b : List Int) (h : a.length = b.length) : (sumL a b).length = a.length := by simp [sumL, h]
theorem l3Sum_loop (a b : List Int) (hl : a.length = b.length) (hn : a.length ≤ 1048576000) (ha : a.all fOk = true) (hb : b.all fOk = true) (d : Nat) : ∀ (k : Nat) (i : Nat), i + d = a.length → d < k → spec_l3Sum.l0 k a b ((sumL a b).take i) (i : Int) = some (sumL a b) := by
 have hs := sumL_length a b hl
 induction d with
 | zero =>
  intro k i hi hk
  obtain ⟨k, rfl⟩ : ∃ j, k = j + 1 := ⟨k - 1, by omega⟩
  simp only [spec_l3Sum.l0]
  rw [if_neg (by omega), List.take_of_length_le (by omega)]
 | succ d ih =>
  intro k i hi hk
  obtain ⟨k, rfl⟩ : ∃ j, k = j + 1 := ⟨k - 1, by omega⟩
  simp only [spec_l3Sum.l0]
  have h1 : i < a.length := by omega
  have h2 : i < b.length := by omega
  rw [if_pos (by omega), if_pos (by omega), if_pos (by omega), rd_nat a i h1, rd_nat b i h2, fieldSum_f _ _ (all_get ha i h1) (all_get hb i h2), Option.bind_some, if_pos (by rw [List.length_take]; omega), w64 (by omega) (by omega)]
  have := ih k (i + 1) (by omega) (by omega)
  have h3 : i < (sumL a b).length := by omega
  rw [List.take_succ_eq_append_getElem h3] at this
  have e : (sumL a b)[i] = (a[i] + b[i]) % 31 := by simp [sumL]
  rw [e] at this
  simpa using this
theorem l3Sum_f (k : Nat) (a b : List Int) (hl : a.length = b.length) (hn : a.length ≤ 1048576000) (ha : a.all fOk = true) (hb : b.all fOk = true) (hk : a.length < k) : spec_l3Sum.f k a b = some (sumL a b) := by
 have := l3Sum_loop a b hl hn ha hb a.length k 0 (by omega) hk
 unfold spec_l3Sum.f
 simpa using this
theorem xor_i64 (a b : Nat) (ha : a < 9223372036854775808) (hb : b < 9223372036854775808) : Go.bits .xor .i64 (a : Int) (b : Int) = ((a ^^^ b : Nat) : Int) := by
 have hx : a ^^^ b < 2 ^ 63 := Nat.xor_lt_two_pow (by omega) (by omega)
 have h1 : (BitVec.ofInt 64 (a : Int)).toNat = a := by
  rw [BitVec.ofInt_natCast, BitVec.toNat_ofNat]; exact Nat.mod_eq_of_lt (by omega)
 have h2 : (BitVec.ofInt 64 (b : Int)).toNat = b := by
  rw [BitVec.ofInt_natCast, BitVec.toNat_ofNat]; exact Nat.mod_eq_of_lt (by omega)
 show IntKind.i64.wrap ((BitVec.ofInt 64 (a : Int) ^^^ BitVec.ofInt 64 (b : Int)).toNat : Int) = _
 rw [BitVec.toNat_xor, h1, h2]
 simp [IntKind.wrap, IntKind.bits, IntKind.signed]
 omega
theorem xor_nonneg (a b : Int) (h1 : 0 ≤ a) (h2 : a ≤ 9223372036854775807) (h3 : 0 ≤ b) (h4 : b ≤ 9223372036854775807) : 0 ≤ Go.bits .xor .i64 a b := by
 obtain ⟨m, rfl⟩ := Int.eq_ofNat_of_zero_le h1
 obtain ⟨n, rfl⟩ := Int.eq_ofNat_of_zero_le h3
 rw [xor_i64 m n (by omega) (by omega)]
 omega
def Bytes (b : List Int) : Prop := ∀ x ∈ b, 0 ≤ x ∧ x ≤ 255
theorem Bytes.at_ {b : List Int} (h : Bytes b) (i : Int) : 0 ≤ rd b i ∧ rd b i ≤ 255 := by
 unfold rd
 rw [List.getD_eq_getElem?_getD]
 rcases Nat.lt_or_ge i.toNat b.length with hi | hi
 ·rw [List.getElem?_eq_getElem hi]; exact h _ (List.getElem_mem hi)
 ·rw [List.getElem?_eq_none hi]; simp
theorem Bytes.take {b : List Int} (h : Bytes b) (n : Nat) : Bytes (b.take n) := fun x hx => h x (List.mem_of_mem_take hx)
theorem bytes_of {b : List Int} (h : ∀ x ∈ b, (Lit.int .u8 x).wf = true) : Bytes b := fun x hx => wf8 (h x hx)
theorem tmod_range {x n : Int} (hx : 0 ≤ x) (hn : 1 ≤ n) : 0 ≤ Int.tmod x n ∧ Int.tmod x n < n := by
 rw [Int.tmod_eq_emod_of_nonneg hx]
 exact ⟨Int.emod_nonneg _ (by omega), Int.emod_lt_of_pos _ (by omega)⟩
structure Rdr (b : List Int) (p : Int) (B : Int) : Prop where
 bytes : Bytes b
 len : b.length ≤ 2000
 lo : 0 ≤ p
 hi : p ≤ B
theorem l6Open_f (l : List Int) (h : Bytes l) : ∃ b, spec_l6Open.f l = some (b, 0) ∧ Rdr b 0 0 := by
 unfold spec_l6Open.f
 by_cases h1 : (l.length : Int) > 2000
 ·rw [if_pos h1, if_pos (by omega)]
  exact ⟨_, rfl, h.take _, by rw [List.length_take]; omega, by omega, by omega⟩
 ·rw [if_neg h1]
  exact ⟨_, rfl, h, by omega, by omega, by omega⟩
theorem pick_f {b : List Int} {p B : Int} (h : Rdr b p B) (hB : B ≤ 1000000) (n : Int) (k : Nat) :
  ∃ v, spec_l6Rd_pick.f (k + 1) b p n = some (v, p + 1) ∧ Rdr b (p + 1) (B + 1) ∧ 0 ≤ v ∧ (1 ≤ n → v < n) ∧ (n < 1 → v = 0) := by
 have hr : Rdr b (p + 1) (B + 1) := ⟨h.bytes, h.len, by have := h.lo; omega, by have := h.hi; omega⟩
 have hlo := h.lo
 have hhi := h.hi
 unfold spec_l6Rd_pick.f
 rw [w64 (a := p + 1) (by omega) (by omega)]
 by_cases hn : n < 1
 ·rw [if_pos hn]
  simp only [spec_l6Rd_pick.j0]
  rw [if_pos trivial]
  exact ⟨0, rfl, hr, by omega, fun h => by omega, fun _ => rfl⟩
 ·rw [if_neg hn]
  simp only [spec_l6Rd_pick.j0]
  by_cases h0 : (b.length : Int) = 0
  ·rw [if_pos (by simp [h0])]
   exact ⟨0, rfl, hr, by omega, fun h => by omega, fun _ => rfl⟩
  ·rw [if_neg (by simpa using h0)]
   have e : wrap64 (p + 1 - 1) = p := by rw [w64 (by omega) (by omega)]; omega
   simp only [e]
   by_cases h1 : p < (b.length : Int)
   ·rw [if_pos h1, if_pos hlo, if_neg (by omega)]
    have hb := h.bytes.at_ p
    rw [w64 (a := rd b p) (by omega) (by omega)]
    have := tmod_range (x := rd b p) (n := n) hb.1 (by omega)
    exact ⟨_, rfl, hr, this.1, fun _ => this.2, fun h => by omega⟩
   ·have hl := h.len
    have r1 := tmod_range (x := p) (n := (b.length : Int)) hlo (by omega)
    have e2 : wrap64 (wrap64 (p * 7) + 3) = p * 7 + 3 := by rw [w64 (a := p * 7) (by omega) (by omega), w64 (by omega) (by omega)]
    have r2 := tmod_range (x := p * 7 + 3) (n := (b.length : Int)) (by omega) (by omega)
    rw [if_neg h1, if_neg h0, if_pos r1.1, if_pos r1.2, e2, if_pos r2.1, if_pos r2.2, if_neg (by omega)]
    have b1 := h.bytes.at_ (Int.tmod p b.length)
    have b2 := h.bytes.at_ (Int.tmod (p * 7 + 3) b.length)
    generalize rd b (Int.tmod p b.length) = x1 at b1 ⊢
    generalize rd b (Int.tmod (p * 7 + 3) b.length) = x2 at b2 ⊢
    have e3 : Int.tdiv p (b.length : Int) = p / (b.length : Int) := Int.tdiv_eq_ediv_of_nonneg hlo
    have d1 : 0 ≤ p / (b.length : Int) := Int.ediv_nonneg hlo (by omega)
    have d2 : p / (b.length : Int) ≤ p := Int.ediv_le_self _ hlo
    rw [e3]
    generalize p / (b.length : Int) = d at d1 d2 ⊢
    rw [w64 (a := x1) (by omega) (by omega), w64 (a := x2) (by omega) (by omega), w64 (a := d) (by omega) (by omega)]
    rw [w64 (a := x1 * 131) (by omega) (by omega), w64 (a := x2 * 1117) (by omega) (by omega), w64 (a := p * 29) (by omega) (by omega), w64 (a := d * 53) (by omega) (by omega)]
    rw [w64 (a := x1 * 131 + x2 * 1117) (by omega) (by omega), w64 (a := x1 * 131 + x2 * 1117 + p * 29) (by omega) (by omega), w64 (a := x1 * 131 + x2 * 1117 + p * 29 + d * 53) (by omega) (by omega)]
    have hy : 0 ≤ x1 * 131 + x2 * 1117 + p * 29 + d * 53 ∧ x1 * 131 + x2 * 1117 + p * 29 + d * 53 ≤ 1000000000 := by omega
    generalize x1 * 131 + x2 * 1117 + p * 29 + d * 53 = y at hy ⊢
    rw [Int.tdiv_eq_ediv_of_nonneg hy.1, w64 (a := y / 64) (by omega) (by omega)]
    have hx := xor_nonneg y (y / 64) hy.1 (by omega) (by omega) (by omega)
    generalize Go.bits .xor .i64 y (y / 64) = z at hx ⊢
    have := tmod_range (x := z) (n := n) hx (by omega)
    exact ⟨_, rfl, hr, this.1, fun _ => this.2, fun h => by omega⟩
theorem l91Kind_f {b : List Int} {p B : Int} (h : Rdr b p B) (hB : B ≤ 999990) (k : Nat) : ∃ v q, spec_l91Kind.f (k + 1) b p = some (v, q) ∧ Rdr b q (B + 2) ∧ 0 ≤ v ∧ v ≤ 4 := by
 unfold spec_l91Kind.f
 obtain ⟨v, e1, r1, h0, h1, _⟩ := pick_f h (by omega) 60 k
 rw [e1, Option.bind_some]
 by_cases hv0 : v = 0
 ·simp only [if_pos hv0, Option.bind_some]
  obtain ⟨u, e2, r2, g0, g1, _⟩ := pick_f r1 (by omega) 2 k
  rw [e2, Option.bind_some]
  have g2 := g1 (by omega)
  simp only [List.length_cons, List.length_nil]
  rw [if_pos g0, if_pos (by omega)]
  refine ⟨_, _, rfl, ⟨r2.bytes, r2.len, r2.lo, by have := r2.hi; omega⟩, ?_⟩
  rcases (show u = 0 ∨ u = 1 by omega) with rfl | rfl <;> decide
 ·simp only [if_neg hv0]
  obtain ⟨u, e2, r2, g0, g1, _⟩ := pick_f r1 (by omega) 3 k
  rw [e2, Option.bind_some]
  have g2 := g1 (by omega)
  simp only
  rw [w64 (by omega) (by omega)]
  exact ⟨_, _, rfl, ⟨r2.bytes, r2.len, r2.lo, by have := r2.hi; omega⟩, by omega, by omega⟩
theorem eachGood_of (a b : List Int) (ha : a.all fOk = true) (hb : b.all fOk = true) (hl : a.length = b.length) (h : a.length ≤ 20) : Go.Proofs.Ytjkikkgpenhbgaa.Sim.eachGood a b = true := by
 have e : Go.Proofs.Ytjkikkgpenhbgaa.Sim.numOk = fOk := rfl
 have h2 : b.length ≤ 20 := by omega
 simp [Go.Proofs.Ytjkikkgpenhbgaa.Sim.eachGood, Go.Proofs.Ytjkikkgpenhbgaa.Sim.sOk, e, ha, hb, hl, h2]
theorem eachF_of (m : Go.Proofs.Ytjkikkgpenhbgaa.Sim.Mk) (a b : List Int) (ha : a.all fOk = true) (hb : b.all fOk = true) (hl : a.length = b.length) (h : a.length ≤ 20) : Ea.eachF m a b = some (Go.Proofs.Ytjkikkgpenhbgaa.Sim.eachVals m a b, true) := by
 unfold Ea.eachF
 rw [eachGood_of a b ha hb hl h, if_pos rfl]
end Go.Proofs.Ytjkikkgpenhbgaa.Q
