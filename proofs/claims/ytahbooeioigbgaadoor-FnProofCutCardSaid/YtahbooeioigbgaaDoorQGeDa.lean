import Derived.Test.YtahbooeioigbgaaDoorDa14
import Derived.Test.YtahbooeioigbgaaDoorDa15
import Derived.Test.YtahbooeioigbgaaDoorDa17
import Derived.Test.YtahbooeioigbgaaDoorQGaDa
import Derived.Test.YtahbooeioigbgaaDoorQGsDa
set_option linter.unusedVariables false
set_option linter.unusedSimpArgs false
namespace Go.Proofs.YtahbooeioigbgaaDoor.Q
open Go.RowKit Go.Proofs.YtahbooeioigbgaaDoor.Da Go.Proofs.YtahbooeioigbgaaDoorW.PrintWords Go.Proofs.YtahbooeioigbgaaDoorW.PrintLast Go.Proofs.YtahbooeioigbgaaDoorW.PrintMore
theorem xor_i64 (a b : Nat) (ha : a < 9223372036854775808) (hb : b < 9223372036854775808) : Go.bits .xor .i64 (a : Int) (b : Int) = ((a ^^^ b : Nat) : Int) := by
  have hx : a ^^^ b < 2 ^ 63 := Nat.xor_lt_two_pow (by omega) (by omega)
  have h1 : (BitVec.ofInt 64 (a : Int)).toNat = a := by
    rw [BitVec.ofInt_natCast, BitVec.toNat_ofNat]; exact Nat.mod_eq_of_lt (by omega)
  have h2 : (BitVec.ofInt 64 (b : Int)).toNat = b := by
    rw [BitVec.ofInt_natCast, BitVec.toNat_ofNat]; exact Nat.mod_eq_of_lt (by omega)
  show IntKind.i64.wrap ((BitVec.ofInt 64 (a : Int) ^^^ BitVec.ofInt 64 (b : Int)).toNat : Int) = _
  rw [BitVec.toNat_xor, h1, h2]
  simp [IntKind.wrap, IntKind.bits, IntKind.signed]
  omega
theorem xor_nonneg (a b : Int) (h1 : 0 ≤ a) (h2 : a ≤ 9223372036854775807) (h3 : 0 ≤ b) (h4 : b ≤ 9223372036854775807) : 0 ≤ Go.bits .xor .i64 a b := by
  obtain ⟨m, rfl⟩ := Int.eq_ofNat_of_zero_le h1
  obtain ⟨n, rfl⟩ := Int.eq_ofNat_of_zero_le h3
  rw [xor_i64 m n (by omega) (by omega)]
  omega
def Bytes (b : List Int) : Prop := ∀ x ∈ b, 0 ≤ x ∧ x ≤ 255
theorem Bytes.at_ {b : List Int} (h : Bytes b) (i : Int) : 0 ≤ rd b i ∧ rd b i ≤ 255 := by
  unfold rd
  rw [List.getD_eq_getElem?_getD]
  rcases Nat.lt_or_ge i.toNat b.length with hi | hi
  · rw [List.getElem?_eq_getElem hi]; exact h _ (List.getElem_mem hi)
  · rw [List.getElem?_eq_none hi]; simp
theorem Bytes.take {b : List Int} (h : Bytes b) (n : Nat) : Bytes (b.take n) := fun x hx => h x (List.mem_of_mem_take hx)
theorem bytes_of {b : List Int} (h : ∀ x ∈ b, (Lit.int .u8 x).wf = true) : Bytes b := fun x hx => wf8 (h x hx)
theorem tmod_range {x n : Int} (hx : 0 ≤ x) (hn : 1 ≤ n) : 0 ≤ Int.tmod x n ∧ Int.tmod x n < n := by
  rw [Int.tmod_eq_emod_of_nonneg hx]
  exact ⟨Int.emod_nonneg _ (by omega), Int.emod_lt_of_pos _ (by omega)⟩
structure Rdr (b : List Int) (p : Int) (B : Int) : Prop where
  bytes : Bytes b
  len : b.length ≤ 2000
  lo : 0 ≤ p
  hi : p ≤ B
theorem l6Open_f (l : List Int) (h : Bytes l) : ∃ b, spec_l6Open.f l = some (b, 0) ∧ Rdr b 0 0 := by
  unfold spec_l6Open.f
  by_cases h1 : (l.length : Int) > 2000
  · rw [if_pos h1, if_pos (by omega)]
    exact ⟨_, rfl, h.take _, by rw [List.length_take]; omega, by omega, by omega⟩
  · rw [if_neg h1]
    exact ⟨_, rfl, h, by omega, by omega, by omega⟩
theorem pick_f {b : List Int} {p B : Int} (h : Rdr b p B) (hB : B ≤ 1000000) (n : Int) (k : Nat) :
    ∃ v, spec_l6Rd_pick.f (k + 1) b p n = some (v, p + 1) ∧ Rdr b (p + 1) (B + 1) ∧ 0 ≤ v ∧ (1 ≤ n → v < n) ∧ (n < 1 → v = 0) := by
  have hr : Rdr b (p + 1) (B + 1) := ⟨h.bytes, h.len, by have := h.lo; omega, by have := h.hi; omega⟩
  have hlo := h.lo
  have hhi := h.hi
  unfold spec_l6Rd_pick.f
  rw [w64 (a := p + 1) (by omega) (by omega)]
  by_cases hn : n < 1
  · rw [if_pos hn]
    simp only [spec_l6Rd_pick.j0]
    rw [if_pos trivial]
    exact ⟨0, rfl, hr, by omega, fun h => by omega, fun _ => rfl⟩
  · rw [if_neg hn]
    simp only [spec_l6Rd_pick.j0]
    by_cases h0 : (b.length : Int) = 0
    · rw [if_pos (by simp [h0])]
      exact ⟨0, rfl, hr, by omega, fun h => by omega, fun _ => rfl⟩
    · rw [if_neg (by simpa using h0)]
      have e : wrap64 (p + 1 - 1) = p := by rw [w64 (by omega) (by omega)]; omega
      simp only [e]
      by_cases h1 : p < (b.length : Int)
      · rw [if_pos h1, if_pos hlo, if_neg (by omega)]
        have hb := h.bytes.at_ p
        rw [w64 (a := rd b p) (by omega) (by omega)]
        have := tmod_range (x := rd b p) (n := n) hb.1 (by omega)
        exact ⟨_, rfl, hr, this.1, fun _ => this.2, fun h => by omega⟩
      · have hl := h.len
        have r1 := tmod_range (x := p) (n := (b.length : Int)) hlo (by omega)
        have e2 : wrap64 (wrap64 (p * 7) + 3) = p * 7 + 3 := by rw [w64 (a := p * 7) (by omega) (by omega), w64 (by omega) (by omega)]
        have r2 := tmod_range (x := p * 7 + 3) (n := (b.length : Int)) (by omega) (by omega)
        rw [if_neg h1, if_neg h0, if_pos r1.1, if_pos r1.2, e2, if_pos r2.1, if_pos r2.2, if_neg (by omega)]
        have b1 := h.bytes.at_ (Int.tmod p b.length)
        have b2 := h.bytes.at_ (Int.tmod (p * 7 + 3) b.length)
        generalize rd b (Int.tmod p b.length) = x1 at b1 ⊢
        generalize rd b (Int.tmod (p * 7 + 3) b.length) = x2 at b2 ⊢
        have e3 : Int.tdiv p (b.length : Int) = p / (b.length : Int) := Int.tdiv_eq_ediv_of_nonneg hlo
        have d1 : 0 ≤ p / (b.length : Int) := Int.ediv_nonneg hlo (by omega)
        have d2 : p / (b.length : Int) ≤ p := Int.ediv_le_self _ hlo
        rw [e3]
        generalize p / (b.length : Int) = d at d1 d2 ⊢
        rw [w64 (a := x1) (by omega) (by omega), w64 (a := x2) (by omega) (by omega), w64 (a := d) (by omega) (by omega)]
        rw [w64 (a := x1 * 131) (by omega) (by omega), w64 (a := x2 * 1117) (by omega) (by omega), w64 (a := p * 29) (by omega) (by omega), w64 (a := d * 53) (by omega) (by omega)]
        rw [w64 (a := x1 * 131 + x2 * 1117) (by omega) (by omega), w64 (a := x1 * 131 + x2 * 1117 + p * 29) (by omega) (by omega), w64 (a := x1 * 131 + x2 * 1117 + p * 29 + d * 53) (by omega) (by omega)]
        have hy : 0 ≤ x1 * 131 + x2 * 1117 + p * 29 + d * 53 ∧ x1 * 131 + x2 * 1117 + p * 29 + d * 53 ≤ 1000000000 := by omega
        generalize x1 * 131 + x2 * 1117 + p * 29 + d * 53 = y at hy ⊢
        rw [Int.tdiv_eq_ediv_of_nonneg hy.1, w64 (a := y / 64) (by omega) (by omega)]
        have hx := xor_nonneg y (y / 64) hy.1 (by omega) (by omega) (by omega)
        generalize Go.bits .xor .i64 y (y / 64) = z at hx ⊢
        have := tmod_range (x := z) (n := n) hx (by omega)
        exact ⟨_, rfl, hr, this.1, fun _ => this.2, fun h => by omega⟩
theorem l91Kind_f {b : List Int} {p B : Int} (h : Rdr b p B) (hB : B ≤ 999990) (k : Nat) : ∃ v q, spec_l91Kind.f (k + 1) b p = some (v, q) ∧ Rdr b q (B + 2) ∧ 0 ≤ v ∧ v ≤ 4 := by
  unfold spec_l91Kind.f
  obtain ⟨v, e1, r1, h0, h1, _⟩ := pick_f h (by omega) 60 k
  rw [e1, Option.bind_some]
  by_cases hv0 : v = 0
  · simp only [if_pos hv0, Option.bind_some]
    obtain ⟨u, e2, r2, g0, g1, _⟩ := pick_f r1 (by omega) 2 k
    rw [e2, Option.bind_some]
    have g2 := g1 (by omega)
    simp only [List.length_cons, List.length_nil]
    rw [if_pos g0, if_pos (by omega)]
    refine ⟨_, _, rfl, ⟨r2.bytes, r2.len, r2.lo, by have := r2.hi; omega⟩, ?_⟩
    rcases (show u = 0 ∨ u = 1 by omega) with rfl | rfl <;> decide
  · simp only [if_neg hv0]
    obtain ⟨u, e2, r2, g0, g1, _⟩ := pick_f r1 (by omega) 3 k
    rw [e2, Option.bind_some]
    have g2 := g1 (by omega)
    simp only
    rw [w64 (by omega) (by omega)]
    exact ⟨_, _, rfl, ⟨r2.bytes, r2.len, r2.lo, by have := r2.hi; omega⟩, by omega, by omega⟩
theorem most_f (kind : Int) (h1 : 0 ≤ kind) (h2 : kind ≤ 3) : ∃ m, spec_l11Most.f kind = some m ∧ 0 ≤ m ∧ m ≤ 7 := by
  rcases (show kind = 0 ∨ kind = 1 ∨ kind = 2 ∨ kind = 3 by omega) with rfl | rfl | rfl | rfl
  · exact ⟨0, rfl, by omega, by omega⟩
  · exact ⟨1, rfl, by omega, by omega⟩
  · exact ⟨3, rfl, by omega, by omega⟩
  · exact ⟨7, rfl, by omega, by omega⟩
theorem makeLen (kind val : Int) (h1 : 1 ≤ kind) (h2 : kind ≤ 3) (h3 : 0 ≤ val) (h4 : val ≤ 7) : ∃ l, spec_l11Make.f 40 kind val = some l ∧ 1 ≤ l.length ∧ l.length ≤ 4 := by
  have key : ∀ o : Option (List Int), (match o with | some l => decide (1 ≤ l.length) && decide (l.length ≤ 4) | none => false) = true → ∃ l, o = some l ∧ 1 ≤ l.length ∧ l.length ≤ 4 := by
    intro o h
    cases o with
    | none => cases h
    | some l => exact ⟨l, rfl, by simpa using h⟩
  apply key
  rcases (show kind = 1 ∨ kind = 2 ∨ kind = 3 by omega) with rfl | rfl | rfl <;>
    rcases (show val = 0 ∨ val = 1 ∨ val = 2 ∨ val = 3 ∨ val = 4 ∨ val = 5 ∨ val = 6 ∨ val = 7 by omega) with rfl | rfl | rfl | rfl | rfl | rfl | rfl | rfl <;> decide +kernel
theorem list_j1 {b : List Int} (k : Nat) (l : List Int) (hl : l.length ≤ 1000) (c : Bool) (hc : c = true → 0 < l.length) {p B : Int} (h : Rdr b p B) (hB : B ≤ 999900) : ∃ m q, spec_l91List.j1 (k + 2) l c b p = some (m, q) ∧ m.length = l.length ∧ Rdr b q (B + 2) := by
  simp only [spec_l91List.j1]
  cases c
  · exact ⟨_, _, rfl, rfl, ⟨h.bytes, h.len, h.lo, by have := h.hi; omega⟩⟩
  · have hp := hc rfl
    obtain ⟨u, e1, r1, g0, g1, _⟩ := pick_f h (by omega) (l.length : Int) k
    have g2 := g1 (by omega)
    obtain ⟨t, e2, r2, f0, f1, _⟩ := pick_f r1 (by omega) 2 k
    have f2 := f1 (by omega)
    rw [if_pos rfl, e1, Option.bind_some, Option.bind_some]
    simp only
    rw [e2, Option.bind_some]
    simp only [List.length_cons, List.length_nil]
    rw [if_pos f0, if_pos (by omega), if_pos g0, if_pos g2]
    exact ⟨_, _, rfl, by simp, ⟨r2.bytes, r2.len, r2.lo, by have := r2.hi; omega⟩⟩
theorem list_loop {b : List Int} (n : Nat) : ∀ (k : Nat) (l : List Int) (p B : Int), l.length + n ≤ 1000 → Rdr b p B → B + n ≤ 990000 → ∃ m q, spec_l91List.l0 (k + n + 4) l (n : Int) b p = some (m, q) ∧ m.length = l.length + n ∧ Rdr b q (B + n + 3) := by
  induction n with
  | zero =>
    intro k l p B hl h hB
    show ∃ m q, spec_l91List.l0 ((k + 3) + 1) l 0 b p = _ ∧ _
    simp only [spec_l91List.l0]
    rw [if_neg (by omega)]
    by_cases h0 : (l.length : Int) > 0
    · rw [if_pos h0]
      obtain ⟨u, e1, r1, _⟩ := pick_f h (by omega) 40 (k + 2)
      rw [e1, Option.bind_some]
      obtain ⟨m, q, e2, e3, r2⟩ := list_j1 (k + 1) l (by omega) (u == 0) (fun _ => by omega) r1 (by omega)
      exact ⟨m, q, e2, by omega, ⟨r2.bytes, r2.len, r2.lo, by have := r2.hi; omega⟩⟩
    · rw [if_neg h0]
      obtain ⟨m, q, e2, e3, r2⟩ := list_j1 (k + 1) l (by omega) false (fun h => by cases h) h (by omega)
      exact ⟨m, q, e2, by omega, ⟨r2.bytes, r2.len, r2.lo, by have := r2.hi; omega⟩⟩
  | succ n ih =>
    intro k l p B hl h hB
    show ∃ m q, spec_l91List.l0 ((k + n + 4) + 1) l ((n + 1 : Nat) : Int) b p = _ ∧ _
    simp only [spec_l91List.l0]
    obtain ⟨u, e1, r1, _⟩ := pick_f h (by omega) 31 (k + n + 3)
    rw [if_pos (by omega), e1, Option.bind_some]
    simp only
    rw [if_pos (by omega), w64 (a := ((n + 1 : Nat) : Int) - 1) (by omega) (by omega), show ((n + 1 : Nat) : Int) - 1 = (n : Int) by omega]
    obtain ⟨m, q, e2, e3, r2⟩ := ih k (l ++ [u]) (p + 1) (B + 1) (by simp; omega) r1 (by omega)
    refine ⟨m, q, e2, by rw [e3]; simp; omega, ⟨r2.bytes, r2.len, r2.lo, by have := r2.hi; omega⟩⟩
theorem list_f {b : List Int} {p B : Int} (h : Rdr b p B) (hB : B ≤ 900000) (n : Nat) (hn : n ≤ 100) (K : Nat) (hK : n + 10 ≤ K) : ∃ m q, spec_l91List.f K b p (n : Int) = some (m, q) ∧ m.length ≤ n ∧ Rdr b q (B + n + 5) := by
  unfold spec_l91List.f
  obtain ⟨K, rfl⟩ : ∃ j, K = j + 1 := ⟨K - 1, by omega⟩
  obtain ⟨v, e1, r1, h0, h1, _⟩ := pick_f h (by omega) ((n : Int) + 1) K
  have h2 := h1 (by omega)
  rw [w64 (by omega) (by omega), e1, Option.bind_some]
  obtain ⟨c, rfl⟩ : ∃ c : Nat, v = c := ⟨v.toNat, by omega⟩
  obtain ⟨m, q, e2, e3, r2⟩ := list_loop c (K + 1 - c - 4) [] (p + 1) (B + 1) (by simp; omega) r1 (by omega)
  rw [show K + 1 - c - 4 + c + 4 = K + 1 by omega] at e2
  exact ⟨m, q, e2, by simp at e3; omega, ⟨r2.bytes, r2.len, r2.lo, by have := r2.hi; omega⟩⟩
theorem vec_f {b : List Int} {p B : Int} (h : Rdr b p B) (hB : B ≤ 800000) (K : Nat) (hK : 50 ≤ K) : ∃ kind l q, spec_l91Vec.f K b p = some (kind, l, q) ∧ l.length ≤ 5 ∧ Rdr b q (B + 30) := by
  obtain ⟨k, rfl⟩ : ∃ j, K = j + 1 := ⟨K - 1, by omega⟩
  unfold spec_l91Vec.f
  obtain ⟨a, e1, r1, h0, h1, _⟩ := pick_f h (by omega) 3 k
  have h2 := h1 (by omega)
  rw [e1, Option.bind_some]
  simp only
  rw [w64 (a := 1 + a) (by omega) (by omega)]
  obtain ⟨m, em, m0, m1⟩ := most_f (1 + a) (by omega) (by omega)
  rw [em, Option.bind_some, w64 (by omega) (by omega)]
  obtain ⟨v, e2, r2, g0, g1, _⟩ := pick_f r1 (by omega) (m + 1) k
  have g2 := g1 (by omega)
  rw [e2, Option.bind_some]
  obtain ⟨l, el, l1, l4⟩ := makeLen (1 + a) v (by omega) (by omega) (by omega) (by omega)
  have elK : spec_l11Make.f (k + 1) (1 + a) v = some l := leO_le (fun k => spec_l11Make.mono _ _ k) (by omega) el
  rw [elK, Option.bind_some]
  obtain ⟨c, e3, r3, _⟩ := pick_f r2 (by omega) 4 k
  rw [e3, Option.bind_some]
  simp only
  by_cases c0 : c = 0
  · rw [if_pos c0]
    obtain ⟨i, e4, r4, i0, i1, _⟩ := pick_f r3 (by omega) (l.length : Int) k
    have i2 := i1 (by omega)
    rw [e4, Option.bind_some]
    obtain ⟨x, e5, r5, _⟩ := pick_f r4 (by omega) 31 k
    rw [e5, Option.bind_some, Option.bind_some]
    obtain ⟨y, e6, r6, y0, y1, _⟩ := pick_f r5 (by omega) 5 k
    have y2 := y1 (by omega)
    rw [e6, Option.bind_some]
    simp only [List.length_cons, List.length_nil]
    rw [if_pos y0, if_pos (by omega), if_pos i0, if_pos i2]
    exact ⟨_, _, _, rfl, by simp; omega, ⟨r6.bytes, r6.len, r6.lo, by have := r6.hi; omega⟩⟩
  rw [if_neg c0]
  by_cases c1 : c = 1
  · rw [if_pos c1]
    obtain ⟨i, e4, r4, _⟩ := pick_f r3 (by omega) 6 k
    rw [e4, Option.bind_some]
    simp only
    by_cases c2 : i = 0
    · rw [if_pos c2]
      obtain ⟨kd, q, e5, r5, _, _⟩ := l91Kind_f r4 (by omega) k
      rw [e5, Option.bind_some]
      simp only
      obtain ⟨m, q2, e6, e7, r6⟩ := list_f r5 (by omega) 5 (by omega) (k + 1) (by omega)
      have e6' : spec_l91List.f (k + 1) b q 5 = some (m, q2) := e6
      rw [e6', Option.bind_some]
      exact ⟨_, _, _, rfl, e7, ⟨r6.bytes, r6.len, r6.lo, by have := r6.hi; omega⟩⟩
    · rw [if_neg c2]
      exact ⟨_, _, _, rfl, by omega, ⟨r4.bytes, r4.len, r4.lo, by have := r4.hi; omega⟩⟩
  · rw [if_neg c1]
    exact ⟨_, _, _, rfl, by omega, ⟨r3.bytes, r3.len, r3.lo, by have := r3.hi; omega⟩⟩
end Go.Proofs.YtahbooeioigbgaaDoor.Q
