import Derived.KernelRfl
import Derived.Test.YtlgbblaidohljaaGreatDoorQGaZc
import Derived.Test.YtlgbblaidohljaaGreatDoorQGbZc
import Derived.Test.YtlgbblaidohljaaGreatDoorQGcZc
import Derived.Test.YtlgbblaidohljaaGreatDoorZc1
import Derived.Test.YtlgbblaidohljaaGreatDoorZc10
import Derived.Test.YtlgbblaidohljaaGreatDoorZc11
import Derived.Test.YtlgbblaidohljaaGreatDoorZc12
import Derived.Test.YtlgbblaidohljaaGreatDoorZc13
import Derived.Test.YtlgbblaidohljaaGreatDoorZc14
import Derived.Test.YtlgbblaidohljaaGreatDoorZc8
import Derived.Test.YtlgbblaidohljaaGreatDoorZc9
set_option linter.unusedVariables false
set_option linter.unusedSimpArgs false
namespace Go.Proofs.YtlgbblaidohljaaGreatDoor.Q
open Go.RowKit Go.Proofs.YtlgbblaidohljaaGreatDoor.Zc Go.Proofs.YtlgbblaidohljaaGreatDoorU.PrintWords Go.Proofs.YtlgbblaidohljaaGreatDoorU.PrintLast Go.Proofs.YtlgbblaidohljaaGreatDoorU.PrintMore
theorem xor_i64 (a b : Nat) (ha : a < 9223372036854775808) (hb : b < 9223372036854775808) : Go.bits .xor .i64 (a : Int) (b : Int) = ((a ^^^ b : Nat) : Int) := by
  have hx : a ^^^ b < 2 ^ 63 := Nat.xor_lt_two_pow (by omega) (by omega)
  have h1 : (BitVec.ofInt 64 (a : Int)).toNat = a := by
    rw [BitVec.ofInt_natCast, BitVec.toNat_ofNat]; exact Nat.mod_eq_of_lt (by omega)
  have h2 : (BitVec.ofInt 64 (b : Int)).toNat = b := by
    rw [BitVec.ofInt_natCast, BitVec.toNat_ofNat]; exact Nat.mod_eq_of_lt (by omega)
  show IntKind.i64.wrap ((BitVec.ofInt 64 (a : Int) ^^^ BitVec.ofInt 64 (b : Int)).toNat : Int) = _
  rw [BitVec.toNat_xor, h1, h2]
  simp [IntKind.wrap, IntKind.bits, IntKind.signed]
  omega
theorem xor_nonneg (a b : Int) (h1 : 0 ≤ a) (h2 : a ≤ 9223372036854775807) (h3 : 0 ≤ b) (h4 : b ≤ 9223372036854775807) : 0 ≤ Go.bits .xor .i64 a b := by
  obtain ⟨m, rfl⟩ := Int.eq_ofNat_of_zero_le h1
  obtain ⟨n, rfl⟩ := Int.eq_ofNat_of_zero_le h3
  rw [xor_i64 m n (by omega) (by omega)]
  omega
def Bytes (b : List Int) : Prop := ∀ x ∈ b, 0 ≤ x ∧ x ≤ 255
theorem Bytes.at_ {b : List Int} (h : Bytes b) (i : Int) : 0 ≤ rd b i ∧ rd b i ≤ 255 := by
  unfold rd
  rw [List.getD_eq_getElem?_getD]
  rcases Nat.lt_or_ge i.toNat b.length with hi | hi
  · rw [List.getElem?_eq_getElem hi]; exact h _ (List.getElem_mem hi)
  · rw [List.getElem?_eq_none hi]; simp
theorem Bytes.take {b : List Int} (h : Bytes b) (n : Nat) : Bytes (b.take n) := fun x hx => h x (List.mem_of_mem_take hx)
theorem bytes_of {b : List Int} (h : ∀ x ∈ b, (Lit.int .u8 x).wf = true) : Bytes b := fun x hx => wf8 (h x hx)
theorem tmod_range {x n : Int} (hx : 0 ≤ x) (hn : 1 ≤ n) : 0 ≤ Int.tmod x n ∧ Int.tmod x n < n := by
  rw [Int.tmod_eq_emod_of_nonneg hx]
  exact ⟨Int.emod_nonneg _ (by omega), Int.emod_lt_of_pos _ (by omega)⟩
structure Rdr (b : List Int) (p : Int) (B : Int) : Prop where
  bytes : Bytes b
  len : b.length ≤ 2000
  lo : 0 ≤ p
  hi : p ≤ B
theorem l6Open_f (l : List Int) (h : Bytes l) : ∃ b, spec_l6Open.f l = some (b, 0) ∧ Rdr b 0 0 := by
  unfold spec_l6Open.f
  by_cases h1 : (l.length : Int) > 2000
  · rw [if_pos h1, if_pos (by omega)]
    exact ⟨_, rfl, h.take _, by rw [List.length_take]; omega, by omega, by omega⟩
  · rw [if_neg h1]
    exact ⟨_, rfl, h, by omega, by omega, by omega⟩
theorem pick_f {b : List Int} {p B : Int} (h : Rdr b p B) (hB : B ≤ 1000000) (n : Int) (k : Nat) :
    ∃ v, spec_l6Rd_pick.f (k + 1) b p n = some (v, p + 1) ∧ Rdr b (p + 1) (B + 1) ∧ 0 ≤ v ∧ (1 ≤ n → v < n) ∧ (n < 1 → v = 0) := by
  have hr : Rdr b (p + 1) (B + 1) := ⟨h.bytes, h.len, by have := h.lo; omega, by have := h.hi; omega⟩
  have hlo := h.lo
  have hhi := h.hi
  unfold spec_l6Rd_pick.f
  rw [w64 (a := p + 1) (by omega) (by omega)]
  by_cases hn : n < 1
  · rw [if_pos hn]
    simp only [spec_l6Rd_pick.j0]
    rw [if_pos trivial]
    exact ⟨0, rfl, hr, by omega, fun h => by omega, fun _ => rfl⟩
  · rw [if_neg hn]
    simp only [spec_l6Rd_pick.j0]
    by_cases h0 : (b.length : Int) = 0
    · rw [if_pos (by simp [h0])]
      exact ⟨0, rfl, hr, by omega, fun h => by omega, fun _ => rfl⟩
    · rw [if_neg (by simpa using h0)]
      have e : wrap64 (p + 1 - 1) = p := by rw [w64 (by omega) (by omega)]; omega
      simp only [e]
      by_cases h1 : p < (b.length : Int)
      · rw [if_pos h1, if_pos hlo, if_neg (by omega)]
        have hb := h.bytes.at_ p
        rw [w64 (a := rd b p) (by omega) (by omega)]
        have := tmod_range (x := rd b p) (n := n) hb.1 (by omega)
        exact ⟨_, rfl, hr, this.1, fun _ => this.2, fun h => by omega⟩
      · have hl := h.len
        have r1 := tmod_range (x := p) (n := (b.length : Int)) hlo (by omega)
        have e2 : wrap64 (wrap64 (p * 7) + 3) = p * 7 + 3 := by rw [w64 (a := p * 7) (by omega) (by omega), w64 (by omega) (by omega)]
        have r2 := tmod_range (x := p * 7 + 3) (n := (b.length : Int)) (by omega) (by omega)
        rw [if_neg h1, if_neg h0, if_pos r1.1, if_pos r1.2, e2, if_pos r2.1, if_pos r2.2, if_neg (by omega)]
        have b1 := h.bytes.at_ (Int.tmod p b.length)
        have b2 := h.bytes.at_ (Int.tmod (p * 7 + 3) b.length)
        generalize rd b (Int.tmod p b.length) = x1 at b1 ⊢
        generalize rd b (Int.tmod (p * 7 + 3) b.length) = x2 at b2 ⊢
        have e3 : Int.tdiv p (b.length : Int) = p / (b.length : Int) := Int.tdiv_eq_ediv_of_nonneg hlo
        have d1 : 0 ≤ p / (b.length : Int) := Int.ediv_nonneg hlo (by omega)
        have d2 : p / (b.length : Int) ≤ p := Int.ediv_le_self _ hlo
        rw [e3]
        generalize p / (b.length : Int) = d at d1 d2 ⊢
        rw [w64 (a := x1) (by omega) (by omega), w64 (a := x2) (by omega) (by omega), w64 (a := d) (by omega) (by omega)]
        rw [w64 (a := x1 * 131) (by omega) (by omega), w64 (a := x2 * 1117) (by omega) (by omega), w64 (a := p * 29) (by omega) (by omega), w64 (a := d * 53) (by omega) (by omega)]
        rw [w64 (a := x1 * 131 + x2 * 1117) (by omega) (by omega), w64 (a := x1 * 131 + x2 * 1117 + p * 29) (by omega) (by omega), w64 (a := x1 * 131 + x2 * 1117 + p * 29 + d * 53) (by omega) (by omega)]
        have hy : 0 ≤ x1 * 131 + x2 * 1117 + p * 29 + d * 53 ∧ x1 * 131 + x2 * 1117 + p * 29 + d * 53 ≤ 1000000000 := by omega
        generalize x1 * 131 + x2 * 1117 + p * 29 + d * 53 = y at hy ⊢
        rw [Int.tdiv_eq_ediv_of_nonneg hy.1, w64 (a := y / 64) (by omega) (by omega)]
        have hx := xor_nonneg y (y / 64) hy.1 (by omega) (by omega) (by omega)
        generalize Go.bits .xor .i64 y (y / 64) = z at hx ⊢
        have := tmod_range (x := z) (n := n) hx (by omega)
        exact ⟨_, rfl, hr, this.1, fun _ => this.2, fun h => by omega⟩
theorem l91Kind_f {b : List Int} {p B : Int} (h : Rdr b p B) (hB : B ≤ 999990) (k : Nat) : ∃ v q, spec_l91Kind.f (k + 1) b p = some (v, q) ∧ Rdr b q (B + 2) ∧ 0 ≤ v ∧ v ≤ 4 := by
  unfold spec_l91Kind.f
  obtain ⟨v, e1, r1, h0, h1, _⟩ := pick_f h (by omega) 60 k
  rw [e1, Option.bind_some]
  by_cases hv0 : v = 0
  · simp only [if_pos hv0, Option.bind_some]
    obtain ⟨u, e2, r2, g0, g1, _⟩ := pick_f r1 (by omega) 2 k
    rw [e2, Option.bind_some]
    have g2 := g1 (by omega)
    simp only [List.length_cons, List.length_nil]
    rw [if_pos g0, if_pos (by omega)]
    refine ⟨_, _, rfl, ⟨r2.bytes, r2.len, r2.lo, by have := r2.hi; omega⟩, ?_⟩
    rcases (show u = 0 ∨ u = 1 by omega) with rfl | rfl <;> decide
  · simp only [if_neg hv0]
    obtain ⟨u, e2, r2, g0, g1, _⟩ := pick_f r1 (by omega) 3 k
    rw [e2, Option.bind_some]
    have g2 := g1 (by omega)
    simp only
    rw [w64 (by omega) (by omega)]
    exact ⟨_, _, rfl, ⟨r2.bytes, r2.len, r2.lo, by have := r2.hi; omega⟩, by omega, by omega⟩
theorem most_f (kind : Int) (h1 : 0 ≤ kind) (h2 : kind ≤ 3) : ∃ m, spec_l11Most.f kind = some m ∧ 0 ≤ m ∧ m ≤ 7 := by
  rcases (show kind = 0 ∨ kind = 1 ∨ kind = 2 ∨ kind = 3 by omega) with rfl | rfl | rfl | rfl
  · exact ⟨0, rfl, by omega, by omega⟩
  · exact ⟨1, rfl, by omega, by omega⟩
  · exact ⟨3, rfl, by omega, by omega⟩
  · exact ⟨7, rfl, by omega, by omega⟩
theorem makeLen (kind val : Int) (h1 : 1 ≤ kind) (h2 : kind ≤ 3) (h3 : 0 ≤ val) (h4 : val ≤ 7) : ∃ l, spec_l11Make.f 40 kind val = some l ∧ 1 ≤ l.length ∧ l.length ≤ 4 := by
  have key : ∀ o : Option (List Int), (match o with | some l => decide (1 ≤ l.length) && decide (l.length ≤ 4) | none => false) = true → ∃ l, o = some l ∧ 1 ≤ l.length ∧ l.length ≤ 4 := by
    intro o h
    cases o with
    | none => cases h
    | some l => exact ⟨l, rfl, by simpa using h⟩
  apply key
  rcases (show kind = 1 ∨ kind = 2 ∨ kind = 3 by omega) with rfl | rfl | rfl <;>
    rcases (show val = 0 ∨ val = 1 ∨ val = 2 ∨ val = 3 ∨ val = 4 ∨ val = 5 ∨ val = 6 ∨ val = 7 by omega) with rfl | rfl | rfl | rfl | rfl | rfl | rfl | rfl <;> decide +kernel
theorem list_j1 {b : List Int} (k : Nat) (l : List Int) (hl : l.length ≤ 1000) (c : Bool) (hc : c = true → 0 < l.length) {p B : Int} (h : Rdr b p B) (hB : B ≤ 999900) : ∃ m q, spec_l91List.j1 (k + 2) l c b p = some (m, q) ∧ m.length = l.length ∧ Rdr b q (B + 2) := by
  simp only [spec_l91List.j1]
  cases c
  · exact ⟨_, _, rfl, rfl, ⟨h.bytes, h.len, h.lo, by have := h.hi; omega⟩⟩
  · have hp := hc rfl
    obtain ⟨u, e1, r1, g0, g1, _⟩ := pick_f h (by omega) (l.length : Int) k
    have g2 := g1 (by omega)
    obtain ⟨t, e2, r2, f0, f1, _⟩ := pick_f r1 (by omega) 2 k
    have f2 := f1 (by omega)
    rw [if_pos rfl, e1, Option.bind_some, Option.bind_some]
    simp only
    rw [e2, Option.bind_some]
    simp only [List.length_cons, List.length_nil]
    rw [if_pos f0, if_pos (by omega), if_pos g0, if_pos g2]
    exact ⟨_, _, rfl, by simp, ⟨r2.bytes, r2.len, r2.lo, by have := r2.hi; omega⟩⟩
theorem list_loop {b : List Int} (n : Nat) : ∀ (k : Nat) (l : List Int) (p B : Int), l.length + n ≤ 1000 → Rdr b p B → B + n ≤ 990000 → ∃ m q, spec_l91List.l0 (k + n + 4) l (n : Int) b p = some (m, q) ∧ m.length = l.length + n ∧ Rdr b q (B + n + 3) := by
  induction n with
  | zero =>
    intro k l p B hl h hB
    show ∃ m q, spec_l91List.l0 ((k + 3) + 1) l 0 b p = _ ∧ _
    simp only [spec_l91List.l0]
    rw [if_neg (by omega)]
    by_cases h0 : (l.length : Int) > 0
    · rw [if_pos h0]
      obtain ⟨u, e1, r1, _⟩ := pick_f h (by omega) 40 (k + 2)
      rw [e1, Option.bind_some]
      obtain ⟨m, q, e2, e3, r2⟩ := list_j1 (k + 1) l (by omega) (u == 0) (fun _ => by omega) r1 (by omega)
      exact ⟨m, q, e2, by omega, ⟨r2.bytes, r2.len, r2.lo, by have := r2.hi; omega⟩⟩
    · rw [if_neg h0]
      obtain ⟨m, q, e2, e3, r2⟩ := list_j1 (k + 1) l (by omega) false (fun h => by cases h) h (by omega)
      exact ⟨m, q, e2, by omega, ⟨r2.bytes, r2.len, r2.lo, by have := r2.hi; omega⟩⟩
  | succ n ih =>
    intro k l p B hl h hB
    show ∃ m q, spec_l91List.l0 ((k + n + 4) + 1) l ((n + 1 : Nat) : Int) b p = _ ∧ _
    simp only [spec_l91List.l0]
    obtain ⟨u, e1, r1, _⟩ := pick_f h (by omega) 31 (k + n + 3)
    rw [if_pos (by omega), e1, Option.bind_some]
    simp only
    rw [if_pos (by omega), w64 (a := ((n + 1 : Nat) : Int) - 1) (by omega) (by omega), show ((n + 1 : Nat) : Int) - 1 = (n : Int) by omega]
    obtain ⟨m, q, e2, e3, r2⟩ := ih k (l ++ [u]) (p + 1) (B + 1) (by simp; omega) r1 (by omega)
    refine ⟨m, q, e2, by rw [e3]; simp; omega, ⟨r2.bytes, r2.len, r2.lo, by have := r2.hi; omega⟩⟩
theorem list_f {b : List Int} {p B : Int} (h : Rdr b p B) (hB : B ≤ 900000) (n : Nat) (hn : n ≤ 100) (K : Nat) (hK : n + 10 ≤ K) : ∃ m q, spec_l91List.f K b p (n : Int) = some (m, q) ∧ m.length ≤ n ∧ Rdr b q (B + n + 5) := by
  unfold spec_l91List.f
  obtain ⟨K, rfl⟩ : ∃ j, K = j + 1 := ⟨K - 1, by omega⟩
  obtain ⟨v, e1, r1, h0, h1, _⟩ := pick_f h (by omega) ((n : Int) + 1) K
  have h2 := h1 (by omega)
  rw [w64 (by omega) (by omega), e1, Option.bind_some]
  obtain ⟨c, rfl⟩ : ∃ c : Nat, v = c := ⟨v.toNat, by omega⟩
  obtain ⟨m, q, e2, e3, r2⟩ := list_loop c (K + 1 - c - 4) [] (p + 1) (B + 1) (by simp; omega) r1 (by omega)
  rw [show K + 1 - c - 4 + c + 4 = K + 1 by omega] at e2
  exact ⟨m, q, e2, by simp at e3; omega, ⟨r2.bytes, r2.len, r2.lo, by have := r2.hi; omega⟩⟩
theorem vec_f {b : List Int} {p B : Int} (h : Rdr b p B) (hB : B ≤ 800000) (K : Nat) (hK : 50 ≤ K) : ∃ kind l q, spec_l91Vec.f K b p = some (kind, l, q) ∧ l.length ≤ 5 ∧ Rdr b q (B + 30) := by
  obtain ⟨k, rfl⟩ : ∃ j, K = j + 1 := ⟨K - 1, by omega⟩
  unfold spec_l91Vec.f
  obtain ⟨a, e1, r1, h0, h1, _⟩ := pick_f h (by omega) 3 k
  have h2 := h1 (by omega)
  rw [e1, Option.bind_some]
  simp only
  rw [w64 (a := 1 + a) (by omega) (by omega)]
  obtain ⟨m, em, m0, m1⟩ := most_f (1 + a) (by omega) (by omega)
  rw [em, Option.bind_some, w64 (by omega) (by omega)]
  obtain ⟨v, e2, r2, g0, g1, _⟩ := pick_f r1 (by omega) (m + 1) k
  have g2 := g1 (by omega)
  rw [e2, Option.bind_some]
  obtain ⟨l, el, l1, l4⟩ := makeLen (1 + a) v (by omega) (by omega) (by omega) (by omega)
  have elK : spec_l11Make.f (k + 1) (1 + a) v = some l := leO_le (fun k => spec_l11Make.mono _ _ k) (by omega) el
  rw [elK, Option.bind_some]
  obtain ⟨c, e3, r3, _⟩ := pick_f r2 (by omega) 4 k
  rw [e3, Option.bind_some]
  simp only
  by_cases c0 : c = 0
  · rw [if_pos c0]
    obtain ⟨i, e4, r4, i0, i1, _⟩ := pick_f r3 (by omega) (l.length : Int) k
    have i2 := i1 (by omega)
    rw [e4, Option.bind_some]
    obtain ⟨x, e5, r5, _⟩ := pick_f r4 (by omega) 31 k
    rw [e5, Option.bind_some, Option.bind_some]
    obtain ⟨y, e6, r6, y0, y1, _⟩ := pick_f r5 (by omega) 5 k
    have y2 := y1 (by omega)
    rw [e6, Option.bind_some]
    simp only [List.length_cons, List.length_nil]
    rw [if_pos y0, if_pos (by omega), if_pos i0, if_pos i2]
    exact ⟨_, _, _, rfl, by simp; omega, ⟨r6.bytes, r6.len, r6.lo, by have := r6.hi; omega⟩⟩
  rw [if_neg c0]
  by_cases c1 : c = 1
  · rw [if_pos c1]
    obtain ⟨i, e4, r4, _⟩ := pick_f r3 (by omega) 6 k
    rw [e4, Option.bind_some]
    simp only
    by_cases c2 : i = 0
    · rw [if_pos c2]
      obtain ⟨kd, q, e5, r5, _, _⟩ := l91Kind_f r4 (by omega) k
      rw [e5, Option.bind_some]
      simp only
      obtain ⟨m, q2, e6, e7, r6⟩ := list_f r5 (by omega) 5 (by omega) (k + 1) (by omega)
      have e6' : spec_l91List.f (k + 1) b q 5 = some (m, q2) := e6
      rw [e6', Option.bind_some]
      exact ⟨_, _, _, rfl, e7, ⟨r6.bytes, r6.len, r6.lo, by have := r6.hi; omega⟩⟩
    · rw [if_neg c2]
      exact ⟨_, _, _, rfl, by omega, ⟨r4.bytes, r4.len, r4.lo, by have := r4.hi; omega⟩⟩
  · rw [if_neg c1]
    exact ⟨_, _, _, rfl, by omega, ⟨r3.bytes, r3.len, r3.lo, by have := r3.hi; omega⟩⟩
def dec1 (v : List Int) : List Int := v.map fun x => (x - 1) % 31
theorem dec1_all (v : List Int) : (dec1 v).all fOk = true := by
  rw [List.all_eq_true]
  intro x hx
  obtain ⟨y, _, rfl⟩ := List.mem_map.1 hx
  exact fOk_mod _
theorem dec1_snoc (l : List Int) (a : Int) : dec1 (l ++ [a]) = dec1 l ++ [(a - 1) % 31] := by simp [dec1]
theorem second_loop (v : List Int) (w : Int) (hl : v.length ≤ 1000) (hV : v.all fOk = true) (d : Nat) : ∀ (k i : Nat), i + d = v.length → d < k → spec_l12Second.l0 k v (w :: dec1 (v.take i)) (i : Int) = some (w :: dec1 v) := by
  induction d with
  | zero =>
    intro k i hi hk
    obtain ⟨k, rfl⟩ : ∃ j, k = j + 1 := ⟨k - 1, by omega⟩
    simp only [spec_l12Second.l0]
    rw [if_neg (by omega)]
    obtain rfl : i = v.length := by omega
    rw [List.take_length]
  | succ d ih =>
    intro k i hi hk
    obtain ⟨k, rfl⟩ : ∃ j, k = j + 1 := ⟨k - 1, by omega⟩
    simp only [spec_l12Second.l0]
    have h1 : i < v.length := by omega
    rw [if_pos (by omega), if_pos (by omega), rd_nat v i h1, fieldDif_f _ 1 (all_get hV i h1) rfl, Option.bind_some, if_pos (by simp [dec1]; omega), w64 (by omega) (by omega)]
    have := ih k (i + 1) (by omega) (by omega)
    rw [List.take_succ_eq_append_getElem h1, dec1_snoc] at this
    exact this
theorem second_f (k : Nat) (v : List Int) (w : Int) (hl : v.length ≤ 1000) (hV : v.all fOk = true) (hk : v.length < k) : spec_l12Second.f k v w = some (w :: dec1 v) := by
  unfold spec_l12Second.f
  have := second_loop v w hl hV v.length k 0 (by omega) hk
  simpa [dec1] using this
theorem lenOf {α : Type} {o : Option α} {g : α → Nat} {n : Nat} (h : o.map g = some n) : ∃ x, o = some x ∧ g x = n := by
  cases o with
  | none => cases h
  | some x => exact ⟨x, rfl, by simpa using h⟩
theorem thrLen2 (a b : Int) : (spec_l2Through.f 90 [a, b]).map List.length = some 2 := by kernel_rfl
theorem thrLen4 (a b c d : Int) : (spec_l2Through.f 90 [a, b, c, d]).map List.length = some 4 := by kernel_rfl
theorem thrLen5 (a b c d e : Int) : (spec_l2Through.f 90 [a, b, c, d, e]).map List.length = some 5 := by kernel_rfl
theorem mulLen2 (a b c d : Int) : (spec_l2Mul.f 90 [a, b] [c, d]).map List.length = some 3 := by kernel_rfl
theorem mulLen4 (a b c d e f g h : Int) : (spec_l2Mul.f 90 [a, b, c, d] [e, f, g, h]).map List.length = some 7 := by kernel_rfl
theorem mulLen5 (a b c d e f g h i j : Int) : (spec_l2Mul.f 90 [a, b, c, d, e] [f, g, h, i, j]).map List.length = some 9 := by kernel_rfl
theorem thrEx (n : Nat) (hn : n = 2 ∨ n = 4 ∨ n = 5) (A : List Int) (hA : A.length = n) : ∃ r, spec_l2Through.f 90 A = some r ∧ r.length = n := by
  rcases hn with rfl | rfl | rfl
  · match A, hA with
    | [a, b], _ => exact lenOf (thrLen2 a b)
  · match A, hA with
    | [a, b, c, d], _ => exact lenOf (thrLen4 a b c d)
  · match A, hA with
    | [a, b, c, d, e], _ => exact lenOf (thrLen5 a b c d e)
theorem mulEx (n : Nat) (hn : n = 2 ∨ n = 4 ∨ n = 5) (A B : List Int) (hA : A.length = n) (hB : B.length = n) : ∃ r, spec_l2Mul.f 90 A B = some r ∧ r.length + 1 = n + n := by
  rcases hn with rfl | rfl | rfl
  · match A, hA, B, hB with
    | [a, b], _, [c, d], _ => obtain ⟨r, e, l⟩ := lenOf (mulLen2 a b c d); exact ⟨r, e, by omega⟩
  · match A, hA, B, hB with
    | [a, b, c, d], _, [e, f, g, h], _ => obtain ⟨r, e, l⟩ := lenOf (mulLen4 a b c d e f g h); exact ⟨r, e, by omega⟩
  · match A, hA, B, hB with
    | [a, b, c, d, e], _, [f, g, h, i, j], _ => obtain ⟨r, e, l⟩ := lenOf (mulLen5 a b c d e f g h i j); exact ⟨r, e, by omega⟩
theorem l12Make_ex (K : Nat) (hK : 95 ≤ K) (v : List Int) (hv' : v.length = 1 ∨ v.length = 3 ∨ v.length = 4) (hV : v.all fOk = true) (u w : Int) : ∃ x, spec_l12Make.f K v u w = some x ∧ 1 ≤ x.2.2.length ∧ x.2.2.length ≤ 9 := by
  have hn : v.length + 1 = 2 ∨ v.length + 1 = 4 ∨ v.length + 1 = 5 := by omega
  have l9 : v.length ≤ 1000 := by omega
  obtain ⟨f, f1, f2⟩ := thrEx _ hn (u :: v) rfl
  obtain ⟨g, g1, g2⟩ := thrEx _ hn (w :: dec1 v) (by simp [dec1])
  obtain ⟨h, h1, h2⟩ := mulEx _ hn f g f2 g2
  have f1K : spec_l2Through.f K (u :: v) = some f := leO_le (fun k => spec_l2Through.mono _ k) (by omega) f1
  have g1K : spec_l2Through.f K (w :: dec1 v) = some g := leO_le (fun k => spec_l2Through.mono _ k) (by omega) g1
  have h1K : spec_l2Mul.f K f g = some h := leO_le (fun k => spec_l2Mul.mono _ _ k) (by omega) h1
  unfold spec_l12Make.f
  rw [first_f _ _ l9, Option.bind_some, f1K, Option.bind_some, second_f K v w l9 hV (by omega), Option.bind_some, g1K, Option.bind_some, h1K, Option.bind_some]
  exact ⟨_, rfl, by simp only; omega, by simp only; omega⟩
theorem rdr_le {b : List Int} {p B C : Int} (h : Rdr b p B) (hC : B ≤ C) : Rdr b p C := ⟨h.bytes, h.len, h.lo, by have := h.hi; omega⟩
theorem specMake_ex (K : Nat) (kind : Int) (v : List Int) (u w : Int) (hl : v.length ≤ 1000) (hK : 1100 ≤ K) :
    ∃ u' w' h b, spec_ProofMake.f K kind v u w = some (u', w', h, b) ∧ h.length ≤ 9 ∧ (b = true → 1 ≤ h.length ∧ 1 ≤ v.length) := by
  unfold spec_ProofMake.f
  rw [l11Vec_f _ _ _ (by omega) (by omega), Option.bind_some]
  cases hV : vecOk kind v
  · exact ⟨_, _, _, _, rfl, by simp, fun h => by cases h⟩
  rw [if_pos rfl, fieldOk_f, Option.bind_some]
  cases fOk u
  · exact ⟨_, _, _, _, rfl, by simp, fun h => by cases h⟩
  rw [if_pos rfl, fieldOk_f, Option.bind_some]
  cases fOk w
  · exact ⟨_, _, _, _, rfl, by simp, fun h => by cases h⟩
  unfold vecOk at hV
  simp only [Bool.and_eq_true, decide_eq_true_eq] at hV
  obtain ⟨⟨hk, hlen⟩, hall⟩ := hV
  have hn : v.length = 1 ∨ v.length = 3 ∨ v.length = 4 := by
    rcases tLen_cases hk with ⟨_, e⟩ | ⟨_, e⟩ | ⟨_, e⟩ <;> omega
  obtain ⟨x, e, h1, h2⟩ := l12Make_ex K (by omega) v hn hall u w
  rw [if_pos rfl, e, Option.bind_some]
  exact ⟨_, _, _, _, rfl, h2, fun _ => ⟨h1, by omega⟩⟩
theorem drawProof_f {b : List Int} {p B : Int} (h : Rdr b p B) (hB : B ≤ 700000) (K : Nat) (hK : 1200 ≤ K) :
    ∃ kind v u w H q, spec_l91Proof.f K b p = some (kind, v, u, w, H, q) ∧ v.length ≤ 5 ∧ H.length ≤ 9 ∧ Rdr b q (B + 40) := by
  obtain ⟨k, rfl⟩ : ∃ j, K = j + 1 := ⟨K - 1, by omega⟩
  unfold spec_l91Proof.f
  obtain ⟨kind, l, q, e1, hl, r1⟩ := vec_f h (by omega) (k + 1) (by omega)
  rw [e1, Option.bind_some]
  obtain ⟨u, e2, r2, _⟩ := pick_f r1 (by omega) 31 k
  rw [e2, Option.bind_some]
  obtain ⟨w, e3, r3, _⟩ := pick_f r2 (by omega) 31 k
  rw [e3, Option.bind_some]
  obtain ⟨u', w', H, ok, e4, lH, hok⟩ := specMake_ex (k + 1) kind l u w (by omega) (by omega)
  simp only
  rw [e4, Option.bind_some]
  cases ok
  · exact ⟨_, _, _, _, _, _, rfl, hl, lH, rdr_le r3 (by omega)⟩
  obtain ⟨lH1, l1⟩ := hok rfl
  obtain ⟨c, e5, r5, _⟩ := pick_f r3 (by omega) 8 k
  rw [if_pos rfl, e5, Option.bind_some]
  simp only
  by_cases c0 : c = 0
  · rw [if_pos c0]
    obtain ⟨i, e6, r6, i0, i1, _⟩ := pick_f r5 (by omega) (H.length : Int) k
    have i2 := i1 (by omega)
    obtain ⟨x, e7, r7, _⟩ := pick_f r6 (by omega) 31 k
    obtain ⟨y, e8, r8, _⟩ := pick_f r7 (by omega) 60 k
    rw [e6, Option.bind_some]
    simp only
    rw [e7, Option.bind_some]
    simp only
    rw [if_pos i0, if_pos i2, Option.bind_some, e8, Option.bind_some]
    simp only
    by_cases y0 : y = 0
    · rw [if_pos y0, if_pos (by omega)]
      exact ⟨_, _, _, _, _, _, rfl, hl, by simp; omega, rdr_le r8 (by omega)⟩
    · rw [if_neg y0]
      exact ⟨_, _, _, _, _, _, rfl, hl, by simp; omega, rdr_le r8 (by omega)⟩
  rw [if_neg c0]
  by_cases c1 : c = 1
  · rw [if_pos c1]
    obtain ⟨x, e7, r7, _⟩ := pick_f r5 (by omega) 32 k
    obtain ⟨y, e8, r8, _⟩ := pick_f r7 (by omega) 60 k
    rw [e7, Option.bind_some]
    simp only
    rw [e8, Option.bind_some]
    simp only
    by_cases y0 : y = 0
    · rw [if_pos y0, if_pos (by omega)]
      exact ⟨_, _, _, _, _, _, rfl, hl, by simp; omega, rdr_le r8 (by omega)⟩
    · rw [if_neg y0]
      exact ⟨_, _, _, _, _, _, rfl, hl, lH, rdr_le r8 (by omega)⟩
  rw [if_neg c1]
  by_cases c2 : c = 2
  · rw [if_pos c2]
    obtain ⟨i, e6, r6, i0, i1, _⟩ := pick_f r5 (by omega) (l.length : Int) k
    have i2 := i1 (by omega)
    obtain ⟨x, e7, r7, _⟩ := pick_f r6 (by omega) 3 k
    obtain ⟨y, e8, r8, _⟩ := pick_f r7 (by omega) 60 k
    rw [e6, Option.bind_some]
    simp only
    rw [e7, Option.bind_some]
    simp only
    rw [if_pos i0, if_pos i2, Option.bind_some, e8, Option.bind_some]
    simp only
    by_cases y0 : y = 0
    · rw [if_pos y0, if_pos (by omega)]
      exact ⟨_, _, _, _, _, _, rfl, by simp; omega, by simp; omega, rdr_le r8 (by omega)⟩
    · rw [if_neg y0]
      exact ⟨_, _, _, _, _, _, rfl, by simp; omega, lH, rdr_le r8 (by omega)⟩
  · rw [if_neg c2]
    obtain ⟨y, e8, r8, _⟩ := pick_f r5 (by omega) 60 k
    rw [e8, Option.bind_some]
    simp only
    by_cases y0 : y = 0
    · rw [if_pos y0, if_pos (by omega)]
      exact ⟨_, _, _, _, _, _, rfl, hl, by simp; omega, rdr_le r8 (by omega)⟩
    · rw [if_neg y0]
      exact ⟨_, _, _, _, _, _, rfl, hl, lH, rdr_le r8 (by omega)⟩
theorem polyOk_loop (l : List Int) (hl : l.length ≤ 1048576000) (d : Nat) : ∀ (k i : Nat), i + d = l.length → d < k → ∃ t, spec_PolyOk.l0 k l (i : Int) = some t := by
  induction d with
  | zero =>
    intro k i hi hk
    obtain ⟨k, rfl⟩ : ∃ j, k = j + 1 := ⟨k - 1, by omega⟩
    simp only [spec_PolyOk.l0]
    rw [if_neg (by omega)]
    exact ⟨_, rfl⟩
  | succ d ih =>
    intro k i hi hk
    obtain ⟨k, rfl⟩ : ∃ j, k = j + 1 := ⟨k - 1, by omega⟩
    simp only [spec_PolyOk.l0]
    rw [if_pos (by omega), if_pos (by omega), fieldOk_f, Option.bind_some, w64 (by omega) (by omega)]
    cases fOk (rd l (i : Int))
    · exact ⟨_, rfl⟩
    · exact ih k (i + 1) (by omega) (by omega)
theorem l12Form_ex (K : Nat) (kind a b : Int) (l : List Int) (hl : l.length ≤ 1048576000) (hK : l.length < K) : ∃ t, spec_l12Form.f K kind a b l = some t := by
  unfold spec_l12Form.f
  rw [l11Kind_f, Option.bind_some]
  cases kOk kind
  · exact ⟨_, rfl⟩
  rw [if_pos rfl, fieldOk_f, Option.bind_some]
  cases fOk a
  · exact ⟨_, rfl⟩
  rw [if_pos rfl, fieldOk_f, Option.bind_some]
  cases fOk b
  · exact ⟨_, rfl⟩
  rw [if_pos rfl]
  obtain ⟨t, e⟩ := polyOk_loop l hl l.length K 0 (by omega) (by omega)
  have e' : spec_PolyOk.f K l = some t := e
  rw [e', Option.bind_some]
  cases t
  · exact ⟨_, rfl⟩
  rw [if_pos rfl, specTypeLen_f, Option.bind_some]
  exact ⟨_, rfl⟩
theorem specProofAll_ex (K : Nat) (kind : Int) (v : List Int) (a b : Int) (l : List Int) (hv' : v.length ≤ 1000) (hl : l.length ≤ 1000) (hK : 1100 ≤ K) :
    ∃ r t, spec_ProofAll.f K kind v a b l = some (r, t) ∧ r.length ≤ v.length + l.length + 2 := by
  unfold spec_ProofAll.f
  obtain ⟨t, e⟩ := l12Form_ex K kind a b l (by omega) (by omega)
  rw [e, Option.bind_some]
  cases t
  · exact ⟨_, _, rfl, by simp⟩
  rw [if_pos rfl, l11Vec_f _ _ _ (by omega) (by omega), Option.bind_some]
  cases vecOk kind v
  · exact ⟨_, _, rfl, by simp⟩
  rw [if_pos rfl]
  unfold spec_l12All.f
  simp only [Option.bind_some, List.nil_append, List.length_nil, List.length_append, List.length_cons]
  rw [if_pos (by omega), if_pos (by omega), if_pos (by omega), Option.bind_some]
  exact ⟨_, _, rfl, by simp; omega⟩
theorem drawAll_f {b : List Int} {p B : Int} (h : Rdr b p B) (hB : B ≤ 600000) (K : Nat) (hK : 1300 ≤ K) :
    ∃ kind l q, spec_l91All.f K b p = some (kind, l, q) ∧ l.length ≤ 20 ∧ Rdr b q (B + 80) := by
  obtain ⟨k, rfl⟩ : ∃ j, K = j + 1 := ⟨K - 1, by omega⟩
  unfold spec_l91All.f
  obtain ⟨kind, v, u, w, H, q, e1, lv, lH, r1⟩ := drawProof_f h (by omega) (k + 1) (by omega)
  rw [e1, Option.bind_some]
  simp only
  obtain ⟨r, t, e2, lr⟩ := specProofAll_ex (k + 1) kind v u w H (by omega) (by omega) (by omega)
  rw [e2, Option.bind_some]
  cases t
  · obtain ⟨m, q2, e3, lm, r3⟩ := list_f r1 (by omega) 15 (by omega) (k + 1) (by omega)
    have e3' : spec_l91List.f (k + 1) b q 15 = some (m, q2) := e3
    simp only
    rw [if_neg (by simp), e3', Option.bind_some]
    exact ⟨kind, m, q2, rfl, by omega, rdr_le r3 (by omega)⟩
  · obtain ⟨y, e4, r4, _⟩ := pick_f r1 (by omega) 30 k
    simp only
    rw [if_pos trivial, e4, Option.bind_some]
    simp only
    by_cases y0 : y = 0
    · obtain ⟨m, q2, e3, lm, r3⟩ := list_f r4 (by omega) 15 (by omega) (k + 1) (by omega)
      have e3' : spec_l91List.f (k + 1) b (q + 1) 15 = some (m, q2) := e3
      rw [if_pos y0, e3', Option.bind_some]
      exact ⟨kind, m, q2, rfl, by omega, rdr_le r3 (by omega)⟩
    · rw [if_neg y0]
      exact ⟨kind, r, _, rfl, by omega, rdr_le r4 (by omega)⟩
theorem drawQueryChance_f (l0 : List Int) (hb : Bytes l0) (K : Nat) (hK : 1400 ≤ K) : ∃ kind l, spec_DrawQueryChance.f K l0 = some (kind, l) ∧ l.length ≤ 20 := by
  obtain ⟨b, e, r0⟩ := l6Open_f l0 hb
  unfold spec_DrawQueryChance.f
  rw [e, Option.bind_some]
  simp only
  obtain ⟨kind, l, q, e1, hl, r1⟩ := drawAll_f r0 (by omega) K (by omega)
  rw [e1, Option.bind_some]
  exact ⟨_, _, rfl, hl⟩
end Go.Proofs.YtlgbblaidohljaaGreatDoor.Q
