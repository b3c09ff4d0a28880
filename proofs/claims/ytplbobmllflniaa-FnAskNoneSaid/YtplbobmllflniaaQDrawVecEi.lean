import Derived.Test.YtplbobmllflniaaEi11
import Derived.Test.YtplbobmllflniaaEi8
import Derived.Test.YtplbobmllflniaaEi9
import Derived.Test.YtplbobmllflniaaQBaseEi
import Derived.Test.YtplbobmllflniaaQDrawEi
import Derived.Test.YtplbobmllflniaaQElEi
set_option linter.unusedVariables false
set_option linter.unusedSimpArgs false
namespace Go.Proofs.Ytplbobmllflniaa.Q
open Go.RowKit Go.Proofs.Ytplbobmllflniaa.Ei Go.Proofs.YtplbobmllflniaaW.PrintWords Go.Proofs.YtplbobmllflniaaW.PrintLast Go.Proofs.YtplbobmllflniaaW.PrintMore
theorem most_f (kind : Int) (h1 : 0 ≤ kind) (h2 : kind ≤ 3) : ∃ m, spec_l11Most.f kind = some m ∧ 0 ≤ m ∧ m ≤ 7 := by
  rcases (show kind = 0 ∨ kind = 1 ∨ kind = 2 ∨ kind = 3 by omega) with rfl | rfl | rfl | rfl
  · exact ⟨0, rfl, by omega, by omega⟩
  · exact ⟨1, rfl, by omega, by omega⟩
  · exact ⟨3, rfl, by omega, by omega⟩
  · exact ⟨7, rfl, by omega, by omega⟩
theorem makeLen (kind val : Int) (h1 : 1 ≤ kind) (h2 : kind ≤ 3) (h3 : 0 ≤ val) (h4 : val ≤ 7) : ∃ l, spec_l11Make.f 40 kind val = some l ∧ 1 ≤ l.length ∧ l.length ≤ 4 := by
  have key : ∀ o : Option (List Int), (match o with | some l => decide (1 ≤ l.length) && decide (l.length ≤ 4) | none => false) = true → ∃ l, o = some l ∧ 1 ≤ l.length ∧ l.length ≤ 4 := by
    intro o h
    cases o with
    | none => cases h
    | some l => exact ⟨l, rfl, by simpa using h⟩
  apply key
  rcases (show kind = 1 ∨ kind = 2 ∨ kind = 3 by omega) with rfl | rfl | rfl <;>
    rcases (show val = 0 ∨ val = 1 ∨ val = 2 ∨ val = 3 ∨ val = 4 ∨ val = 5 ∨ val = 6 ∨ val = 7 by omega) with rfl | rfl | rfl | rfl | rfl | rfl | rfl | rfl <;> decide +kernel
theorem num_f {b : List Int} {p B : Int} (h : Rdr b p B) (hB : B ≤ 999990) (k : Nat) : ∃ v q, spec_l91Num.f (k + 1) b p = some (v, q) ∧ Rdr b q (B + 3) := by
  unfold spec_l91Num.f
  obtain ⟨v, e1, r1, h0, h1, _⟩ := pick_f h (by omega) 10 k
  rw [e1, Option.bind_some]
  simp only
  have w1 : Rdr b (p + 1) (B + 3) := ⟨r1.bytes, r1.len, r1.lo, by have := r1.hi; omega⟩
  by_cases c0 : v = 0
  · rw [if_pos c0]; exact ⟨_, _, rfl, w1⟩
  rw [if_neg c0]
  by_cases c1 : v = 1
  · rw [if_pos c1, Option.bind_some]
    obtain ⟨u, e2, r2, g0, g1, _⟩ := pick_f r1 (by omega) 2 k
    have g2 := g1 (by omega)
    rw [e2, Option.bind_some]
    simp only [List.length_cons, List.length_nil]
    rw [if_pos g0, if_pos (by omega)]
    exact ⟨_, _, rfl, ⟨r2.bytes, r2.len, r2.lo, by have := r2.hi; omega⟩⟩
  rw [if_neg c1]
  by_cases c2 : v = 2
  · rw [if_pos c2]
    obtain ⟨u, e2, r2, g0, g1, _⟩ := pick_f r1 (by omega) 5 k
    rw [e2, Option.bind_some]
    simp only
    by_cases c3 : u = 0
    · rw [if_pos c3, Option.bind_some]
      obtain ⟨t, e3, r3, f0, f1, _⟩ := pick_f r2 (by omega) 2 k
      have f2 := f1 (by omega)
      rw [e3, Option.bind_some]
      simp only [List.length_cons, List.length_nil]
      rw [if_pos f0, if_pos (by omega)]
      exact ⟨_, _, rfl, ⟨r3.bytes, r3.len, r3.lo, by have := r3.hi; omega⟩⟩
    · rw [if_neg c3]
      obtain ⟨t, e3, r3, _⟩ := pick_f r2 (by omega) 31 k
      rw [e3, Option.bind_some]
      exact ⟨_, _, rfl, ⟨r3.bytes, r3.len, r3.lo, by have := r3.hi; omega⟩⟩
  · rw [if_neg c2]
    obtain ⟨t, e3, r3, _⟩ := pick_f r1 (by omega) 31 k
    rw [e3, Option.bind_some]
    exact ⟨_, _, rfl, ⟨r3.bytes, r3.len, r3.lo, by have := r3.hi; omega⟩⟩
theorem list_j1 {b : List Int} (k : Nat) (l : List Int) (hl : l.length ≤ 1000) (c : Bool) (hc : c = true → 0 < l.length) {p B : Int} (h : Rdr b p B) (hB : B ≤ 999900) : ∃ m q, spec_l91List.j1 (k + 2) l c b p = some (m, q) ∧ m.length = l.length ∧ Rdr b q (B + 2) := by
  simp only [spec_l91List.j1]
  cases c
  · exact ⟨_, _, rfl, rfl, ⟨h.bytes, h.len, h.lo, by have := h.hi; omega⟩⟩
  · have hp := hc rfl
    obtain ⟨u, e1, r1, g0, g1, _⟩ := pick_f h (by omega) (l.length : Int) k
    have g2 := g1 (by omega)
    obtain ⟨t, e2, r2, f0, f1, _⟩ := pick_f r1 (by omega) 2 k
    have f2 := f1 (by omega)
    rw [if_pos rfl, e1, Option.bind_some, Option.bind_some]
    simp only
    rw [e2, Option.bind_some]
    simp only [List.length_cons, List.length_nil]
    rw [if_pos f0, if_pos (by omega), if_pos g0, if_pos g2]
    exact ⟨_, _, rfl, by simp, ⟨r2.bytes, r2.len, r2.lo, by have := r2.hi; omega⟩⟩
theorem list_loop {b : List Int} (n : Nat) : ∀ (k : Nat) (l : List Int) (p B : Int), l.length + n ≤ 1000 → Rdr b p B → B + n ≤ 990000 → ∃ m q, spec_l91List.l0 (k + n + 4) l (n : Int) b p = some (m, q) ∧ m.length = l.length + n ∧ Rdr b q (B + n + 3) := by
  induction n with
  | zero =>
    intro k l p B hl h hB
    show ∃ m q, spec_l91List.l0 ((k + 3) + 1) l 0 b p = _ ∧ _
    simp only [spec_l91List.l0]
    rw [if_neg (by omega)]
    by_cases h0 : (l.length : Int) > 0
    · rw [if_pos h0]
      obtain ⟨u, e1, r1, _⟩ := pick_f h (by omega) 40 (k + 2)
      rw [e1, Option.bind_some]
      obtain ⟨m, q, e2, e3, r2⟩ := list_j1 (k + 1) l (by omega) (u == 0) (fun _ => by omega) r1 (by omega)
      exact ⟨m, q, e2, by omega, ⟨r2.bytes, r2.len, r2.lo, by have := r2.hi; omega⟩⟩
    · rw [if_neg h0]
      obtain ⟨m, q, e2, e3, r2⟩ := list_j1 (k + 1) l (by omega) false (fun h => by cases h) h (by omega)
      exact ⟨m, q, e2, by omega, ⟨r2.bytes, r2.len, r2.lo, by have := r2.hi; omega⟩⟩
  | succ n ih =>
    intro k l p B hl h hB
    show ∃ m q, spec_l91List.l0 ((k + n + 4) + 1) l ((n + 1 : Nat) : Int) b p = _ ∧ _
    simp only [spec_l91List.l0]
    obtain ⟨u, e1, r1, _⟩ := pick_f h (by omega) 31 (k + n + 3)
    rw [if_pos (by omega), e1, Option.bind_some]
    simp only
    rw [if_pos (by omega), w64 (a := ((n + 1 : Nat) : Int) - 1) (by omega) (by omega), show ((n + 1 : Nat) : Int) - 1 = (n : Int) by omega]
    obtain ⟨m, q, e2, e3, r2⟩ := ih k (l ++ [u]) (p + 1) (B + 1) (by simp; omega) r1 (by omega)
    refine ⟨m, q, e2, by rw [e3]; simp; omega, ⟨r2.bytes, r2.len, r2.lo, by have := r2.hi; omega⟩⟩
theorem list_f {b : List Int} {p B : Int} (h : Rdr b p B) (hB : B ≤ 900000) (n : Nat) (hn : n ≤ 100) (K : Nat) (hK : n + 10 ≤ K) : ∃ m q, spec_l91List.f K b p (n : Int) = some (m, q) ∧ m.length ≤ n ∧ Rdr b q (B + n + 5) := by
  unfold spec_l91List.f
  obtain ⟨K, rfl⟩ : ∃ j, K = j + 1 := ⟨K - 1, by omega⟩
  obtain ⟨v, e1, r1, h0, h1, _⟩ := pick_f h (by omega) ((n : Int) + 1) K
  have h2 := h1 (by omega)
  rw [w64 (by omega) (by omega), e1, Option.bind_some]
  obtain ⟨c, rfl⟩ : ∃ c : Nat, v = c := ⟨v.toNat, by omega⟩
  obtain ⟨m, q, e2, e3, r2⟩ := list_loop c (K + 1 - c - 4) [] (p + 1) (B + 1) (by simp; omega) r1 (by omega)
  rw [show K + 1 - c - 4 + c + 4 = K + 1 by omega] at e2
  exact ⟨m, q, e2, by simp at e3; omega, ⟨r2.bytes, r2.len, r2.lo, by have := r2.hi; omega⟩⟩
theorem vec_f {b : List Int} {p B : Int} (h : Rdr b p B) (hB : B ≤ 800000) (K : Nat) (hK : 50 ≤ K) : ∃ kind l q, spec_l91Vec.f K b p = some (kind, l, q) ∧ l.length ≤ 5 ∧ Rdr b q (B + 30) := by
  obtain ⟨k, rfl⟩ : ∃ j, K = j + 1 := ⟨K - 1, by omega⟩
  unfold spec_l91Vec.f
  obtain ⟨a, e1, r1, h0, h1, _⟩ := pick_f h (by omega) 3 k
  have h2 := h1 (by omega)
  rw [e1, Option.bind_some]
  simp only
  rw [w64 (a := 1 + a) (by omega) (by omega)]
  obtain ⟨m, em, m0, m1⟩ := most_f (1 + a) (by omega) (by omega)
  rw [em, Option.bind_some, w64 (by omega) (by omega)]
  obtain ⟨v, e2, r2, g0, g1, _⟩ := pick_f r1 (by omega) (m + 1) k
  have g2 := g1 (by omega)
  rw [e2, Option.bind_some]
  obtain ⟨l, el, l1, l4⟩ := makeLen (1 + a) v (by omega) (by omega) (by omega) (by omega)
  have elK : spec_l11Make.f (k + 1) (1 + a) v = some l := leO_le (fun k => spec_l11Make.mono _ _ k) (by omega) el
  rw [elK, Option.bind_some]
  obtain ⟨c, e3, r3, _⟩ := pick_f r2 (by omega) 4 k
  rw [e3, Option.bind_some]
  simp only
  by_cases c0 : c = 0
  · rw [if_pos c0]
    obtain ⟨i, e4, r4, i0, i1, _⟩ := pick_f r3 (by omega) (l.length : Int) k
    have i2 := i1 (by omega)
    rw [e4, Option.bind_some]
    obtain ⟨x, e5, r5, _⟩ := pick_f r4 (by omega) 31 k
    rw [e5, Option.bind_some, Option.bind_some]
    obtain ⟨y, e6, r6, y0, y1, _⟩ := pick_f r5 (by omega) 5 k
    have y2 := y1 (by omega)
    rw [e6, Option.bind_some]
    simp only [List.length_cons, List.length_nil]
    rw [if_pos y0, if_pos (by omega), if_pos i0, if_pos i2]
    exact ⟨_, _, _, rfl, by simp; omega, ⟨r6.bytes, r6.len, r6.lo, by have := r6.hi; omega⟩⟩
  rw [if_neg c0]
  by_cases c1 : c = 1
  · rw [if_pos c1]
    obtain ⟨i, e4, r4, _⟩ := pick_f r3 (by omega) 6 k
    rw [e4, Option.bind_some]
    simp only
    by_cases c2 : i = 0
    · rw [if_pos c2]
      obtain ⟨kd, q, e5, r5, _, _⟩ := l91Kind_f r4 (by omega) k
      rw [e5, Option.bind_some]
      simp only
      obtain ⟨m, q2, e6, e7, r6⟩ := list_f r5 (by omega) 5 (by omega) (k + 1) (by omega)
      have e6' : spec_l91List.f (k + 1) b q 5 = some (m, q2) := e6
      rw [e6', Option.bind_some]
      exact ⟨_, _, _, rfl, e7, ⟨r6.bytes, r6.len, r6.lo, by have := r6.hi; omega⟩⟩
    · rw [if_neg c2]
      exact ⟨_, _, _, rfl, by omega, ⟨r4.bytes, r4.len, r4.lo, by have := r4.hi; omega⟩⟩
  · rw [if_neg c1]
    exact ⟨_, _, _, rfl, by omega, ⟨r3.bytes, r3.len, r3.lo, by have := r3.hi; omega⟩⟩
end Go.Proofs.Ytplbobmllflniaa.Q
