import Derived.Test.YtlgbblaidohljaaGreatDoorQGaZc
import Derived.Test.YtlgbblaidohljaaGreatDoorQGbZc
import Derived.Test.YtlgbblaidohljaaGreatDoorQGdZc
import Derived.Test.YtlgbblaidohljaaGreatDoorZc1
import Derived.Test.YtlgbblaidohljaaGreatDoorZc23
import Derived.Test.YtlgbblaidohljaaGreatDoorZc24
import Derived.Test.YtlgbblaidohljaaGreatDoorZc26
import Derived.Test.YtlgbblaidohljaaGreatDoorZc0
import Derived.Test.YtlgbblaidohljaaGreatDoorZc2
set_option linter.unusedVariables false
set_option linter.unusedSimpArgs false
namespace Go.Proofs.YtlgbblaidohljaaGreatDoor.Q
open Go.RowKit Go.Proofs.YtlgbblaidohljaaGreatDoor.Zc Go.Proofs.YtlgbblaidohljaaGreatDoorU.PrintWords Go.Proofs.YtlgbblaidohljaaGreatDoorU.PrintLast Go.Proofs.YtlgbblaidohljaaGreatDoorU.PrintMore
theorem num_f {b : List Int} {p B : Int} (h : Rdr b p B) (hB : B ≤ 999990) (k : Nat) : ∃ v q, spec_l91Num.f (k + 1) b p = some (v, q) ∧ Rdr b q (B + 3) := by
  unfold spec_l91Num.f
  obtain ⟨v, e1, r1, h0, h1, _⟩ := pick_f h (by omega) 10 k
  rw [e1, Option.bind_some]
  simp only
  have w1 : Rdr b (p + 1) (B + 3) := ⟨r1.bytes, r1.len, r1.lo, by have := r1.hi; omega⟩
  by_cases c0 : v = 0
  · rw [if_pos c0]; exact ⟨_, _, rfl, w1⟩
  rw [if_neg c0]
  by_cases c1 : v = 1
  · rw [if_pos c1, Option.bind_some]
    obtain ⟨u, e2, r2, g0, g1, _⟩ := pick_f r1 (by omega) 2 k
    have g2 := g1 (by omega)
    rw [e2, Option.bind_some]
    simp only [List.length_cons, List.length_nil]
    rw [if_pos g0, if_pos (by omega)]
    exact ⟨_, _, rfl, ⟨r2.bytes, r2.len, r2.lo, by have := r2.hi; omega⟩⟩
  rw [if_neg c1]
  by_cases c2 : v = 2
  · rw [if_pos c2]
    obtain ⟨u, e2, r2, g0, g1, _⟩ := pick_f r1 (by omega) 5 k
    rw [e2, Option.bind_some]
    simp only
    by_cases c3 : u = 0
    · rw [if_pos c3, Option.bind_some]
      obtain ⟨t, e3, r3, f0, f1, _⟩ := pick_f r2 (by omega) 2 k
      have f2 := f1 (by omega)
      rw [e3, Option.bind_some]
      simp only [List.length_cons, List.length_nil]
      rw [if_pos f0, if_pos (by omega)]
      exact ⟨_, _, rfl, ⟨r3.bytes, r3.len, r3.lo, by have := r3.hi; omega⟩⟩
    · rw [if_neg c3]
      obtain ⟨t, e3, r3, _⟩ := pick_f r2 (by omega) 31 k
      rw [e3, Option.bind_some]
      exact ⟨_, _, rfl, ⟨r3.bytes, r3.len, r3.lo, by have := r3.hi; omega⟩⟩
  · rw [if_neg c2]
    obtain ⟨t, e3, r3, _⟩ := pick_f r1 (by omega) 31 k
    rw [e3, Option.bind_some]
    exact ⟨_, _, rfl, ⟨r3.bytes, r3.len, r3.lo, by have := r3.hi; omega⟩⟩
theorem drawQueryAsk_f (l0 : List Int) (hb : Bytes l0) (K : Nat) (hK : 1400 ≤ K) : ∃ kind l first a w, spec_DrawQueryAsk.f K l0 = some (kind, l, first, a, w) ∧ l.length ≤ 20 := by
  obtain ⟨k, rfl⟩ : ∃ j, K = j + 1 := ⟨K - 1, by omega⟩
  obtain ⟨b, e, r0⟩ := l6Open_f l0 hb
  unfold spec_DrawQueryAsk.f
  rw [e, Option.bind_some]
  simp only
  obtain ⟨kind, l, q, e1, hl, r1⟩ := drawAll_f r0 (by omega) (k + 1) (by omega)
  obtain ⟨x, e2, r2, _⟩ := pick_f r1 (by omega) 2 k
  obtain ⟨y, e3, r3, _⟩ := pick_f r2 (by omega) 26 k
  obtain ⟨z, e4, r4, _⟩ := pick_f r3 (by omega) 16 k
  obtain ⟨w, q5, e5, r5⟩ := num_f r4 (by omega) k
  rw [e1, Option.bind_some]
  simp only
  rw [e2, Option.bind_some]
  simp only
  rw [e3, Option.bind_some]
  simp only
  rw [e4, Option.bind_some]
  simp only
  rw [e5, Option.bind_some]
  exact ⟨_, _, _, _, _, rfl, hl⟩
theorem loInts_loop (l m : List Int) (hl : l.length ≤ 1048576000) (hm : m.length = l.length) (d : Nat) : ∀ (k : Nat) (i : Nat), i + d = l.length → l.take i = m.take i → d < k → laws_loInts.l0 k l m (i : Int) = some (decide (l = m)) := by
  induction d with
  | zero =>
    intro k i hi ht hk
    obtain ⟨k, rfl⟩ : ∃ j, k = j + 1 := ⟨k - 1, by omega⟩
    simp only [laws_loInts.l0]
    rw [if_neg (by omega)]
    obtain rfl : i = l.length := by omega
    rw [List.take_length, ← hm, List.take_length] at ht
    simp [ht]
  | succ d ih =>
    intro k i hi ht hk
    obtain ⟨k, rfl⟩ : ∃ j, k = j + 1 := ⟨k - 1, by omega⟩
    simp only [laws_loInts.l0]
    have h1 : i < l.length := by omega
    have h2 : i < m.length := by omega
    rw [if_pos (by omega), if_pos (by omega), if_pos (by omega), w64 (by omega) (by omega), rd_nat l i h1, rd_nat m i h2]
    by_cases e : l[i] = m[i]
    · rw [if_pos e]
      have := ih k (i + 1) (by omega) (by rw [List.take_succ_eq_append_getElem h1, List.take_succ_eq_append_getElem h2, ht, e]) (by omega)
      simpa using this
    · rw [if_neg e]
      have : l ≠ m := fun h => by subst h; exact e rfl
      simp [this]
theorem loInts_f (k : Nat) (l m : List Int) (hl : l.length ≤ 1048576000) (hk : l.length < k) : laws_loInts.f k l m = some (decide (l = m)) := by
  unfold laws_loInts.f
  by_cases e : l.length = m.length
  · rw [if_pos (by omega)]
    exact loInts_loop l m hl e.symm l.length k 0 (by omega) (by simp) hk
  · rw [if_neg (by omega)]
    have : l ≠ m := fun h => by subst h; exact e rfl
    simp [this]
end Go.Proofs.YtlgbblaidohljaaGreatDoor.Q
