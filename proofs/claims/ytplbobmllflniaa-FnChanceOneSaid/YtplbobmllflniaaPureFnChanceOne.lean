import Derived.Test.YtplbobmllflniaaEa1
import Derived.Test.YtplbobmllflniaaEa17
import Derived.Test.YtplbobmllflniaaQall
set_option linter.unusedVariables false
set_option linter.unusedSimpArgs false
namespace Go.Proofs.Ytplbobmllflniaa.Pure
open Go.RowKit Go.Proofs.Ytplbobmllflniaa.Ea Go.Proofs.YtplbobmllflniaaW.PrintWords Go.Proofs.YtplbobmllflniaaW.PrintLast Go.Proofs.YtplbobmllflniaaW.PrintMore Go.Proofs.Ytplbobmllflniaa.Q
theorem chanceBack (a b c : Int) : a + (b + c) = a + b + c := by omega
def cl (kind : Int) (l : List Int) (t : Nat) : Nat → Nat → Int
  | 0, _ => 0
  | d + 1, a => (if t + 1 ≤ a then cw kind l (a : Int) 31 0 else 0) + cl kind l t d (a + 1)
theorem cl_hi (kind : Int) (l : List Int) (t d : Nat) : ∀ a, t + 1 ≤ a → cl kind l t d a = ca kind l d a := by
  induction d with
  | zero => intro a _; rfl
  | succ d ih => intro a h; simp only [cl, ca]; rw [if_pos h, ih (a + 1) (by omega)]
theorem cl_lo (kind : Int) (l : List Int) (t d j : Nat) : ∀ a, a + j = t + 1 → cl kind l t (j + d) a = ca kind l d (t + 1) := by
  induction j with
  | zero => intro a h; rw [Nat.zero_add, show a = t + 1 by omega]; exact cl_hi _ _ _ _ _ (by omega)
  | succ j ih => intro a h; rw [show j + 1 + d = (j + d) + 1 by omega]; simp only [cl]; rw [if_neg (by omega), ih (a + 1) (by omega), Int.zero_add]
theorem chanceV_full {kind : Int} {l : List Int} (h : fullOk kind l = true) : chanceV kind l = cl kind l (tLen kind).toNat 31 0 := by
  have ht := tLen_le kind
  unfold chanceV
  rw [if_pos h]
  have := cl_lo kind l (tLen kind).toNat (30 - (tLen kind).toNat) ((tLen kind).toNat + 1) 0 (by omega)
  rw [show (tLen kind).toNat + 1 + (30 - (tLen kind).toNat) = 31 by omega] at this
  exact this.symm
theorem askMay_full {kind : Int} {l : List Int} (h : fullOk kind l = true) (a w : Nat) (ha : a ≤ 30) (hw : w ≤ 30) : askMay kind l (a : Int) (w : Int) = decide ((tLen kind).toNat + 1 ≤ a) := by
  have ht := tLen_le kind
  unfold fullOk at h
  simp only [Bool.and_eq_true, decide_eq_true_eq] at h
  obtain ⟨⟨h1, h2⟩, h3⟩ := h
  unfold askMay
  have hf : fOk (w : Int) = true := (fOk_iff _).2 (by omega)
  have e1 : decide ((a : Int) ≤ 30) = true := decide_eq_true (by omega)
  have e2 : decide ((l.length : Int) = 3 * tLen kind + 3) = true := decide_eq_true h2
  rw [h1, h3, hf, e1, e2]
  simp only [Bool.true_and, Bool.and_true]
  rw [Bool.eq_iff_iff, decide_eq_true_iff, decide_eq_true_iff]
  omega
section
variable {kind : Int} {l : List Int} (hf : fullOk kind l = true) (hl : l.length ≤ 100)
include hf hl
theorem oneW (x : List Int) (N : Int) (a : Nat) (h30 : a ≤ 30) (K d : Nat) (hK : 400 ≤ K) : ∀ (k w : Nat) (n : Int), w + d = 31 → 0 ≤ n ∧ n + (d : Int) ≤ 100000 → d + K < k →
    ∃ k', K ≤ k' ∧ laws_FnChanceOne.l1 k x kind l N [0, 0, 0, 0] n (a : Int) (w : Int) = laws_FnChanceOne.l0 k' x kind l N [0, 0, 0, 0] (n + (if (tLen kind).toNat + 1 ≤ a then cw kind l (a : Int) d w else 0)) ((a + 1 : Nat) : Int) := by
  induction d with
  | zero =>
    intro k w n hw hn hk
    obtain ⟨k, rfl⟩ : ∃ m, k = m + 1 := ⟨k - 1, by omega⟩
    refine ⟨k, by omega, ?_⟩
    simp only [laws_FnChanceOne.l1]
    rw [if_neg (by omega), w64 (by omega) (by omega)]
    simp [cw]
  | succ d ih =>
    intro k w n hw hn hk
    obtain ⟨k, rfl⟩ : ∃ m, k = m + 1 := ⟨k - 1, by omega⟩
    simp only [laws_FnChanceOne.l1]
    obtain ⟨_, b1⟩ := queryAsk_both k kind l (by omega) (by omega) true (a : Int) (w : Int)
    rw [askMay_full hf a w h30 (by omega)] at b1
    rw [if_pos (by omega), b1, Option.bind_some]
    rw [w64 (a := n + 1) (by omega) (by omega), w64 (a := (w : Int) + 1) (by omega) (by omega)]
    simp only [cw]
    by_cases hA : (tLen kind).toNat + 1 ≤ a
    · have hd : impl_QueryDecide.f (askV kind l true (a : Int) (w : Int)) [0, 0, 0, 0] = some (took kind l (a : Int) (w : Int)) := by
        unfold impl_QueryDecide.f
        rw [askV_length, askV_all]; rfl
      rw [if_pos (decide_eq_true hA)]
      simp only
      rw [if_pos trivial, hd, Option.bind_some, if_pos hA]
      cases ht : took kind l (a : Int) (w : Int)
      · obtain ⟨k', hk', e2⟩ := ih k (w + 1) n (by omega) (by omega) (by omega)
        refine ⟨k', hk', ?_⟩
        rw [if_pos hA] at e2
        rw [if_neg (by simp), if_neg (by simp), Int.zero_add]
        exact e2
      · obtain ⟨k', hk', e2⟩ := ih k (w + 1) (n + 1) (by omega) (by omega) (by omega)
        refine ⟨k', hk', ?_⟩
        rw [if_pos hA] at e2
        rw [if_pos rfl, if_pos rfl, ← Int.add_assoc]
        exact e2
    · have hdA : decide ((tLen kind).toNat + 1 ≤ a) = false := decide_eq_false hA
      simp only [hdA, Bool.false_eq_true, if_false, if_neg hA]
      obtain ⟨k', hk', e2⟩ := ih k (w + 1) n (by omega) (by omega) (by omega)
      refine ⟨k', hk', ?_⟩
      rw [if_neg hA] at e2
      exact e2
omit hf hl in
theorem clStep (a : Nat) : 0 ≤ (if (tLen kind).toNat + 1 ≤ a then cw kind l (a : Int) 31 0 else 0) ∧ (if (tLen kind).toNat + 1 ≤ a then cw kind l (a : Int) 31 0 else 0) ≤ 31 := by
  have hb := cw_bd kind l (a : Int) 31 0
  split
  · exact ⟨hb.1, by have := hb.2; omega⟩
  · omega
set_option maxRecDepth 20000 in
theorem oneA (x : List Int) (N : Int) (d : Nat) : ∀ (k a : Nat) (n : Int), a + d = 31 → 0 ≤ n ∧ n + 31 * (d : Int) ≤ 90000 → 33 * d + 500 < k → laws_FnChanceOne.l0 k x kind l N [0, 0, 0, 0] n (a : Int) = (if N = n + cl kind l (tLen kind).toNat d a then some true else some false) := by
  induction d with
  | zero =>
    intro k a n hw hn hk
    obtain ⟨k, rfl⟩ : ∃ m, k = m + 1 := ⟨k - 1, by omega⟩
    simp only [laws_FnChanceOne.l0]
    rw [if_neg (by omega)]
    simp only [cl, Int.add_zero]
    rw [decide_eq_true (show (x.length : Int) ≥ 0 by omega)]
  | succ d ih =>
    intro k a n hw hn hk
    obtain ⟨k, rfl⟩ : ∃ m, k = m + 1 := ⟨k - 1, by omega⟩
    simp only [laws_FnChanceOne.l0]
    rw [if_pos (by omega)]
    have hb := clStep (kind := kind) (l := l) a
    have o1 : a ≤ 30 := by omega
    have o2 : 400 ≤ 33 * d + 501 := by omega
    have o3 : 0 ≤ n ∧ n + ((31 : Nat) : Int) ≤ 100000 := by omega
    have o4 : 31 + (33 * d + 501) < k := by omega
    have o5 : a + 1 + d = 31 := by omega
    simp only [cl]
    obtain ⟨z, hz⟩ : ∃ z, (if (tLen kind).toNat + 1 ≤ a then cw kind l (a : Int) 31 0 else 0) = z := ⟨_, rfl⟩
    rw [hz] at hb
    simp only [hz]
    have o6 : 0 ≤ n + z ∧ n + z + 31 * (d : Int) ≤ 90000 := by omega
    generalize hM : 33 * d + 501 = M at o2 o4
    obtain ⟨k', hk', e⟩ := oneW hf hl x N a o1 M 31 o2 k 0 n (Nat.zero_add _) o3 o4
    rw [hz] at e
    have e' := Aside0.mk e
    clear e
    have o7 : 33 * d + 500 < k' := by omega
    refine Eq.trans e'.out ?_
    rw [ih k' (a + 1) _ o5 o6 o7, chanceBack]
end
theorem FnChanceOne : laws_FnChanceOne.Pure := by
  intro l m _ _ hb _ _ _
  refine ⟨3000, ?_⟩
  unfold laws_FnChanceOne.f
  by_cases h : (l.length : Int) > 1048576
  · rw [if_pos h]; rfl
  rw [if_neg h]
  by_cases h2 : (m.length : Int) > 1048576
  · rw [decide_eq_true h2]; rfl
  rw [decide_eq_false h2]
  simp only [laws_FnChanceOne.j0]
  rw [if_neg (by simp)]
  obtain ⟨kind, v, e1, hl⟩ := drawQueryChance_f l (bytes_of hb) 2999 (by omega)
  rw [e1, Option.bind_some]
  simp only
  obtain ⟨q1, q2⟩ := chance_both 2999 kind v (by omega) (by omega)
  obtain ⟨q3, _⟩ := chance_both 2998 kind v (by omega) (by omega)
  rw [q2, Option.bind_some, q1, Option.bind_some, if_pos rfl]
  simp only [laws_FnChanceOne.j1]
  cases hf : fullOk kind v
  · have e : chanceV kind v = -1 := by unfold chanceV; rw [hf]; rfl
    rw [e, if_pos (by decide), q3, e]; rfl
  · have e := chanceV_full hf
    have hp : 0 ≤ chanceV kind v := by
      unfold chanceV; rw [if_pos hf]; exact (ca_bd _ _ _ _).1
    have e9 : laws_FnChanceOne.l0 2998 m kind v (chanceV kind v) [0, 0, 0, 0] 0 0 = _ := oneA hf (by omega) m (chanceV kind v) 31 2998 0 0 (by omega) (by omega) (by omega)
    rw [if_neg (by simp; omega), e9, if_pos (by rw [e, Int.zero_add])]
end Go.Proofs.Ytplbobmllflniaa.Pure
