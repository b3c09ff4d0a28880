/- Plain lemmas about the Lean functions of the program's printed text; each theorem states its own conditions. -/
import Derived.Test.YtplbobmllflniaaEh10
import Derived.Test.YtplbobmllflniaaEh4
import Derived.Test.YtplbobmllflniaaEh5
import Derived.Test.YtplbobmllflniaaEh9
import Derived.Test.YtplbobmllflniaaQAsk3Eh
import Derived.Test.YtplbobmllflniaaQBaseEh
import Derived.Test.YtplbobmllflniaaQDecideEh
import Derived.Test.YtplbobmllflniaaQShareEh
set_option linter.unusedVariables false
set_option linter.unusedSimpArgs false
namespace Go.Proofs.Ytplbobmllflniaa.Q
open Go.RowKit Go.Proofs.Ytplbobmllflniaa.Eh Go.Proofs.YtplbobmllflniaaW.PrintWords Go.Proofs.YtplbobmllflniaaW.PrintLast Go.Proofs.YtplbobmllflniaaW.PrintMore
/-! how often a list is taken: both count the same -/
def took (kind : Int) (l : List Int) (a w : Int) : Bool := dec4 (askV kind l true a w) [0, 0, 0, 0]
def cw (kind : Int) (l : List Int) (a : Int) : Nat → Nat → Int
  | 0, _ => 0
  | d + 1, w => (if took kind l a (w : Int) = true then 1 else 0) + cw kind l a d (w + 1)
def ca (kind : Int) (l : List Int) : Nat → Nat → Int
  | 0, _ => 0
  | d + 1, a => cw kind l (a : Int) 31 0 + ca kind l d (a + 1)
theorem cw_bd (kind : Int) (l : List Int) (a : Int) (d : Nat) : ∀ w, 0 ≤ cw kind l a d w ∧ cw kind l a d w ≤ d := by
  induction d with
  | zero => intro w; simp [cw]
  | succ d ih => intro w; have := ih (w + 1); simp only [cw]; split <;> omega
theorem ca_bd (kind : Int) (l : List Int) (d : Nat) : ∀ a, 0 ≤ ca kind l d a ∧ ca kind l d a ≤ 31 * d := by
  induction d with
  | zero => intro a; simp [ca]
  | succ d ih => intro a; have := ih (a + 1); have := cw_bd kind l (a : Int) 31 0; simp only [ca]; omega
theorem zeros4 : (List.replicate 4 (0 : Int)) = [0, 0, 0, 0] := rfl
section
variable {kind : Int} {l : List Int} (hkind : kOk kind = true) (hl : (l.length : Int) = 3 * tLen kind + 3) (ha : l.all fOk = true)
include hkind hl ha
theorem specChanceW (a : Nat) (h30 : a ≤ 30) (K d : Nat) (hK : 300 ≤ K) : ∀ (k w : Nat) (n : Int), w + d = 31 → 0 ≤ n ∧ n + (d : Int) ≤ 100000 → d + K < k →
    ∃ k', K ≤ k' ∧ spec_QueryChance.l1 k kind l n [0, 0, 0, 0] (a : Int) (w : Int) = spec_QueryChance.l0 k' kind l (n + cw kind l (a : Int) d w) [0, 0, 0, 0] ((a + 1 : Nat) : Int) := by
  induction d with
  | zero =>
    intro k w n hw hn hk
    obtain ⟨k, rfl⟩ : ∃ m, k = m + 1 := ⟨k - 1, by omega⟩
    refine ⟨k, by omega, ?_⟩
    simp only [spec_QueryChance.l1]
    rw [if_neg (by omega), w64 (by omega) (by omega)]
    simp [cw]
  | succ d ih =>
    intro k w n hw hn hk
    obtain ⟨k, rfl⟩ : ∃ m, k = m + 1 := ⟨k - 1, by omega⟩
    simp only [spec_QueryChance.l1]
    obtain ⟨b1, _⟩ := ask_both k (by omega) kind hkind l hl ha true (a : Int) (w : Int) (by omega) ((fOk_iff _).2 (by omega))
    rw [if_pos (by omega), b1, Option.bind_some, l13Decide_f k _ _ (askV_length _ _ _ _ _) rfl (askV_all _ _ _ _ _) rfl (by omega), Option.bind_some, w64 (a := n + 1) (by omega) (by omega), w64 (by omega) (by omega)]
    have e : dec4 (askV kind l true (a : Int) (w : Int)) [0, 0, 0, 0] = took kind l (a : Int) (w : Int) := rfl
    rw [e]
    simp only [cw]
    cases ht : took kind l (a : Int) (w : Int)
    · obtain ⟨k', hk', e2⟩ := ih k (w + 1) n (by omega) (by omega) (by omega)
      refine ⟨k', hk', ?_⟩
      rw [if_neg (by simp), if_neg (by simp), Int.zero_add]
      exact e2
    · obtain ⟨k', hk', e2⟩ := ih k (w + 1) (n + 1) (by omega) (by omega) (by omega)
      refine ⟨k', hk', ?_⟩
      rw [if_pos rfl, if_pos rfl, ← Int.add_assoc]
      exact e2
theorem implChanceW (a : Nat) (h30 : a ≤ 30) (K d : Nat) (hK : 300 ≤ K) : ∀ (k w : Nat) (n : Int), w + d = 31 → 0 ≤ n ∧ n + (d : Int) ≤ 100000 → d + K < k →
    ∃ k', K ≤ k' ∧ impl_QueryChance.l1 k kind l n (a : Int) (w : Int) = impl_QueryChance.l0 k' kind l (n + cw kind l (a : Int) d w) ((a + 1 : Nat) : Int) := by
  induction d with
  | zero =>
    intro k w n hw hn hk
    obtain ⟨k, rfl⟩ : ∃ m, k = m + 1 := ⟨k - 1, by omega⟩
    refine ⟨k, by omega, ?_⟩
    simp only [impl_QueryChance.l1]
    rw [if_neg (by omega), w64 (by omega) (by omega)]
    simp [cw]
  | succ d ih =>
    intro k w n hw hn hk
    obtain ⟨k, rfl⟩ : ∃ m, k = m + 1 := ⟨k - 1, by omega⟩
    simp only [impl_QueryChance.l1]
    obtain ⟨_, b1⟩ := ask_both k (by omega) kind hkind l hl ha true (a : Int) (w : Int) (by omega) ((fOk_iff _).2 (by omega))
    have hd : impl_QueryDecide.f (askV kind l true (a : Int) (w : Int)) (List.replicate 4 0) = some (took kind l (a : Int) (w : Int)) := by
      unfold impl_QueryDecide.f
      rw [zeros4, askV_length, askV_all]; rfl
    rw [if_pos (by omega), b1, Option.bind_some, if_pos (by omega), hd, Option.bind_some, w64 (a := n + 1) (by omega) (by omega), w64 (by omega) (by omega)]
    simp only [cw]
    cases ht : took kind l (a : Int) (w : Int)
    · obtain ⟨k', hk', e2⟩ := ih k (w + 1) n (by omega) (by omega) (by omega)
      refine ⟨k', hk', ?_⟩
      rw [if_neg (by simp), if_neg (by simp), Int.zero_add]
      exact e2
    · obtain ⟨k', hk', e2⟩ := ih k (w + 1) (n + 1) (by omega) (by omega) (by omega)
      refine ⟨k', hk', ?_⟩
      rw [if_pos rfl, if_pos rfl, ← Int.add_assoc]
      exact e2
set_option maxRecDepth 20000 in
theorem specChanceA (d : Nat) : ∀ (k a : Nat) (n : Int), a + d = 31 → 0 ≤ n ∧ n + 31 * (d : Int) ≤ 90000 → 33 * d + 400 < k → spec_QueryChance.l0 k kind l n [0, 0, 0, 0] (a : Int) = some (n + ca kind l d a) := by
  induction d with
  | zero =>
    intro k a n hw hn hk
    obtain ⟨k, rfl⟩ : ∃ m, k = m + 1 := ⟨k - 1, by omega⟩
    simp only [spec_QueryChance.l0]
    rw [if_neg (by omega)]
    simp [ca]
  | succ d ih =>
    intro k a n hw hn hk
    obtain ⟨k, rfl⟩ : ∃ m, k = m + 1 := ⟨k - 1, by omega⟩
    simp only [spec_QueryChance.l0]
    rw [if_pos (by omega)]
    have hb := cw_bd kind l (a : Int) 31 0
    have o1 : a ≤ 30 := by omega
    have o2 : 300 ≤ 33 * d + 401 := by omega
    have o3 : 0 ≤ n ∧ n + ((31 : Nat) : Int) ≤ 100000 := by omega
    have o4 : 31 + (33 * d + 401) < k := by omega
    have o5 : a + 1 + d = 31 := by omega
    have o6 : 0 ≤ n + cw kind l (a : Int) 31 0 ∧ n + cw kind l (a : Int) 31 0 + 31 * (d : Int) ≤ 90000 := by
      generalize cw kind l (a : Int) 31 0 = z at *
      omega
    clear hb
    generalize hM : 33 * d + 401 = M at o2 o4
    obtain ⟨k', hk', e⟩ := specChanceW hkind hl ha a o1 M 31 o2 k 0 n (Nat.zero_add _) o3 o4
    have e' := Aside0.mk e
    clear e
    have o7 : 33 * d + 400 < k' := by omega
    refine Eq.trans e'.out ?_
    rw [ih k' (a + 1) _ o5 o6 o7]
    simp only [ca]
    rw [Int.add_assoc]
set_option maxRecDepth 20000 in
theorem implChanceA (d : Nat) : ∀ (k a : Nat) (n : Int), a + d = 31 → 0 ≤ n ∧ n + 31 * (d : Int) ≤ 90000 → 33 * d + 400 < k → impl_QueryChance.l0 k kind l n (a : Int) = some (n + ca kind l d a) := by
  induction d with
  | zero =>
    intro k a n hw hn hk
    obtain ⟨k, rfl⟩ : ∃ m, k = m + 1 := ⟨k - 1, by omega⟩
    simp only [impl_QueryChance.l0]
    rw [if_neg (by omega)]
    simp [ca]
  | succ d ih =>
    intro k a n hw hn hk
    obtain ⟨k, rfl⟩ : ∃ m, k = m + 1 := ⟨k - 1, by omega⟩
    simp only [impl_QueryChance.l0]
    rw [if_pos (by omega)]
    have hb := cw_bd kind l (a : Int) 31 0
    have o1 : a ≤ 30 := by omega
    have o2 : 300 ≤ 33 * d + 401 := by omega
    have o3 : 0 ≤ n ∧ n + ((31 : Nat) : Int) ≤ 100000 := by omega
    have o4 : 31 + (33 * d + 401) < k := by omega
    have o5 : a + 1 + d = 31 := by omega
    have o6 : 0 ≤ n + cw kind l (a : Int) 31 0 ∧ n + cw kind l (a : Int) 31 0 + 31 * (d : Int) ≤ 90000 := by
      generalize cw kind l (a : Int) 31 0 = z at *
      omega
    clear hb
    generalize hM : 33 * d + 401 = M at o2 o4
    obtain ⟨k', hk', e⟩ := implChanceW hkind hl ha a o1 M 31 o2 k 0 n (Nat.zero_add _) o3 o4
    have e' := Aside0.mk e
    clear e
    have o7 : 33 * d + 400 < k' := by omega
    refine Eq.trans e'.out ?_
    rw [ih k' (a + 1) _ o5 o6 o7]
    simp only [ca]
    rw [Int.add_assoc]
end
/-- a list that is as many as a report's -/
def fullOk (kind : Int) (l : List Int) : Bool := kOk kind && decide ((l.length : Int) = 3 * tLen kind + 3) && l.all fOk
/-- how many challenges accept it -/
def chanceV (kind : Int) (l : List Int) : Int := if fullOk kind l = true then ca kind l (30 - (tLen kind).toNat) ((tLen kind).toNat + 1) else -1
theorem sizedFull_f (kind : Int) (l : List Int) : impl_sized.f kind l (if kOk kind = true then 3 * tLen kind + 3 else 0) = some (fullOk kind l) := by
  have ht := tLen_le kind
  rw [sizedN_f _ _ _ (by split <;> omega)]
  unfold fullOk
  cases h : kOk kind
  · rfl
  · rw [if_pos rfl]
theorem chance_both (k : Nat) (kind : Int) (l : List Int) (hl : l.length ≤ 1048576000) (hk : l.length + 2000 ≤ k) : spec_QueryChance.f k kind l = some (chanceV kind l) ∧ impl_QueryChance.f k kind l = some (chanceV kind l) := by
  have ht := tLen_le kind
  obtain ⟨p1, p2⟩ := proofLen_f kind
  have e : ((tLen kind).toNat : Int) = tLen kind := by omega
  constructor
  · unfold spec_QueryChance.f
    obtain ⟨k, rfl⟩ : ∃ m, k = m + 1 := ⟨k - 1, by omega⟩
    have hj : ∀ k, spec_QueryChance.j0 (k + 1) kind l true = some (-1) := fun k => rfl
    rw [l11Kind_f, Option.bind_some]
    unfold chanceV fullOk
    cases hkind : kOk kind
    · rw [if_neg (by simp), hj]; rfl
    · rw [if_pos rfl, shareOk_f _ l hl (by omega), Option.bind_some, p1, hkind, if_pos rfl]
      by_cases h1 : (l.length : Int) = 3 * tLen kind + 3
      · cases h2 : l.all fOk
        · rw [if_neg (by simp), hj]; simp
        · rw [if_pos (by simp; omega), Option.bind_some]
          have e2 : ((l.length : Int) != 3 * tLen kind + 3) = false := by simp [h1]
          rw [e2]
          simp only [spec_QueryChance.j0]
          rw [if_neg (by simp), if_pos (by omega), specTypeLen_f, Option.bind_some, w64 (by omega) (by omega), zeros4, show tLen kind + 1 = (((tLen kind).toNat + 1 : Nat) : Int) by omega, specChanceA hkind h1 h2 (30 - (tLen kind).toNat) k _ 0 (by omega) (by omega) (by omega), if_pos (by simp; omega)]
          simp
      · have e2 : ((l.length : Int) != 3 * tLen kind + 3) = true := by simp [h1]
        rw [Option.bind_some, e2]
        have : (true && decide ((l.length : Int) = 3 * tLen kind + 3) && l.all fOk) = false := by simp [h1]
        rw [this]
        split <;> exact hj _
  · unfold impl_QueryChance.f
    rw [p2, Option.bind_some, sizedFull_f, Option.bind_some]
    unfold chanceV
    cases hf : fullOk kind l
    · rfl
    · rw [if_pos rfl, if_pos rfl]
      unfold fullOk at hf
      simp only [Bool.and_eq_true, decide_eq_true_eq] at hf
      obtain ⟨⟨hkind, h1⟩, h2⟩ := hf
      unfold impl_TypeLen.f
      rw [Option.bind_some, w64 (by omega) (by omega), show tLen kind + 1 = (((tLen kind).toNat + 1 : Nat) : Int) by omega, implChanceA hkind h1 h2 (30 - (tLen kind).toNat) k _ 0 (by omega) (by omega) (by omega)]
      simp

end Go.Proofs.Ytplbobmllflniaa.Q
