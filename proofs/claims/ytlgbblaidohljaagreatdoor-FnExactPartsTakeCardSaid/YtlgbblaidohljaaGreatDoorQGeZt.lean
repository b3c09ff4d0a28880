/- Plain lemmas about the Lean functions of the program's printed text; each theorem states its own conditions. -/
import Derived.Test.YtlgbblaidohljaaGreatDoorQAsk3Zt
import Derived.Test.YtlgbblaidohljaaGreatDoorQGaZt
import Derived.Test.YtlgbblaidohljaaGreatDoorQGbZt
import Derived.Test.YtlgbblaidohljaaGreatDoorZt1
import Derived.Test.YtlgbblaidohljaaGreatDoorZt11
import Derived.Test.YtlgbblaidohljaaGreatDoorZt12
import Derived.Test.YtlgbblaidohljaaGreatDoorZt2
import Derived.Test.YtlgbblaidohljaaGreatDoorZt6
import Derived.Test.YtlgbblaidohljaaGreatDoorZt7
set_option linter.unusedVariables false
set_option linter.unusedSimpArgs false
namespace Go.Proofs.YtlgbblaidohljaaGreatDoor.Q
open Go.RowKit Go.Proofs.YtlgbblaidohljaaGreatDoor.Zt Go.Proofs.YtlgbblaidohljaaGreatDoorV.PrintWords Go.Proofs.YtlgbblaidohljaaGreatDoorV.PrintLast Go.Proofs.YtlgbblaidohljaaGreatDoorV.PrintMore
theorem fieldSum_f (a b : Int) (ha : fOk a = true) (hb : fOk b = true) : spec_FieldSum.f a b = some ((a + b) % 31) := by
  unfold spec_FieldSum.f
  have h1 := (fOk_iff a).1 ha
  have h2 := (fOk_iff b).1 hb
  rw [fieldOk_f, Option.bind_some, if_pos ha, fieldOk_f, Option.bind_some, if_pos hb, w64 (by omega) (by omega), Int.tmod_eq_emod_of_nonneg (by omega)]
theorem mul_bd {a b : Int} (ha : 0 ≤ a ∧ a ≤ 30) (hb : 0 ≤ b ∧ b ≤ 30) : 0 ≤ a * b ∧ a * b ≤ 900 := by
  have h1 : 0 ≤ a * b := Int.mul_nonneg ha.1 hb.1
  have h2 : a * b ≤ 30 * 30 := Int.mul_le_mul ha.2 hb.2 hb.1 (by omega)
  omega
theorem fieldMul_f (a b : Int) (ha : fOk a = true) (hb : fOk b = true) : spec_FieldMul.f a b = some ((a * b) % 31) := by
  unfold spec_FieldMul.f
  have h1 := (fOk_iff a).1 ha
  have h2 := (fOk_iff b).1 hb
  have h3 := mul_bd h1 h2
  rw [fieldOk_f, Option.bind_some, if_pos ha, fieldOk_f, Option.bind_some, if_pos hb, w64 (by omega) (by omega), Int.tmod_eq_emod_of_nonneg (by omega)]
/-- element-wise, modulo 31 -/
def sumL (a b : List Int) : List Int := List.zipWith (fun x y => (x + y) % 31) a b
def difL (a b : List Int) : List Int := List.zipWith (fun x y => (x - y) % 31) a b
theorem sumL_length (a b : List Int) (h : a.length = b.length) : (sumL a b).length = a.length := by simp [sumL, h]
theorem sumL_all (a b : List Int) : (sumL a b).all fOk = true := by
  rw [List.all_eq_true]
  intro x hx
  unfold sumL at hx
  obtain ⟨i, hi, rfl⟩ := List.getElem_of_mem hx
  rw [List.getElem_zipWith]
  exact fOk_mod _
theorem l3Sum_loop (a b : List Int) (hl : a.length = b.length) (hn : a.length ≤ 1048576000) (ha : a.all fOk = true) (hb : b.all fOk = true) (d : Nat) : ∀ (k : Nat) (i : Nat), i + d = a.length → d < k → spec_l3Sum.l0 k a b ((sumL a b).take i) (i : Int) = some (sumL a b) := by
  have hs := sumL_length a b hl
  induction d with
  | zero =>
    intro k i hi hk
    obtain ⟨k, rfl⟩ : ∃ j, k = j + 1 := ⟨k - 1, by omega⟩
    simp only [spec_l3Sum.l0]
    rw [if_neg (by omega), List.take_of_length_le (by omega)]
  | succ d ih =>
    intro k i hi hk
    obtain ⟨k, rfl⟩ : ∃ j, k = j + 1 := ⟨k - 1, by omega⟩
    simp only [spec_l3Sum.l0]
    have h1 : i < a.length := by omega
    have h2 : i < b.length := by omega
    rw [if_pos (by omega), if_pos (by omega), if_pos (by omega), rd_nat a i h1, rd_nat b i h2, fieldSum_f _ _ (all_get ha i h1) (all_get hb i h2), Option.bind_some, if_pos (by rw [List.length_take]; omega), w64 (by omega) (by omega)]
    have := ih k (i + 1) (by omega) (by omega)
    have h3 : i < (sumL a b).length := by omega
    rw [List.take_succ_eq_append_getElem h3] at this
    have e : (sumL a b)[i] = (a[i] + b[i]) % 31 := by simp [sumL]
    rw [e] at this
    simpa using this
theorem l3Sum_f (k : Nat) (a b : List Int) (hl : a.length = b.length) (hn : a.length ≤ 1048576000) (ha : a.all fOk = true) (hb : b.all fOk = true) (hk : a.length < k) : spec_l3Sum.f k a b = some (sumL a b) := by
  have := l3Sum_loop a b hl hn ha hb a.length k 0 (by omega) hk
  unfold spec_l3Sum.f
  simpa using this
/-- a vector of a kind -/
def vecOk (kind : Int) (s : List Int) : Bool := kOk kind && decide ((s.length : Int) = tLen kind) && s.all fOk
theorem sized_f (kind : Int) (s : List Int) : impl_sized.f kind s (tLen kind) = some (vecOk kind s) := by
  unfold impl_sized.f vecOk impl_kindOk.f impl_elementsOk.f
  have ht := tLen_le kind
  rw [Option.bind_some]
  cases h : kOk kind
  · rfl
  · rw [if_pos rfl]
    by_cases h3 : (s.length : Int) = tLen kind
    · rw [if_pos h3, Option.bind_some]
      have : (s.length : Int) ≤ 20 := by omega
      simp [h3]; omega
    · rw [if_neg h3]; simp [h3]
/-- numbers of a value, of those that are a kind's vector -/
def hotOk (kind : Int) (v : List Int) : Bool := v.all (fun x => decide (x ≤ 1)) && (decide (kind ≠ 2) || decide (v.sum = 1))
theorem sum_bd (v : List Int) (h : v.all fOk = true) : 0 ≤ v.sum ∧ v.sum ≤ 30 * (v.length : Int) := by
  induction v with
  | nil => simp
  | cons x v ih =>
    simp only [List.all_cons, Bool.and_eq_true] at h
    have h1 := (fOk_iff x).1 h.1
    have h2 := ih h.2
    simp only [List.sum_cons, List.length_cons]
    omega
theorem list1 (l : List Int) (h : l.length = 1) : ∃ a, l = [a] := by
  match l, h with
  | [a], _ => exact ⟨a, rfl⟩
theorem list3 (l : List Int) (h : l.length = 3) : ∃ a b c, l = [a, b, c] := by
  match l, h with
  | [a, b, c], _ => exact ⟨a, b, c, rfl⟩
theorem list4 (l : List Int) (h : l.length = 4) : ∃ a b c d, l = [a, b, c, d] := by
  match l, h with
  | [a, b, c, d], _ => exact ⟨a, b, c, d, rfl⟩
theorem bit_of {x : Int} (h : fOk x = true) (h1 : decide (x ≤ 1) = true) : x = 0 ∨ x = 1 := by
  have := (fOk_iff x).1 h
  have := of_decide_eq_true h1
  omega
theorem list4d (l : List Int) (h : l.length = 4) : ∃ a b c d, l = [a, b, c, d] := by
  match l, h with
  | [a, b, c, d], _ => exact ⟨a, b, c, d, rfl⟩
theorem l13Decide_f (k : Nat) (a b : List Int) (ha4 : a.length = 4) (hb4 : b.length = 4) (ha : a.all fOk = true) (hb : b.all fOk = true) (hk : 4 < k) : spec_l13Decide.f k a b = some (dec4 a b) := by
  unfold spec_l13Decide.f
  rw [l3Sum_f k a b (by omega) (by omega) ha hb (by omega), Option.bind_some]
  have hs := sumL_length a b (by omega)
  obtain ⟨a0, a1, a2, a3, rfl⟩ := list4d a ha4
  obtain ⟨b0, b1, b2, b3, rfl⟩ := list4d b hb4
  simp only [sumL, List.zipWith_cons_cons, List.zipWith_nil_right, List.length_cons, List.length_nil, dec4, fourSum, rd]
  rw [if_pos (by omega), if_pos (by omega)]
  simp only [Int.toNat_zero, Int.toNat_one, List.getD_cons_zero, List.getD_cons_succ, Int.reduceToNat, Int.toNat_natCast]
  rw [fieldMul_f _ _ (fOk_mod _) (fOk_mod _), Option.bind_some, if_pos (by omega)]
  by_cases h : (a0 + b0) % 31 * ((a1 + b1) % 31) % 31 = (a2 + b2) % 31
  · rw [if_pos h, if_pos (by omega)]
    simp [h]
  · rw [if_neg h]
    simp [h]
theorem specProofLen_f (kind : Int) : spec_ProofLen.f kind = some (if kOk kind = true then 3 * tLen kind + 3 else 0) := by
  have ht := tLen_le kind
  unfold spec_ProofLen.f
  rw [l11Kind_f, Option.bind_some]
  split
  · rw [specTypeLen_f, Option.bind_some, w64 (a := 3 * tLen kind) (by omega) (by omega), w64 (by omega) (by omega)]
  · rfl
theorem specPartOk_f (K : Nat) (id kind side : Int) (l : List Int) (hl : l.length ≤ 1048576000) (hK : l.length < K) : spec_PartOk.f K id kind side l = some (partOk id kind side l) := by
  have ht := tLen_le kind
  unfold spec_PartOk.f partOk
  rw [l6In_f, Option.bind_some]
  cases h1 : decide (1 ≤ id) && decide (id ≤ 99)
  · rfl
  rw [if_pos rfl, l11Kind_f, Option.bind_some]
  cases h2 : kOk kind
  · simp
  rw [if_pos rfl, l6In_f, Option.bind_some]
  cases h3 : decide (1 ≤ side) && decide (side ≤ 2)
  · simp
  rw [if_pos rfl, shareOk_f K l hl hK, Option.bind_some]
  cases h4 : l.all fOk
  · simp
  by_cases h5 : (l.length : Int) ≤ 20
  · rw [if_pos (by simp [h5]), specProofLen_f, Option.bind_some, if_pos h2]
    simp; rfl
  · rw [if_neg (by simp; omega)]
    have : ¬ ((l.length : Int) = 3 * tLen kind + 3) := by omega
    simp [this]
/-- whether two parts are of one report -/
def fitOk (a b c : Int) (l : List Int) (a' b' c' : Int) (l' : List Int) : Bool := partOk a b c l && partOk a' b' c' l' && decide (a = a') && decide (b = b') && decide (c = 1) && decide (c' = 2)
theorem partsFit_f (K : Nat) (a b c : Int) (l : List Int) (a' b' c' : Int) (l' : List Int) (hl : l.length ≤ 1048576000) (hl' : l'.length ≤ 1048576000) (hK : l.length < K) (hK' : l'.length < K) :
    spec_PartsFit.f K a b c l a' b' c' l' = some (fitOk a b c l a' b' c' l') ∧ impl_PartsFit.f a b c l a' b' c' l' = some (fitOk a b c l a' b' c' l') := by
  unfold spec_PartsFit.f impl_PartsFit.f spec_l21Fit.f impl_PartOk.f fitOk
  rw [specPartOk_f K a b c l hl hK, specPartOk_f K a' b' c' l' hl' hK']
  simp only [Option.bind_some]
  cases h1 : partOk a b c l
  · exact ⟨rfl, rfl⟩
  cases h2 : partOk a' b' c' l'
  · exact ⟨rfl, rfl⟩
  simp only [if_true, Bool.true_and]
  by_cases e1 : a = a'
  · by_cases e2 : b = b'
    · by_cases e3 : c = 1
      · rw [if_pos e1, if_pos e2, if_pos e3, Option.bind_some]
        simp only [e1, e2, e3, decide_true, Bool.true_and]
        exact ⟨rfl, rfl⟩
      · rw [if_pos e1, if_pos e2, if_neg e3, Option.bind_some]; simp [e3]
    · rw [if_pos e1, if_neg e2, Option.bind_some]; simp [e2]
  · rw [if_neg e1, Option.bind_some]; simp [e1]
/-- whether two parts' report is taken -/
def takeV (a b c : Int) (l : List Int) (a' b' c' : Int) (l' : List Int) (at_ w : Int) : Bool := fitOk a b c l a' b' c' l' && askMay b l at_ w && askMay b' l' at_ w && dec4 (askV b l true at_ w) (askV b' l' false at_ w)
theorem queryDecide_ask (kind : Int) (l l' : List Int) (x y : Bool) (kind' a w a' w' : Int) : impl_QueryDecide.f (askV kind l x a w) (askV kind' l' y a' w') = some (dec4 (askV kind l x a w) (askV kind' l' y a' w')) := by
  unfold impl_QueryDecide.f
  rw [askV_length, askV_length, askV_all, askV_all]
  simp
theorem partsTake_both (K : Nat) (a b c : Int) (l : List Int) (a' b' c' : Int) (l' : List Int) (at_ w : Int) (hl : l.length ≤ 1048576000) (hl' : l'.length ≤ 1048576000) (hK : l.length + 201 ≤ K) (hK' : l'.length + 201 ≤ K) :
    spec_PartsTake.f K a b c l a' b' c' l' at_ w = some (takeV a b c l a' b' c' l' at_ w) ∧ impl_PartsTake.f K a b c l a' b' c' l' at_ w = some (takeV a b c l a' b' c' l' at_ w) := by
  obtain ⟨k, rfl⟩ : ∃ j, K = j + 1 := ⟨K - 1, by omega⟩
  obtain ⟨f1, f2⟩ := partsFit_f (k + 1) a b c l a' b' c' l' hl hl' (by omega) (by omega)
  have q2 := queryAsk_i (k + 1) b l hl (by omega) true at_ w
  have q4 := queryAsk_i (k + 1) b' l' hl' (by omega) false at_ w
  obtain ⟨m1, _⟩ := queryMay_f b at_
  unfold spec_PartsTake.f impl_PartsTake.f takeV
  rw [f1, f2, Option.bind_some, Option.bind_some]
  cases hf : fitOk a b c l a' b' c' l'
  · exact ⟨rfl, rfl⟩
  rw [if_pos rfl, if_pos rfl, m1, Option.bind_some, q2, q4, Option.bind_some, Option.bind_some]
  have hf' := hf
  unfold fitOk partOk at hf'
  simp only [Bool.and_eq_true, decide_eq_true_eq] at hf'
  have hmay : askMay b l at_ w = ((kOk b && (decide (tLen b + 1 ≤ at_) && decide (at_ ≤ 30))) && fOk w) ∧ askMay b' l' at_ w = ((kOk b && (decide (tLen b + 1 ≤ at_) && decide (at_ ≤ 30))) && fOk w) := by
    obtain ⟨⟨⟨⟨⟨h1, h2⟩, h3⟩, h4⟩, h5⟩, h6⟩ := hf'
    subst h4
    unfold askMay
    simp_all
  have hk : kOk b = true ∧ l.all fOk = true ∧ (l.length : Int) = 3 * tLen b + 3 ∧ l'.all fOk = true ∧ (l'.length : Int) = 3 * tLen b' + 3 ∧ kOk b' = true := by
    obtain ⟨⟨⟨⟨⟨h1, h2⟩, h3⟩, h4⟩, h5⟩, h6⟩ := hf'
    subst h4
    simp_all
  obtain ⟨hk1, hk2, hk3, hk4, hk5, hk6⟩ := hk
  rw [hmay.1, hmay.2]
  cases hat : kOk b && (decide (tLen b + 1 ≤ at_) && decide (at_ ≤ 30))
  · refine ⟨?_, by simp⟩
    rw [if_neg (by simp)]
    rfl
  cases hw : fOk w
  · refine ⟨?_, by simp⟩
    rw [if_pos rfl, fieldOk_f, Option.bind_some, hw]
    rfl
  have ht := tLen_le b
  have hat' : 0 ≤ at_ ∧ at_ ≤ 30 := by simp at hat; omega
  obtain ⟨b1, _⟩ := ask_both k (by omega) b hk1 l hk3 hk2 true at_ w hat' hw
  obtain ⟨b2, _⟩ := ask_both k (by omega) b' hk6 l' hk5 hk4 false at_ w hat' hw
  constructor
  · rw [if_pos rfl, fieldOk_f, Option.bind_some, hw]
    simp only [spec_PartsTake.j0]
    rw [if_neg (by simp), b1, Option.bind_some, b2, Option.bind_some, l13Decide_f k _ _ (askV_length ..) (askV_length ..) (askV_all ..) (askV_all ..) (by omega), Option.bind_some]
    simp
  · simp only [Bool.and_self, if_true]
    rw [queryDecide_ask, Option.bind_some]
    simp

end Go.Proofs.YtlgbblaidohljaaGreatDoor.Q
