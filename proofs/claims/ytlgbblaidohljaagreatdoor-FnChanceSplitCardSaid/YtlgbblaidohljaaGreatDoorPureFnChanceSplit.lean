import Derived.Test.YtlgbblaidohljaaGreatDoorQAsk3Zc
import Derived.Test.YtlgbblaidohljaaGreatDoorQGaZc
import Derived.Test.YtlgbblaidohljaaGreatDoorQGcZc
import Derived.Test.YtlgbblaidohljaaGreatDoorQGdZc
import Derived.Test.YtlgbblaidohljaaGreatDoorQGeZc
import Derived.Test.YtlgbblaidohljaaGreatDoorZc1
import Derived.Test.YtlgbblaidohljaaGreatDoorZc15
import Derived.Test.YtlgbblaidohljaaGreatDoorZc29
import Derived.Test.YtlgbblaidohljaaGreatDoorZc31
import Derived.Test.YtlgbblaidohljaaGreatDoorZc32
set_option linter.unusedVariables false
set_option linter.unusedSimpArgs false
namespace Go.Proofs.YtlgbblaidohljaaGreatDoor.Pure
open Go.RowKit Go.Proofs.YtlgbblaidohljaaGreatDoor.Zc Go.Proofs.YtlgbblaidohljaaGreatDoorU.PrintWords Go.Proofs.YtlgbblaidohljaaGreatDoorU.PrintLast Go.Proofs.YtlgbblaidohljaaGreatDoorU.PrintMore Go.Proofs.YtlgbblaidohljaaGreatDoor.Q
theorem ca_none (kind : Int) (l : List Int) (d : Nat) : ∀ a : Nat, (∀ b w : Nat, a ≤ b → b < a + d → w ≤ 30 → took kind l (b : Int) (w : Int) = false) → ca kind l d a = 0 := by
  induction d with
  | zero => intro a _; rfl
  | succ d ih =>
    intro a h
    simp only [ca]
    have e : ∀ (d w : Nat), w + d ≤ 31 → cw kind l (a : Int) d w = 0 := by
      intro d
      induction d with
      | zero => intro w _; rfl
      | succ d ih => intro w hw; simp only [cw]; rw [h a w (by omega) (by omega) (by omega), ih (w + 1) (by omega)]; rfl
    rw [e 31 0 (by omega), ih (a + 1) (fun b w h1 h2 h3 => h b w (by omega) (by omega) h3)]
    rfl
theorem rd_set_lt (l : List Int) (k : Nat) (c : Int) (i : Int) (h0 : 0 ≤ i) (hi : i < (k : Int)) : rd (l.set k c) i = rd l i := by
  obtain ⟨i, rfl⟩ : ∃ n : Nat, i = (n : Int) := ⟨i.toNat, by omega⟩
  unfold rd
  simp only [Int.toNat_natCast, List.getD_eq_getElem?_getD]
  rw [List.getElem?_set_ne (by omega)]
theorem took_bad (kind : Int) (l : List Int) (hk : kOk kind = true) (hl : (l.length : Int) = 3 * tLen kind + 3) (ha : l.all fOk = true) (hp : pok kind (l.take (tLen kind).toNat) (rd l (tLen kind)) (rd l (tLen kind + 1)) (l.drop ((tLen kind).toNat + 2)) = true) (m : Nat) (hm : m < (l.drop ((tLen kind).toNat + 2)).length) (c : Int) (hc : (c - (l.drop ((tLen kind).toNat + 2))[m]) % 31 ≠ 0) (a w : Nat) (h1 : 1 ≤ a) (hat : a ≤ 30) (hw : w ≤ 30) : took kind (l.set ((tLen kind).toNat + 2 + m) c) (a : Int) (w : Int) = false := by
  have ht := tLen_le kind
  obtain ⟨x, y, e, hx, hy⟩ := right_ask kind l hk hl ha hp (a : Int) (w : Int) (by omega) ((fOk_iff _).2 (by omega))
  have hne := hv_set_ne (x := (a : Int)) (by omega) hm hc
  unfold askV at e
  simp only [List.cons.injEq] at e
  obtain ⟨e0, e1, e2, _, _⟩ := e
  have et : (l.set ((tLen kind).toNat + 2 + m) c).take (tLen kind).toNat = l.take (tLen kind).toNat := List.take_set_of_le (by omega)
  have ed : (l.set ((tLen kind).toNat + 2 + m) c).drop ((tLen kind).toNat + 2) = (l.drop ((tLen kind).toNat + 2)).set m c := by
    rw [List.drop_set, if_neg (by omega)]
    congr 1
    omega
  have hz := hv_bd (a : Int) ((l.drop ((tLen kind).toNat + 2)).set m c)
  unfold took askV
  simp only
  rw [et, ed, rd_set_lt _ _ _ _ (by omega) (by omega), rd_set_lt _ _ _ _ (by omega) (by omega), e0, e1]
  rw [e2] at hne
  generalize hv (a : Int) ((l.drop ((tLen kind).toNat + 2)).set m c) = z at *
  generalize hotv kind _ _ _ _ = s
  unfold dec4 fourSum
  have r0 : rd [x, y, z, s] ((0 : Nat) : Int) = x := rfl
  have r1 : rd [x, y, z, s] ((1 : Nat) : Int) = y := rfl
  have r2 : rd [x, y, z, s] ((2 : Nat) : Int) = z := rfl
  have z0 : rd [(0 : Int), 0, 0, 0] ((0 : Nat) : Int) = 0 := rfl
  have z1 : rd [(0 : Int), 0, 0, 0] ((1 : Nat) : Int) = 0 := rfl
  have z2 : rd [(0 : Int), 0, 0, 0] ((2 : Nat) : Int) = 0 := rfl
  rw [r0, r1, r2, z0, z1, z2, show (x + 0) % 31 = x by omega, show (y + 0) % 31 = y by omega, show (z + 0) % 31 = z by omega]
  have : ((x * y) % 31 == z) = false := by
    rw [beq_eq_false_iff_ne]
    exact fun q => hne q.symm
  rw [this, Bool.false_and]
theorem FnChanceSplit : laws_FnChanceSplit.Pure := by
  intro l0 m0 _ _ hb hm0 _ _
  refine ⟨3000, ?_⟩
  unfold laws_FnChanceSplit.f
  by_cases h : (l0.length : Int) > 1048576
  · rw [if_pos h]; rfl
  rw [if_neg h]
  by_cases h2 : (m0.length : Int) > 1048576
  · rw [decide_eq_true h2]; rfl
  rw [decide_eq_false h2]
  simp only [laws_FnChanceSplit.j0]
  rw [if_neg (by simp)]
  obtain ⟨kind, l, e1, ll⟩ := drawQueryChance_f l0 (bytes_of hb) 2999 (by omega)
  rw [e1, Option.bind_some]
  simp only
  obtain ⟨c1, c2⟩ := chance_both 2999 kind l (by omega) (by omega)
  obtain ⟨c3, _⟩ := chance_both 2998 kind l (by omega) (by omega)
  rw [c2, Option.bind_some, c1, Option.bind_some, if_pos rfl]
  simp only [laws_FnChanceSplit.j1]
  cases hf : fullOk kind l
  · have e : chanceV kind l = -1 := by unfold chanceV; rw [hf]; rfl
    rw [e, if_pos (by decide), c3, e]; rfl
  · have e : chanceV kind l = ca kind l (30 - (tLen kind).toNat) ((tLen kind).toNat + 1) := by unfold chanceV; rw [if_pos hf]
    have hge : ¬ chanceV kind l < 0 := by rw [e]; have := (ca_bd kind l (30 - (tLen kind).toNat) ((tLen kind).toNat + 1)).1; omega
    rw [decide_eq_false hge, if_neg (by simp)]
    have hf' := hf
    unfold fullOk at hf'
    simp only [Bool.and_eq_true, decide_eq_true_eq] at hf'
    obtain ⟨⟨hk, h5⟩, h6⟩ := hf'
    have ht := tLen_le kind
    have ht1 : 1 ≤ tLen kind := by rcases tLen_cases hk with ⟨_, e⟩ | ⟨_, e⟩ | ⟨_, e⟩ <;> omega
    have lh : (((l.drop ((tLen kind).toNat + 2)).length : Nat) : Int) = 2 * tLen kind + 1 := by rw [List.length_drop]; omega
    have lt : (((l.take (tLen kind).toNat).length : Nat) : Int) = tLen kind := by rw [List.length_take]; omega
    rw [proofCut_f kind l hk h5 h6, Option.bind_some]
    simp only
    rw [pok_i 2998 kind _ _ _ _ (by omega) (by omega) (by omega), Option.bind_some]
    cases hp : pok kind (l.take (tLen kind).toNat) (rd l (tLen kind)) (rd l (tLen kind + 1)) (l.drop ((tLen kind).toNat + 2))
    · rw [if_neg (by simp)]
    rw [if_pos rfl, lt, lh]
    have hq0 : 0 ≤ (m0.length : Int) % (2 * tLen kind + 1) := Int.emod_nonneg _ (by omega)
    have hq1 : (m0.length : Int) % (2 * tLen kind + 1) < 2 * tLen kind + 1 := Int.emod_lt_of_pos _ (by omega)
    obtain ⟨m, hm⟩ : ∃ m : Nat, (m0.length : Int) % (2 * tLen kind + 1) = (m : Int) := ⟨((m0.length : Int) % (2 * tLen kind + 1)).toNat, by omega⟩
    rw [hm] at hq0 hq1
    rw [hm, w64 (a := tLen kind + 2) (by omega) (by omega), w64 (by omega) (by omega), Option.bind_some, if_pos (by simp; omega), Option.bind_some, List.nil_append, if_neg (by omega), if_pos (by omega), if_pos (by omega)]
    have ek : (tLen kind + 2 + (m : Int)) = (((tLen kind).toNat + 2 + m : Nat) : Int) := by omega
    have hkl : (tLen kind).toNat + 2 + m < l.length := by omega
    rw [ek, rd_nat l _ hkl]
    have hx := (fOk_iff _).1 (all_get h6 _ hkl)
    have hs : impl_FieldSum.f l[(tLen kind).toNat + 2 + m] (1 + ((m0.length : Int) % 30)) = some ((l[(tLen kind).toNat + 2 + m] + (1 + ((m0.length : Int) % 30))) % 31) := iSum _ _ ((fOk_iff _).2 hx) ((fOk_iff _).2 (by omega))
    rw [hs, Option.bind_some, Int.toNat_natCast]
    obtain ⟨_, c5⟩ := chance_both 2998 kind (l.set ((tLen kind).toNat + 2 + m) ((l[(tLen kind).toNat + 2 + m] + (1 + ((m0.length : Int) % 30))) % 31)) (by rw [List.length_set]; omega) (by rw [List.length_set]; omega)
    have hz : chanceV kind (l.set ((tLen kind).toNat + 2 + m) ((l[(tLen kind).toNat + 2 + m] + (1 + ((m0.length : Int) % 30))) % 31)) ≤ 0 := by
      unfold chanceV
      split
      · have hm' : m < (l.drop ((tLen kind).toNat + 2)).length := by omega
        have hd : (l.drop ((tLen kind).toNat + 2))[m] = l[(tLen kind).toNat + 2 + m] := by rw [List.getElem_drop]
        rw [ca_none kind _ _ _ (fun b w b1 b2 b3 => took_bad kind l hk h5 h6 hp m hm' _ (by rw [hd]; omega) b w (by omega) (by omega) b3)]
        omega
      · omega
    unfold impl_QueryBound.f impl_TypeLen.f
    rw [c5, Option.bind_some, Option.bind_some, Option.bind_some, w64 (a := 2 * tLen kind) (by omega) (by omega), w64 (by omega) (by omega)]
    simp only [Option.some.injEq, decide_eq_true_eq]
    omega
end Go.Proofs.YtlgbblaidohljaaGreatDoor.Pure
