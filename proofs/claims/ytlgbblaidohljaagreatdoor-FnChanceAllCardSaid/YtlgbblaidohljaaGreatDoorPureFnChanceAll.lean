import Derived.Test.YtlgbblaidohljaaGreatDoorQGaZc
import Derived.Test.YtlgbblaidohljaaGreatDoorQGcZc
import Derived.Test.YtlgbblaidohljaaGreatDoorQGdZc
import Derived.Test.YtlgbblaidohljaaGreatDoorQGeZc
import Derived.Test.YtlgbblaidohljaaGreatDoorZc1
import Derived.Test.YtlgbblaidohljaaGreatDoorZc15
import Derived.Test.YtlgbblaidohljaaGreatDoorZc22
set_option linter.unusedVariables false
set_option linter.unusedSimpArgs false
namespace Go.Proofs.YtlgbblaidohljaaGreatDoor.Pure
open Go.RowKit Go.Proofs.YtlgbblaidohljaaGreatDoor.Zc Go.Proofs.YtlgbblaidohljaaGreatDoorU.PrintWords Go.Proofs.YtlgbblaidohljaaGreatDoorU.PrintLast Go.Proofs.YtlgbblaidohljaaGreatDoorU.PrintMore Go.Proofs.YtlgbblaidohljaaGreatDoor.Q
theorem cw_all (kind : Int) (l : List Int) (a : Int) (h : ∀ w : Nat, w ≤ 30 → took kind l a (w : Int) = true) (d : Nat) : ∀ w : Nat, w + d ≤ 31 → cw kind l a d w = d := by
  induction d with
  | zero => intro w _; rfl
  | succ d ih =>
    intro w hw
    simp only [cw]
    rw [h w (by omega), if_pos rfl, ih (w + 1) (by omega)]
    omega
theorem ca_all (kind : Int) (l : List Int) (h : ∀ a w : Nat, a ≤ 30 → w ≤ 30 → took kind l (a : Int) (w : Int) = true) (d : Nat) : ∀ a : Nat, a + d ≤ 31 → ca kind l d a = 31 * d := by
  induction d with
  | zero => intro a _; rfl
  | succ d ih =>
    intro a ha
    simp only [ca]
    rw [cw_all kind l a (fun w hw => h a w (by omega) hw) 31 0 (by omega), ih (a + 1) (by omega)]
    omega
theorem took_right (kind : Int) (l : List Int) (hk : kOk kind = true) (hl : (l.length : Int) = 3 * tLen kind + 3) (ha : l.all fOk = true) (hp : pok kind (l.take (tLen kind).toNat) (rd l (tLen kind)) (rd l (tLen kind + 1)) (l.drop ((tLen kind).toNat + 2)) = true) (a w : Nat) (hat : a ≤ 30) (hw : w ≤ 30) : took kind l (a : Int) (w : Int) = true := by
  obtain ⟨x, y, e, hx, hy⟩ := right_ask kind l hk hl ha hp (a : Int) (w : Int) (by omega) ((fOk_iff _).2 (by omega))
  unfold took dec4 fourSum
  rw [e]
  have r0 : rd [x, y, (x * y) % 31, 0] ((0 : Nat) : Int) = x := rfl
  have r1 : rd [x, y, (x * y) % 31, 0] ((1 : Nat) : Int) = y := rfl
  have r2 : rd [x, y, (x * y) % 31, 0] ((2 : Nat) : Int) = (x * y) % 31 := rfl
  have r3 : rd [x, y, (x * y) % 31, 0] ((3 : Nat) : Int) = 0 := rfl
  have z0 : rd [(0 : Int), 0, 0, 0] ((0 : Nat) : Int) = 0 := rfl
  have z1 : rd [(0 : Int), 0, 0, 0] ((1 : Nat) : Int) = 0 := rfl
  have z2 : rd [(0 : Int), 0, 0, 0] ((2 : Nat) : Int) = 0 := rfl
  have z3 : rd [(0 : Int), 0, 0, 0] ((3 : Nat) : Int) = 0 := rfl
  rw [r0, r1, r2, r3, z0, z1, z2, z3, show (x + 0) % 31 = x by omega, show (y + 0) % 31 = y by omega, show ((x * y) % 31 + 0) % 31 = (x * y) % 31 by omega]
  simp
theorem FnChanceAll : laws_FnChanceAll.Pure := by
  intro l0 _ _ hb
  refine ⟨3000, ?_⟩
  unfold laws_FnChanceAll.f
  by_cases h : (l0.length : Int) > 1048576
  · rw [if_pos h]
  rw [if_neg h]
  obtain ⟨kind, l, e1, ll⟩ := drawQueryChance_f l0 (bytes_of hb) 3000 (by omega)
  rw [e1, Option.bind_some]
  simp only
  obtain ⟨c1, c2⟩ := chance_both 3000 kind l (by omega) (by omega)
  obtain ⟨c3, _⟩ := chance_both 2999 kind l (by omega) (by omega)
  rw [c2, Option.bind_some, c1, Option.bind_some, if_pos rfl]
  simp only [laws_FnChanceAll.j0]
  cases hf : fullOk kind l
  · have e : chanceV kind l = -1 := by unfold chanceV; rw [hf]; rfl
    rw [e, if_pos (by decide), c3, e]; rfl
  · have e : chanceV kind l = ca kind l (30 - (tLen kind).toNat) ((tLen kind).toNat + 1) := by unfold chanceV; rw [if_pos hf]
    have hge : ¬ chanceV kind l < 0 := by rw [e]; have := (ca_bd kind l (30 - (tLen kind).toNat) ((tLen kind).toNat + 1)).1; omega
    rw [decide_eq_false hge, if_neg (by simp)]
    have hf' := hf
    unfold fullOk at hf'
    simp only [Bool.and_eq_true, decide_eq_true_eq] at hf'
    obtain ⟨⟨hk, h5⟩, h6⟩ := hf'
    have ht := tLen_le kind
    have lh : (l.drop ((tLen kind).toNat + 2)).length ≤ 20 := by rw [List.length_drop]; omega
    have lt : (l.take (tLen kind).toNat).length ≤ 20 := by rw [List.length_take]; omega
    rw [proofCut_f kind l hk h5 h6, Option.bind_some]
    simp only
    unfold impl_TypeLen.f
    rw [Option.bind_some, pok_i 2999 kind _ _ _ _ (by omega) (by omega) (by omega), Option.bind_some]
    cases hp : pok kind (l.take (tLen kind).toNat) (rd l (tLen kind)) (rd l (tLen kind + 1)) (l.drop ((tLen kind).toNat + 2))
    · rw [if_neg (by simp)]
    · rw [if_pos rfl, e, ca_all kind l (fun a w ha hw => took_right kind l hk h5 h6 hp a w ha hw) _ _ (by omega), w64 (a := 30 - tLen kind) (by omega) (by omega), w64 (by omega) (by omega)]
      simp only [Option.some.injEq, beq_iff_eq]
      omega
end Go.Proofs.YtlgbblaidohljaaGreatDoor.Pure
