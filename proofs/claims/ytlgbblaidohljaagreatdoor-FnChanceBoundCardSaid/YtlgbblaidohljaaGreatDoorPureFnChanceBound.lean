import Derived.Test.YtlgbblaidohljaaGreatDoorQAsk3Zc
import Derived.Test.YtlgbblaidohljaaGreatDoorQGaZc
import Derived.Test.YtlgbblaidohljaaGreatDoorQGbZc
import Derived.Test.YtlgbblaidohljaaGreatDoorQGcZc
import Derived.Test.YtlgbblaidohljaaGreatDoorQGdZc
import Derived.Test.YtlgbblaidohljaaGreatDoorQGeZc
import Derived.Test.YtlgbblaidohljaaGreatDoorZc1
import Derived.Test.YtlgbblaidohljaaGreatDoorZc29
import Derived.Test.YtlgbblaidohljaaGreatDoorZc30
import Derived.Test.YtlgbblaidohljaaGreatDoorZc5
set_option linter.unusedVariables false
set_option linter.unusedSimpArgs false
namespace Go.Proofs.YtlgbblaidohljaaGreatDoor.Pure
open Go.RowKit Go.Proofs.YtlgbblaidohljaaGreatDoor.Zc Go.Proofs.YtlgbblaidohljaaGreatDoorU.PrintWords Go.Proofs.YtlgbblaidohljaaGreatDoorU.PrintLast Go.Proofs.YtlgbblaidohljaaGreatDoorU.PrintMore Go.Proofs.YtlgbblaidohljaaGreatDoor.Q
theorem cw_cnt (kind : Int) (l : List Int) (a : Int) (d : Nat) : ∀ w : Nat, cw kind l a d w = cnt (fun s => took kind l a s) d w := by
  induction d with
  | zero => intro w; rfl
  | succ d ih => intro w; simp only [cw, cnt]; rw [ih]
theorem cw_pos (kind : Int) (l : List Int) (a : Int) (d : Nat) : ∀ w : Nat, 0 < cw kind l a d w → ∃ v : Int, took kind l a v = true := by
  induction d with
  | zero => intro w h; simp [cw] at h
  | succ d ih =>
    intro w h
    by_cases ht : took kind l a (w : Int) = true
    · exact ⟨_, ht⟩
    · simp only [cw] at h
      rw [if_neg ht] at h
      exact ih (w + 1) (by omega)
theorem ca_cnt (kind : Int) (l : List Int) (d : Nat) : ∀ a : Nat, ca kind l d a ≤ 31 * cnt (fun s => decide (0 < cw kind l s 31 0)) d a := by
  induction d with
  | zero => intro a; simp [ca, cnt]
  | succ d ih =>
    intro a
    have h1 := ih (a + 1)
    have h2 := cw_bd kind l (a : Int) 31 0
    simp only [ca, cnt]
    by_cases h : 0 < cw kind l (a : Int) 31 0
    · rw [if_pos (decide_eq_true h)]; omega
    · rw [if_neg (by simpa using h)]; omega
theorem ca_each (kind : Int) (l : List Int) (T : Int) (d : Nat) : ∀ a : Nat, (∀ b : Nat, a ≤ b → b < a + d → cw kind l (b : Int) 31 0 ≤ T) → ca kind l d a ≤ d * T := by
  induction d with
  | zero => intro a _; simp [ca]
  | succ d ih =>
    intro a h
    have h1 := ih (a + 1) (fun b h1 h2 => h b (by omega) (by omega))
    have h2 := h a (by omega) (by omega)
    simp only [ca]
    rw [show ((d + 1 : Nat) : Int) * T = T + d * T by rw [Int.natCast_add, Int.add_mul]; omega]
    omega
theorem wrong_seldom (kind : Int) (l : List Int) (hk : kOk kind = true) (hl : (l.length : Int) = 3 * tLen kind + 3) (ha : l.all fOk = true) (hp : pok kind (l.take (tLen kind).toNat) (rd l (tLen kind)) (rd l (tLen kind + 1)) (l.drop ((tLen kind).toNat + 2)) = false) : ca kind l (30 - (tLen kind).toNat) ((tLen kind).toNat + 1) ≤ 62 * tLen kind := by
  have ht := tLen_le kind
  have htc : tLen kind = 1 ∨ tLen kind = 3 ∨ tLen kind = 4 := by rcases tLen_cases hk with ⟨_, e⟩ | ⟨_, e⟩ | ⟨_, e⟩ <;> omega
  obtain ⟨f, g, m, m1, m2, m3, m4, m5, m6⟩ := ask_shape kind l hk hl ha
  have lH : (l.drop ((tLen kind).toNat + 2)).length = 2 * (tLen kind).toNat + 1 := by rw [List.length_drop]; omega
  have aH := all_drop ha ((tLen kind).toNat + 2)
  have lx : (l.take (tLen kind).toNat).length = (tLen kind).toNat := by rw [List.length_take]; omega
  have hV := all_take ha (tLen kind).toNat
  have hu : fOk (rd l (tLen kind)) = true := (fOk_iff _).2 (rd_fOk ha _)
  have hq : fOk (rd l (tLen kind + 1)) = true := (fOk_iff _).2 (rd_fOk ha _)
  generalize rd l (tLen kind) = u at *
  generalize rd l (tLen kind + 1) = q at *
  generalize l.take (tLen kind).toNat = x at *
  generalize l.drop ((tLen kind).toNat + 2) = H at *
  have hT : ∀ a w : Int, 0 ≤ a ∧ a ≤ 30 → took kind l a w = true → hv a m = hv a H ∧ hotv kind w 1 x (chk w H (tLen kind).toNat) = 0 := by
    intro a w h1 h2
    obtain ⟨e1, e2⟩ := took_shape (m6 a w h1) (hv_bd _ _) (hv_bd _ _) (hv_bd _ _) (hotv_bd _ _ _ _ _ (chk_bd _ _ _)) h2
    exact ⟨(m4 a).trans e1, e2⟩
  by_cases hm : H = m
  ·
    subst hm
    have hC : ∃ C : List Int, (C.length : Int) ≤ tLen kind + 1 ∧ (∃ c ∈ C, c % 31 ≠ 0) ∧ ∀ w : Int, hotv kind w 1 x (chk w H (tLen kind).toNat) = hv w C := by
      have hho : hotOk kind x = false := by
        cases hh : hotOk kind x
        · rfl
        · refine absurd ?_ (by simp : ¬ (true = false))
          rw [← hp]
          unfold pok
          have hv1 : vecOk kind x = true := by unfold vecOk; rw [hk, hV]; simp; omega
          have hf1 : formOk kind u q H = true := by unfold formOk; rw [hu, hq, aH]; simp; omega
          rw [hv1, hh, hf1, m1]
          simp
      have hco : ∀ j : Nat, j < (tLen kind).toNat → rd x j ≤ 1 ∨ ((fun i : Nat => hv ((i : Int) + 1) H) j) % 31 ≠ 0 := by
        intro j hj
        by_cases hj1 : rd x j ≤ 1
        · exact .inl hj1
        · refine .inr ?_
          have hb := rd_fOk hV (j : Int)
          simp only
          rw [m5 j hj, Int.emod_emod_of_dvd _ (by decide)]
          exact mul_nz (by omega) (by omega)
      by_cases hall : ∀ y ∈ x, y ≤ 1
      · have h01 : ∀ y ∈ x, 0 ≤ y ∧ y ≤ 1 := fun y hy => ⟨((fOk_iff y).1 (List.all_eq_true.1 hV y hy)).1, hall y hy⟩
        unfold hotOk at hho
        have e1 : x.all (fun x => decide (x ≤ 1)) = true := List.all_eq_true.2 fun y hy => decide_eq_true (hall y hy)
        rw [e1, Bool.true_and] at hho
        simp at hho
        obtain ⟨h2, hs⟩ := hho
        have hsb := sum_01 x h01
        refine ⟨((List.range (tLen kind).toNat).map fun i : Nat => hv ((i : Int) + 1) H) ++ [(totv x - 1) % 31], by simp; omega, ⟨(totv x - 1) % 31, by simp, ?_⟩, ?_⟩
        · rw [totv_sum]; omega
        · intro w
          unfold hotv
          rw [if_pos h2, chk_hv, hot_hv w x _ _ (by simp [lx])]
      · have : ∃ y ∈ x, ¬ y ≤ 1 := by simpa using hall
        obtain ⟨y, hy, hy1⟩ := this
        obtain ⟨j, hj, rfl⟩ := List.getElem_of_mem hy
        have hne : ((fun i : Nat => hv ((i : Int) + 1) H) j) % 31 ≠ 0 := by
          rcases hco j (by omega) with h | h
          · rw [rd_nat x j hj] at h; exact absurd h hy1
          · exact h
        have hmem : (fun i : Nat => hv ((i : Int) + 1) H) j ∈ (List.range (tLen kind).toNat).map (fun i : Nat => hv ((i : Int) + 1) H) := List.mem_map.2 ⟨j, List.mem_range.2 (by omega), rfl⟩
        by_cases h2 : kind = 2
        · refine ⟨((List.range (tLen kind).toNat).map fun i : Nat => hv ((i : Int) + 1) H) ++ [(totv x - 1) % 31], by simp; omega, ⟨_, List.mem_append_left _ hmem, hne⟩, ?_⟩
          intro w
          unfold hotv
          rw [if_pos h2, chk_hv, hot_hv w x _ _ (by simp [lx])]
        · refine ⟨(List.range (tLen kind).toNat).map fun i : Nat => hv ((i : Int) + 1) H, by simp; omega, ⟨_, hmem, hne⟩, ?_⟩
          intro w
          unfold hotv
          rw [if_neg h2, chk_hv]
    obtain ⟨C, lC, hne, hCv⟩ := hC
    have hle := ca_each kind l (tLen kind) (30 - (tLen kind).toNat) ((tLen kind).toNat + 1) (fun b b1 b2 => by
      rw [cw_cnt]
      have := cnt_roots (fun s => took kind l (b : Int) s) C 0 31 (by omega) (fun s s1 s2 hs => by rw [← hCv s]; exact (hT (b : Int) s (by omega) hs).2) hne
      omega)
    rcases htc with e | e | e <;> rw [e] at hle ⊢ <;> simp at hle ⊢ <;> omega
  · have hne : ∃ c ∈ List.zipWith (· - ·) H m, c % 31 ≠ 0 := by
      apply Classical.byContradiction
      intro hno
      exact hm (zip_eq H m (by omega) aH m2 (fun c hc => Classical.byContradiction fun h => hno ⟨c, hc, h⟩))
    have h1 := ca_cnt kind l (30 - (tLen kind).toNat) ((tLen kind).toNat + 1)
    have h2 := cnt_roots (fun s => decide (0 < cw kind l s 31 0)) (List.zipWith (· - ·) H m) ((tLen kind).toNat + 1) (30 - (tLen kind).toNat) (by omega) (fun s s1 s2 hs => by
      obtain ⟨w, hw⟩ := cw_pos kind l s 31 0 (by simpa using hs)
      have := (hT s w (by omega) hw).1
      rw [hv_pv, hv_pv] at this
      rw [hv_pv, pv_zip _ _ _ (by omega)]
      omega) hne
    rw [List.length_zipWith, lH, m3, Nat.min_self] at h2
    omega
theorem FnChanceBound : laws_FnChanceBound.Pure := by
  intro l0 _ _ hb
  refine ⟨3000, ?_⟩
  unfold laws_FnChanceBound.f
  by_cases h : (l0.length : Int) > 1048576
  · rw [if_pos h]
  rw [if_neg h]
  obtain ⟨kind, l, e1, ll⟩ := drawQueryChance_f l0 (bytes_of hb) 3000 (by omega)
  rw [e1, Option.bind_some]
  simp only
  obtain ⟨c1, c2⟩ := chance_both 3000 kind l (by omega) (by omega)
  obtain ⟨c3, _⟩ := chance_both 2999 kind l (by omega) (by omega)
  rw [c2, Option.bind_some, c1, Option.bind_some, if_pos rfl]
  simp only [laws_FnChanceBound.j0]
  cases hf : fullOk kind l
  · have e : chanceV kind l = -1 := by unfold chanceV; rw [hf]; rfl
    rw [e, if_pos (by decide), c3, e]; rfl
  · have e : chanceV kind l = ca kind l (30 - (tLen kind).toNat) ((tLen kind).toNat + 1) := by unfold chanceV; rw [if_pos hf]
    have hge : ¬ chanceV kind l < 0 := by rw [e]; have := (ca_bd kind l (30 - (tLen kind).toNat) ((tLen kind).toNat + 1)).1; omega
    rw [decide_eq_false hge, if_neg (by simp)]
    have hf' := hf
    unfold fullOk at hf'
    simp only [Bool.and_eq_true, decide_eq_true_eq] at hf'
    obtain ⟨⟨hk, h5⟩, h6⟩ := hf'
    have ht := tLen_le kind
    have lh : (l.drop ((tLen kind).toNat + 2)).length ≤ 20 := by rw [List.length_drop]; omega
    have lt : (l.take (tLen kind).toNat).length ≤ 20 := by rw [List.length_take]; omega
    rw [proofCut_f kind l hk h5 h6, Option.bind_some]
    simp only
    unfold impl_QueryBound.f impl_TypeLen.f
    rw [Option.bind_some, Option.bind_some, Option.bind_some, w64 (a := 2 * tLen kind) (by omega) (by omega), w64 (a := 30 - tLen kind) (by omega) (by omega), w64 (a := 2 * tLen kind * 31) (by omega) (by omega), w64 (by omega) (by omega), if_pos (by omega), pok_i 2999 kind _ _ _ _ (by omega) (by omega) (by omega), Option.bind_some]
    cases hp : pok kind (l.take (tLen kind).toNat) (rd l (tLen kind)) (rd l (tLen kind + 1)) (l.drop ((tLen kind).toNat + 2))
    · rw [if_neg (by simp), e]
      have := wrong_seldom kind l hk h5 h6 hp
      rw [Option.bind_some, decide_eq_true (by omega)]
    · rw [if_pos rfl]
end Go.Proofs.YtlgbblaidohljaaGreatDoor.Pure
