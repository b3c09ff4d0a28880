import Derived.Test.YtlgbblaidohljaaGreatDoorQAsk3Zc
import Derived.Test.YtlgbblaidohljaaGreatDoorQGaZc
import Derived.Test.YtlgbblaidohljaaGreatDoorQGbZc
import Derived.Test.YtlgbblaidohljaaGreatDoorQGdZc
import Derived.Test.YtlgbblaidohljaaGreatDoorQGeZc
import Derived.Test.YtlgbblaidohljaaGreatDoorQGfZc
import Derived.Test.YtlgbblaidohljaaGreatDoorZc1
import Derived.Test.YtlgbblaidohljaaGreatDoorZc25
import Derived.Test.YtlgbblaidohljaaGreatDoorZc33
import Derived.Test.YtlgbblaidohljaaGreatDoorZc35
import Derived.Test.YtlgbblaidohljaaGreatDoorZc36
import Derived.Test.YtlgbblaidohljaaGreatDoorZc4
import Derived.Test.YtlgbblaidohljaaGreatDoorZc5
import Derived.Test.YtlgbblaidohljaaGreatDoorZc6
set_option linter.unusedVariables false
set_option linter.unusedSimpArgs false
namespace Go.Proofs.YtlgbblaidohljaaGreatDoor.Pure
open Go.RowKit Go.Proofs.YtlgbblaidohljaaGreatDoor.Zc Go.Proofs.YtlgbblaidohljaaGreatDoorU.PrintWords Go.Proofs.YtlgbblaidohljaaGreatDoorU.PrintLast Go.Proofs.YtlgbblaidohljaaGreatDoorU.PrintMore Go.Proofs.YtlgbblaidohljaaGreatDoor.Q
theorem coef_tab2 : ∀ x < 31, 2 ≤ x → (hvL ((x : Nat) : Int) (thrL 2)).a % 31 ≠ 0 := by decide +kernel
theorem coef_tab4 : ∀ x < 31, 4 ≤ x → (hvL ((x : Nat) : Int) (thrL 4)).a % 31 ≠ 0 := by decide +kernel
theorem coef_tab5 : ∀ x < 31, 5 ≤ x → (hvL ((x : Nat) : Int) (thrL 5)).a % 31 ≠ 0 := by decide +kernel
theorem coef_nz (n : Nat) (hn : n = 2 ∨ n = 4 ∨ n = 5) (a : Int) (h1 : (n : Int) ≤ a) (h2 : a ≤ 30) : (hvL a (thrL n)).a % 31 ≠ 0 := by
  obtain ⟨m, hm, rfl⟩ := nat31 (x := a) (by omega)
  rcases hn with rfl | rfl | rfl
  · exact coef_tab2 m hm (by omega)
  · exact coef_tab4 m hm (by omega)
  · exact coef_tab5 m hm (by omega)
theorem cnt_single (f : Int → Bool) (r : Int) (hf : ∀ s : Int, 0 ≤ s → s ≤ 30 → (f s = true ↔ s = r)) (d : Nat) : ∀ a : Nat, a + d ≤ 31 → cnt f d a = if (a : Int) ≤ r ∧ r < (a : Int) + d then 1 else 0 := by
  induction d with
  | zero => intro a _; rw [if_neg (by omega)]; rfl
  | succ d ih =>
    intro a ha
    have h1 := hf (a : Int) (by omega) (by omega)
    simp only [cnt]
    rw [ih (a + 1) (by omega)]
    by_cases h : f (a : Int) = true
    · have := h1.1 h
      rw [if_pos h, if_neg (by omega), if_pos (by omega)]
      rfl
    · rw [if_neg h]
      have hne : (a : Int) ≠ r := fun e => h (h1.2 e)
      by_cases h3 : ((a + 1 : Nat) : Int) ≤ r ∧ r < ((a + 1 : Nat) : Int) + d
      · rw [if_pos h3, if_pos (by omega)]; rfl
      · rw [if_neg h3, if_neg (by omega)]; rfl
theorem cnt_line (A B c : Int) (hA : A % 31 ≠ 0) (hc : 0 ≤ c ∧ c ≤ 30) : cnt (fun s => decide ((A * s + B) % 31 = c)) 31 0 = 1 := by
  obtain ⟨b, hb⟩ := inv31 ⟨(A % 31).toNat, by omega⟩ (by simp; omega)
  have hb' : (A * (b.val : Int)) % 31 = 1 := by
    have h1 : (((A % 31).toNat * b.val : Nat) : Int) % 31 = 1 := by simp only at hb; omega
    rw [Int.natCast_mul, Int.toNat_of_nonneg (by omega), emod_mul] at h1
    omega
  have hr : ∀ s : Int, (A * s + B) % 31 = c ↔ (A * s) % 31 = (c - B) % 31 := fun s => by omega
  have hr0 : (A * (((c - B) * (b.val : Int)) % 31)) % 31 = (c - B) % 31 := by
    rw [Int.mul_comm A, emod_mul, Int.mul_assoc, Int.mul_comm (b.val : Int) A]
    have h2 : ((c - B) * (A * (b.val : Int))) % 31 = (c - B) % 31 := by rw [Int.mul_emod, hb']; omega
    omega
  rw [cnt_single _ (((c - B) * (b.val : Int)) % 31) ?_ 31 0 (by omega), if_pos (by omega)]
  intro s s0 s1
  simp only [decide_eq_true_eq]
  rw [hr]
  constructor
  · intro h
    have h3 : (A * (s - ((c - B) * (b.val : Int)) % 31)) % 31 = 0 := by rw [Int.mul_sub]; omega
    rcases mul_zero31 h3 with h4 | h4
    · exact absurd h4 hA
    · omega
  · intro h
    rw [h, hr0]
theorem thr_line (v : List Int) (n : Nat) (hn : v.length + 1 = n) (a : Int) : ∃ B : Int, ∀ s : Int, hv a (thr (s :: v)) = ((hvL a (thrL n)).a * s + B) % 31 := by
  refine ⟨(hvL a (thrL n)).b * rd v 0 + (hvL a (thrL n)).c * rd v 1 + (hvL a (thrL n)).d * rd v 2 + (hvL a (thrL n)).e * rd v 3, fun s => ?_⟩
  unfold thr
  rw [hv_map, List.length_cons, hn]
  unfold LF.ev LF.raw lfOf
  have e0 : rd (s :: v) 0 = s := rfl
  have e1 : rd (s :: v) 1 = rd v 0 := rfl
  have e2 : rd (s :: v) 2 = rd v 1 := rfl
  have e3 : rd (s :: v) 3 = rd v 2 := rfl
  have e4 : rd (s :: v) 4 = rd v 3 := rfl
  simp only [e0, e1, e2, e3, e4]
  congr 1
  omega
theorem cnt_thr (v : List Int) (n : Nat) (hn : n = 2 ∨ n = 4 ∨ n = 5) (hv' : v.length + 1 = n) (a c : Int) (h1 : (n : Int) ≤ a) (h2 : a ≤ 30) (hc : 0 ≤ c ∧ c ≤ 30) : cnt (fun s => decide (hv a (thr (s :: v)) = c)) 31 0 = 1 := by
  obtain ⟨B, hB⟩ := thr_line v n hv' a
  rw [show (fun s => decide (hv a (thr (s :: v)) = c)) = (fun s => decide (((hvL a (thrL n)).a * s + B) % 31 = c)) by funext s; rw [hB s]]
  exact cnt_line _ _ _ (coef_nz n hn a h1 h2) hc
theorem cnt_zero (f : Int → Bool) (a : Nat) : cnt f 0 a = 0 := rfl
theorem cnt_succ (f : Int → Bool) (d a : Nat) : cnt f (d + 1) a = (if f (a : Int) = true then 1 else 0) + cnt f d (a + 1) := rfl
theorem hide_step (K : Nat) (kind : Int) (v : List Int) (u w a x : Int) (hk : kOk kind = true) (lv : (v.length : Int) = tLen kind) (hV : v.all fOk = true) (hu : fOk u = true) (hw : fOk w = true) (ha : tLen kind + 1 ≤ a ∧ a ≤ 30) (hx : fOk x = true) (hK : 300 ≤ K) :
    ∃ (h : List Int) (q2 q3 : Int), impl_ProofMake.f K kind v u w = some (u, w, h, true) ∧ impl_ProofAll.f kind v u w h = some (v ++ [u, w] ++ h, true) ∧ impl_QueryAsk.f K kind (v ++ [u, w] ++ h) true a x = some ([hv a (thr (u :: v)), hv a (thr (w :: decC 1 v)), q2, q3], true) := by
  have ht := tLen_le kind
  obtain ⟨_, _, h, _, _, m1, _, m2, m3, _⟩ := make_val K (by omega) kind v u w hk lv hV hu hw
  have hf : formOk kind u w h = true := by unfold formOk; rw [hu, hw, m2]; simp; omega
  have hall : (v ++ [u, w] ++ h).all fOk = true := by rw [List.all_append, List.all_append, hV, m2]; simp [hu, hw]
  have hlen : (((v ++ [u, w] ++ h).length : Nat) : Int) = 3 * tLen kind + 3 := by simp; omega
  have hmay : askMay kind (v ++ [u, w] ++ h) a x = true := by
    unfold askMay
    rw [hk, hx, hall, decide_eq_true ha.1, decide_eq_true ha.2, decide_eq_true hlen]
    rfl
  have q := queryAsk_i K kind (v ++ [u, w] ++ h) (by omega) (by omega) true a x
  rw [if_pos hmay] at q
  refine ⟨h, hv a ((v ++ [u, w] ++ h).drop ((tLen kind).toNat + 2)), hotv kind x 1 v (chk x ((v ++ [u, w] ++ h).drop ((tLen kind).toNat + 2)) (tLen kind).toNat), m1, ?_, ?_⟩
  · unfold impl_ProofAll.f
    rw [sizedN_f _ _ _ (by omega), hk, hV, decide_eq_true lv, Option.bind_some, if_pos (show (true && true && true) = true from rfl), if_pos hf]
  · rw [q]
    unfold askV
    have e1 : (v ++ [u, w] ++ h).take (tLen kind).toNat = v := by
      rw [List.append_assoc, List.take_append_of_le_length (by omega), List.take_of_length_le (by omega)]
    have e2 : rd (v ++ [u, w] ++ h) (tLen kind) = u := by
      rw [← lv, rd_nat _ _ (by first | (simp; done) | (simp; omega))]
      simp
    have e3 : rd (v ++ [u, w] ++ h) (tLen kind + 1) = w := by
      rw [← lv, show ((v.length : Int) + 1) = ((v.length + 1 : Nat) : Int) by omega, rd_nat _ _ (by first | (simp; done) | (simp; omega))]
      simp
    simp only [if_true]
    rw [e1, e2, e3]
section
variable {kind at_ w : Int} {v q : List Int} (hk : kOk kind = true) (lv : (v.length : Int) = tLen kind) (hV : v.all fOk = true) (ha : tLen kind + 1 ≤ at_ ∧ at_ ≤ 30) (hw : fOk w = true)
include hk lv hV ha hw
theorem hide1 (g n : Int) (d : Nat) : ∀ (k u : Nat) (m : Int), u + d = 31 → 0 ≤ m ∧ m + (d : Int) ≤ 1000 → d + 400 ≤ k → laws_FnAskHide.l1 k kind at_ w q v g n m (u : Int) = (if n = 1 then (if m + cnt (fun s => decide (hv at_ (thr (s :: decC 1 v)) = g)) d u = 1 then some ((q.length : Int) == 4) else some false) else some false) := by
  induction d with
  | zero =>
    intro k u m hu hm hk'
    obtain ⟨k, rfl⟩ : ∃ j, k = j + 1 := ⟨k - 1, by omega⟩
    simp only [laws_FnAskHide.l1]
    rw [if_neg (by omega)]
    simp only [cnt_zero, Int.add_zero]
  | succ d ih =>
    intro k u m hu hm hk'
    obtain ⟨k, rfl⟩ : ∃ j, k = j + 1 := ⟨k - 1, by omega⟩
    simp only [laws_FnAskHide.l1]
    rw [cnt_succ]
    obtain ⟨h, q2, q3, s1, s2, s3⟩ := hide_step k kind v 0 (u : Int) at_ w hk lv hV rfl ((fOk_iff _).2 (by omega)) ha hw (by omega)
    rw [if_pos (by omega), s1, Option.bind_some]
    simp only
    rw [s2, Option.bind_some]
    simp only
    rw [s3, Option.bind_some]
    simp only
    rw [if_pos (by simp), w64 (a := m + 1) (by omega) (by omega), w64 (a := (u : Int) + 1) (by omega) (by omega)]
    have r1 : rd [hv at_ (thr (0 :: v)), hv at_ (thr ((u : Int) :: decC 1 v)), q2, q3] 1 = hv at_ (thr ((u : Int) :: decC 1 v)) := rfl
    rw [r1]
    by_cases hc : hv at_ (thr ((u : Int) :: decC 1 v)) = g
    · have e := ih k (u + 1) (m + 1) (by omega) (by omega) (by omega)
      rw [if_pos hc, if_pos (decide_eq_true hc), ← Int.add_assoc]
      exact e
    · have e := ih k (u + 1) m (by omega) (by omega) (by omega)
      rw [if_neg hc, if_neg (show ¬ decide (hv at_ (thr ((u : Int) :: decC 1 v)) = g) = true by simpa using hc), Int.zero_add]
      exact e
theorem hide0 (f g : Int) (d : Nat) : ∀ (k u : Nat) (n : Int), u + d = 31 → 0 ≤ n ∧ n + (d : Int) ≤ 1000 → d + 500 ≤ k → laws_FnAskHide.l0 k kind at_ w q v f g n (u : Int) = (if n + cnt (fun s => decide (hv at_ (thr (s :: v)) = f)) d u = 1 then (if cnt (fun s => decide (hv at_ (thr (s :: decC 1 v)) = g)) 31 0 = 1 then some ((q.length : Int) == 4) else some false) else some false) := by
  induction d with
  | zero =>
    intro k u n hu hn hk'
    obtain ⟨k, rfl⟩ : ∃ j, k = j + 1 := ⟨k - 1, by omega⟩
    simp only [laws_FnAskHide.l0]
    have e := hide1 (q := q) hk lv hV ha hw g n 31 k 0 0 (by omega) (by omega) (by omega)
    rw [if_neg (by omega)]
    refine Eq.trans e ?_
    simp only [cnt_zero, Int.add_zero, Int.zero_add]
  | succ d ih =>
    intro k u n hu hn hk'
    obtain ⟨k, rfl⟩ : ∃ j, k = j + 1 := ⟨k - 1, by omega⟩
    simp only [laws_FnAskHide.l0]
    rw [cnt_succ]
    obtain ⟨h, q2, q3, s1, s2, s3⟩ := hide_step k kind v (u : Int) 0 at_ w hk lv hV ((fOk_iff _).2 (by omega)) rfl ha hw (by omega)
    rw [if_pos (by omega), s1, Option.bind_some]
    simp only
    rw [s2, Option.bind_some]
    simp only
    rw [s3, Option.bind_some]
    simp only
    rw [if_pos (by simp), w64 (a := n + 1) (by omega) (by omega), w64 (a := (u : Int) + 1) (by omega) (by omega)]
    have r1 : rd [hv at_ (thr ((u : Int) :: v)), hv at_ (thr (0 :: decC 1 v)), q2, q3] 0 = hv at_ (thr ((u : Int) :: v)) := rfl
    rw [r1]
    by_cases hc : hv at_ (thr ((u : Int) :: v)) = f
    · have e := ih k (u + 1) (n + 1) (by omega) (by omega) (by omega)
      rw [if_pos hc, if_pos (decide_eq_true hc), ← Int.add_assoc]
      exact e
    · have e := ih k (u + 1) n (by omega) (by omega) (by omega)
      rw [if_neg hc, if_neg (show ¬ decide (hv at_ (thr ((u : Int) :: v)) = f) = true by simpa using hc), Int.zero_add]
      exact e
end
theorem encV_ok (kind val : Int) (hk : kOk kind = true) (h : 0 ≤ val ∧ val ≤ 1) : ((encV kind val).length : Int) = tLen kind ∧ (encV kind val).all fOk = true ∧ val < mVals kind := by
  have hk' : kind = 1 ∨ kind = 2 ∨ kind = 3 := by simpa [kOk] using hk
  have hv' : val = 0 ∨ val = 1 := by omega
  rcases hk' with rfl | rfl | rfl <;> rcases hv' with rfl | rfl <;> decide
theorem FnAskHide : laws_FnAskHide.Pure := by
  intro l0 m0 _ _ hb hm0 _ _
  refine ⟨3000, ?_⟩
  unfold laws_FnAskHide.f
  by_cases h : (l0.length : Int) > 1048576
  · rw [if_pos h]; rfl
  rw [if_neg h]
  by_cases h2 : (m0.length : Int) > 1048576
  · rw [decide_eq_true h2]; rfl
  rw [decide_eq_false h2]
  simp only [laws_FnAskHide.j0]
  rw [if_neg (by simp)]
  obtain ⟨kind, v, first, a, w, e1, hl⟩ := drawQueryAsk_f l0 (bytes_of hb) 2999 (by omega)
  rw [e1, Option.bind_some]
  simp only
  obtain ⟨q1, q2⟩ := queryAsk_both 2999 kind v (by omega) (by omega) first a w
  rw [q1, Option.bind_some, q2, Option.bind_some]
  cases hm : askMay kind v a w
  · rw [if_neg (by simp)]
    rw [if_neg (by simp), loInts_f _ [] [] (by simp) (by simp), Option.bind_some, if_pos (by simp)]
    simp only [laws_FnAskHide.j1]
    rw [if_pos (by rfl), if_pos (by rfl), loInts_f _ [] [] (by simp) (by simp), Option.bind_some]
    simp
  · rw [if_pos rfl]
    simp only
    have l4 := askV_length kind v first a w
    rw [if_neg (by simp), loInts_f _ _ _ (by omega) (by omega), Option.bind_some, if_pos (by simp)]
    simp only [laws_FnAskHide.j1]
    rw [if_neg (by simp)]
    have hm' := hm
    unfold askMay at hm'
    simp only [Bool.and_eq_true, decide_eq_true_eq] at hm'
    obtain ⟨⟨⟨⟨hk, h2, h3⟩, h4⟩, h5⟩, h6⟩ := hm'
    have ht := tLen_le kind
    obtain ⟨b1, b2, b3⟩ := encV_ok kind ((m0.length : Int) % 2) hk (by omega)
    unfold impl_TypeMake.f
    rw [if_pos hk, if_pos ⟨by omega, b3⟩, Option.bind_some]
    simp only
    rw [if_pos trivial]
    unfold laws_loNum.f
    rw [Option.bind_some, Option.bind_some, w64 (a := (m0.length : Int) * 5) (by omega) (by omega), w64 (a := (m0.length : Int) * 3) (by omega) (by omega), w64 (by omega) (by omega), Int.tmod_eq_emod_of_nonneg (by omega), Int.tmod_eq_emod_of_nonneg (by omega)]
    have hn := tLen_n hk
    have e := hide0 (q := askV kind v first a w) hk b1 b2 ⟨h2, h3⟩ h4 (((m0.length : Int) * 5) % 31) (((m0.length : Int) * 3 + 1) % 31) 31 2998 0 0 (by omega) (by omega) (by omega)
    refine Eq.trans e ?_
    rw [Int.zero_add, cnt_thr _ _ hn (by omega) a _ (by omega) h3 (by omega), if_pos rfl, cnt_thr _ _ hn (by rw [decC_length]; omega) a _ (by omega) h3 (by omega), if_pos rfl, l4]
    rfl
end Go.Proofs.YtlgbblaidohljaaGreatDoor.Pure
