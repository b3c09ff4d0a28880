import Derived.Test.YtlgbblaidohljaaGreatDoorQGaZk
import Derived.Test.YtlgbblaidohljaaGreatDoorQGbZk
import Derived.Test.YtlgbblaidohljaaGreatDoorZk1
import Derived.Test.YtlgbblaidohljaaGreatDoorZk4
import Derived.Test.YtlgbblaidohljaaGreatDoorZk5
import Derived.Test.YtlgbblaidohljaaGreatDoorZk6
import Derived.Test.YtlgbblaidohljaaGreatDoorZk8
import Derived.Test.YtlgbblaidohljaaGreatDoorZk9
set_option linter.unusedVariables false
set_option linter.unusedSimpArgs false
namespace Go.Proofs.YtlgbblaidohljaaGreatDoor.Q
open Go.RowKit Go.Proofs.YtlgbblaidohljaaGreatDoor.Zk Go.Proofs.YtlgbblaidohljaaGreatDoorT.PrintWords Go.Proofs.YtlgbblaidohljaaGreatDoorT.PrintLast Go.Proofs.YtlgbblaidohljaaGreatDoorT.PrintMore
def chk (w : Int) (h : List Int) : Nat → Int | 0 => 0 | j + 1 => (chk w h j + pw w j * hv ((j : Int) + 1) h) % 31
theorem chk_bd (w : Int) (h : List Int) (j : Nat) : 0 ≤ chk w h j ∧ chk w h j ≤ 30 := by
  cases j with
  | zero => show (0 : Int) ≤ 0 ∧ (0 : Int) ≤ 30; omega
  | succ j => rw [chk]; omega
def hotv (kind w c : Int) (v : List Int) (s : Int) : Int := if kind = 2 then (s + pw w v.length * ((totv v - c) % 31)) % 31 else s
def thr (A : List Int) : List Int := (thrL A.length).map (LF.ev (lfOf A))
def askV (kind : Int) (l : List Int) (first : Bool) (a w : Int) : List Int :=
  let n := (tLen kind).toNat; let v := l.take n; let h := l.drop (n + 2); let c : Int := if first then 1 else 0
  [hv a (thr (rd l (tLen kind) :: v)), hv a (thr (rd l (tLen kind + 1) :: decC c v)), hv a h, hotv kind w c v (chk w h n)]
theorem hotv_bd (kind w c : Int) (v : List Int) (s : Int) (hs : 0 ≤ s ∧ s ≤ 30) : 0 ≤ hotv kind w c v s ∧ hotv kind w c v s ≤ 30 := by
  unfold hotv; split <;> omega
theorem askV_all (kind : Int) (l : List Int) (first : Bool) (a w : Int) : (askV kind l first a w).all fOk = true := by
  simp only [askV, List.all_cons, List.all_nil, Bool.and_true, Bool.and_eq_true, fOk_iff]
  exact ⟨hv_bd _ _, hv_bd _ _, hv_bd _ _, hotv_bd _ _ _ _ _ (chk_bd _ _ _)⟩
theorem askV_length (kind : Int) (l : List Int) (first : Bool) (a w : Int) : (askV kind l first a w).length = 4 := rfl
theorem mulAdd (s p x : Int) (hs : 0 ≤ s ∧ s ≤ 30) (hp : 0 ≤ p ∧ p ≤ 30) (hx : 0 ≤ x ∧ x ≤ 30) : Int.tmod (wrap64 (s + wrap64 (p * x))) 31 = (s + p * x) % 31 := by
  have := mul_bd' hp hx
  rw [w64 (a := p * x) (by omega) (by omega), w64 (by omega) (by omega), Int.tmod_eq_emod_of_nonneg (by omega)]
theorem askL0 (k : Nat) (w : Int) (hw : 0 ≤ w ∧ w ≤ 30) (h : List Int) (hh : h.all fOk = true) (lh : h.length ≤ 1000) (n : Nat) (hn : n ≤ 4) (hk : 10 < k) (d : Nat) : ∀ j : Nat, j + d = n → impl_ask.l0 k w h d j (chk w h j) = some (chk w h n) := by
  induction d with
  | zero =>
    intro j hj
    obtain rfl : j = n := by omega
    rfl
  | succ d ih =>
    intro j hj
    have hb := hv_bd ((j : Int) + 1) h
    have hc := chk_bd w h j
    have hp := pw_bd w j
    simp only [impl_ask.l0]
    rw [power_f k w hw j (by omega) (by omega), Option.bind_some, value_f _ (by omega) h hh (by omega), Option.bind_some, elTimes_f _ _ hp hb, Option.bind_some, elPlus_f _ _ hc (by omega), Option.bind_some, show (chk w h j + (pw w j * hv ((j : Int) + 1) h) % 31) % 31 = chk w h (j + 1) by rw [chk]; omega]
    exact ih (j + 1) (by omega)
theorem askHot (k : Nat) (kind w c : Int) (hw : 0 ≤ w ∧ w ≤ 30) (hc : 0 ≤ c ∧ c ≤ 30) (v : List Int) (hv' : v.all fOk = true) (lv : v.length ≤ 4) (s : Int) (hs : 0 ≤ s ∧ s ≤ 30) (hk : 10 < k) : impl_ask.hot k kind w c v s = some (hotv kind w c v s) := by
  unfold impl_ask.hot impl_oneHot.f hotv
  rw [Option.bind_some]
  by_cases h : kind = 2
  · have hp := pw_bd w v.length
    rw [if_pos (by simp [h]), power_f k w hw _ (by omega) (by omega), Option.bind_some, total_f k v hv' (by omega) (by omega), Option.bind_some, elMinus_f _ _ (totv_bd v) hc, Option.bind_some, elTimes_f _ _ hp (by omega), Option.bind_some, elPlus_f _ _ hs (by omega), if_pos h]
    congr 1; omega
  · rw [if_neg (by simp [h]), if_neg h]
theorem specLoop (kind a w c u q : Int) (v L h : List Int) (K : Nat) (hw : 0 ≤ w ∧ w ≤ 30) (hc : fOk c = true) (hv' : v.all fOk = true) (lv : v.length ≤ 4) (hh : h.all fOk = true) (lh : h.length ≤ 1000) (d : Nat) : ∀ (k j : Nat), j + d = v.length → d + h.length + K + 20 < k →
    ∃ k', K < k' ∧ spec_l13Ask.l0 k kind a w v c L (q :: decC c (v.take j)) (chk w h j) (pw w j) (totv (v.take j)) (j : Int) u q h = spec_l13Ask.j2 k' a v L (q :: decC c v) (hotv kind w c v (chk w h v.length)) u q h := by
  induction d with
  | zero =>
    intro k j hj hk
    obtain ⟨k, rfl⟩ : ∃ m, k = m + 1 := ⟨k - 1, by omega⟩
    obtain rfl : j = v.length := by omega
    refine ⟨k, by omega, ?_⟩
    simp only [spec_l13Ask.l0]
    rw [if_neg (by omega), List.take_length]
    unfold hotv
    by_cases h2 : kind = 2
    · rw [if_pos h2, if_pos h2, fieldDif_f _ _ ((fOk_iff _).2 (totv_bd v)) hc, Option.bind_some, mulAdd _ _ _ (chk_bd _ _ _) (pw_bd _ _) (by omega)]
    · rw [if_neg h2, if_neg h2]
  | succ d ih =>
    intro k j hj hk
    obtain ⟨k, rfl⟩ : ∃ m, k = m + 1 := ⟨k - 1, by omega⟩
    have h1 : j < v.length := by omega
    have hx := (fOk_iff _).1 (all_get hv' j h1)
    have ht := totv_bd (v.take j)
    have hp := pw_bd w j
    simp only [spec_l13Ask.l0]
    rw [if_pos (by omega), if_pos (by omega), rd_nat v j h1, fieldDif_f _ _ (all_get hv' j h1) hc, Option.bind_some, if_pos (by simp [decC]; omega), w64 (a := (j : Int) + 1) (by omega) (by omega), at_f k _ (by omega) h hh (by omega) (by omega), Option.bind_some,
      mulAdd _ _ _ (chk_bd _ _ _) hp (hv_bd _ _), w64 (a := totv (v.take j) + v[j]) (by omega) (by omega), Int.tmod_eq_emod_of_nonneg (a := totv (v.take j) + v[j]) (by omega)]
    have e1 : Int.tmod (wrap64 (pw w j * w)) 31 = pw w (j + 1) := by
      have := mul_bd' hp hw
      rw [w64 (by omega) (by omega), Int.tmod_eq_emod_of_nonneg (by omega)]; rfl
    obtain ⟨k', hk', e⟩ := ih k (j + 1) (by omega) (by omega)
    refine ⟨k', hk', ?_⟩
    rw [← e, e1, List.take_succ_eq_append_getElem h1, decC_snoc, totv_snoc]
    rfl
theorem specSide (k : Nat) (hk : 199 ≤ k) (kind a w c u q : Int) (v L h : List Int) (n : Nat) (lv : v.length = n) (n4 : n ≤ 4) (lh : h.length ≤ 20) (l1 : spec_l2Line.f 90 ((n + 1 : Nat) : Int) a = some L) (l2 : L.length = n + 1) (l3 : L.all fOk = true)
    (hva : v.all fOk = true) (hh : h.all fOk = true) (hu : fOk u = true) (hq : fOk q = true) (hcf : fOk c = true) (hat : 0 ≤ a ∧ a ≤ 30) (hw : 0 ≤ w ∧ w ≤ 30) :
    spec_l13Ask.j0 (k + 1) kind a w v c u q h = some [dotv L (u :: v), dotv L (q :: decC c v), hv a h, hotv kind w c v (chk w h v.length)] := by
  have o1 : (90 : Nat) ≤ k := by omega
  have o2 : v.length ≤ 4 := by omega
  have o3 : h.length ≤ 1000 := by omega
  have o4 : v.length + h.length + 50 + 20 < k := by omega
  have o5 : v.length ≤ 1000 := by omega
  have o6 : L.length = (u :: v).length := by rw [l2, List.length_cons, lv]
  have o7 : L.length = (q :: decC c v).length := by rw [l2, List.length_cons, decC_length, lv]
  have o8 : L.length ≤ 1000 := by omega
  have o9 : h.length ≤ 1000000 := by omega
  have e : wrap64 ((v.length : Int) + 1) = ((n + 1 : Nat) : Int) := by rw [w64 (by omega) (by omega), lv]; omega
  have u1 : (u :: v).all fOk = true := by simp [hu]; simpa using hva
  have u2 : (q :: decC c v).all fOk = true := by have := decC_all c v; simp [hq]; simpa using this
  have lK := leO_le (fun k => spec_l2Line.mono ((n + 1 : Nat) : Int) a k) o1 l1
  simp only [spec_l13Ask.j0]
  rw [e, lK, Option.bind_some]
  obtain ⟨k', hk', e2⟩ := specLoop kind a w c u q v L h 50 hw hcf hva o2 hh o3 v.length k 0 (Nat.zero_add _) o4
  have q1 : L.length < k' := by omega
  have q2 : h.length < k' := by omega
  obtain ⟨m, rfl⟩ : ∃ m, k' = m + 1 := ⟨k' - 1, by omega⟩
  have q3 : L.length < m := by omega
  have q4 : h.length < m := by omega
  have t0 : decC c (v.take 0) = [] := rfl
  have t1 : chk w h 0 = 0 := rfl
  have t2 : pw w 0 = 1 := rfl
  have t3 : totv (v.take 0) = 0 := rfl
  rw [t0, t1, t2, t3] at e2
  refine Eq.trans e2 ?_
  simp only [spec_l13Ask.j2]
  rw [first_f u v o5, Option.bind_some, dot_f m L (u :: v) l3 u1 o6 o8 q3, Option.bind_some, dot_f m L (q :: decC c v) l3 u2 o7 o8 q3, Option.bind_some, at_f m a hat h hh o9 q4, Option.bind_some]
theorem ask_both (k : Nat) (hk : 200 ≤ k) (kind : Int) (hkind : kOk kind = true) (l : List Int) (hl : (l.length : Int) = 3 * tLen kind + 3) (ha : l.all fOk = true) (first : Bool) (a w : Int) (hat : 0 ≤ a ∧ a ≤ 30) (hw : fOk w = true) :
    spec_l13Ask.f k kind l first a w = some (askV kind l first a w) ∧ impl_ask.f k kind l first a w = some (askV kind l first a w) := by
  have ht := tLen_le kind
  have hn := tLen_n hkind
  have hw' := (fOk_iff _).1 hw
  obtain ⟨c1, c2⟩ := cut_f kind l hl
  have lv : (l.take (tLen kind).toNat).length = (tLen kind).toNat := by rw [List.length_take]; omega
  have hv' := all_take ha (tLen kind).toNat
  have hh := all_drop ha ((tLen kind).toNat + 2)
  have lh : (l.drop ((tLen kind).toNat + 2)).length ≤ 20 := by rw [List.length_drop]; omega
  have hu : fOk (rd l (tLen kind)) = true := (fOk_iff _).2 (rd_fOk ha _)
  have hq : fOk (rd l (tLen kind + 1)) = true := (fOk_iff _).2 (rd_fOk ha _)
  unfold askV
  simp only
  generalize rd l (tLen kind) = u at *
  generalize rd l (tLen kind + 1) = q at *
  generalize hv0 : l.take (tLen kind).toNat = v at *
  generalize l.drop ((tLen kind).toNat + 2) = h at *
  have hc : ∀ c : Int, (c = 0 ∨ c = 1) → (0 ≤ c ∧ c ≤ 30) ∧ fOk c = true := fun c hc => by rcases hc with rfl | rfl <;> exact ⟨by omega, rfl⟩
  have e0 : (if first = true then (1 : Int) else 0) = 0 ∨ (if first = true then (1 : Int) else 0) = 1 := by cases first <;> simp
  obtain ⟨hcb, hcf⟩ := hc _ e0
  have hsp : spec_l13Ask.f k kind l first a w = spec_l13Ask.j0 k kind a w v (if first = true then 1 else 0) u q h := by
    unfold spec_l13Ask.f
    rw [c2, Option.bind_some]
    cases first <;> simp
  generalize hce : (if first = true then (1 : Int) else 0) = c at *
  obtain ⟨L, f, l1, l2, l3, l4, l5, l6, l7, l8⟩ := lineDot _ hn (u :: v) (by simp [lv]) (by simp [hu]; simpa using hv') a hat
  obtain ⟨L', g, m1, m2, m3, m4, m5, m6, m7, m8⟩ := lineDot _ hn (q :: decC c v) (by simp [lv, decC_length]) (by have := decC_all c v; simp [hq]; simpa using this) a hat
  obtain rfl : L = L' := by rw [l1] at m1; exact Option.some.inj m1
  have t1 : thr (u :: v) = f := by rw [l8]; unfold thr; rw [List.length_cons, lv]
  have t2 : thr (q :: decC c v) = g := by rw [m8]; unfold thr; rw [List.length_cons, decC_length, lv]
  rw [t1, t2]
  have lv4 : v.length ≤ 4 := by clear l7 l8 m7 m8; omega
  have L7 := Aside0.mk l7
  have M7 := Aside0.mk m7
  clear l7 m7 l8 m8 t1 t2
  constructor
  · rw [hsp]
    obtain ⟨k, rfl⟩ : ∃ m, k = m + 1 := ⟨k - 1, by omega⟩
    rw [specSide k (by omega) kind a w c u q v L h (tLen kind).toNat lv (by omega) lh l1 l2 l3 hv' hh hu hq hcf hat hw', L7.out, M7.out, lv]
  · unfold impl_ask.f
    rw [c1, Option.bind_some]
    simp only
    rw [hce, ahead_f u v (by omega), Option.bind_some, l4, Option.bind_some, value_f a hat f l6 (by omega), Option.bind_some, loweredC_f k c hcb v (by omega) hv' (by omega), Option.bind_some, ahead_f q _ (by rw [decC_length]; omega), Option.bind_some, m4, Option.bind_some, value_f a hat g m6 (by omega), Option.bind_some, value_f a hat h hh (by omega), Option.bind_some,
      show impl_ask.l0 k w h v.length 0 0 = some (chk w h v.length) from askL0 k w hw' h hh (by omega) v.length lv4 (by omega) v.length 0 (by omega), Option.bind_some, askHot k kind w c hw' hcb v hv' lv4 _ (chk_bd _ _ _) (by omega), Option.bind_some, lv]
def askMay (kind : Int) (l : List Int) (a w : Int) : Bool := kOk kind && (decide (tLen kind + 1 ≤ a) && decide (a ≤ 30)) && fOk w && decide ((l.length : Int) = 3 * tLen kind + 3) && l.all fOk
theorem queryMay_f (kind a : Int) : spec_QueryMay.f kind a = some (kOk kind && (decide (tLen kind + 1 ≤ a) && decide (a ≤ 30))) ∧ impl_QueryMay.f kind a = some (kOk kind && (decide (tLen kind + 1 ≤ a) && decide (a ≤ 30))) := by
  have ht := tLen_le kind
  constructor
  · unfold spec_QueryMay.f
    rw [l11Kind_f, Option.bind_some]
    cases h : kOk kind
    · rfl
    · rw [if_pos rfl, specTypeLen_f, Option.bind_some, w64 (by omega) (by omega), l6In_f]; rfl
  · unfold impl_QueryMay.f impl_kindOk.f impl_TypeLen.f
    rw [Option.bind_some]
    cases h : kOk kind
    · rfl
    · rw [if_pos rfl, Option.bind_some, w64 (by omega) (by omega), within_f]; rfl
theorem queryAsk_i (k : Nat) (kind : Int) (l : List Int) (hl : l.length ≤ 1048576000) (hk : l.length + 200 ≤ k) (first : Bool) (a w : Int) :
    impl_QueryAsk.f k kind l first a w = some (if askMay kind l a w = true then (askV kind l first a w, true) else ([], false)) := by
  have ht := tLen_le kind
  obtain ⟨p1, p2⟩ := proofLen_f kind
  obtain ⟨q1, q2⟩ := queryMay_f kind a
  unfold impl_QueryAsk.f askMay
  rw [q2, Option.bind_some]
  cases hkind : kOk kind
  · rfl
  cases hat : (decide (tLen kind + 1 ≤ a) && decide (a ≤ 30))
  · rfl
  have hat' : 0 ≤ a ∧ a ≤ 30 := by simp at hat; omega
  rw [if_pos (show (true && true) = true from rfl), implFieldOk_f, Option.bind_some]
  cases hw : fOk w
  · rfl
  rw [if_pos rfl, p2, hkind, Option.bind_some, if_pos rfl, sizedN_f _ _ _ (by omega), hkind, Option.bind_some]
  by_cases h1 : (l.length : Int) = 3 * tLen kind + 3
  · cases h2 : l.all fOk
    · rw [if_neg (by simp)]; simp
    · obtain ⟨b1, b2⟩ := ask_both k (by omega) kind hkind l h1 h2 first a w hat' hw
      rw [if_pos (by simp [h1]), b2, Option.bind_some, if_pos (by simp [h1])]
  · rw [if_neg (by simp [h1]), if_neg (by simp [h1])]
end Go.Proofs.YtlgbblaidohljaaGreatDoor.Q
