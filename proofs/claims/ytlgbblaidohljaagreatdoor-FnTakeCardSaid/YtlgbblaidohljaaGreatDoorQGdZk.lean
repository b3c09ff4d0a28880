import Derived.KernelRfl
import Derived.Test.YtlgbblaidohljaaGreatDoorQAsk3Zk
import Derived.Test.YtlgbblaidohljaaGreatDoorQGaZk
import Derived.Test.YtlgbblaidohljaaGreatDoorQGbZk
import Derived.Test.YtlgbblaidohljaaGreatDoorQGcZk
import Derived.Test.YtlgbblaidohljaaGreatDoorZk1
import Derived.Test.YtlgbblaidohljaaGreatDoorZk10
import Derived.Test.YtlgbblaidohljaaGreatDoorZk11
import Derived.Test.YtlgbblaidohljaaGreatDoorZk12
import Derived.Test.YtlgbblaidohljaaGreatDoorZk13
import Derived.Test.YtlgbblaidohljaaGreatDoorZk14
import Derived.Test.YtlgbblaidohljaaGreatDoorZk15
import Derived.Test.YtlgbblaidohljaaGreatDoorZk16
import Derived.Test.YtlgbblaidohljaaGreatDoorZk17
import Derived.Test.YtlgbblaidohljaaGreatDoorZk18
import Derived.Test.YtlgbblaidohljaaGreatDoorZk19
import Derived.Test.YtlgbblaidohljaaGreatDoorZk2
import Derived.Test.YtlgbblaidohljaaGreatDoorZk6
set_option linter.unusedVariables false
set_option linter.unusedSimpArgs false
namespace Go.Proofs.YtlgbblaidohljaaGreatDoor.Q
open Go.RowKit Go.Proofs.YtlgbblaidohljaaGreatDoor.Zk Go.Proofs.YtlgbblaidohljaaGreatDoorT.PrintWords Go.Proofs.YtlgbblaidohljaaGreatDoorT.PrintLast Go.Proofs.YtlgbblaidohljaaGreatDoorT.PrintMore
theorem l2Through2_raw (a b : Int) : spec_l2Through.f 90 [a, b] = some [(lin (lin 0 a 1) b 0), (lin (lin 0 a 30) b 1)] := by kernel_rfl
theorem l2Through4_raw (a b c d : Int) : spec_l2Through.f 90 [a, b, c, d] = some [(lin (lin (lin (lin 0 a 1) b 0) c 0) d 0), (lin (lin (lin (lin 0 a 24) b 3) c 14) d 21), (lin (lin (lin (lin 0 a 1) b 13) c 2) d 15), (lin (lin (lin (lin 0 a 5) b 16) c 15) d 26)] := by kernel_rfl
theorem l2Through5_raw (a b c d e : Int) : spec_l2Through.f 90 [a, b, c, d, e] = some [(lin (lin (lin (lin (lin 0 a 1) b 0) c 0) d 0) e 0), (lin (lin (lin (lin (lin 0 a 16) b 4) c 28) d 22) e 23), (lin (lin (lin (lin (lin 0 a 26) b 6) c 28) d 8) e 25), (lin (lin (lin (lin (lin 0 a 28) b 17) c 29) d 27) e 23), (lin (lin (lin (lin (lin 0 a 22) b 5) c 8) d 5) e 22)] := by kernel_rfl
theorem mulB {a b : Int} (ha : 0 ≤ a ∧ a ≤ 30) (hb : 0 ≤ b ∧ b ≤ 30) : 0 ≤ a * b ∧ a * b ≤ 900 := by
  refine ⟨Int.mul_nonneg ha.1 hb.1, ?_⟩
  have h1 : a * b ≤ 30 * b := Int.mul_le_mul_of_nonneg_right ha.2 hb.1
  omega
theorem lin_fOk {o v c : Int} (ho : fOk o = true) (hv0 : fOk v = true) (hc : fOk c = true) : fOk (lin o v c) = true := by
  have h1 := (fOk_iff _).1 ho
  have h2 := mulB ((fOk_iff _).1 hv0) ((fOk_iff _).1 hc)
  unfold lin
  rw [w64 (a := v * c) (by omega) (by omega), w64 (by omega) (by omega), Int.tmod_eq_emod_of_nonneg (by omega)]
  exact fOk_mod _
theorem thrS (n : Nat) (hn : n = 2 ∨ n = 4 ∨ n = 5) (A : List Int) (lA : A.length = n) (hA : A.all fOk = true) : ∃ r : List Int, spec_l2Through.f 90 A = some r ∧ r.length = n ∧ r.all fOk = true := by
  rcases hn with rfl | rfl | rfl
  · obtain ⟨a, b, rfl⟩ := list2 A lA
    simp only [List.all_cons, List.all_nil, Bool.and_true, Bool.and_eq_true] at hA
    obtain ⟨ha, hb⟩ := hA
    refine ⟨_, l2Through2_raw a b, rfl, ?_⟩
    simp only [List.all_cons, List.all_nil, Bool.and_true, Bool.and_eq_true]
    refine ⟨?_, ?_⟩ <;> (repeat (first | exact ha | exact hb | rfl | refine lin_fOk ?_ ?_ ?_))
  · obtain ⟨a, b, c, d, rfl⟩ := list4' A lA
    simp only [List.all_cons, List.all_nil, Bool.and_true, Bool.and_eq_true] at hA
    obtain ⟨ha, hb, hc, hd⟩ := hA
    refine ⟨_, l2Through4_raw a b c d, rfl, ?_⟩
    simp only [List.all_cons, List.all_nil, Bool.and_true, Bool.and_eq_true]
    refine ⟨?_, ?_, ?_, ?_⟩ <;> (repeat (first | exact ha | exact hb | exact hc | exact hd | rfl | refine lin_fOk ?_ ?_ ?_))
  · obtain ⟨a, b, c, d, e, rfl⟩ := list5 A lA
    simp only [List.all_cons, List.all_nil, Bool.and_true, Bool.and_eq_true] at hA
    obtain ⟨ha, hb, hc, hd, he⟩ := hA
    refine ⟨_, l2Through5_raw a b c d e, rfl, ?_⟩
    simp only [List.all_cons, List.all_nil, Bool.and_true, Bool.and_eq_true]
    refine ⟨?_, ?_, ?_, ?_, ?_⟩ <;> (repeat (first | exact ha | exact hb | exact hc | exact hd | exact he | rfl | refine lin_fOk ?_ ?_ ?_))
theorem mulStepS (o a b : Int) (ho : 0 ≤ o ∧ o ≤ 30) (ha : 0 ≤ a ∧ a ≤ 30) (hb : 0 ≤ b ∧ b ≤ 30) : Int.tmod (wrap64 (o + wrap64 (a * b))) 31 = (o + (a * b) % 31) % 31 := by
  have := mulB ha hb
  rw [w64 (a := a * b) (by omega) (by omega), w64 (by omega) (by omega), Int.tmod_eq_emod_of_nonneg (by omega)]
  omega
theorem mulS_inv (A B : List Int) (hA : A.all fOk = true) (hB : B.all fOk = true) (lA : A.length ≤ 1000) (lB : B.length ≤ 1000) (r : List Int) : ∀ k : Nat,
    (∀ (o : List Int) (i j : Int), 0 ≤ i → i < A.length → 0 ≤ j → o.all fOk = true → o.length + 1 = A.length + B.length → spec_l2Mul.l1 k A B o i j = some r → r.all fOk = true ∧ r.length = o.length) ∧
    (∀ (o : List Int) (i : Int), 0 ≤ i → o.all fOk = true → o.length + 1 = A.length + B.length → spec_l2Mul.l0 k A B o i = some r → r.all fOk = true ∧ r.length = o.length) := by
  intro k
  induction k with
  | zero => exact ⟨fun _ _ _ _ _ _ _ _ h => by simp [spec_l2Mul.l1] at h, fun _ _ _ _ _ h => by simp [spec_l2Mul.l0] at h⟩
  | succ k ih =>
    refine ⟨fun o i j hi hi2 hj ho hl hr => ?_, fun o i hi ho hl hr => ?_⟩
    · simp only [spec_l2Mul.l1] at hr
      by_cases h : j < (B.length : Int)
      · rw [if_pos h, w64 (a := i + j) (by omega) (by omega), if_pos (by omega), if_pos (by omega), if_pos hi, if_pos hi2, if_pos hj, mulStepS _ _ _ (rd_fOk ho _) (rd_fOk hA _) (rd_fOk hB _), w64 (a := j + 1) (by omega) (by omega)] at hr
        have := ih.1 _ _ _ hi hi2 (by omega) (all_set ho _ _ (fOk_mod _)) (by rw [List.length_set]; exact hl) hr
        rw [List.length_set] at this
        exact this
      · rw [if_neg h, w64 (by omega) (by omega)] at hr
        exact ih.2 _ _ (by omega) ho hl hr
    · simp only [spec_l2Mul.l0] at hr
      by_cases h : i < (A.length : Int)
      · rw [if_pos h] at hr
        exact ih.1 _ _ _ hi h (by omega) ho hl hr
      · rw [if_neg h] at hr
        obtain rfl := Option.some.inj hr
        exact ⟨ho, rfl⟩
theorem mulS_f (k : Nat) (A B r : List Int) (hA : A.all fOk = true) (hB : B.all fOk = true) (lA : A.length ≤ 1000) (lB : B.length ≤ 1000) (pA : 0 < A.length) (pB : 0 < B.length) (hr : spec_l2Mul.f k A B = some r) : r.all fOk = true ∧ r.length + 1 = A.length + B.length := by
  unfold spec_l2Mul.f at hr
  rw [if_neg (by omega)] at hr
  have eb : ((B.length : Int) == 0) = false := by simp; intro h; rw [h] at pB; simp at pB
  rw [eb] at hr
  cases k with
  | zero => simp [spec_l2Mul.j0] at hr
  | succ k =>
    simp only [spec_l2Mul.j0] at hr
    rw [w64 (a := (A.length : Int) + B.length) (by omega) (by omega), w64 (by omega) (by omega), if_neg (by simp), if_pos (by omega), if_pos (by omega)] at hr
    have hl : (List.replicate ((A.length : Int) + B.length - 1).toNat (0 : Int)).length + 1 = A.length + B.length := by rw [List.length_replicate]; omega
    have h2 := (mulS_inv A B hA hB lA lB r k).2 _ 0 (by omega) (zeros_all _) hl hr
    exact ⟨h2.1, by omega⟩
theorem l12MakeS (K : Nat) (hK : 95 ≤ K) (v : List Int) (hlv : v.length = 1 ∨ v.length = 3 ∨ v.length = 4) (hV : v.all fOk = true) (u w : Int) (hu : fOk u = true) (hw : fOk w = true) : ∃ h, spec_l12Make.f K v u w = some (u, w, h) ∧ h.all fOk = true ∧ h.length = 2 * v.length + 1 := by
  have hn : v.length + 1 = 2 ∨ v.length + 1 = 4 ∨ v.length + 1 = 5 := by omega
  have l9 : v.length ≤ 1000 := by omega
  obtain ⟨f, f1, f2, f3⟩ := thrS _ hn (u :: v) rfl (by simp [hu]; simpa using hV)
  obtain ⟨g, g1, g2, g3⟩ := thrS _ hn (w :: dec1 v) (by simp [dec1]) (by have := dec1_all v; simp [hw]; simpa using this)
  obtain ⟨h, h1, _⟩ := mulEx _ hn f g f2 g2
  have f1K : spec_l2Through.f K (u :: v) = some f := leO_le (fun k => spec_l2Through.mono _ k) (by omega) f1
  have g1K : spec_l2Through.f K (w :: dec1 v) = some g := leO_le (fun k => spec_l2Through.mono _ k) (by omega) g1
  have h1K : spec_l2Mul.f K f g = some h := leO_le (fun k => spec_l2Mul.mono _ _ k) (by omega) h1
  obtain ⟨m1, m2⟩ := mulS_f K f g h f3 g3 (by omega) (by omega) (by omega) (by omega) h1K
  unfold spec_l12Make.f
  rw [first_f _ _ l9, Option.bind_some, f1K, Option.bind_some, second_f K v w l9 hV (by omega), Option.bind_some, g1K, Option.bind_some, h1K, Option.bind_some]
  exact ⟨h, rfl, m1, by omega⟩
theorem l4At_f (s a : Int) (hs : 0 ≤ s ∧ s ≤ 999) (ha : 0 ≤ a ∧ a ≤ 20) : ∃ x, spec_l4At.f s a = some x ∧ fOk x = true := by
  unfold spec_l4At.f
  have hd := Int.tdiv_eq_ediv_of_nonneg (b := 31) hs.1
  have hm := Int.tmod_eq_emod_of_nonneg (b := 31) hs.1
  rw [hd, hm]
  have p := mulB (a := a) (b := a) (by omega) (by omega)
  have q := mulB (a := a) (b := s % 31) (by omega) (by omega)
  generalize a * a = x at p
  generalize a * (s % 31) = y at q
  rw [w64 (a := s / 31) (by omega) (by omega), w64 (a := s / 31 * 7) (by omega) (by omega), w64 (a := s + s / 31 * 7) (by omega) (by omega), w64 (a := x) (by omega) (by omega), w64 (a := x * 11) (by omega) (by omega), w64 (a := s + s / 31 * 7 + x * 11) (by omega) (by omega), w64 (a := y) (by omega) (by omega), w64 (a := y * 26) (by omega) (by omega), w64 (a := s + s / 31 * 7 + x * 11 + y * 26) (by omega) (by omega), w64 (a := a * 3) (by omega) (by omega), w64 (by omega) (by omega), Int.tmod_eq_emod_of_nonneg (by omega)]
  exact ⟨_, rfl, fOk_mod _⟩
theorem l4VecS_loop (s n : Int) (hs : 0 ≤ s ∧ s ≤ 999) (hn : 0 ≤ n ∧ n ≤ 20) (d : Nat) : ∀ (k : Nat) (i : Nat) (o : List Int), (i : Int) + d = n → o.length = i → o.all fOk = true → d < k → ∃ r, spec_l4Vec.l0 k s n o (i : Int) = some r ∧ (r.length : Int) = n ∧ r.all fOk = true := by
  induction d with
  | zero =>
    intro k i o hi ho ha hk
    obtain ⟨k, rfl⟩ : ∃ j, k = j + 1 := ⟨k - 1, by omega⟩
    simp only [spec_l4Vec.l0]
    rw [if_neg (by omega)]
    exact ⟨o, rfl, by omega, ha⟩
  | succ d ih =>
    intro k i o hi ho ha hk
    obtain ⟨k, rfl⟩ : ∃ j, k = j + 1 := ⟨k - 1, by omega⟩
    simp only [spec_l4Vec.l0]
    obtain ⟨x, e, hx⟩ := l4At_f s i hs (by omega)
    rw [if_pos (by omega), e, Option.bind_some, if_pos (by omega), w64 (a := (i : Int) + 1) (by omega) (by omega)]
    exact ih k (i + 1) _ (by omega) (by simp; omega) (by rw [List.all_append, ha]; simp [hx]) (by omega)
theorem l3DifS_loop (a b : List Int) (hl : a.length = b.length) (hn : a.length ≤ 1048576000) (ha : a.all fOk = true) (hb : b.all fOk = true) (d : Nat) : ∀ (k : Nat) (i : Nat) (o : List Int), i + d = a.length → o.length = i → o.all fOk = true → d < k → ∃ r, spec_l3Dif.l0 k a b o (i : Int) = some r ∧ r.length = a.length ∧ r.all fOk = true := by
  induction d with
  | zero =>
    intro k i o hi ho hoa hk
    obtain ⟨k, rfl⟩ : ∃ j, k = j + 1 := ⟨k - 1, by omega⟩
    simp only [spec_l3Dif.l0]
    rw [if_neg (by omega)]
    exact ⟨o, rfl, by omega, hoa⟩
  | succ d ih =>
    intro k i o hi ho hoa hk
    obtain ⟨k, rfl⟩ : ∃ j, k = j + 1 := ⟨k - 1, by omega⟩
    simp only [spec_l3Dif.l0]
    have h1 : i < a.length := by omega
    have h2 : i < b.length := by omega
    rw [if_pos (by omega), if_pos (by omega), if_pos (by omega), rd_nat a i h1, rd_nat b i h2, fieldDif_f _ _ (all_get ha i h1) (all_get hb i h2), Option.bind_some, if_pos (by omega), w64 (by omega) (by omega)]
    have := ih k (i + 1) (o ++ [(a[i] - b[i]) % 31]) (by omega) (by simp; omega) (by rw [List.all_append, hoa]; simp [fOk_mod]) (by omega)
    simpa using this
theorem partsOfS (K : Nat) (id kind : Int) (a b : List Int) (hid : 1 ≤ id ∧ id ≤ 99) (hk : kOk kind = true) (hl : (a.length : Int) = 3 * tLen kind + 3) (hl' : (b.length : Int) = 3 * tLen kind + 3) (ha : a.all fOk = true) (hb : b.all fOk = true) (hK : 100 ≤ K) :
    ∃ l, spec_PartsOf.f K id kind a b = some (id, kind, 1, l, id, kind, 2, b, true) ∧ (l.length : Int) = 3 * tLen kind + 3 ∧ l.all fOk = true := by
  have ht := tLen_le kind
  unfold spec_PartsOf.f spec_ShareMake.f
  rw [shareOk_f K a (by omega) (by omega), Option.bind_some, ha, if_pos (by simp; omega), shareOk_f K b (by omega) (by omega), Option.bind_some, hb, if_pos (by simp; omega), if_pos (by omega)]
  obtain ⟨r, e, er, ea⟩ := l3DifS_loop a b (by omega) (by omega) ha hb a.length K 0 [] (by omega) rfl rfl (by omega)
  unfold spec_l3Dif.f
  have e' : spec_l3Dif.l0 K a b [] 0 = some r := e
  have p1 : partOk id kind 1 r = true := by
    unfold partOk
    rw [hk, ea]
    simp only [Bool.and_eq_true, decide_eq_true_eq, Bool.true_and, Bool.and_true]
    omega
  have p2 : partOk id kind 2 b = true := by
    unfold partOk
    rw [hk, hb]
    simp only [Bool.and_eq_true, decide_eq_true_eq, Bool.true_and, Bool.and_true]
    omega
  rw [e', Option.bind_some, Option.bind_some, if_pos (by simp; omega), Option.bind_some]
  simp only [List.nil_append]
  rw [if_pos trivial, specPartOk_f K id kind 1 r (by omega) (by omega), Option.bind_some, p1, if_pos rfl, specPartOk_f K id kind 2 b (by omega) (by omega), Option.bind_some, p2, if_pos rfl]
  exact ⟨r, rfl, by omega, ea⟩
theorem partsMakeS (K : Nat) (id kind val seed : Int) (hid : 1 ≤ id ∧ id ≤ 99) (hk0 : 0 ≤ kind ∧ kind ≤ 4) (hs : 0 ≤ seed ∧ seed ≤ 999) (hK : 1300 ≤ K) :
    (∃ l m, spec_PartsMake.f K id kind val seed = some (id, kind, 1, l, id, kind, 2, m, true) ∧ kOk kind = true ∧ (l.length : Int) = 3 * tLen kind + 3 ∧ (m.length : Int) = 3 * tLen kind + 3 ∧ l.all fOk = true ∧ m.all fOk = true) ∨
    (spec_PartsMake.f K id kind val seed = some (0, 0, 0, [], 0, 0, 0, [], false) ∧ ¬ (kOk kind = true ∧ 0 ≤ val ∧ ∃ mo, spec_l11Most.f kind = some mo ∧ val ≤ mo)) := by
  obtain ⟨K, rfl⟩ : ∃ j, K = j + 1 := ⟨K - 1, by omega⟩
  have ht := tLen_le kind
  unfold spec_PartsMake.f spec_TypeMake.f
  have hno : ∀ v : List Int, spec_PartsMake.j0 (K + 1) id kind seed v true = some (0, 0, 0, [], 0, 0, 0, [], false) := fun v => by
    simp only [spec_PartsMake.j0]
    rfl
  rw [l11Kind_f, Option.bind_some]
  cases hk : kOk kind
  · rw [if_neg (by simp), Option.bind_some]
    exact .inr ⟨hno [], fun h => by simp at h⟩
  have hkr : 1 ≤ kind ∧ kind ≤ 3 := by rw [kOk_iff] at hk; simpa using hk
  obtain ⟨mo, em, m0, m7⟩ := most_f kind (by omega) (by omega)
  rw [if_pos rfl, em, Option.bind_some, l6In_f, Option.bind_some]
  cases hv0 : decide (0 ≤ val) && decide (val ≤ mo)
  · rw [if_neg (by simp), Option.bind_some]
    refine .inr ⟨hno [], fun h => ?_⟩
    obtain ⟨_, h1, mo', e', h2⟩ := h
    obtain rfl := Option.some.inj e'
    rw [decide_eq_true h1, decide_eq_true h2] at hv0
    cases hv0
  have hv1 : 0 ≤ val ∧ val ≤ mo := by simpa using hv0
  obtain ⟨v, e1, l1, a1⟩ := makeOk kind val hkr.1 hkr.2 hv1.1 (by omega)
  have e1K : spec_l11Make.f (K + 1) kind val = some v := leO_le (fun k => spec_l11Make.mono _ _ k) (by omega) e1
  rw [if_pos rfl, e1K, Option.bind_some, Option.bind_some]
  simp only
  rw [if_pos trivial, l6In_f, Option.bind_some, decide_eq_true hs.1, decide_eq_true hs.2]
  simp only [spec_PartsMake.j0]
  rw [if_neg (by simp)]
  obtain ⟨u, eu, hu⟩ := l4At_f seed 19 hs (by omega)
  obtain ⟨w, ew, hw⟩ := l4At_f seed 20 hs (by omega)
  have hlv : v.length = 1 ∨ v.length = 3 ∨ v.length = 4 := by
    rcases tLen_cases hk with ⟨_, e⟩ | ⟨_, e⟩ | ⟨_, e⟩ <;> omega
  obtain ⟨H, e2, aH, lH⟩ := l12MakeS K (by omega) v hlv a1 u w hu hw
  rw [eu, Option.bind_some, ew, Option.bind_some, e2, Option.bind_some]
  unfold spec_l12All.f
  simp only [Option.bind_some, List.nil_append, List.length_nil, List.length_append, List.length_cons]
  rw [if_pos (by omega), if_pos (by omega), if_pos (by omega), Option.bind_some, specProofLen_f, Option.bind_some, if_pos hk]
  obtain ⟨d, e3, d1, d2⟩ := l4VecS_loop seed (3 * tLen kind + 3) hs (by omega) (3 * tLen kind + 3).toNat K 0 [] (by omega) rfl rfl (by omega)
  have e3' : spec_l4Vec.f K seed (3 * tLen kind + 3) = some d := e3
  rw [e3', Option.bind_some]
  obtain ⟨l, e4, l4, l5⟩ := partsOfS K id kind (v ++ [u, w] ++ H) d hid hk (by simp; omega) d1 (by simp only [List.all_append, List.all_cons, List.all_nil, a1, aH, hu, hw]; rfl) d2 (by omega)
  rw [e4, Option.bind_some]
  exact .inl ⟨l, d, rfl, trivial, l4, d1, l5, d2⟩
theorem val_f {b : List Int} {p B : Int} (h : Rdr b p B) (hB : B ≤ 900000) (k : Nat) : ∃ kind val q, spec_l91Val.f (k + 1) b p = some (kind, val, q) ∧ 0 ≤ kind ∧ kind ≤ 4 ∧ Rdr b q (B + 10) := by
  unfold spec_l91Val.f
  obtain ⟨x, e1, r1, x0, x1, _⟩ := pick_f h (by omega) 3 k
  have x2 := x1 (by omega)
  rw [e1, Option.bind_some]
  simp only
  rw [w64 (a := 1 + x) (by omega) (by omega)]
  obtain ⟨mo, em, m0, m7⟩ := most_f (1 + x) (by omega) (by omega)
  rw [em, Option.bind_some, w64 (by omega) (by omega)]
  obtain ⟨y, e2, r2, y0, y1, _⟩ := pick_f r1 (by omega) (mo + 1) k
  rw [e2, Option.bind_some]
  simp only
  obtain ⟨z, e3, r3, z0, z1, _⟩ := pick_f r2 (by omega) 30 k
  rw [e3, Option.bind_some]
  simp only
  by_cases hz : z = 0
  · rw [if_pos hz]
    obtain ⟨kd, q, e4, r4, k0, k4⟩ := l91Kind_f r3 (by omega) k
    rw [e4, Option.bind_some]
    simp only
    obtain ⟨g, e5, r5, _⟩ := pick_f r4 (by omega) 10 k
    rw [e5, Option.bind_some]
    exact ⟨_, _, _, rfl, k0, k4, rdr_le r5 (by omega)⟩
  · rw [if_neg hz]
    exact ⟨_, _, _, rfl, by omega, by omega, rdr_le r3 (by omega)⟩
theorem twoJ {b : List Int} {p B : Int} (h : Rdr b p B) (hB : B ≤ 900000) (k : Nat) (i kd s i' kd' s' : Int) (l l' : List Int) (hl : 0 < l.length) (l20 : l.length ≤ 20) (l20' : l'.length ≤ 20) :
    ∃ a0 a1 a2 x b0 b1 b2 y q, spec_l92Two.j0 (k + 2) b p i kd s l i' kd' s' l' = some (a0, a1, a2, x, b0, b1, b2, y, q) ∧ x.length ≤ 20 ∧ y.length ≤ 20 ∧ Rdr b q (B + 10) := by
  simp only [spec_l92Two.j0]
  obtain ⟨c, e1, r1, _⟩ := pick_f h (by omega) 8 k
  rw [e1, Option.bind_some]
  simp only
  by_cases c0 : c = 0
  · rw [if_pos c0]
    obtain ⟨j, e2, r2, j0, j1, _⟩ := pick_f r1 (by omega) (l.length : Int) k
    have j2 := j1 (by omega)
    obtain ⟨x, e3, r3, _⟩ := pick_f r2 (by omega) 31 k
    rw [e2, Option.bind_some]
    simp only
    rw [e3, Option.bind_some]
    simp only
    rw [if_pos j0, if_pos j2]
    exact ⟨_, _, _, _, _, _, _, _, _, rfl, by simp; omega, l20', rdr_le r3 (by omega)⟩
  rw [if_neg c0]
  by_cases c1 : c = 1
  · rw [if_pos c1]
    obtain ⟨x, e3, r3, _⟩ := pick_f r1 (by omega) 12 k
    rw [e3, Option.bind_some]
    exact ⟨_, _, _, _, _, _, _, _, _, rfl, l20, l20', rdr_le r3 (by omega)⟩
  rw [if_neg c1]
  by_cases c2 : c = 2
  · rw [if_pos c2]
    obtain ⟨x, e3, r3, _⟩ := pick_f r1 (by omega) 3 k
    rw [e3, Option.bind_some]
    simp only
    by_cases x0 : x = 0
    · rw [if_pos x0]
      exact ⟨_, _, _, _, _, _, _, _, _, rfl, l20', l20, rdr_le r3 (by omega)⟩
    · rw [if_neg x0]
      exact ⟨_, _, _, _, _, _, _, _, _, rfl, l20, l20', rdr_le r3 (by omega)⟩
  rw [if_neg c2]
  exact ⟨_, _, _, _, _, _, _, _, _, rfl, l20, l20', rdr_le r1 (by omega)⟩
theorem l92Two_f {b : List Int} {p B : Int} (h : Rdr b p B) (hB : B ≤ 800000) (K : Nat) (hK : 1400 ≤ K) : ∃ a0 a1 a2 x b0 b1 b2 y q, spec_l92Two.f K b p = some (a0, a1, a2, x, b0, b1, b2, y, q) ∧ x.length ≤ 20 ∧ y.length ≤ 20 ∧ Rdr b q (B + 40) := by
  obtain ⟨k, rfl⟩ : ∃ j, K = j + 2 := ⟨K - 2, by omega⟩
  unfold spec_l92Two.f
  obtain ⟨kind, val, q, e1, k0, k4, r1⟩ := val_f h (by omega) (k + 1)
  rw [e1, Option.bind_some]
  simp only
  obtain ⟨x, e2, r2, x0, x1, _⟩ := pick_f r1 (by omega) 12 (k + 1)
  have x2 := x1 (by omega)
  rw [e2, Option.bind_some]
  simp only
  obtain ⟨y, e3, r3, y0, y1, _⟩ := pick_f r2 (by omega) 1000 (k + 1)
  have y2 := y1 (by omega)
  rw [e3, Option.bind_some, w64 (a := 1 + x) (by omega) (by omega)]
  simp only
  have ht := tLen_le kind
  rcases partsMakeS (k + 2) (1 + x) kind val y (by omega) ⟨k0, k4⟩ (by omega) (by omega) with ⟨l, m, e4, _, l4, m4, _⟩ | ⟨e4, _⟩
  · rw [e4, Option.bind_some]
    simp only
    rw [if_pos trivial]
    obtain ⟨a0, a1, a2, x, b0, b1, b2, y, q, e5, g1, g2, g3⟩ := twoJ r3 (by omega) k (1 + x) kind 1 (1 + x) kind 2 l m (by omega) (by omega) (by omega)
    exact ⟨a0, a1, a2, x, b0, b1, b2, y, q, e5, g1, g2, rdr_le g3 (by omega)⟩
  · rw [e4, Option.bind_some]
    simp only
    rw [if_neg (by simp)]
    obtain ⟨v, e5, r5, v0, v1, _⟩ := pick_f r3 (by omega) 4 (k + 1)
    have v2 := v1 (by omega)
    rw [e5, Option.bind_some]
    simp only
    obtain ⟨z, e6, r6, z0, z1, _⟩ := pick_f r5 (by omega) 1000 (k + 1)
    have z2 := z1 (by omega)
    rw [e6, Option.bind_some]
    simp only
    have t2 : tLen 2 = 4 := rfl
    rcases partsMakeS (k + 2) 3 2 v z (by omega) (by omega) (by omega) (by omega) with ⟨l, m, e7, _, l4, m4, _⟩ | ⟨_, hno⟩
    · rw [e7, Option.bind_some]
      simp only
      obtain ⟨a0, a1, a2, x, b0, b1, b2, y, q, e8, g1, g2, g3⟩ := twoJ r6 (by omega) k 3 2 1 3 2 2 l m (by omega) (by omega) (by omega)
      exact ⟨a0, a1, a2, x, b0, b1, b2, y, q, e8, g1, g2, rdr_le g3 (by omega)⟩
    · exact absurd ⟨rfl, v0, 3, rfl, by omega⟩ hno
theorem drawPartsTake_f (l0 : List Int) (hb : Bytes l0) (K : Nat) (hK : 1500 ≤ K) : ∃ a0 a1 a2 x b0 b1 b2 y a w, spec_DrawPartsTake.f K l0 = some (a0, a1, a2, x, b0, b1, b2, y, a, w) ∧ x.length ≤ 20 ∧ y.length ≤ 20 := by
  obtain ⟨k, rfl⟩ : ∃ j, K = j + 1 := ⟨K - 1, by omega⟩
  obtain ⟨b, e, r0⟩ := l6Open_f l0 hb
  unfold spec_DrawPartsTake.f
  rw [e, Option.bind_some]
  simp only
  obtain ⟨a0, a1, a2, x, b0, b1, b2, y, q, e1, l1, l2, r1⟩ := l92Two_f r0 (by omega) (k + 1) (by omega)
  obtain ⟨u, e2, r2, _⟩ := pick_f r1 (by omega) 26 k
  obtain ⟨v, e3, r3, _⟩ := pick_f r2 (by omega) 16 k
  obtain ⟨w, q4, e4, r4⟩ := num_f r3 (by omega) k
  rw [e1, Option.bind_some]
  simp only
  rw [e2, Option.bind_some]
  simp only
  rw [e3, Option.bind_some]
  simp only
  rw [e4, Option.bind_some]
  exact ⟨_, _, _, _, _, _, _, _, _, _, rfl, l1, l2⟩
def fitOk (a b c : Int) (l : List Int) (a' b' c' : Int) (l' : List Int) : Bool := partOk a b c l && partOk a' b' c' l' && decide (a = a') && decide (b = b') && decide (c = 1) && decide (c' = 2)
theorem partsFit_f (K : Nat) (a b c : Int) (l : List Int) (a' b' c' : Int) (l' : List Int) (hl : l.length ≤ 1048576000) (hl' : l'.length ≤ 1048576000) (hK : l.length < K) (hK' : l'.length < K) :
    spec_PartsFit.f K a b c l a' b' c' l' = some (fitOk a b c l a' b' c' l') ∧ impl_PartsFit.f a b c l a' b' c' l' = some (fitOk a b c l a' b' c' l') := by
  unfold spec_PartsFit.f impl_PartsFit.f spec_l21Fit.f impl_PartOk.f fitOk
  rw [specPartOk_f K a b c l hl hK, specPartOk_f K a' b' c' l' hl' hK']
  simp only [Option.bind_some]
  cases h1 : partOk a b c l
  · exact ⟨rfl, rfl⟩
  cases h2 : partOk a' b' c' l'
  · exact ⟨rfl, rfl⟩
  simp only [if_true, Bool.true_and]
  by_cases e1 : a = a'
  · by_cases e2 : b = b'
    · by_cases e3 : c = 1
      · rw [if_pos e1, if_pos e2, if_pos e3, Option.bind_some]
        simp only [e1, e2, e3, decide_true, Bool.true_and]
        exact ⟨rfl, rfl⟩
      · rw [if_pos e1, if_pos e2, if_neg e3, Option.bind_some]; simp [e3]
    · rw [if_pos e1, if_neg e2, Option.bind_some]; simp [e2]
  · rw [if_neg e1, Option.bind_some]; simp [e1]
theorem fieldSum_f (a b : Int) (ha : fOk a = true) (hb : fOk b = true) : spec_FieldSum.f a b = some ((a + b) % 31) := by
  unfold spec_FieldSum.f
  have h1 := (fOk_iff a).1 ha
  have h2 := (fOk_iff b).1 hb
  rw [fieldOk_f, Option.bind_some, if_pos ha, fieldOk_f, Option.bind_some, if_pos hb, w64 (by omega) (by omega), Int.tmod_eq_emod_of_nonneg (by omega)]
theorem mul_bd {a b : Int} (ha : 0 ≤ a ∧ a ≤ 30) (hb : 0 ≤ b ∧ b ≤ 30) : 0 ≤ a * b ∧ a * b ≤ 900 := by
  have h1 : 0 ≤ a * b := Int.mul_nonneg ha.1 hb.1
  have h2 : a * b ≤ 30 * 30 := Int.mul_le_mul ha.2 hb.2 hb.1 (by omega)
  omega
theorem fieldMul_f (a b : Int) (ha : fOk a = true) (hb : fOk b = true) : spec_FieldMul.f a b = some ((a * b) % 31) := by
  unfold spec_FieldMul.f
  have h1 := (fOk_iff a).1 ha
  have h2 := (fOk_iff b).1 hb
  have h3 := mul_bd h1 h2
  rw [fieldOk_f, Option.bind_some, if_pos ha, fieldOk_f, Option.bind_some, if_pos hb, w64 (by omega) (by omega), Int.tmod_eq_emod_of_nonneg (by omega)]
def sumL (a b : List Int) : List Int := List.zipWith (fun x y => (x + y) % 31) a b
theorem sumL_length (a b : List Int) (h : a.length = b.length) : (sumL a b).length = a.length := by simp [sumL, h]
theorem l3Sum_loop (a b : List Int) (hl : a.length = b.length) (hn : a.length ≤ 1048576000) (ha : a.all fOk = true) (hb : b.all fOk = true) (d : Nat) : ∀ (k : Nat) (i : Nat), i + d = a.length → d < k → spec_l3Sum.l0 k a b ((sumL a b).take i) (i : Int) = some (sumL a b) := by
  have hs := sumL_length a b hl
  induction d with
  | zero =>
    intro k i hi hk
    obtain ⟨k, rfl⟩ : ∃ j, k = j + 1 := ⟨k - 1, by omega⟩
    simp only [spec_l3Sum.l0]
    rw [if_neg (by omega), List.take_of_length_le (by omega)]
  | succ d ih =>
    intro k i hi hk
    obtain ⟨k, rfl⟩ : ∃ j, k = j + 1 := ⟨k - 1, by omega⟩
    simp only [spec_l3Sum.l0]
    have h1 : i < a.length := by omega
    have h2 : i < b.length := by omega
    rw [if_pos (by omega), if_pos (by omega), if_pos (by omega), rd_nat a i h1, rd_nat b i h2, fieldSum_f _ _ (all_get ha i h1) (all_get hb i h2), Option.bind_some, if_pos (by rw [List.length_take]; omega), w64 (by omega) (by omega)]
    have := ih k (i + 1) (by omega) (by omega)
    have h3 : i < (sumL a b).length := by omega
    rw [List.take_succ_eq_append_getElem h3] at this
    have e : (sumL a b)[i] = (a[i] + b[i]) % 31 := by simp [sumL]
    rw [e] at this
    simpa using this
theorem l3Sum_f (k : Nat) (a b : List Int) (hl : a.length = b.length) (hn : a.length ≤ 1048576000) (ha : a.all fOk = true) (hb : b.all fOk = true) (hk : a.length < k) : spec_l3Sum.f k a b = some (sumL a b) := by
  have := l3Sum_loop a b hl hn ha hb a.length k 0 (by omega) hk
  unfold spec_l3Sum.f
  simpa using this
theorem list4d (l : List Int) (h : l.length = 4) : ∃ a b c d, l = [a, b, c, d] := by
  match l, h with
  | [a, b, c, d], _ => exact ⟨a, b, c, d, rfl⟩
theorem l13Decide_f (k : Nat) (a b : List Int) (ha4 : a.length = 4) (hb4 : b.length = 4) (ha : a.all fOk = true) (hb : b.all fOk = true) (hk : 4 < k) : spec_l13Decide.f k a b = some (dec4 a b) := by
  unfold spec_l13Decide.f
  rw [l3Sum_f k a b (by omega) (by omega) ha hb (by omega), Option.bind_some]
  have hs := sumL_length a b (by omega)
  obtain ⟨a0, a1, a2, a3, rfl⟩ := list4d a ha4
  obtain ⟨b0, b1, b2, b3, rfl⟩ := list4d b hb4
  simp only [sumL, List.zipWith_cons_cons, List.zipWith_nil_right, List.length_cons, List.length_nil, dec4, fourSum, rd]
  rw [if_pos (by omega), if_pos (by omega)]
  simp only [Int.toNat_zero, Int.toNat_one, List.getD_cons_zero, List.getD_cons_succ, Int.reduceToNat, Int.toNat_natCast]
  rw [fieldMul_f _ _ (fOk_mod _) (fOk_mod _), Option.bind_some, if_pos (by omega)]
  by_cases h : (a0 + b0) % 31 * ((a1 + b1) % 31) % 31 = (a2 + b2) % 31
  · rw [if_pos h, if_pos (by omega)]
    simp [h]
  · rw [if_neg h]
    simp [h]
def takeV (a b c : Int) (l : List Int) (a' b' c' : Int) (l' : List Int) (at_ w : Int) : Bool := fitOk a b c l a' b' c' l' && askMay b l at_ w && askMay b' l' at_ w && dec4 (askV b l true at_ w) (askV b' l' false at_ w)
theorem queryDecide_ask (kind : Int) (l l' : List Int) (x y : Bool) (kind' a w a' w' : Int) : impl_QueryDecide.f (askV kind l x a w) (askV kind' l' y a' w') = some (dec4 (askV kind l x a w) (askV kind' l' y a' w')) := by
  unfold impl_QueryDecide.f
  rw [askV_length, askV_length, askV_all, askV_all]
  simp
theorem partsTake_both (K : Nat) (a b c : Int) (l : List Int) (a' b' c' : Int) (l' : List Int) (at_ w : Int) (hl : l.length ≤ 1048576000) (hl' : l'.length ≤ 1048576000) (hK : l.length + 201 ≤ K) (hK' : l'.length + 201 ≤ K) :
    spec_PartsTake.f K a b c l a' b' c' l' at_ w = some (takeV a b c l a' b' c' l' at_ w) ∧ impl_PartsTake.f K a b c l a' b' c' l' at_ w = some (takeV a b c l a' b' c' l' at_ w) := by
  obtain ⟨k, rfl⟩ : ∃ j, K = j + 1 := ⟨K - 1, by omega⟩
  obtain ⟨f1, f2⟩ := partsFit_f (k + 1) a b c l a' b' c' l' hl hl' (by omega) (by omega)
  have q2 := queryAsk_i (k + 1) b l hl (by omega) true at_ w
  have q4 := queryAsk_i (k + 1) b' l' hl' (by omega) false at_ w
  obtain ⟨m1, _⟩ := queryMay_f b at_
  unfold spec_PartsTake.f impl_PartsTake.f takeV
  rw [f1, f2, Option.bind_some, Option.bind_some]
  cases hf : fitOk a b c l a' b' c' l'
  · exact ⟨rfl, rfl⟩
  rw [if_pos rfl, if_pos rfl, m1, Option.bind_some, q2, q4, Option.bind_some, Option.bind_some]
  have hf' := hf
  unfold fitOk partOk at hf'
  simp only [Bool.and_eq_true, decide_eq_true_eq] at hf'
  have hmay : askMay b l at_ w = ((kOk b && (decide (tLen b + 1 ≤ at_) && decide (at_ ≤ 30))) && fOk w) ∧ askMay b' l' at_ w = ((kOk b && (decide (tLen b + 1 ≤ at_) && decide (at_ ≤ 30))) && fOk w) := by
    obtain ⟨⟨⟨⟨⟨h1, h2⟩, h3⟩, h4⟩, h5⟩, h6⟩ := hf'
    subst h4
    unfold askMay
    simp_all
  have hk : kOk b = true ∧ l.all fOk = true ∧ (l.length : Int) = 3 * tLen b + 3 ∧ l'.all fOk = true ∧ (l'.length : Int) = 3 * tLen b' + 3 ∧ kOk b' = true := by
    obtain ⟨⟨⟨⟨⟨h1, h2⟩, h3⟩, h4⟩, h5⟩, h6⟩ := hf'
    subst h4
    simp_all
  obtain ⟨hk1, hk2, hk3, hk4, hk5, hk6⟩ := hk
  rw [hmay.1, hmay.2]
  cases hat : kOk b && (decide (tLen b + 1 ≤ at_) && decide (at_ ≤ 30))
  · refine ⟨?_, by simp⟩
    rw [if_neg (by simp)]
    rfl
  cases hw : fOk w
  · refine ⟨?_, by simp⟩
    rw [if_pos rfl, fieldOk_f, Option.bind_some, hw]
    rfl
  have ht := tLen_le b
  have hat' : 0 ≤ at_ ∧ at_ ≤ 30 := by simp at hat; omega
  obtain ⟨b1, _⟩ := ask_both k (by omega) b hk1 l hk3 hk2 true at_ w hat' hw
  obtain ⟨b2, _⟩ := ask_both k (by omega) b' hk6 l' hk5 hk4 false at_ w hat' hw
  constructor
  · rw [if_pos rfl, fieldOk_f, Option.bind_some, hw]
    simp only [spec_PartsTake.j0]
    rw [if_neg (by simp), b1, Option.bind_some, b2, Option.bind_some, l13Decide_f k _ _ (askV_length ..) (askV_length ..) (askV_all ..) (askV_all ..) (by omega), Option.bind_some]
    simp
  · simp only [Bool.and_self, if_true]
    rw [queryDecide_ask, Option.bind_some]
    simp
end Go.Proofs.YtlgbblaidohljaaGreatDoor.Q
