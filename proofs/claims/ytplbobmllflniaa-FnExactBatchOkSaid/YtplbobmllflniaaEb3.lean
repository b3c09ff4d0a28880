/- Of functions of the given program: each as a plain Lean function (.f), and the proof (.calls) that the machine's call comes to just that, for all arguments, under what each theorem states. Laid by a program out of the translation, and of texts of our own. -/
import Derived.Test.YtplbobmllflniaaEb0
namespace Go.Proofs.Ytplbobmllflniaa.Eb
open Go.RowKit Go.Proofs.YtplbobmllflniaaW.PrintWords Go.Proofs.YtplbobmllflniaaW.PrintLast Go.Proofs.YtplbobmllflniaaW.PrintMore
attribute [local go_sem] max2_int min2_int max_two min_two max_three min_three max_four min_four   -- for this text's walks alone
set_option linter.unusedVariables false
set_option linter.unusedSimpArgs false

/-! ### impl_measureOf: function 92 (ours) -/
theorem measureOf.c1 (w : World) : Calls Try.prog 92 #[.int .i64 1] w fun e w' => e = .returned (.iface 120 (.agg #[])) ∧ w = w' := by
  go_enter Try.func92, Try.ntmps92
  go_wp2
  go_ret
  exact ⟨rfl, rfl⟩
theorem measureOf.c2 (w : World) : Calls Try.prog 92 #[.int .i64 2] w fun e w' => e = .returned (.iface 121 (.agg #[])) ∧ w = w' := by
  go_enter Try.func92, Try.ntmps92
  go_wp2
  go_ret
  exact ⟨rfl, rfl⟩
theorem measureOf.c3 (w : World) : Calls Try.prog 92 #[.int .i64 3] w fun e w' => e = .returned (.iface 122 (.agg #[])) ∧ w = w' := by
  go_enter Try.func92, Try.ntmps92
  go_wp2
  go_ret
  exact ⟨rfl, rfl⟩
theorem measureOf.c0 (n : Int) (w : World) (h1 : n ≠ 1) (h2 : n ≠ 2) (h3 : n ≠ 3) : Calls Try.prog 92 #[.int .i64 n] w fun e w' => e = .returned .nilIface ∧ w = w' := by
  have e1 : (n == 1) = false := beq_eq_false_iff_ne.2 h1
  have e2 : (n == 2) = false := beq_eq_false_iff_ne.2 h2
  have e3 : (n == 3) = false := beq_eq_false_iff_ne.2 h3
  go_enter Try.func92, Try.ntmps92
  go_wp2
  go_ret
  exact ⟨rfl, rfl⟩

/-! ### impl_bitMeasure_size: function 196 (ours) -/
theorem bitMeasure_size.calls (w : World) : Calls Try.prog 196 #[.agg #[]] w fun e w' => e = .returned (.int .i64 1) ∧ w.alloc (.cells #[] 120) = w' := by
  go_enter Try.func196, Try.ntmps196
  go_wp2
  go_ret
  exact ⟨rfl, rfl⟩
theorem bitMeasure_size.meth (w : World) : (method 278 120 (.agg #[]) "loop.example/scrutineer/impl.size").run Try.prog w = .ok (196, .agg #[]) w := by kernel_rfl

/-! ### impl_pickMeasure_size: function 199 (ours) -/
theorem pickMeasure_size.calls (w : World) : Calls Try.prog 199 #[.agg #[]] w fun e w' => e = .returned (.int .i64 4) ∧ w.alloc (.cells #[] 121) = w' := by
  go_enter Try.func199, Try.ntmps199
  go_wp2
  go_ret
  exact ⟨rfl, rfl⟩
theorem pickMeasure_size.meth (w : World) : (method 278 121 (.agg #[]) "loop.example/scrutineer/impl.size").run Try.prog w = .ok (199, .agg #[]) w := by kernel_rfl

/-! ### impl_numMeasure_size: function 202 (ours) -/
theorem numMeasure_size.calls (w : World) : Calls Try.prog 202 #[.agg #[]] w fun e w' => e = .returned (.int .i64 3) ∧ w.alloc (.cells #[] 122) = w' := by
  go_enter Try.func202, Try.ntmps202
  go_wp2
  go_ret
  exact ⟨rfl, rfl⟩
theorem numMeasure_size.meth (w : World) : (method 278 122 (.agg #[]) "loop.example/scrutineer/impl.size").run Try.prog w = .ok (202, .agg #[]) w := by kernel_rfl

/-! ### impl_TypeLen: function 30 (ours) -/
def tLen (n : Int) : Int := if n = 1 then 1 else if n = 2 then 4 else if n = 3 then 3 else 0
def impl_TypeLen.f (a0 : Int) : Option Int := some (tLen a0)
theorem impl_TypeLen.calls (a0 : Int) (r : Int) (w : World) (h : impl_TypeLen.f a0 = some r) :
    Calls Try.prog 30 #[.int .i64 a0] w fun e w' => e = .returned (.int .i64 r) ∧ Below w.heap.size w w' := by
  obtain rfl := Option.some.inj h
  clear h
  by_cases h1 : a0 = 1
  · subst h1
    rw [show tLen 1 = 1 from rfl]
    have hm := bitMeasure_size.meth
    go_enter Try.func30, Try.ntmps30
    go_wp2_with (first | (go_at_call 92; refine (measureOf.c1 _).mono ?_; rintro e w' ⟨rfl, rfl⟩) | (go_at_call 196; refine (bitMeasure_size.calls _).mono ?_; rintro e w' ⟨rfl, rfl⟩))
    go_ret
    exact ⟨rfl, below_alloc (Below.refl _ _) _⟩
  by_cases h2 : a0 = 2
  · subst h2
    rw [show tLen 2 = 4 from rfl]
    have hm := pickMeasure_size.meth
    go_enter Try.func30, Try.ntmps30
    go_wp2_with (first | (go_at_call 92; refine (measureOf.c2 _).mono ?_; rintro e w' ⟨rfl, rfl⟩) | (go_at_call 199; refine (pickMeasure_size.calls _).mono ?_; rintro e w' ⟨rfl, rfl⟩))
    go_ret
    exact ⟨rfl, below_alloc (Below.refl _ _) _⟩
  by_cases h3 : a0 = 3
  · subst h3
    rw [show tLen 3 = 3 from rfl]
    have hm := numMeasure_size.meth
    go_enter Try.func30, Try.ntmps30
    go_wp2_with (first | (go_at_call 92; refine (measureOf.c3 _).mono ?_; rintro e w' ⟨rfl, rfl⟩) | (go_at_call 202; refine (numMeasure_size.calls _).mono ?_; rintro e w' ⟨rfl, rfl⟩))
    go_ret
    exact ⟨rfl, below_alloc (Below.refl _ _) _⟩
  · rw [show tLen a0 = 0 by simp [tLen, h1, h2, h3]]
    go_enter Try.func30, Try.ntmps30
    go_wp2_with (first | (go_at_call 92; refine (measureOf.c0 a0 _ h1 h2 h3).mono ?_; rintro e w' ⟨rfl, rfl⟩))
    go_ret
    exact ⟨rfl, Below.refl _ _⟩

/-! ### impl_within: function 89 -/
def impl_within.f (a0 : Int) (a1 : Int) (a2 : Int) : Option (Bool) := if a0 ≥ a1 then (some (decide (a0 ≤ a2))) else (some false)
set_option maxHeartbeats 8000000 in
set_option maxRecDepth 100000 in
theorem impl_within.calls (a0 : Int) (a1 : Int) (a2 : Int) (r : Bool) (w : World) (h : impl_within.f a0 a1 a2 = some r) :
    Calls Try.prog 89 #[.int .i64 a0, .int .i64 a1, .int .i64 a2] w fun e w' => e = .returned (.bool r) ∧ Drawn0 w w' := by
  have H : (if a0 ≥ a1 then (some (decide (a0 ≤ a2))) else (some false)) = some r := h
  clear h
  by_cases c4 : a0 ≥ a1
  · rw [if_pos c4] at H
    have c4b0 : decide (a1 ≤ a0) = true := decide_eq_true c4
    clear c4
    obtain rfl := Option.some.inj H
    go_enter Try.func89, Try.ntmps89
    go_wp2
    go_ret
    exact ⟨by first | rfl | (simp; done) | (simp [*]; done), by repeat (first | exact Drawn0.refl _ | apply Drawn0.step)⟩
  · rw [if_neg c4] at H
    have c4b0 : decide (a1 ≤ a0) = false := decide_eq_false c4
    clear c4
    obtain rfl := Option.some.inj H
    go_enter Try.func89, Try.ntmps89
    go_wp2
    go_ret
    exact ⟨by first | rfl | (simp; done) | (simp [*]; done), by repeat (first | exact Drawn0.refl _ | apply Drawn0.step)⟩

/-! ### impl_kindOk: function 88 (ours) -/
def kOk (n : Int) : Bool := decide (n = 1 ∨ n = 2 ∨ n = 3)
def impl_kindOk.f (a0 : Int) : Option Bool := some (kOk a0)
theorem impl_kindOk.calls (a0 : Int) (r : Bool) (w : World) (h : impl_kindOk.f a0 = some r) :
    Calls Try.prog 88 #[.int .i64 a0] w fun e w' => e = .returned (.bool r) ∧ Drawn0 w w' := by
  obtain rfl := Option.some.inj h
  clear h
  by_cases h1 : a0 = 1
  · subst h1
    rw [show kOk 1 = true from rfl]
    go_enter Try.func88, Try.ntmps88
    go_wp2_with (first | (go_at_call 92; refine (measureOf.c1 _).mono ?_; rintro e w' ⟨rfl, rfl⟩))
    go_ret
    exact ⟨rfl, Drawn0.refl _⟩
  by_cases h2 : a0 = 2
  · subst h2
    rw [show kOk 2 = true from rfl]
    go_enter Try.func88, Try.ntmps88
    go_wp2_with (first | (go_at_call 92; refine (measureOf.c2 _).mono ?_; rintro e w' ⟨rfl, rfl⟩))
    go_ret
    exact ⟨rfl, Drawn0.refl _⟩
  by_cases h3 : a0 = 3
  · subst h3
    rw [show kOk 3 = true from rfl]
    go_enter Try.func88, Try.ntmps88
    go_wp2_with (first | (go_at_call 92; refine (measureOf.c3 _).mono ?_; rintro e w' ⟨rfl, rfl⟩))
    go_ret
    exact ⟨rfl, Drawn0.refl _⟩
  · rw [show kOk a0 = false by simp [kOk, h1, h2, h3]]
    go_enter Try.func88, Try.ntmps88
    go_wp2_with (first | (go_at_call 92; refine (measureOf.c0 a0 _ h1 h2 h3).mono ?_; rintro e w' ⟨rfl, rfl⟩))
    go_ret
    exact ⟨rfl, Drawn0.refl _⟩

/-! ### impl_FieldOk: function 110 -/
def impl_FieldOk.f (a0 : Int) : Option (Bool) := (impl_within.f a0 0 30).bind fun t173 => (some t173)
set_option maxHeartbeats 8000000 in
set_option maxRecDepth 100000 in
theorem impl_FieldOk.calls (a0 : Int) (r : Bool) (w : World) (h : impl_FieldOk.f a0 = some r) :
    Calls Try.prog 110 #[.int .i64 a0] w fun e w' => e = .returned (.bool r) ∧ Drawn0 w w' := by
  have H : ((impl_within.f a0 0 30).bind fun t173 => (some t173)) = some r := h
  clear h
  replace H := Option.bind_eq_some_iff.mp H
  obtain ⟨t173, A20, H⟩ := H
  replace H : (some t173) = some r := H
  have A2 := Aside0.mk A20
  clear A20
  obtain rfl := Option.some.inj H
  go_enter Try.func110, Try.ntmps110
  go_wp2_with (first | ((with_reducible refine gate_callee (f := 89) rfl ?_); refine goesL_ (some 4) rfl rfl Try.func89 (by kernel_rfl) rfl #[.int .i64 a0, .int .i64 0, .int .i64 30] rfl (by (try simp only [List.map_toArray, List.map_cons, List.map_nil]); first | done | rfl | (simp only [List.length_drop, List.length_take]; rfl)) ?_; (with_reducible refine (impl_within.calls a0 0 30 t173 _ A2.out).mono ?_); rintro e w' ⟨rfl, ⟨nd, rfl⟩⟩; refine ⟨_, rfl, ?_⟩))
  go_ret
  exact ⟨by first | rfl | (simp; done) | (simp [*]; done), by repeat (first | exact Drawn0.refl _ | apply Drawn0.step)⟩

/-! ### impl_elementsOk: function 96 (ours) -/
def fOk (n : Int) : Bool := decide (0 ≤ n) && decide (n ≤ 30)

set_option maxHeartbeats 400000 in
set_option maxRecDepth 100000 in
theorem elementsOk1.yes (n : Int) (w : World) (h : fOk n = true) : Calls Try.prog 133 #[.int .i64 n] w fun e w' => e = .returned (.bool false) ∧ Drawn0 w w' := by
  simp only [fOk, Bool.and_eq_true, decide_eq_true_eq] at h
  obtain ⟨h1, h2⟩ := h
  go_enter Try.func133, Try.ntmps133
  go_wp2
  go_ret
  exact ⟨rfl, Drawn0.refl _⟩
set_option maxHeartbeats 400000 in
set_option maxRecDepth 100000 in
theorem elementsOk1.no (n : Int) (w : World) (h : fOk n = false) : Calls Try.prog 133 #[.int .i64 n] w fun e w' => e = .returned (.bool true) ∧ Drawn0 w w' := by
  have h' : n < 0 ∨ 30 < n := by simp only [fOk, Bool.and_eq_false_iff, decide_eq_false_iff_not] at h; omega
  clear h
  rcases h' with h1 | h1
  · go_enter Try.func133, Try.ntmps133
    go_wp2
    go_ret
    exact ⟨rfl, Drawn0.refl _⟩
  · have h0 : decide (0 ≤ n) = true := by simp; omega
    have h2 : decide (n ≤ 30) = false := by simp; omega
    go_enter Try.func133, Try.ntmps133
    go_wp2
    go_ret
    exact ⟨rfl, Drawn0.refl _⟩

set_option maxHeartbeats 1000000 in
set_option maxRecDepth 100000 in
theorem IndexFunc.ok (A0 : Option Addr) (c0 : Nat) (l0 : List Int) (w : World) (hr0 : Kd.C (Kd.int .i64) w A0 l0.length l0) (hm : l0.length ≤ 9223372036854775807) (h : l0.all fOk = true) :
    Calls Try.prog 158 #[.slice A0 l0.length c0, .func (.func 133) #[] #[]] w fun e w' => e = .returned (.int .i64 (-1)) ∧ Drawn0 w w' := by
  have HR0 := Aside0.mk hr0
  clear hr0
  have H := Aside0.mk h
  clear h
  go_enter Try.func158, Try.ntmps158
  go_wp2
  go_loopw [8] (fun i wr => ∃ k : Nat, k ≤ l0.length ∧ i = .int .i64 k ∧ Drawn0 w wr) (fun i _ => l0.length - (intOf i).toNat)
  case atStart => exact ⟨0, Nat.zero_le _, rfl, Drawn0.refl _⟩
  case round =>
    obtain ⟨k, hk, rfl, ⟨m1, rfl⟩⟩ := hrel
    by_cases hlt : k < l0.length
    · have hok : fOk (rd l0 k) = true := by
        have := List.all_eq_true.1 H.out (l0[k]) (List.getElem_mem hlt)
        simpa [rd, hlt] using this
      have HOK := Aside0.mk hok
      clear hok
      obtain ⟨ad, e, hx⟩ := Kd.at_int HR0.out (k : Int) (by omega) (by omega)
      cases e
      simp only [Int.toNat_natCast] at hx
      go_wp2_with (first | (go_at_call 133; refine (elementsOk1.yes _ _ HOK.out).mono ?_; rintro e w' ⟨rfl, ⟨nd, rfl⟩⟩))
      go_roundw
      case rel => exact ⟨k + 1, by omega, by go_num, by repeat (first | exact Drawn0.refl _ | apply Drawn0.step)⟩
      case measure => simp [intOf]; omega
    · go_wp2
      go_ret
      exact ⟨rfl, by repeat (first | exact Drawn0.refl _ | apply Drawn0.step)⟩

theorem all_rd (l : List Int) (h : ∀ i, i < l.length → fOk (rd l i) = true) : l.all fOk = true := by
  rw [List.all_eq_true]
  intro x hx
  obtain ⟨i, hi, rfl⟩ := List.getElem_of_mem hx
  have := h i hi
  simpa [rd, hi] using this

def SomeNat (w : World) (e : Ending) (w' : World) : Prop := ∃ j : Nat, e = .returned (.int .i64 j) ∧ Drawn0 w w'

set_option maxHeartbeats 1000000 in
set_option maxRecDepth 100000 in
theorem IndexFunc.bad (A0 : Option Addr) (c0 : Nat) (l0 : List Int) (w : World) (hr0 : Kd.C (Kd.int .i64) w A0 l0.length l0) (hm : l0.length ≤ 9223372036854775807) (h : l0.all fOk = false) :
    Calls Try.prog 158 #[.slice A0 l0.length c0, .func (.func 133) #[] #[]] w (SomeNat w) := by
  have HR0 := Aside0.mk hr0
  clear hr0
  have H := Aside0.mk h
  clear h
  go_enter Try.func158, Try.ntmps158
  go_wp2
  go_loopw [8] (fun i wr => ∃ k : Nat, k ≤ l0.length ∧ i = .int .i64 k ∧ Drawn0 w wr ∧ Aside0 (∀ i, i < k → fOk (rd l0 i) = true)) (fun i _ => l0.length - (intOf i).toNat)
  case atStart => exact ⟨0, Nat.zero_le _, rfl, Drawn0.refl _, ⟨by omega⟩⟩
  case round =>
    obtain ⟨k, hk, rfl, ⟨m1, rfl⟩, hall⟩ := hrel
    by_cases hlt : k < l0.length
    · obtain ⟨ad, e, hx⟩ := Kd.at_int HR0.out (k : Int) (by omega) (by omega)
      cases e
      simp only [Int.toNat_natCast] at hx
      cases hok : fOk (rd l0 k)
      · have HOK := Aside0.mk hok
        clear hok
        go_wp2_with (first | (go_at_call 133; refine (elementsOk1.no _ _ HOK.out).mono ?_; rintro e w' ⟨rfl, ⟨nd, rfl⟩⟩))
        go_ret
        exact ⟨k, rfl, by repeat (first | exact Drawn0.refl _ | apply Drawn0.step)⟩
      · have HOK := Aside0.mk hok
        clear hok
        go_wp2_with (first | (go_at_call 133; refine (elementsOk1.yes _ _ HOK.out).mono ?_; rintro e w' ⟨rfl, ⟨nd, rfl⟩⟩))
        go_roundw
        case rel => exact ⟨k + 1, by omega, by go_num, by repeat (first | exact Drawn0.refl _ | apply Drawn0.step), ⟨fun i hi => by
          rcases Nat.lt_or_ge i k with h1 | h1
          · exact hall.out i h1
          · obtain rfl : i = k := by omega
            exact HOK.out⟩⟩
        case measure => simp [intOf]; omega
    · exfalso
      have := all_rd l0 (fun i hi => hall.out i (by omega))
      rw [H.out] at this
      cases this
theorem ContainsFunc.ok (A0 : Option Addr) (c0 : Nat) (l0 : List Int) (w : World) (hr0 : Kd.C (Kd.int .i64) w A0 l0.length l0) (hm : l0.length ≤ 9223372036854775807) (h : l0.all fOk = true) :
    Calls Try.prog 132 #[.slice A0 l0.length c0, .func (.func 133) #[] #[]] w fun e w' => e = .returned (.bool false) ∧ Drawn0 w w' := by
  have HR0 := Aside0.mk hr0
  clear hr0
  have H := Aside0.mk h
  clear h
  go_enter Try.func132, Try.ntmps132
  go_wp2_with (first | (go_at_call 158; refine (IndexFunc.ok A0 c0 l0 _ HR0.out hm H.out).mono ?_; rintro e w' ⟨rfl, ⟨nd, rfl⟩⟩))
  go_ret
  exact ⟨rfl, by repeat (first | exact Drawn0.refl _ | apply Drawn0.step)⟩
theorem ContainsFunc.bad (A0 : Option Addr) (c0 : Nat) (l0 : List Int) (w : World) (hr0 : Kd.C (Kd.int .i64) w A0 l0.length l0) (hm : l0.length ≤ 9223372036854775807) (h : l0.all fOk = false) :
    Calls Try.prog 132 #[.slice A0 l0.length c0, .func (.func 133) #[] #[]] w fun e w' => e = .returned (.bool true) ∧ Drawn0 w w' := by
  have HR0 := Aside0.mk hr0
  clear hr0
  have H := Aside0.mk h
  clear h
  go_enter Try.func132, Try.ntmps132
  go_wp2_with (first | (go_at_call 158; refine (IndexFunc.bad A0 c0 l0 _ HR0.out hm H.out).mono ?_; rintro e w' ⟨j, rfl, ⟨nd, rfl⟩⟩))
  go_ret
  exact ⟨by simp, by repeat (first | exact Drawn0.refl _ | apply Drawn0.step)⟩

/-! ### impl_elementsOk -/
def impl_elementsOk.f (l0 : List Int) (a1 : Int) : Option Bool := some (decide ((l0.length : Int) ≤ a1) && l0.all fOk)
set_option maxHeartbeats 1000000 in
set_option maxRecDepth 100000 in
theorem impl_elementsOk.calls (A0 : Option Addr) (c0 : Nat) (l0 : List Int) (a1 : Int) (r : Bool) (w : World) (hr0 : Kd.C (Kd.int .i64) w A0 l0.length l0) (hc0 : l0.length ≤ c0) (h : impl_elementsOk.f l0 a1 = some r) :
    Calls Try.prog 96 #[.slice A0 l0.length c0, .int .i64 a1] w fun e w' => e = .returned (.bool r) ∧ Drawn0 w w' := by
  obtain rfl := Option.some.inj h
  clear h
  have hm : l0.length ≤ 9223372036854775807 := hr0.2.1
  have HR0 := Aside0.mk hr0
  clear hr0
  by_cases c2 : (l0.length : Int) ≤ a1
  · have c2b0 : decide ((l0.length : Int) ≤ a1) = true := decide_eq_true c2
    cases hall : l0.all fOk
    · have H := Aside0.mk hall
      rw [c2b0]
      clear hall c2
      go_enter Try.func96, Try.ntmps96
      go_wp2_with (first | (go_at_call 132; refine (ContainsFunc.bad A0 c0 l0 _ HR0.out hm H.out).mono ?_; rintro e w' ⟨rfl, ⟨nd, rfl⟩⟩))
      go_ret
      exact ⟨by first | rfl | (simp; done) | (simp [*]; done), by repeat (first | exact Drawn0.refl _ | apply Drawn0.step)⟩
    · have H := Aside0.mk hall
      rw [c2b0]
      clear hall c2
      go_enter Try.func96, Try.ntmps96
      go_wp2_with (first | (go_at_call 132; refine (ContainsFunc.ok A0 c0 l0 _ HR0.out hm H.out).mono ?_; rintro e w' ⟨rfl, ⟨nd, rfl⟩⟩))
      go_ret
      exact ⟨by first | rfl | (simp; done) | (simp [*]; done), by repeat (first | exact Drawn0.refl _ | apply Drawn0.step)⟩
  · have c2b0 : decide ((l0.length : Int) ≤ a1) = false := decide_eq_false c2
    rw [c2b0]
    clear c2
    go_enter Try.func96, Try.ntmps96
    go_wp2
    go_ret
    exact ⟨by first | rfl | (simp; done) | (simp [*]; done), by repeat (first | exact Drawn0.refl _ | apply Drawn0.step)⟩

/-! ### impl_sized: function 99 -/
def impl_sized.f (a0 : Int) (l1 : List Int) (a2 : Int) : Option (Bool) := (impl_kindOk.f a0).bind fun t174 => (if t174 = true then (if (l1.length : Int) = a2 then ((impl_elementsOk.f l1 20).bind fun t175 => (some t175)) else (some false)) else (some false))
set_option maxHeartbeats 8000000 in
set_option maxRecDepth 100000 in
theorem impl_sized.calls (a0 : Int) (A1 : Option Addr) (c1 : Nat) (l1 : List Int) (a2 : Int) (r : Bool) (w : World) (hr1 : Kd.C (Kd.int .i64) w A1 l1.length l1) (hc1 : l1.length ≤ c1) (h : impl_sized.f a0 l1 a2 = some r) :
    Calls Try.prog 99 #[.int .i64 a0, .slice A1 l1.length c1, .int .i64 a2] w fun e w' => e = .returned (.bool r) ∧ Drawn0 w w' := by
  have HR1 := Aside0.mk hr1
  have HC1 := Aside0.mk hc1
  clear hr1 hc1
  have H : ((impl_kindOk.f a0).bind fun t174 => (if t174 = true then (if (l1.length : Int) = a2 then ((impl_elementsOk.f l1 20).bind fun t175 => (some t175)) else (some false)) else (some false))) = some r := h
  clear h
  replace H := Option.bind_eq_some_iff.mp H
  obtain ⟨t174, A40, H⟩ := H
  replace H : (if t174 = true then (if (l1.length : Int) = a2 then ((impl_elementsOk.f l1 20).bind fun t175 => (some t175)) else (some false)) else (some false)) = some r := H
  have A4 := Aside0.mk A40
  clear A40
  by_cases c5 : t174 = true
  · subst c5
    have H1 : (if (l1.length : Int) = a2 then ((impl_elementsOk.f l1 20).bind fun t175 => (some t175)) else (some false)) = some r := by rw [if_pos rfl] at H; exact H
    clear H
    have H := H1
    clear H1
    by_cases c6 : (l1.length : Int) = a2
    · rw [if_pos c6] at H
      have c6b0 : ((l1.length : Int) == a2) = true := beq_iff_eq.mpr c6
      have c6b1 : ((l1.length : Int) != a2) = false := bne_eq_false_iff_eq.mpr c6
      clear c6
      replace H := Option.bind_eq_some_iff.mp H
      obtain ⟨t175, A70, H⟩ := H
      replace H : (some t175) = some r := H
      have A7 := Aside0.mk A70
      clear A70
      obtain rfl := Option.some.inj H
      go_enter Try.func99, Try.ntmps99
      go_wp2_with (first | ((with_reducible refine gate_callee (f := 88) rfl ?_); refine goesL_ (some 8) rfl rfl Try.func88 (by kernel_rfl) rfl #[.int .i64 a0] rfl (by (try simp only [List.map_toArray, List.map_cons, List.map_nil]); first | done | rfl | (simp only [List.length_drop, List.length_take]; rfl)) ?_; (with_reducible refine (impl_kindOk.calls a0 true _ A4.out).mono ?_); rintro e w' ⟨rfl, ⟨nd, rfl⟩⟩; refine ⟨_, rfl, ?_⟩) | (go_at_call 96; (with_reducible refine (impl_elementsOk.calls _ _ l1 20 t175 _ ?side1 ?side2 A7.out).mono ?_); (case side1 => repeat (first | exact HR1.out | (with_reducible refine Kd.C_alloc ?_ _) | (with_reducible refine Kd.C_drewN ?_ _) | (with_reducible refine Kd.C_drew ?_))); (case side2 => exact HC1.out); rintro e w' ⟨rfl, ⟨nd, rfl⟩⟩))
      go_ret
      exact ⟨by first | rfl | (simp; done) | (simp [*]; done), by repeat (first | exact Drawn0.refl _ | apply Drawn0.step)⟩
    · rw [if_neg c6] at H
      have c6b0 : ((l1.length : Int) == a2) = false := beq_eq_false_iff_ne.mpr c6
      have c6b1 : ((l1.length : Int) != a2) = true := bne_iff_ne.mpr c6
      obtain rfl := Option.some.inj H
      go_enter Try.func99, Try.ntmps99
      go_wp2_with (first | ((with_reducible refine gate_callee (f := 88) rfl ?_); refine goesL_ (some 8) rfl rfl Try.func88 (by kernel_rfl) rfl #[.int .i64 a0] rfl (by (try simp only [List.map_toArray, List.map_cons, List.map_nil]); first | done | rfl | (simp only [List.length_drop, List.length_take]; rfl)) ?_; (with_reducible refine (impl_kindOk.calls a0 true _ A4.out).mono ?_); rintro e w' ⟨rfl, ⟨nd, rfl⟩⟩; refine ⟨_, rfl, ?_⟩))
      go_ret
      exact ⟨by first | rfl | (simp; done) | (simp [*]; done), by repeat (first | exact Drawn0.refl _ | apply Drawn0.step)⟩
  · replace c5 := Bool.eq_false_iff.mpr c5
    subst c5
    have H1 : (some false) = some r := by rw [if_neg (show ¬ (false = true) by decide)] at H; exact H
    clear H
    have H := H1
    clear H1
    obtain rfl := Option.some.inj H
    go_enter Try.func99, Try.ntmps99
    go_wp2_with (first | ((with_reducible refine gate_callee (f := 88) rfl ?_); refine goesL_ (some 8) rfl rfl Try.func88 (by kernel_rfl) rfl #[.int .i64 a0] rfl (by (try simp only [List.map_toArray, List.map_cons, List.map_nil]); first | done | rfl | (simp only [List.length_drop, List.length_take]; rfl)) ?_; (with_reducible refine (impl_kindOk.calls a0 false _ A4.out).mono ?_); rintro e w' ⟨rfl, ⟨nd, rfl⟩⟩; refine ⟨_, rfl, ?_⟩))
    go_ret
    exact ⟨by first | rfl | (simp; done) | (simp [*]; done), by repeat (first | exact Drawn0.refl _ | apply Drawn0.step)⟩

/-! ### impl_groupOf_int: function 105 (ours) -/
section
open Go.Maps

/-- a number's key -/
def ky (x : Int) : Lit := .int .i64 x
def Gs (l : List Int) (k : Nat) : DataW Unit := setOf (.lit (.bool true)) ((l.take k).map ky)
theorem Gs_zero (l : List Int) : Gs l 0 = .map [] := by simp [Gs, setOf]
theorem Gs_succ (l : List Int) (k : Nat) (hk : k < l.length) : Gs l (k + 1) = (Gs l k).put (ky (rd l k)) (.lit (.bool true)) := by
  unfold Gs
  have hr : rd l k = l[k] := by simp [rd, hk]
  rw [List.take_succ_eq_append_getElem hk, List.map_append, List.map_cons, List.map_nil, setOf_snoc, hr]
theorem ky_key (x : Int) : WideAt.IsKeyLit (ky x) := trivial
theorem any_ky (x : Int) (l : List Int) : (l.map ky).any (fun y => y.sameKey (ky x)) = l.contains x := by
  induction l with
  | nil => rfl
  | cons a r ih =>
    rw [List.map_cons, List.any_cons, ih, List.contains_cons]
    congr 1
    show decide (IntKind.i64 = IntKind.i64 ∧ a = x) = (x == a)
    by_cases e : a = x
    · subst e; simp
    · have e' : ¬ x = a := fun h => e h.symm
      simp [e, e']
theorem has_Gs (l : List Int) (k : Nat) (x : Int) : Maps.has (Gs l k) (ky x) = (l.take k).contains x := by
  unfold Gs
  rw [has_setOf _ _ _ (fun y hy => by obtain ⟨_, _, rfl⟩ := List.mem_map.1 hy; exact ky_key _)]
  exact any_ky x _
theorem fold_len (xs : List Int) : ∀ L : List Int, L.Nodup → ((xs.map ky).foldl addKey (L.map ky)).length ≤ L.length + xs.length ∧ (((xs.map ky).foldl addKey (L.map ky)).length = L.length + xs.length ↔ (L ++ xs).Nodup) := by
  induction xs with
  | nil => intro L hL; simp [hL]
  | cons a r ih =>
    intro L hL
    rw [List.map_cons, List.foldl_cons]
    have e : addKey (L.map ky) (ky a) = if L.contains a = true then L.map ky else (L ++ [a]).map ky := by
      unfold addKey
      rw [any_ky]
      split <;> simp
    rw [e]
    by_cases h : L.contains a = true
    · rw [if_pos h]
      obtain ⟨h1, h2⟩ := ih L hL
      refine ⟨by simp; omega, ⟨fun h3 => by simp at h3; omega, fun h3 => ?_⟩⟩
      have : a ∈ L := by simpa using h
      rw [List.nodup_append] at h3
      exact absurd rfl (h3.2.2 a this a (by simp))
    · rw [if_neg h]
      have hn : (L ++ [a]).Nodup := by
        rw [List.nodup_append]
        refine ⟨hL, by simp, fun x hx y hy => ?_⟩
        obtain rfl : y = a := by simpa using hy
        rintro rfl
        exact h (by simpa using hx)
      obtain ⟨h1, h2⟩ := ih (L ++ [a]) hn
      refine ⟨by simp at h1 ⊢; omega, ?_⟩
      rw [show L ++ a :: r = (L ++ [a]) ++ r by simp, ← h2]
      simp
      omega
theorem size_Gs (l : List Int) : Maps.size (Gs l l.length) ≤ l.length ∧ (Maps.size (Gs l l.length) = l.length ↔ l.Nodup) := by
  unfold Gs
  rw [List.take_length, size_setOf _ _ (fun y hy => by obtain ⟨_, _, rfl⟩ := List.mem_map.1 hy; exact ky_key _)]
  have := fold_len l [] (by simp)
  simpa using this
theorem isMap_Gs (l : List Int) (k : Nat) : IsMap (Gs l k) := (tidy_setOf _ _ (fun y hy => by obtain ⟨_, _, rfl⟩ := List.mem_map.1 hy; exact ky_key _)).isMap
theorem atKey_Gs (l : List Int) (k : Nat) (x : Int) (hk : k ≤ l.length) : (Gs l k).atKey (ky x) (.lit (.bool false)) = .lit (.bool ((l.take k).contains x)) := by
  induction k with
  | zero => rw [Gs_zero]; rfl
  | succ k ih =>
    have hlt : k < l.length := by omega
    have ih := ih (by omega)
    rw [Gs_succ l k hlt]
    have hr : rd l k = l[k] := by simp [rd, hlt]
    rw [hr]
    by_cases e : x = l[k]
    · subst e
      rw [atKey_put_same (isMap_Gs l k) (ky_key _), List.take_succ_eq_append_getElem hlt]
      generalize l.take k = p
      simp
    · rw [atKey_put_other (fun h => e (by unfold ky at h; injection h)), ih]
      rw [List.take_succ_eq_append_getElem hlt]
      generalize l.take k = p
      simp [e]

/-- 'm[k]' in a map of bools that the call made -/
theorem own_lookup_bool {H : Type} {P : Program} {w : World} {k b n : Nat} {D : DataW H} {t e : TypeId} (h : w.ownsMap P k (plainElem P e) b n D) (K : Keyed P k) (ht : P.underlying t = some (.map k e)) (he : P.underlying e = some .bool) (hz : (zeroValue e).run P w = .ok (.bool false) w)
    {key : Value} {kl : Lit} (hkey : keyOf P k key = some kl) (c : Bool) (hat : D.atKey kl (.lit (.bool false)) = .lit (.bool c)) : (Instr.lookup t (.map (some b)) key false).run P w = .ok (.bool c) w := by
  obtain ⟨v, ps, hrun, hv⟩ := h.lookup K ht hz (plainElem_bool he false) hkey
  rw [hat] at hv
  have : v = .bool c := by
    have he' : P.underlying e = some .bool := he
    unfold plainElem at hv
    rw [he'] at hv
    cases v <;> simp at hv
    rw [hv.1]
  rw [this] at hrun
  exact hrun
theorem gLaw : Keyed Try.prog 3 := int_keyed Try.underlying3
theorem zeroBool (w : World) : (zeroValue 4).run Try.prog w = .ok (.bool false) w := by kernel_rfl
/-- all are of Go's int -/
def allWf (l : List Int) : Bool := l.all fun x => (Lit.int .i64 x).wf
theorem allWf_rd {l : List Int} (h : allWf l = true) (k : Nat) : (Lit.int .i64 (rd l k)).wf = true := by
  unfold rd
  simp only [Int.toNat_natCast, List.getD_eq_getElem?_getD]
  rcases Nat.lt_or_ge k l.length with hi | hi
  · rw [List.getElem?_eq_getElem hi]; exact List.all_eq_true.1 h _ (List.getElem_mem hi)
  · rw [List.getElem?_eq_none hi]; decide
def GroupEnd (l : List Int) (w : World) (e : Ending) (w' : World) : Prop :=
  e = .returned (.tuple #[.map (some w.heap.size), .bool (decide l.Nodup)]) ∧ Aside0 (w'.ownsMap Try.prog 3 (plainElem Try.prog 4) w.heap.size l.length (Gs l l.length)) ∧ Aside0 (Below w.heap.size w w')

set_option maxHeartbeats 1000000 in
set_option maxRecDepth 100000 in
theorem groupOf.calls (A0 : Option Addr) (c0 : Nat) (l0 : List Int) (w : World) (hr0 : Kd.C (Kd.int .i64) w A0 l0.length l0) (hn : l0.length ≤ 1048576000) (hwf : allWf l0 = true) :
    Calls Try.prog 105 #[.slice A0 l0.length c0] w (GroupEnd l0 w) := by
  have HR0 := Aside0.mk hr0
  have HWF := Aside0.mk hwf
  clear hr0 hwf
  have hmm := @run_makeMap Try.prog
  go_enter Try.func105, Try.ntmps105
  go_wp2
  go_loopw [10] (fun i wr => ∃ k : Nat, k ≤ l0.length ∧ i = .int .i64 k ∧ Aside0 (wr.ownsMap Try.prog 3 (plainElem Try.prog 4) w.heap.size k (Gs l0 k)) ∧ Aside0 (Below w.heap.size w wr))
    (fun i _ => l0.length - (intOf i).toNat)
  case atStart => exact ⟨0, Nat.zero_le _, rfl, ⟨by rw [Gs_zero]; exact World.ownsMap_made _ _ _ _⟩, ⟨(Below.refl _ _).alloc (Nat.le_refl _) _⟩⟩
  case round =>
    obtain ⟨k, hk, rfl, HO, HB⟩ := hrel
    by_cases hlt : k < l0.length
    · obtain ⟨ad, e, hx⟩ := Kd.at_int HR0.out (k : Int) (by omega) (by omega)
      cases e
      simp only [Int.toNat_natCast] at hx
      replace hx := (HB.out.cell (World.block_lt_of_cell? w _ hx)).trans hx
      have HK : Aside0 (keyOf Try.prog 3 (.int .i64 (rd l0 k)) = some (ky (rd l0 k))) := ⟨keyOf_int_mk Try.underlying3 (allWf_rd HWF.out k)⟩
      go_wp2_with (first
        | (at_mapUpdate; refine wpList_mapUpdate_own _ rfl _ _ _ 101 rfl 3 4 gLaw Try.underlying101 (plainElem (H := Unit) Try.prog 4) w.heap.size k _ rfl HO.out (by unfold maxLen; omega) _ _ _ rfl rfl HK.out _ [] (plainElem_bool Try.underlying4 true) ?_; intro w1 hown1 hgrow1; have HO1 := Aside0.mk hown1; have HB1 := Aside0.mk (HB.out.grown hgrow1 HB.out.size (fun j hj => by cases hj; exact Nat.le_refl _)); clear hown1 hgrow1))
      go_roundw
      case rel => exact ⟨k + 1, by omega, by go_num, ⟨(Gs_succ l0 k hlt).symm ▸ HO1.out⟩, HB1⟩
      case measure => simp [intOf]; omega
    · obtain rfl : k = l0.length := by omega
      go_wp2_with (first
        | ((with_reducible refine gate_dst (N := 19) rfl ?_); refine wpList_len_own _ rfl _ 101 rfl 3 4 Try.underlying101 _ w.heap.size _ _ rfl HO.out ?_))
      go_ret2
      have hs := size_Gs l0
      have hd : (((Maps.size (Gs l0 l0.length) : Nat) : Int) == ((l0.length : Nat) : Int)) = decide l0.Nodup := by
        rw [Bool.eq_iff_iff, beq_iff_eq, decide_eq_true_eq, ← hs.2]
        omega
      refine ⟨?_, HO, HB⟩
      rw [← hd]
      rfl
end

/-! ### impl_idOk: function 136 -/
def impl_idOk.f (a0 : Int) : Option (Bool) := (impl_within.f a0 1 99).bind fun t176 => (some t176)
set_option maxHeartbeats 8000000 in
set_option maxRecDepth 100000 in
theorem impl_idOk.calls (a0 : Int) (r : Bool) (w : World) (h : impl_idOk.f a0 = some r) :
    Calls Try.prog 136 #[.int .i64 a0] w fun e w' => e = .returned (.bool r) ∧ Drawn0 w w' := by
  have H : ((impl_within.f a0 1 99).bind fun t176 => (some t176)) = some r := h
  clear h
  replace H := Option.bind_eq_some_iff.mp H
  obtain ⟨t176, A20, H⟩ := H
  replace H : (some t176) = some r := H
  have A2 := Aside0.mk A20
  clear A20
  obtain rfl := Option.some.inj H
  go_enter Try.func136, Try.ntmps136
  go_wp2_with (first | ((with_reducible refine gate_callee (f := 89) rfl ?_); refine goesL_ (some 4) rfl rfl Try.func89 (by kernel_rfl) rfl #[.int .i64 a0, .int .i64 1, .int .i64 99] rfl (by (try simp only [List.map_toArray, List.map_cons, List.map_nil]); first | done | rfl | (simp only [List.length_drop, List.length_take]; rfl)) ?_; (with_reducible refine (impl_within.calls a0 1 99 t176 _ A2.out).mono ?_); rintro e w' ⟨rfl, ⟨nd, rfl⟩⟩; refine ⟨_, rfl, ?_⟩))
  go_ret
  exact ⟨by first | rfl | (simp; done) | (simp [*]; done), by repeat (first | exact Drawn0.refl _ | apply Drawn0.step)⟩

/-! ### impl_idsOk: function 100 (ours) -/
def iOk (n : Int) : Bool := decide (1 ≤ n) && decide (n ≤ 99)

set_option maxHeartbeats 400000 in
set_option maxRecDepth 100000 in
theorem idsOk1.yes (n : Int) (w : World) (h : iOk n = true) : Calls Try.prog 135 #[.int .i64 n] w fun e w' => e = .returned (.bool false) ∧ Drawn0 w w' := by
  simp only [iOk, Bool.and_eq_true, decide_eq_true_eq] at h
  obtain ⟨h1, h2⟩ := h
  go_enter Try.func135, Try.ntmps135
  go_wp2
  go_ret
  exact ⟨rfl, Drawn0.refl _⟩
set_option maxHeartbeats 400000 in
set_option maxRecDepth 100000 in
theorem idsOk1.no (n : Int) (w : World) (h : iOk n = false) : Calls Try.prog 135 #[.int .i64 n] w fun e w' => e = .returned (.bool true) ∧ Drawn0 w w' := by
  have h' : n < 1 ∨ 99 < n := by simp only [iOk, Bool.and_eq_false_iff, decide_eq_false_iff_not] at h; omega
  clear h
  rcases h' with h1 | h1
  · go_enter Try.func135, Try.ntmps135
    go_wp2
    go_ret
    exact ⟨rfl, Drawn0.refl _⟩
  · have h0 : decide (1 ≤ n) = true := by simp; omega
    have h2 : decide (n ≤ 99) = false := by simp; omega
    go_enter Try.func135, Try.ntmps135
    go_wp2
    go_ret
    exact ⟨rfl, Drawn0.refl _⟩

set_option maxHeartbeats 1000000 in
set_option maxRecDepth 100000 in
theorem IndexFuncI.ok (A0 : Option Addr) (c0 : Nat) (l0 : List Int) (w : World) (hr0 : Kd.C (Kd.int .i64) w A0 l0.length l0) (hm : l0.length ≤ 9223372036854775807) (h : l0.all iOk = true) :
    Calls Try.prog 158 #[.slice A0 l0.length c0, .func (.func 135) #[] #[]] w fun e w' => e = .returned (.int .i64 (-1)) ∧ Drawn0 w w' := by
  have HR0 := Aside0.mk hr0
  clear hr0
  have H := Aside0.mk h
  clear h
  go_enter Try.func158, Try.ntmps158
  go_wp2
  go_loopw [8] (fun i wr => ∃ k : Nat, k ≤ l0.length ∧ i = .int .i64 k ∧ Drawn0 w wr) (fun i _ => l0.length - (intOf i).toNat)
  case atStart => exact ⟨0, Nat.zero_le _, rfl, Drawn0.refl _⟩
  case round =>
    obtain ⟨k, hk, rfl, ⟨m1, rfl⟩⟩ := hrel
    by_cases hlt : k < l0.length
    · have hok : iOk (rd l0 k) = true := by
        have := List.all_eq_true.1 H.out (l0[k]) (List.getElem_mem hlt)
        simpa [rd, hlt] using this
      have HOK := Aside0.mk hok
      clear hok
      obtain ⟨ad, e, hx⟩ := Kd.at_int HR0.out (k : Int) (by omega) (by omega)
      cases e
      simp only [Int.toNat_natCast] at hx
      go_wp2_with (first | (go_at_call 135; refine (idsOk1.yes _ _ HOK.out).mono ?_; rintro e w' ⟨rfl, ⟨nd, rfl⟩⟩))
      go_roundw
      case rel => exact ⟨k + 1, by omega, by go_num, by repeat (first | exact Drawn0.refl _ | apply Drawn0.step)⟩
      case measure => simp [intOf]; omega
    · go_wp2
      go_ret
      exact ⟨rfl, by repeat (first | exact Drawn0.refl _ | apply Drawn0.step)⟩

theorem all_rdI (l : List Int) (h : ∀ i, i < l.length → iOk (rd l i) = true) : l.all iOk = true := by
  rw [List.all_eq_true]
  intro x hx
  obtain ⟨i, hi, rfl⟩ := List.getElem_of_mem hx
  have := h i hi
  simpa [rd, hi] using this

def SomeNatI (w : World) (e : Ending) (w' : World) : Prop := ∃ j : Nat, e = .returned (.int .i64 j) ∧ Drawn0 w w'

set_option maxHeartbeats 1000000 in
set_option maxRecDepth 100000 in
theorem IndexFuncI.bad (A0 : Option Addr) (c0 : Nat) (l0 : List Int) (w : World) (hr0 : Kd.C (Kd.int .i64) w A0 l0.length l0) (hm : l0.length ≤ 9223372036854775807) (h : l0.all iOk = false) :
    Calls Try.prog 158 #[.slice A0 l0.length c0, .func (.func 135) #[] #[]] w (SomeNatI w) := by
  have HR0 := Aside0.mk hr0
  clear hr0
  have H := Aside0.mk h
  clear h
  go_enter Try.func158, Try.ntmps158
  go_wp2
  go_loopw [8] (fun i wr => ∃ k : Nat, k ≤ l0.length ∧ i = .int .i64 k ∧ Drawn0 w wr ∧ Aside0 (∀ i, i < k → iOk (rd l0 i) = true)) (fun i _ => l0.length - (intOf i).toNat)
  case atStart => exact ⟨0, Nat.zero_le _, rfl, Drawn0.refl _, ⟨by omega⟩⟩
  case round =>
    obtain ⟨k, hk, rfl, ⟨m1, rfl⟩, hall⟩ := hrel
    by_cases hlt : k < l0.length
    · obtain ⟨ad, e, hx⟩ := Kd.at_int HR0.out (k : Int) (by omega) (by omega)
      cases e
      simp only [Int.toNat_natCast] at hx
      cases hok : iOk (rd l0 k)
      · have HOK := Aside0.mk hok
        clear hok
        go_wp2_with (first | (go_at_call 135; refine (idsOk1.no _ _ HOK.out).mono ?_; rintro e w' ⟨rfl, ⟨nd, rfl⟩⟩))
        go_ret
        exact ⟨k, rfl, by repeat (first | exact Drawn0.refl _ | apply Drawn0.step)⟩
      · have HOK := Aside0.mk hok
        clear hok
        go_wp2_with (first | (go_at_call 135; refine (idsOk1.yes _ _ HOK.out).mono ?_; rintro e w' ⟨rfl, ⟨nd, rfl⟩⟩))
        go_roundw
        case rel => exact ⟨k + 1, by omega, by go_num, by repeat (first | exact Drawn0.refl _ | apply Drawn0.step), ⟨fun i hi => by
          rcases Nat.lt_or_ge i k with h1 | h1
          · exact hall.out i h1
          · obtain rfl : i = k := by omega
            exact HOK.out⟩⟩
        case measure => simp [intOf]; omega
    · exfalso
      have := all_rdI l0 (fun i hi => hall.out i (by omega))
      rw [H.out] at this
      cases this
theorem ContainsFuncI.ok (A0 : Option Addr) (c0 : Nat) (l0 : List Int) (w : World) (hr0 : Kd.C (Kd.int .i64) w A0 l0.length l0) (hm : l0.length ≤ 9223372036854775807) (h : l0.all iOk = true) :
    Calls Try.prog 132 #[.slice A0 l0.length c0, .func (.func 135) #[] #[]] w fun e w' => e = .returned (.bool false) ∧ Drawn0 w w' := by
  have HR0 := Aside0.mk hr0
  clear hr0
  have H := Aside0.mk h
  clear h
  go_enter Try.func132, Try.ntmps132
  go_wp2_with (first | (go_at_call 158; refine (IndexFuncI.ok A0 c0 l0 _ HR0.out hm H.out).mono ?_; rintro e w' ⟨rfl, ⟨nd, rfl⟩⟩))
  go_ret
  exact ⟨rfl, by repeat (first | exact Drawn0.refl _ | apply Drawn0.step)⟩
theorem ContainsFuncI.bad (A0 : Option Addr) (c0 : Nat) (l0 : List Int) (w : World) (hr0 : Kd.C (Kd.int .i64) w A0 l0.length l0) (hm : l0.length ≤ 9223372036854775807) (h : l0.all iOk = false) :
    Calls Try.prog 132 #[.slice A0 l0.length c0, .func (.func 135) #[] #[]] w fun e w' => e = .returned (.bool true) ∧ Drawn0 w w' := by
  have HR0 := Aside0.mk hr0
  clear hr0
  have H := Aside0.mk h
  clear h
  go_enter Try.func132, Try.ntmps132
  go_wp2_with (first | (go_at_call 158; refine (IndexFuncI.bad A0 c0 l0 _ HR0.out hm H.out).mono ?_; rintro e w' ⟨j, rfl, ⟨nd, rfl⟩⟩))
  go_ret
  exact ⟨by simp, by repeat (first | exact Drawn0.refl _ | apply Drawn0.step)⟩


def impl_idsOk.f (l0 : List Int) (a1 : Int) : Option Bool := if (allWf l0 && decide (l0.length ≤ 1048576000)) = true then some (decide l0.Nodup && decide ((l0.length : Int) ≤ a1) && l0.all iOk) else none
set_option maxHeartbeats 1000000 in
set_option maxRecDepth 100000 in
theorem impl_idsOk.calls (A0 : Option Addr) (c0 : Nat) (l0 : List Int) (a1 : Int) (r : Bool) (w : World) (hr0 : Kd.C (Kd.int .i64) w A0 l0.length l0) (hc0 : l0.length ≤ c0) (h : impl_idsOk.f l0 a1 = some r) :
    Calls Try.prog 100 #[.slice A0 l0.length c0, .int .i64 a1] w fun e w' => e = .returned (.bool r) ∧ Below w.heap.size w w' := by
  unfold impl_idsOk.f at h
  by_cases hp : (allWf l0 && decide (l0.length ≤ 1048576000)) = true
  · rw [if_pos hp] at h
    obtain rfl := Option.some.inj h
    clear h
    rw [Bool.and_eq_true, decide_eq_true_eq] at hp
    obtain ⟨hwf, hn⟩ := hp
    have hm : l0.length ≤ 9223372036854775807 := hr0.2.1
    have HWF := Aside0.mk hwf
    have HR0 := Aside0.mk hr0
    clear hwf hr0
    cases hd : decide l0.Nodup
    · have HD := Aside0.mk hd
      clear hd
      go_enter Try.func100, Try.ntmps100
      go_wp2_with (first | (go_at_call 105; refine (groupOf.calls A0 c0 l0 _ HR0.out hn HWF.out).mono ?_; rintro e w1 ⟨rfl, HO, HB⟩; rw [HD.out]))
      go_ret
      exact ⟨by first | rfl | (simp; done), HB.out⟩
    · have HD := Aside0.mk hd
      clear hd
      by_cases c2 : (l0.length : Int) ≤ a1
      · have c2b0 : decide ((l0.length : Int) ≤ a1) = true := decide_eq_true c2
        cases hall : l0.all iOk
        · have H := Aside0.mk hall
          rw [c2b0]
          clear hall c2
          go_enter Try.func100, Try.ntmps100
          go_wp2_with (first | (go_at_call 105; refine (groupOf.calls A0 c0 l0 _ HR0.out hn HWF.out).mono ?_; rintro e w1 ⟨rfl, HO, HB⟩; rw [HD.out]) | (go_at_call 132; refine (ContainsFuncI.bad A0 c0 l0 _ (Kd.C_below HR0.out HB.out) hm H.out).mono ?_; rintro e w' ⟨rfl, ⟨nd, rfl⟩⟩))
          go_ret
          exact ⟨by first | rfl | (simp; done), by repeat (first | exact HB.out | apply pw_below_drewN | apply below_drew)⟩
        · have H := Aside0.mk hall
          rw [c2b0]
          clear hall c2
          go_enter Try.func100, Try.ntmps100
          go_wp2_with (first | (go_at_call 105; refine (groupOf.calls A0 c0 l0 _ HR0.out hn HWF.out).mono ?_; rintro e w1 ⟨rfl, HO, HB⟩; rw [HD.out]) | (go_at_call 132; refine (ContainsFuncI.ok A0 c0 l0 _ (Kd.C_below HR0.out HB.out) hm H.out).mono ?_; rintro e w' ⟨rfl, ⟨nd, rfl⟩⟩))
          go_ret
          exact ⟨by first | rfl | (simp; done), by repeat (first | exact HB.out | apply pw_below_drewN | apply below_drew)⟩
      · have c2b0 : decide ((l0.length : Int) ≤ a1) = false := decide_eq_false c2
        rw [c2b0]
        clear c2
        go_enter Try.func100, Try.ntmps100
        go_wp2_with (first | (go_at_call 105; refine (groupOf.calls A0 c0 l0 _ HR0.out hn HWF.out).mono ?_; rintro e w1 ⟨rfl, HO, HB⟩; rw [HD.out]))
        go_ret
        exact ⟨by first | rfl | (simp; done), HB.out⟩
  · rw [if_neg hp] at h
    cases h

end Go.Proofs.Ytplbobmllflniaa.Eb
