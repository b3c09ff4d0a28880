/- Plain lemmas about the Lean functions of the program's printed text; each theorem states its own conditions. -/
import Derived.KernelRfl
import Derived.Test.YtplbobmllflniaaEz3
import Derived.Test.YtplbobmllflniaaEz4
import Derived.Test.YtplbobmllflniaaQShareEz
import Derived.Test.YtplbobmllflniaaQThroughEz
set_option linter.unusedVariables false
set_option linter.unusedSimpArgs false
namespace Go.Proofs.Ytplbobmllflniaa.Q
open Go.RowKit Go.Proofs.Ytplbobmllflniaa.Ez Go.Proofs.YtplbobmllflniaaW.PrintWords Go.Proofs.YtplbobmllflniaaW.PrintLast Go.Proofs.YtplbobmllflniaaW.PrintMore
theorem l2Through2_raw (a b : Int) : spec_l2Through.f 90 [a, b] = some [(lin (lin 0 a 1) b 0), (lin (lin 0 a 30) b 1)] := by kernel_rfl
theorem thrL_2 : thrL 2 = [⟨1, 0, 0, 0, 0⟩, ⟨30, 1, 0, 0, 0⟩] := by decide +kernel
theorem l2Through2 (a b : Int) (ha : 0 ≤ a ∧ a ≤ 30) (hb : 0 ≤ b ∧ b ≤ 30) : spec_l2Through.f 90 [a, b] = some ((thrL 2).map (LF.ev ⟨a, b, 0, 0, 0⟩)) := by
  rw [l2Through2_raw, thrL_2]
  simp only [List.map_cons, List.map_nil, LF.ev, LF.raw]
  have z : ∀ v c : Int, 0 ≤ v ∧ v ≤ 30 → 0 ≤ c ∧ c ≤ 30 → lin 0 v c = (v * c) % 31 := fun v c hv hc => by have := lin_v 0 v c hv hc; simpa using this
  have e0 : (lin (lin 0 a 1) b 0) = (a * 1 + b * 0) % 31 := by rw [z a 1 ha (by omega), lin_v _ b 0 hb (by omega)]
  have e1 : (lin (lin 0 a 30) b 1) = (a * 30 + b * 1) % 31 := by rw [z a 30 ha (by omega), lin_v _ b 1 hb (by omega)]
  rw [e0, e1]
  congr 1
  refine List.cons_eq_cons.2 ⟨by omega, List.cons_eq_cons.2 ⟨by omega, rfl⟩⟩
theorem fill2 (a b : Int) (ha : 0 ≤ a ∧ a ≤ 30) (hb : 0 ≤ b ∧ b ≤ 30) : fillD [a, b] 2 = (startL 2).map (LF.ev ⟨a, b, 0, 0, 0⟩) := by
  have e : fillD [a, b] 2 = [a, b, 0, 0, 0, 0, 0, 0, 0] := by kernel_rfl
  have e2 : startL 2 = [⟨1, 0, 0, 0, 0⟩, ⟨0, 1, 0, 0, 0⟩, ⟨0, 0, 0, 0, 0⟩, ⟨0, 0, 0, 0, 0⟩, ⟨0, 0, 0, 0, 0⟩, ⟨0, 0, 0, 0, 0⟩, ⟨0, 0, 0, 0, 0⟩, ⟨0, 0, 0, 0, 0⟩, ⟨0, 0, 0, 0, 0⟩] := by decide +kernel
  rw [e, e2]
  simp only [List.map_cons, List.map_nil, LF.ev, LF.raw]
  refine List.cons_eq_cons.2 ⟨by omega, List.cons_eq_cons.2 ⟨by omega, List.cons_eq_cons.2 ⟨by omega, List.cons_eq_cons.2 ⟨by omega, List.cons_eq_cons.2 ⟨by omega, List.cons_eq_cons.2 ⟨by omega, List.cons_eq_cons.2 ⟨by omega, List.cons_eq_cons.2 ⟨by omega, List.cons_eq_cons.2 ⟨by omega, rfl⟩⟩⟩⟩⟩⟩⟩⟩⟩
theorem through2 (a b : Int) (ha : 0 ≤ a ∧ a ≤ 30) (hb : 0 ≤ b ∧ b ≤ 30) : ∃ r : List Int, spec_l2Through.f 90 [a, b] = some r ∧ impl_through.f [a, b] = some r ∧ r.length = 2 ∧ r.all fOk = true :=
  ⟨_, l2Through2 a b ha hb, through_map ⟨a, b, 0, 0, 0⟩ _ 2 rfl (by omega) (by omega) (fill2 a b ha hb), by rw [thrL_2]; rfl, by rw [List.all_map, List.all_eq_true]; intro f _; exact (fOk_iff _).2 (LF.ev_bd _ _)⟩
theorem l2Through4_raw (a b c d : Int) : spec_l2Through.f 90 [a, b, c, d] = some [(lin (lin (lin (lin 0 a 1) b 0) c 0) d 0), (lin (lin (lin (lin 0 a 24) b 3) c 14) d 21), (lin (lin (lin (lin 0 a 1) b 13) c 2) d 15), (lin (lin (lin (lin 0 a 5) b 16) c 15) d 26)] := by kernel_rfl
theorem thrL_4 : thrL 4 = [⟨1, 0, 0, 0, 0⟩, ⟨24, 3, 14, 21, 0⟩, ⟨1, 13, 2, 15, 0⟩, ⟨5, 16, 15, 26, 0⟩] := by decide +kernel
theorem l2Through4 (a b c d : Int) (ha : 0 ≤ a ∧ a ≤ 30) (hb : 0 ≤ b ∧ b ≤ 30) (hc : 0 ≤ c ∧ c ≤ 30) (hd : 0 ≤ d ∧ d ≤ 30) : spec_l2Through.f 90 [a, b, c, d] = some ((thrL 4).map (LF.ev ⟨a, b, c, d, 0⟩)) := by
  rw [l2Through4_raw, thrL_4]
  simp only [List.map_cons, List.map_nil, LF.ev, LF.raw]
  have z : ∀ v c : Int, 0 ≤ v ∧ v ≤ 30 → 0 ≤ c ∧ c ≤ 30 → lin 0 v c = (v * c) % 31 := fun v c hv hc => by have := lin_v 0 v c hv hc; simpa using this
  have e0 : (lin (lin (lin (lin 0 a 1) b 0) c 0) d 0) = (a * 1 + b * 0 + c * 0 + d * 0) % 31 := by rw [z a 1 ha (by omega), lin_v _ b 0 hb (by omega), lin_v _ c 0 hc (by omega), lin_v _ d 0 hd (by omega)]
  have e1 : (lin (lin (lin (lin 0 a 24) b 3) c 14) d 21) = (a * 24 + b * 3 + c * 14 + d * 21) % 31 := by rw [z a 24 ha (by omega), lin_v _ b 3 hb (by omega), lin_v _ c 14 hc (by omega), lin_v _ d 21 hd (by omega)]
  have e2 : (lin (lin (lin (lin 0 a 1) b 13) c 2) d 15) = (a * 1 + b * 13 + c * 2 + d * 15) % 31 := by rw [z a 1 ha (by omega), lin_v _ b 13 hb (by omega), lin_v _ c 2 hc (by omega), lin_v _ d 15 hd (by omega)]
  have e3 : (lin (lin (lin (lin 0 a 5) b 16) c 15) d 26) = (a * 5 + b * 16 + c * 15 + d * 26) % 31 := by rw [z a 5 ha (by omega), lin_v _ b 16 hb (by omega), lin_v _ c 15 hc (by omega), lin_v _ d 26 hd (by omega)]
  rw [e0, e1, e2, e3]
  congr 1
  refine List.cons_eq_cons.2 ⟨by omega, List.cons_eq_cons.2 ⟨by omega, List.cons_eq_cons.2 ⟨by omega, List.cons_eq_cons.2 ⟨by omega, rfl⟩⟩⟩⟩
theorem fill4 (a b c d : Int) (ha : 0 ≤ a ∧ a ≤ 30) (hb : 0 ≤ b ∧ b ≤ 30) (hc : 0 ≤ c ∧ c ≤ 30) (hd : 0 ≤ d ∧ d ≤ 30) : fillD [a, b, c, d] 4 = (startL 4).map (LF.ev ⟨a, b, c, d, 0⟩) := by
  have e : fillD [a, b, c, d] 4 = [a, b, c, d, 0, 0, 0, 0, 0] := by kernel_rfl
  have e2 : startL 4 = [⟨1, 0, 0, 0, 0⟩, ⟨0, 1, 0, 0, 0⟩, ⟨0, 0, 1, 0, 0⟩, ⟨0, 0, 0, 1, 0⟩, ⟨0, 0, 0, 0, 0⟩, ⟨0, 0, 0, 0, 0⟩, ⟨0, 0, 0, 0, 0⟩, ⟨0, 0, 0, 0, 0⟩, ⟨0, 0, 0, 0, 0⟩] := by decide +kernel
  rw [e, e2]
  simp only [List.map_cons, List.map_nil, LF.ev, LF.raw]
  refine List.cons_eq_cons.2 ⟨by omega, List.cons_eq_cons.2 ⟨by omega, List.cons_eq_cons.2 ⟨by omega, List.cons_eq_cons.2 ⟨by omega, List.cons_eq_cons.2 ⟨by omega, List.cons_eq_cons.2 ⟨by omega, List.cons_eq_cons.2 ⟨by omega, List.cons_eq_cons.2 ⟨by omega, List.cons_eq_cons.2 ⟨by omega, rfl⟩⟩⟩⟩⟩⟩⟩⟩⟩
theorem through4 (a b c d : Int) (ha : 0 ≤ a ∧ a ≤ 30) (hb : 0 ≤ b ∧ b ≤ 30) (hc : 0 ≤ c ∧ c ≤ 30) (hd : 0 ≤ d ∧ d ≤ 30) : ∃ r : List Int, spec_l2Through.f 90 [a, b, c, d] = some r ∧ impl_through.f [a, b, c, d] = some r ∧ r.length = 4 ∧ r.all fOk = true :=
  ⟨_, l2Through4 a b c d ha hb hc hd, through_map ⟨a, b, c, d, 0⟩ _ 4 rfl (by omega) (by omega) (fill4 a b c d ha hb hc hd), by rw [thrL_4]; rfl, by rw [List.all_map, List.all_eq_true]; intro f _; exact (fOk_iff _).2 (LF.ev_bd _ _)⟩
theorem l2Through5_raw (a b c d e : Int) : spec_l2Through.f 90 [a, b, c, d, e] = some [(lin (lin (lin (lin (lin 0 a 1) b 0) c 0) d 0) e 0), (lin (lin (lin (lin (lin 0 a 16) b 4) c 28) d 22) e 23), (lin (lin (lin (lin (lin 0 a 26) b 6) c 28) d 8) e 25), (lin (lin (lin (lin (lin 0 a 28) b 17) c 29) d 27) e 23), (lin (lin (lin (lin (lin 0 a 22) b 5) c 8) d 5) e 22)] := by kernel_rfl
theorem thrL_5 : thrL 5 = [⟨1, 0, 0, 0, 0⟩, ⟨16, 4, 28, 22, 23⟩, ⟨26, 6, 28, 8, 25⟩, ⟨28, 17, 29, 27, 23⟩, ⟨22, 5, 8, 5, 22⟩] := by decide +kernel
theorem l2Through5 (a b c d e : Int) (ha : 0 ≤ a ∧ a ≤ 30) (hb : 0 ≤ b ∧ b ≤ 30) (hc : 0 ≤ c ∧ c ≤ 30) (hd : 0 ≤ d ∧ d ≤ 30) (he : 0 ≤ e ∧ e ≤ 30) : spec_l2Through.f 90 [a, b, c, d, e] = some ((thrL 5).map (LF.ev ⟨a, b, c, d, e⟩)) := by
  rw [l2Through5_raw, thrL_5]
  simp only [List.map_cons, List.map_nil, LF.ev, LF.raw]
  have z : ∀ v c : Int, 0 ≤ v ∧ v ≤ 30 → 0 ≤ c ∧ c ≤ 30 → lin 0 v c = (v * c) % 31 := fun v c hv hc => by have := lin_v 0 v c hv hc; simpa using this
  have e0 : (lin (lin (lin (lin (lin 0 a 1) b 0) c 0) d 0) e 0) = (a * 1 + b * 0 + c * 0 + d * 0 + e * 0) % 31 := by rw [z a 1 ha (by omega), lin_v _ b 0 hb (by omega), lin_v _ c 0 hc (by omega), lin_v _ d 0 hd (by omega), lin_v _ e 0 he (by omega)]
  have e1 : (lin (lin (lin (lin (lin 0 a 16) b 4) c 28) d 22) e 23) = (a * 16 + b * 4 + c * 28 + d * 22 + e * 23) % 31 := by rw [z a 16 ha (by omega), lin_v _ b 4 hb (by omega), lin_v _ c 28 hc (by omega), lin_v _ d 22 hd (by omega), lin_v _ e 23 he (by omega)]
  have e2 : (lin (lin (lin (lin (lin 0 a 26) b 6) c 28) d 8) e 25) = (a * 26 + b * 6 + c * 28 + d * 8 + e * 25) % 31 := by rw [z a 26 ha (by omega), lin_v _ b 6 hb (by omega), lin_v _ c 28 hc (by omega), lin_v _ d 8 hd (by omega), lin_v _ e 25 he (by omega)]
  have e3 : (lin (lin (lin (lin (lin 0 a 28) b 17) c 29) d 27) e 23) = (a * 28 + b * 17 + c * 29 + d * 27 + e * 23) % 31 := by rw [z a 28 ha (by omega), lin_v _ b 17 hb (by omega), lin_v _ c 29 hc (by omega), lin_v _ d 27 hd (by omega), lin_v _ e 23 he (by omega)]
  have e4 : (lin (lin (lin (lin (lin 0 a 22) b 5) c 8) d 5) e 22) = (a * 22 + b * 5 + c * 8 + d * 5 + e * 22) % 31 := by rw [z a 22 ha (by omega), lin_v _ b 5 hb (by omega), lin_v _ c 8 hc (by omega), lin_v _ d 5 hd (by omega), lin_v _ e 22 he (by omega)]
  rw [e0, e1, e2, e3, e4]
  congr 1
  refine List.cons_eq_cons.2 ⟨by omega, List.cons_eq_cons.2 ⟨by omega, List.cons_eq_cons.2 ⟨by omega, List.cons_eq_cons.2 ⟨by omega, List.cons_eq_cons.2 ⟨by omega, rfl⟩⟩⟩⟩⟩
theorem fill5 (a b c d e : Int) (ha : 0 ≤ a ∧ a ≤ 30) (hb : 0 ≤ b ∧ b ≤ 30) (hc : 0 ≤ c ∧ c ≤ 30) (hd : 0 ≤ d ∧ d ≤ 30) (he : 0 ≤ e ∧ e ≤ 30) : fillD [a, b, c, d, e] 5 = (startL 5).map (LF.ev ⟨a, b, c, d, e⟩) := by
  have e : fillD [a, b, c, d, e] 5 = [a, b, c, d, e, 0, 0, 0, 0] := by kernel_rfl
  have e2 : startL 5 = [⟨1, 0, 0, 0, 0⟩, ⟨0, 1, 0, 0, 0⟩, ⟨0, 0, 1, 0, 0⟩, ⟨0, 0, 0, 1, 0⟩, ⟨0, 0, 0, 0, 1⟩, ⟨0, 0, 0, 0, 0⟩, ⟨0, 0, 0, 0, 0⟩, ⟨0, 0, 0, 0, 0⟩, ⟨0, 0, 0, 0, 0⟩] := by decide +kernel
  rw [e, e2]
  simp only [List.map_cons, List.map_nil, LF.ev, LF.raw]
  refine List.cons_eq_cons.2 ⟨by omega, List.cons_eq_cons.2 ⟨by omega, List.cons_eq_cons.2 ⟨by omega, List.cons_eq_cons.2 ⟨by omega, List.cons_eq_cons.2 ⟨by omega, List.cons_eq_cons.2 ⟨by omega, List.cons_eq_cons.2 ⟨by omega, List.cons_eq_cons.2 ⟨by omega, List.cons_eq_cons.2 ⟨by omega, rfl⟩⟩⟩⟩⟩⟩⟩⟩⟩
theorem through5 (a b c d e : Int) (ha : 0 ≤ a ∧ a ≤ 30) (hb : 0 ≤ b ∧ b ≤ 30) (hc : 0 ≤ c ∧ c ≤ 30) (hd : 0 ≤ d ∧ d ≤ 30) (he : 0 ≤ e ∧ e ≤ 30) : ∃ r : List Int, spec_l2Through.f 90 [a, b, c, d, e] = some r ∧ impl_through.f [a, b, c, d, e] = some r ∧ r.length = 5 ∧ r.all fOk = true :=
  ⟨_, l2Through5 a b c d e ha hb hc hd he, through_map ⟨a, b, c, d, e⟩ _ 5 rfl (by omega) (by omega) (fill5 a b c d e ha hb hc hd he), by rw [thrL_5]; rfl, by rw [List.all_map, List.all_eq_true]; intro f _; exact (fOk_iff _).2 (LF.ev_bd _ _)⟩

end Go.Proofs.Ytplbobmllflniaa.Q
