import Derived.KernelRfl
import Derived.Test.YtplbobmllflniaaEi5
import Derived.Test.YtplbobmllflniaaQThroughEi
set_option linter.unusedVariables false
set_option linter.unusedSimpArgs false
namespace Go.Proofs.Ytplbobmllflniaa.Q
open Go.RowKit Go.Proofs.Ytplbobmllflniaa.Ei Go.Proofs.YtplbobmllflniaaW.PrintWords Go.Proofs.YtplbobmllflniaaW.PrintLast Go.Proofs.YtplbobmllflniaaW.PrintMore
theorem thrL_2 : thrL 2 = [⟨1, 0, 0, 0, 0⟩, ⟨30, 1, 0, 0, 0⟩] := by decide +kernel
theorem fill2 (a b : Int) (ha : 0 ≤ a ∧ a ≤ 30) (hb : 0 ≤ b ∧ b ≤ 30) : fillD [a, b] 2 = (startL 2).map (LF.ev ⟨a, b, 0, 0, 0⟩) := by
  have e : fillD [a, b] 2 = [a, b, 0, 0, 0, 0, 0, 0, 0] := by kernel_rfl
  have e2 : startL 2 = [⟨1, 0, 0, 0, 0⟩, ⟨0, 1, 0, 0, 0⟩, ⟨0, 0, 0, 0, 0⟩, ⟨0, 0, 0, 0, 0⟩, ⟨0, 0, 0, 0, 0⟩, ⟨0, 0, 0, 0, 0⟩, ⟨0, 0, 0, 0, 0⟩, ⟨0, 0, 0, 0, 0⟩, ⟨0, 0, 0, 0, 0⟩] := by decide +kernel
  rw [e, e2]
  simp only [List.map_cons, List.map_nil, LF.ev, LF.raw]
  refine List.cons_eq_cons.2 ⟨by omega, List.cons_eq_cons.2 ⟨by omega, List.cons_eq_cons.2 ⟨by omega, List.cons_eq_cons.2 ⟨by omega, List.cons_eq_cons.2 ⟨by omega, List.cons_eq_cons.2 ⟨by omega, List.cons_eq_cons.2 ⟨by omega, List.cons_eq_cons.2 ⟨by omega, List.cons_eq_cons.2 ⟨by omega, rfl⟩⟩⟩⟩⟩⟩⟩⟩⟩
theorem thrL_4 : thrL 4 = [⟨1, 0, 0, 0, 0⟩, ⟨24, 3, 14, 21, 0⟩, ⟨1, 13, 2, 15, 0⟩, ⟨5, 16, 15, 26, 0⟩] := by decide +kernel
theorem fill4 (a b c d : Int) (ha : 0 ≤ a ∧ a ≤ 30) (hb : 0 ≤ b ∧ b ≤ 30) (hc : 0 ≤ c ∧ c ≤ 30) (hd : 0 ≤ d ∧ d ≤ 30) : fillD [a, b, c, d] 4 = (startL 4).map (LF.ev ⟨a, b, c, d, 0⟩) := by
  have e : fillD [a, b, c, d] 4 = [a, b, c, d, 0, 0, 0, 0, 0] := by kernel_rfl
  have e2 : startL 4 = [⟨1, 0, 0, 0, 0⟩, ⟨0, 1, 0, 0, 0⟩, ⟨0, 0, 1, 0, 0⟩, ⟨0, 0, 0, 1, 0⟩, ⟨0, 0, 0, 0, 0⟩, ⟨0, 0, 0, 0, 0⟩, ⟨0, 0, 0, 0, 0⟩, ⟨0, 0, 0, 0, 0⟩, ⟨0, 0, 0, 0, 0⟩] := by decide +kernel
  rw [e, e2]
  simp only [List.map_cons, List.map_nil, LF.ev, LF.raw]
  refine List.cons_eq_cons.2 ⟨by omega, List.cons_eq_cons.2 ⟨by omega, List.cons_eq_cons.2 ⟨by omega, List.cons_eq_cons.2 ⟨by omega, List.cons_eq_cons.2 ⟨by omega, List.cons_eq_cons.2 ⟨by omega, List.cons_eq_cons.2 ⟨by omega, List.cons_eq_cons.2 ⟨by omega, List.cons_eq_cons.2 ⟨by omega, rfl⟩⟩⟩⟩⟩⟩⟩⟩⟩
theorem thrL_5 : thrL 5 = [⟨1, 0, 0, 0, 0⟩, ⟨16, 4, 28, 22, 23⟩, ⟨26, 6, 28, 8, 25⟩, ⟨28, 17, 29, 27, 23⟩, ⟨22, 5, 8, 5, 22⟩] := by decide +kernel
theorem fill5 (a b c d e : Int) (ha : 0 ≤ a ∧ a ≤ 30) (hb : 0 ≤ b ∧ b ≤ 30) (hc : 0 ≤ c ∧ c ≤ 30) (hd : 0 ≤ d ∧ d ≤ 30) (he : 0 ≤ e ∧ e ≤ 30) : fillD [a, b, c, d, e] 5 = (startL 5).map (LF.ev ⟨a, b, c, d, e⟩) := by
  have e : fillD [a, b, c, d, e] 5 = [a, b, c, d, e, 0, 0, 0, 0] := by kernel_rfl
  have e2 : startL 5 = [⟨1, 0, 0, 0, 0⟩, ⟨0, 1, 0, 0, 0⟩, ⟨0, 0, 1, 0, 0⟩, ⟨0, 0, 0, 1, 0⟩, ⟨0, 0, 0, 0, 1⟩, ⟨0, 0, 0, 0, 0⟩, ⟨0, 0, 0, 0, 0⟩, ⟨0, 0, 0, 0, 0⟩, ⟨0, 0, 0, 0, 0⟩] := by decide +kernel
  rw [e, e2]
  simp only [List.map_cons, List.map_nil, LF.ev, LF.raw]
  refine List.cons_eq_cons.2 ⟨by omega, List.cons_eq_cons.2 ⟨by omega, List.cons_eq_cons.2 ⟨by omega, List.cons_eq_cons.2 ⟨by omega, List.cons_eq_cons.2 ⟨by omega, List.cons_eq_cons.2 ⟨by omega, List.cons_eq_cons.2 ⟨by omega, List.cons_eq_cons.2 ⟨by omega, List.cons_eq_cons.2 ⟨by omega, rfl⟩⟩⟩⟩⟩⟩⟩⟩⟩
end Go.Proofs.Ytplbobmllflniaa.Q
