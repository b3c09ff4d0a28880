import Derived.Test.YtjkikkgpenhbgaaKBa0
import Derived.Test.YtjkikkgpenhbgaaKBa1
import Derived.Test.YtjkikkgpenhbgaaKBa3
namespace Go.Proofs.Ytjkikkgpenhbgaa.Ba
open Go.RowKit Go.Proofs.YtjkikkgpenhbgaaW.PrintWords Go.Proofs.YtjkikkgpenhbgaaW.PrintLast Go.Proofs.YtjkikkgpenhbgaaW.PrintMore
attribute [local go_sem] max2_int min2_int max_two min_two max_three min_three max_four min_four
set_option linter.unusedVariables false
set_option linter.unusedSimpArgs false
set_option maxRecDepth 100000 in
theorem measureOf.c1 (w : World) : Calls Tru.prog 51 #[.int .i64 1] w fun e w' => e = .returned (.iface 97 (.agg #[])) ∧ w = w' := by
 go_enter Tru.func51, Try.ntmps51
 go_wp2
 go_ret
 exact ⟨rfl, rfl⟩
set_option maxRecDepth 100000 in
theorem measureOf.c2 (w : World) : Calls Tru.prog 51 #[.int .i64 2] w fun e w' => e = .returned (.iface 98 (.agg #[])) ∧ w = w' := by
 go_enter Tru.func51, Try.ntmps51
 go_wp2
 go_ret
 exact ⟨rfl, rfl⟩
set_option maxRecDepth 100000 in
theorem measureOf.c3 (w : World) : Calls Tru.prog 51 #[.int .i64 3] w fun e w' => e = .returned (.iface 99 (.agg #[])) ∧ w = w' := by
 go_enter Tru.func51, Try.ntmps51
 go_wp2
 go_ret
 exact ⟨rfl, rfl⟩
set_option maxRecDepth 100000 in
theorem measureOf.c0 (n : Int) (w : World) (h1 : n ≠ 1) (h2 : n ≠ 2) (h3 : n ≠ 3) : Calls Tru.prog 51 #[.int .i64 n] w fun e w' => e = .returned .nilIface ∧ w = w' := by
 have e1 : (n == 1) = false := beq_eq_false_iff_ne.2 h1
 have e2 : (n == 2) = false := beq_eq_false_iff_ne.2 h2
 have e3 : (n == 3) = false := beq_eq_false_iff_ne.2 h3
 go_enter Tru.func51, Try.ntmps51
 go_wp2
 go_ret
 exact ⟨rfl, rfl⟩
set_option maxRecDepth 100000 in
theorem bitMeasure_size.calls (w : World) : Calls Tru.prog 133 #[.agg #[]] w fun e w' => e = .returned (.int .i64 1) ∧ w.alloc (.cells #[] 97) = w' := by
 go_enter Tru.func133, Try.ntmps133
 go_wp2
 go_ret
 exact ⟨rfl, rfl⟩
set_option maxRecDepth 100000 in
theorem bitMeasure_size.meth (w : World) : (method 249 97 (.agg #[]) "loop.example/scrutineer/impl.size").run Tru.prog w = .ok (133, .agg #[]) w := by kernel_rfl
set_option maxRecDepth 100000 in
theorem pickMeasure_size.calls (w : World) : Calls Tru.prog 136 #[.agg #[]] w fun e w' => e = .returned (.int .i64 4) ∧ w.alloc (.cells #[] 98) = w' := by
 go_enter Tru.func136, Try.ntmps136
 go_wp2
 go_ret
 exact ⟨rfl, rfl⟩
set_option maxRecDepth 100000 in
theorem pickMeasure_size.meth (w : World) : (method 249 98 (.agg #[]) "loop.example/scrutineer/impl.size").run Tru.prog w = .ok (136, .agg #[]) w := by kernel_rfl
set_option maxRecDepth 100000 in
theorem numMeasure_size.calls (w : World) : Calls Tru.prog 139 #[.agg #[]] w fun e w' => e = .returned (.int .i64 3) ∧ w.alloc (.cells #[] 99) = w' := by
 go_enter Tru.func139, Try.ntmps139
 go_wp2
 go_ret
 exact ⟨rfl, rfl⟩
set_option maxRecDepth 100000 in
theorem numMeasure_size.meth (w : World) : (method 249 99 (.agg #[]) "loop.example/scrutineer/impl.size").run Tru.prog w = .ok (139, .agg #[]) w := by kernel_rfl
end Go.Proofs.Ytjkikkgpenhbgaa.Ba
