/-
  NARROWER THAN 'FOR EVERY INPUT', by the rows' own cells (each row's printed sentence says how): FnExactPartsTake: laid · FnAskHide: ifaces, laid · FnAskTold: ifaces, laid · FnChanceAll: ifaces, laid · FnChanceBound: ifaces, laid · FnChanceSplit: ifaces, laid · FnTake: laid.
  DERIVED. THE GIVEN ROWS OF THIS SEAT. 7 by the template 'for every input the law returns true; each argument reads behind the call as it read before'; 0 by the template 'total and deterministic' (their statements: YtlgbblaidohljaaGreatDoorTotals.lean).
  GIVEN WITH THE SEED: the statements are not yours to turn. If you find one false, say at which input.
  Laid BY PROGRAM, IN A SANDBOX (cutbox-rows.mjs): the forced cells as the released guide's own fill.sh prints them over the translation 8171dfb5ad209907… (all of the seat's roots in one cut). By AI agents, Wed Nov 11 2026. No macro, syntax, notation, axiom, sorry.
-/
import Derived.Test.YtlgbblaidohljaaGreatDoorChecked
import GoSem.Claim
import GoSem.ClaimJoined
import GoSem.ClaimMapViews
import Derived.JoinedTies
import Derived.KernelRfl
namespace Go.Proofs.YtlgbblaidohljaaGreatDoor
/- THE CELL 'sum', in the pinned program and in every row, IS THE sha256 OF THE DUMP (.gsa) THAT YtlgbblaidohljaaGreatDoorProg.lean LOADS. Nothing in Lean hashes anything: it is a label: what it is worth is what the hold of that sum in a sandbox is worth. -/
noncomputable def Tryz.pinned : Pinned := { name := "ytlgbblaidohljaagreatdoor", sum := "8171dfb5ad209907f46fca48183a3e82cc7d696bafd1b2db156d0a88da3bcf85", checked := Tryz.checked }
namespace Rows
def none {H : Type} : Left H := { results := [], args := [] }

/- WHAT THE LISTED PACKAGE-LEVEL VARIABLES READ AS WHEN THE CALL BEGINS. Each datum BY PROGRAM (the guide's laid-datum.mjs) off the statement by which the dump's own 'gosem.cut.vars' lays the variable. In a bare row this is a premise. The card (YtlgbblaidohljaaGreatDoorCards.lean) ties it to the program's text. -/
def laid_errors_errorType {H : Type} : DataW H := .iface "internal/reflectlite.rtype" (.agg [.ptr (.lit (.string [101, 114, 114, 111, 114]))])
def laid_loop_example_scrutineer_impl_errProof {H : Type} : DataW H := .iface "*errors.errorString" (.ptr (.agg [.lit (.string [112, 114, 111, 111, 102, 32, 105, 115, 32, 110, 111, 116, 32, 119, 101, 108, 108, 32, 102, 111, 114, 109, 101, 100])]))

/-- 'laws.FnExactPartsTake': WHATEVER THE INPUT: true; the input reads as it did. -/
def fnExactPartsTakeSpec : ChangeSpec := { name := "fnExactPartsTake", fn := fun _ => fun
  | [d1, d2, d3, d4] => { results := [.lit (.bool true)], args := [d1, d2, d3, d4] }
  | _ => none }
def fnExactPartsTakeRow : OpenClaim := { program := "ytlgbblaidohljaagreatdoor", sum := "8171dfb5ad209907f46fca48183a3e82cc7d696bafd1b2db156d0a88da3bcf85", func := "loop.example/scrutineer/laws.FnExactPartsTake", spec := "fnExactPartsTake", inPlace := ["internal/reflectlite.ValueOf", "(internal/reflectlite.Value).Type", "(internal/reflectlite.Value).IsNil", "internal/reflectlite.TypeOf", "(internal/reflectlite.Value).Elem", "(internal/reflectlite.Value).Set"], unfollowed := true, recurses := true, named := ["errors.errorType"], apart := false, laid := [("errors.errorType", laid_errors_errorType)] }
def FnExactPartsTakeSaid : Prop := fnExactPartsTakeRow.holds Tryz.pinned (OpenSpec.ofChange fnExactPartsTakeSpec)

/-- ITS FALSE NEIGHBOUR: 'it returns false'. Refute it at one input. -/
def fnExactPartsTakeWrong : ChangeSpec := { name := "fnExactPartsTake", fn := fun _ => fun
  | [d1, d2, d3, d4] => { results := [.lit (.bool false)], args := [d1, d2, d3, d4] }
  | _ => none }
def FnExactPartsTakeWrongFalsely : Prop := fnExactPartsTakeRow.holds Tryz.pinned (OpenSpec.ofChange fnExactPartsTakeWrong)

/-- 'laws.FnAskHide': WHATEVER THE INPUT: true; the input reads as it did. -/
def fnAskHideSpec : ChangeSpec := { name := "fnAskHide", vars := ["loop.example/scrutineer/impl.errProof"], fn := fun _ => fun
  | [d1, d2, g1] => { results := [.lit (.bool true)], args := [d1, d2], vars := [g1] }
  | _ => none }
def fnAskHideRow : OpenClaim := { program := "ytlgbblaidohljaagreatdoor", sum := "8171dfb5ad209907f46fca48183a3e82cc7d696bafd1b2db156d0a88da3bcf85", func := "loop.example/scrutineer/laws.FnAskHide", spec := "fnAskHide", inPlace := ["internal/reflectlite.TypeOf"], unfollowed := true, recurses := true, named := ["loop.example/scrutineer/impl.errProof"], ifaces := true, apart := false, laid := [("loop.example/scrutineer/impl.errProof", laid_loop_example_scrutineer_impl_errProof)] }
def FnAskHideSaid : Prop := fnAskHideRow.holds Tryz.pinned (OpenSpec.ofChange fnAskHideSpec)

/-- ITS FALSE NEIGHBOUR: 'it returns false'. Refute it at one input. -/
def fnAskHideWrong : ChangeSpec := { name := "fnAskHide", vars := ["loop.example/scrutineer/impl.errProof"], fn := fun _ => fun
  | [d1, d2, g1] => { results := [.lit (.bool false)], args := [d1, d2], vars := [g1] }
  | _ => none }
def FnAskHideWrongFalsely : Prop := fnAskHideRow.holds Tryz.pinned (OpenSpec.ofChange fnAskHideWrong)

/-- 'laws.FnAskTold': WHATEVER THE INPUT: true; the input reads as it did. -/
def fnAskToldSpec : ChangeSpec := { name := "fnAskTold", vars := ["loop.example/scrutineer/impl.errProof"], fn := fun _ => fun
  | [d, g1] => { results := [.lit (.bool true)], args := [d], vars := [g1] }
  | _ => none }
def fnAskToldRow : OpenClaim := { program := "ytlgbblaidohljaagreatdoor", sum := "8171dfb5ad209907f46fca48183a3e82cc7d696bafd1b2db156d0a88da3bcf85", func := "loop.example/scrutineer/laws.FnAskTold", spec := "fnAskTold", inPlace := ["internal/reflectlite.TypeOf"], unfollowed := true, recurses := true, named := ["loop.example/scrutineer/impl.errProof"], ifaces := true, apart := false, laid := [("loop.example/scrutineer/impl.errProof", laid_loop_example_scrutineer_impl_errProof)] }
def FnAskToldSaid : Prop := fnAskToldRow.holds Tryz.pinned (OpenSpec.ofChange fnAskToldSpec)

/-- ITS FALSE NEIGHBOUR: 'it returns false'. Refute it at one input. -/
def fnAskToldWrong : ChangeSpec := { name := "fnAskTold", vars := ["loop.example/scrutineer/impl.errProof"], fn := fun _ => fun
  | [d, g1] => { results := [.lit (.bool false)], args := [d], vars := [g1] }
  | _ => none }
def FnAskToldWrongFalsely : Prop := fnAskToldRow.holds Tryz.pinned (OpenSpec.ofChange fnAskToldWrong)

/-- 'laws.FnChanceAll': WHATEVER THE INPUT: true; the input reads as it did. -/
def fnChanceAllSpec : ChangeSpec := { name := "fnChanceAll", vars := ["loop.example/scrutineer/impl.errProof"], fn := fun _ => fun
  | [d, g1] => { results := [.lit (.bool true)], args := [d], vars := [g1] }
  | _ => none }
def fnChanceAllRow : OpenClaim := { program := "ytlgbblaidohljaagreatdoor", sum := "8171dfb5ad209907f46fca48183a3e82cc7d696bafd1b2db156d0a88da3bcf85", func := "loop.example/scrutineer/laws.FnChanceAll", spec := "fnChanceAll", inPlace := ["internal/reflectlite.TypeOf"], unfollowed := true, recurses := true, named := ["loop.example/scrutineer/impl.errProof"], ifaces := true, apart := false, laid := [("loop.example/scrutineer/impl.errProof", laid_loop_example_scrutineer_impl_errProof)] }
def FnChanceAllSaid : Prop := fnChanceAllRow.holds Tryz.pinned (OpenSpec.ofChange fnChanceAllSpec)

/-- ITS FALSE NEIGHBOUR: 'it returns false'. Refute it at one input. -/
def fnChanceAllWrong : ChangeSpec := { name := "fnChanceAll", vars := ["loop.example/scrutineer/impl.errProof"], fn := fun _ => fun
  | [d, g1] => { results := [.lit (.bool false)], args := [d], vars := [g1] }
  | _ => none }
def FnChanceAllWrongFalsely : Prop := fnChanceAllRow.holds Tryz.pinned (OpenSpec.ofChange fnChanceAllWrong)

/-- 'laws.FnChanceBound': WHATEVER THE INPUT: true; the input reads as it did. -/
def fnChanceBoundSpec : ChangeSpec := { name := "fnChanceBound", vars := ["loop.example/scrutineer/impl.errProof"], fn := fun _ => fun
  | [d, g1] => { results := [.lit (.bool true)], args := [d], vars := [g1] }
  | _ => none }
def fnChanceBoundRow : OpenClaim := { program := "ytlgbblaidohljaagreatdoor", sum := "8171dfb5ad209907f46fca48183a3e82cc7d696bafd1b2db156d0a88da3bcf85", func := "loop.example/scrutineer/laws.FnChanceBound", spec := "fnChanceBound", inPlace := ["internal/reflectlite.TypeOf"], unfollowed := true, recurses := true, named := ["loop.example/scrutineer/impl.errProof"], ifaces := true, apart := false, laid := [("loop.example/scrutineer/impl.errProof", laid_loop_example_scrutineer_impl_errProof)] }
def FnChanceBoundSaid : Prop := fnChanceBoundRow.holds Tryz.pinned (OpenSpec.ofChange fnChanceBoundSpec)

/-- ITS FALSE NEIGHBOUR: 'it returns false'. Refute it at one input. -/
def fnChanceBoundWrong : ChangeSpec := { name := "fnChanceBound", vars := ["loop.example/scrutineer/impl.errProof"], fn := fun _ => fun
  | [d, g1] => { results := [.lit (.bool false)], args := [d], vars := [g1] }
  | _ => none }
def FnChanceBoundWrongFalsely : Prop := fnChanceBoundRow.holds Tryz.pinned (OpenSpec.ofChange fnChanceBoundWrong)

/-- 'laws.FnChanceSplit': WHATEVER THE INPUT: true; the input reads as it did. -/
def fnChanceSplitSpec : ChangeSpec := { name := "fnChanceSplit", vars := ["loop.example/scrutineer/impl.errProof"], fn := fun _ => fun
  | [d1, d2, g1] => { results := [.lit (.bool true)], args := [d1, d2], vars := [g1] }
  | _ => none }
def fnChanceSplitRow : OpenClaim := { program := "ytlgbblaidohljaagreatdoor", sum := "8171dfb5ad209907f46fca48183a3e82cc7d696bafd1b2db156d0a88da3bcf85", func := "loop.example/scrutineer/laws.FnChanceSplit", spec := "fnChanceSplit", inPlace := ["internal/reflectlite.TypeOf"], unfollowed := true, recurses := true, named := ["loop.example/scrutineer/impl.errProof"], ifaces := true, apart := false, laid := [("loop.example/scrutineer/impl.errProof", laid_loop_example_scrutineer_impl_errProof)] }
def FnChanceSplitSaid : Prop := fnChanceSplitRow.holds Tryz.pinned (OpenSpec.ofChange fnChanceSplitSpec)

/-- ITS FALSE NEIGHBOUR: 'it returns false'. Refute it at one input. -/
def fnChanceSplitWrong : ChangeSpec := { name := "fnChanceSplit", vars := ["loop.example/scrutineer/impl.errProof"], fn := fun _ => fun
  | [d1, d2, g1] => { results := [.lit (.bool false)], args := [d1, d2], vars := [g1] }
  | _ => none }
def FnChanceSplitWrongFalsely : Prop := fnChanceSplitRow.holds Tryz.pinned (OpenSpec.ofChange fnChanceSplitWrong)

/-- 'laws.FnTake': WHATEVER THE INPUT: true; the input reads as it did. -/
def fnTakeSpec : ChangeSpec := { name := "fnTake", fn := fun _ => fun
  | [d] => { results := [.lit (.bool true)], args := [d] }
  | _ => none }
def fnTakeRow : OpenClaim := { program := "ytlgbblaidohljaagreatdoor", sum := "8171dfb5ad209907f46fca48183a3e82cc7d696bafd1b2db156d0a88da3bcf85", func := "loop.example/scrutineer/laws.FnTake", spec := "fnTake", inPlace := ["internal/reflectlite.ValueOf", "(internal/reflectlite.Value).Type", "(internal/reflectlite.Value).IsNil", "internal/reflectlite.TypeOf", "(internal/reflectlite.Value).Elem", "(internal/reflectlite.Value).Set"], unfollowed := true, recurses := true, named := ["errors.errorType"], apart := false, laid := [("errors.errorType", laid_errors_errorType)] }
def FnTakeSaid : Prop := fnTakeRow.holds Tryz.pinned (OpenSpec.ofChange fnTakeSpec)

/-- ITS FALSE NEIGHBOUR: 'it returns false'. Refute it at one input. -/
def fnTakeWrong : ChangeSpec := { name := "fnTake", fn := fun _ => fun
  | [d] => { results := [.lit (.bool false)], args := [d] }
  | _ => none }
def FnTakeWrongFalsely : Prop := fnTakeRow.holds Tryz.pinned (OpenSpec.ofChange fnTakeWrong)

/- THE SECOND FORM. 'bulk': how many values and letters a reading holds, each counted each time it is reached (what is shared counts as often as it is met; a slice's spare places count too). A statement '..UptoSaid' is the law's where the arguments, and the package variables that the reading takes, are together of bulk at most 1048576: NARROWER than '..Said'. Prove '..Said' where nothing that the law and all that it calls make is longer than what came in: it says more and counts as full. Else prove '..UptoSaid'. A law counts once. -/
mutual
def uptoBulk {H : Type} : DataW H → Nat
  | .lit (.string bytes) => bytes.length + 1
  | .lit _ => 1
  | .nil => 1
  | .ptr d => uptoBulk d + 1
  | .slice elems spare => uptoBulkAll elems + uptoBulkAll spare + 1
  | .agg parts => uptoBulkAll parts + 1
  | .iface _ d => uptoBulk d + 1
  | .map entries => uptoBulkEntries entries + 1
  | .held _ => 1
def uptoBulkAll {H : Type} : List (DataW H) → Nat
  | [] => 0
  | d :: r => uptoBulk d + uptoBulkAll r
def uptoBulkEntries {H : Type} : List (Lit × DataW H) → Nat
  | [] => 0
  | x :: r => uptoBulkEntry x + uptoBulkEntries r
def uptoBulkEntry {H : Type} : Lit × DataW H → Nat
  | (.string bytes, d) => bytes.length + uptoBulk d + 1
  | (_, d) => uptoBulk d + 1
 end
def uptoSmall : (H : Type) → List (DataW H) → Bool := fun _ ds => decide (uptoBulkAll ds ≤ 1048576)
def OpenSpec.upto (s : _root_.Go.ChangeSpec) : _root_.Go.OpenSpec := { _root_.Go.OpenSpec.ofChange s with cond := some uptoSmall }

/-- 'laws.FnExactPartsTake', WHERE WHAT IT READS IS OF BULK AT MOST 1048576: true; the input reads as it did. -/
def fnExactPartsTakeUptoRow : OpenClaim := { program := "ytlgbblaidohljaagreatdoor", sum := "8171dfb5ad209907f46fca48183a3e82cc7d696bafd1b2db156d0a88da3bcf85", func := "loop.example/scrutineer/laws.FnExactPartsTake", spec := "fnExactPartsTake", inPlace := ["internal/reflectlite.ValueOf", "(internal/reflectlite.Value).Type", "(internal/reflectlite.Value).IsNil", "internal/reflectlite.TypeOf", "(internal/reflectlite.Value).Elem", "(internal/reflectlite.Value).Set"], unfollowed := true, recurses := true, named := ["errors.errorType"], apart := false, laid := [("errors.errorType", laid_errors_errorType)], narrowed := true }
def FnExactPartsTakeUptoSaid : Prop := fnExactPartsTakeUptoRow.holds Tryz.pinned (OpenSpec.upto fnExactPartsTakeSpec)

/-- 'laws.FnAskHide', WHERE WHAT IT READS IS OF BULK AT MOST 1048576: true; the input reads as it did. -/
def fnAskHideUptoRow : OpenClaim := { program := "ytlgbblaidohljaagreatdoor", sum := "8171dfb5ad209907f46fca48183a3e82cc7d696bafd1b2db156d0a88da3bcf85", func := "loop.example/scrutineer/laws.FnAskHide", spec := "fnAskHide", inPlace := ["internal/reflectlite.TypeOf"], unfollowed := true, recurses := true, named := ["loop.example/scrutineer/impl.errProof"], ifaces := true, apart := false, laid := [("loop.example/scrutineer/impl.errProof", laid_loop_example_scrutineer_impl_errProof)], narrowed := true }
def FnAskHideUptoSaid : Prop := fnAskHideUptoRow.holds Tryz.pinned (OpenSpec.upto fnAskHideSpec)

/-- 'laws.FnAskTold', WHERE WHAT IT READS IS OF BULK AT MOST 1048576: true; the input reads as it did. -/
def fnAskToldUptoRow : OpenClaim := { program := "ytlgbblaidohljaagreatdoor", sum := "8171dfb5ad209907f46fca48183a3e82cc7d696bafd1b2db156d0a88da3bcf85", func := "loop.example/scrutineer/laws.FnAskTold", spec := "fnAskTold", inPlace := ["internal/reflectlite.TypeOf"], unfollowed := true, recurses := true, named := ["loop.example/scrutineer/impl.errProof"], ifaces := true, apart := false, laid := [("loop.example/scrutineer/impl.errProof", laid_loop_example_scrutineer_impl_errProof)], narrowed := true }
def FnAskToldUptoSaid : Prop := fnAskToldUptoRow.holds Tryz.pinned (OpenSpec.upto fnAskToldSpec)

/-- 'laws.FnChanceAll', WHERE WHAT IT READS IS OF BULK AT MOST 1048576: true; the input reads as it did. -/
def fnChanceAllUptoRow : OpenClaim := { program := "ytlgbblaidohljaagreatdoor", sum := "8171dfb5ad209907f46fca48183a3e82cc7d696bafd1b2db156d0a88da3bcf85", func := "loop.example/scrutineer/laws.FnChanceAll", spec := "fnChanceAll", inPlace := ["internal/reflectlite.TypeOf"], unfollowed := true, recurses := true, named := ["loop.example/scrutineer/impl.errProof"], ifaces := true, apart := false, laid := [("loop.example/scrutineer/impl.errProof", laid_loop_example_scrutineer_impl_errProof)], narrowed := true }
def FnChanceAllUptoSaid : Prop := fnChanceAllUptoRow.holds Tryz.pinned (OpenSpec.upto fnChanceAllSpec)

/-- 'laws.FnChanceBound', WHERE WHAT IT READS IS OF BULK AT MOST 1048576: true; the input reads as it did. -/
def fnChanceBoundUptoRow : OpenClaim := { program := "ytlgbblaidohljaagreatdoor", sum := "8171dfb5ad209907f46fca48183a3e82cc7d696bafd1b2db156d0a88da3bcf85", func := "loop.example/scrutineer/laws.FnChanceBound", spec := "fnChanceBound", inPlace := ["internal/reflectlite.TypeOf"], unfollowed := true, recurses := true, named := ["loop.example/scrutineer/impl.errProof"], ifaces := true, apart := false, laid := [("loop.example/scrutineer/impl.errProof", laid_loop_example_scrutineer_impl_errProof)], narrowed := true }
def FnChanceBoundUptoSaid : Prop := fnChanceBoundUptoRow.holds Tryz.pinned (OpenSpec.upto fnChanceBoundSpec)

/-- 'laws.FnChanceSplit', WHERE WHAT IT READS IS OF BULK AT MOST 1048576: true; the input reads as it did. -/
def fnChanceSplitUptoRow : OpenClaim := { program := "ytlgbblaidohljaagreatdoor", sum := "8171dfb5ad209907f46fca48183a3e82cc7d696bafd1b2db156d0a88da3bcf85", func := "loop.example/scrutineer/laws.FnChanceSplit", spec := "fnChanceSplit", inPlace := ["internal/reflectlite.TypeOf"], unfollowed := true, recurses := true, named := ["loop.example/scrutineer/impl.errProof"], ifaces := true, apart := false, laid := [("loop.example/scrutineer/impl.errProof", laid_loop_example_scrutineer_impl_errProof)], narrowed := true }
def FnChanceSplitUptoSaid : Prop := fnChanceSplitUptoRow.holds Tryz.pinned (OpenSpec.upto fnChanceSplitSpec)

/-- 'laws.FnTake', WHERE WHAT IT READS IS OF BULK AT MOST 1048576: true; the input reads as it did. -/
def fnTakeUptoRow : OpenClaim := { program := "ytlgbblaidohljaagreatdoor", sum := "8171dfb5ad209907f46fca48183a3e82cc7d696bafd1b2db156d0a88da3bcf85", func := "loop.example/scrutineer/laws.FnTake", spec := "fnTake", inPlace := ["internal/reflectlite.ValueOf", "(internal/reflectlite.Value).Type", "(internal/reflectlite.Value).IsNil", "internal/reflectlite.TypeOf", "(internal/reflectlite.Value).Elem", "(internal/reflectlite.Value).Set"], unfollowed := true, recurses := true, named := ["errors.errorType"], apart := false, laid := [("errors.errorType", laid_errors_errorType)], narrowed := true }
def FnTakeUptoSaid : Prop := fnTakeUptoRow.holds Tryz.pinned (OpenSpec.upto fnTakeSpec)

end Rows
end Go.Proofs.YtlgbblaidohljaaGreatDoor
