/-
  NARROWER THAN 'FOR EVERY INPUT', by the rows' own cells (each row's printed sentence says how): FnExactProofAll: ifaces, laid · FnExactPartOk: laid · FnExactPartsFit: laid · FnProofAll: ifaces, laid · FnExactProofOk: ifaces, laid · FnProofCut: ifaces, laid · FnPartForm: laid · FnFit: laid · FnProofMake: ifaces, laid · FnProofOk: ifaces, laid · FnProofOne: ifaces, laid.
  DERIVED. THE GIVEN ROWS OF THIS SEAT. 11 by the template 'for every input the law returns true; each argument reads behind the call as it read before'; 0 by the template 'total and deterministic' (their statements: YtahbooeioigbgaaDoorTotals.lean).
  GIVEN WITH THE SEED: the statements are not yours to turn. If you find one false, say at which input.
  Laid BY PROGRAM, IN A SANDBOX (cutbox-rows.mjs): the forced cells as the released guide's own fill.sh prints them over the translation 11d6fadca1678e0c… (all of the seat's roots in one cut). By AI agents, Wed Nov 11 2026. No macro, syntax, notation, axiom, sorry.
-/
import Derived.Test.YtahbooeioigbgaaDoorChecked
import GoSem.Claim
import GoSem.ClaimJoined
import GoSem.ClaimMapViews
import Derived.JoinedTies
import Derived.KernelRfl
namespace Go.Proofs.YtahbooeioigbgaaDoor
/- THE CELL 'sum', in the pinned program and in every row, IS THE sha256 OF THE DUMP (.gsa) THAT YtahbooeioigbgaaDoorProg.lean LOADS. Nothing in Lean hashes anything: it is a label: what it is worth is what the hold of that sum in a sandbox is worth. -/
noncomputable def Tryd.pinned : Pinned := { name := "ytahbooeioigbgaadoor", sum := "11d6fadca1678e0c2a62dcb0bf315ca1daacd186847850f4368478af8749c692", checked := Tryd.checked }
namespace Rows
def none {H : Type} : Left H := { results := [], args := [] }

/- WHAT THE LISTED PACKAGE-LEVEL VARIABLES READ AS WHEN THE CALL BEGINS. Each datum BY PROGRAM (the guide's laid-datum.mjs) off the statement by which the dump's own 'gosem.cut.vars' lays the variable. In a bare row this is a premise. The card (YtahbooeioigbgaaDoorCards.lean) ties it to the program's text. -/
def laid_loop_example_scrutineer_impl_errProof {H : Type} : DataW H := .iface "*errors.errorString" (.ptr (.agg [.lit (.string [112, 114, 111, 111, 102, 32, 105, 115, 32, 110, 111, 116, 32, 119, 101, 108, 108, 32, 102, 111, 114, 109, 101, 100])]))
def laid_errors_errorType {H : Type} : DataW H := .iface "internal/reflectlite.rtype" (.agg [.ptr (.lit (.string [101, 114, 114, 111, 114]))])

/-- 'laws.FnExactProofAll': WHATEVER THE INPUT: true; the input reads as it did. -/
def fnExactProofAllSpec : ChangeSpec := { name := "fnExactProofAll", vars := ["loop.example/scrutineer/impl.errProof"], fn := fun _ => fun
  | [d1, d2, d3, g1] => { results := [.lit (.bool true)], args := [d1, d2, d3], vars := [g1] }
  | _ => none }
def fnExactProofAllRow : OpenClaim := { program := "ytahbooeioigbgaadoor", sum := "11d6fadca1678e0c2a62dcb0bf315ca1daacd186847850f4368478af8749c692", func := "loop.example/scrutineer/laws.FnExactProofAll", spec := "fnExactProofAll", inPlace := ["internal/reflectlite.TypeOf"], unfollowed := true, recurses := true, named := ["loop.example/scrutineer/impl.errProof"], ifaces := true, apart := false, laid := [("loop.example/scrutineer/impl.errProof", laid_loop_example_scrutineer_impl_errProof)] }
def FnExactProofAllSaid : Prop := fnExactProofAllRow.holds Tryd.pinned (OpenSpec.ofChange fnExactProofAllSpec)

/-- ITS FALSE NEIGHBOUR: 'it returns false'. Refute it at one input. -/
def fnExactProofAllWrong : ChangeSpec := { name := "fnExactProofAll", vars := ["loop.example/scrutineer/impl.errProof"], fn := fun _ => fun
  | [d1, d2, d3, g1] => { results := [.lit (.bool false)], args := [d1, d2, d3], vars := [g1] }
  | _ => none }
def FnExactProofAllWrongFalsely : Prop := fnExactProofAllRow.holds Tryd.pinned (OpenSpec.ofChange fnExactProofAllWrong)

/-- 'laws.FnExactPartOk': WHATEVER THE INPUT: true; the input reads as it did. -/
def fnExactPartOkSpec : ChangeSpec := { name := "fnExactPartOk", fn := fun _ => fun
  | [d] => { results := [.lit (.bool true)], args := [d] }
  | _ => none }
def fnExactPartOkRow : OpenClaim := { program := "ytahbooeioigbgaadoor", sum := "11d6fadca1678e0c2a62dcb0bf315ca1daacd186847850f4368478af8749c692", func := "loop.example/scrutineer/laws.FnExactPartOk", spec := "fnExactPartOk", inPlace := ["internal/reflectlite.ValueOf", "(internal/reflectlite.Value).Type", "(internal/reflectlite.Value).IsNil", "internal/reflectlite.TypeOf", "(internal/reflectlite.Value).Elem", "(internal/reflectlite.Value).Set"], unfollowed := true, recurses := true, named := ["errors.errorType"], apart := false, laid := [("errors.errorType", laid_errors_errorType)] }
def FnExactPartOkSaid : Prop := fnExactPartOkRow.holds Tryd.pinned (OpenSpec.ofChange fnExactPartOkSpec)

/-- ITS FALSE NEIGHBOUR: 'it returns false'. Refute it at one input. -/
def fnExactPartOkWrong : ChangeSpec := { name := "fnExactPartOk", fn := fun _ => fun
  | [d] => { results := [.lit (.bool false)], args := [d] }
  | _ => none }
def FnExactPartOkWrongFalsely : Prop := fnExactPartOkRow.holds Tryd.pinned (OpenSpec.ofChange fnExactPartOkWrong)

/-- 'laws.FnExactPartsFit': WHATEVER THE INPUT: true; the input reads as it did. -/
def fnExactPartsFitSpec : ChangeSpec := { name := "fnExactPartsFit", fn := fun _ => fun
  | [d1, d2] => { results := [.lit (.bool true)], args := [d1, d2] }
  | _ => none }
def fnExactPartsFitRow : OpenClaim := { program := "ytahbooeioigbgaadoor", sum := "11d6fadca1678e0c2a62dcb0bf315ca1daacd186847850f4368478af8749c692", func := "loop.example/scrutineer/laws.FnExactPartsFit", spec := "fnExactPartsFit", inPlace := ["internal/reflectlite.ValueOf", "(internal/reflectlite.Value).Type", "(internal/reflectlite.Value).IsNil", "internal/reflectlite.TypeOf", "(internal/reflectlite.Value).Elem", "(internal/reflectlite.Value).Set"], unfollowed := true, recurses := true, named := ["errors.errorType"], apart := false, laid := [("errors.errorType", laid_errors_errorType)] }
def FnExactPartsFitSaid : Prop := fnExactPartsFitRow.holds Tryd.pinned (OpenSpec.ofChange fnExactPartsFitSpec)

/-- ITS FALSE NEIGHBOUR: 'it returns false'. Refute it at one input. -/
def fnExactPartsFitWrong : ChangeSpec := { name := "fnExactPartsFit", fn := fun _ => fun
  | [d1, d2] => { results := [.lit (.bool false)], args := [d1, d2] }
  | _ => none }
def FnExactPartsFitWrongFalsely : Prop := fnExactPartsFitRow.holds Tryd.pinned (OpenSpec.ofChange fnExactPartsFitWrong)

/-- 'laws.FnProofAll': WHATEVER THE INPUT: true; the input reads as it did. -/
def fnProofAllSpec : ChangeSpec := { name := "fnProofAll", vars := ["loop.example/scrutineer/impl.errProof"], fn := fun _ => fun
  | [d, g1] => { results := [.lit (.bool true)], args := [d], vars := [g1] }
  | _ => none }
def fnProofAllRow : OpenClaim := { program := "ytahbooeioigbgaadoor", sum := "11d6fadca1678e0c2a62dcb0bf315ca1daacd186847850f4368478af8749c692", func := "loop.example/scrutineer/laws.FnProofAll", spec := "fnProofAll", inPlace := ["internal/reflectlite.TypeOf"], unfollowed := true, recurses := true, named := ["loop.example/scrutineer/impl.errProof"], ifaces := true, apart := false, laid := [("loop.example/scrutineer/impl.errProof", laid_loop_example_scrutineer_impl_errProof)] }
def FnProofAllSaid : Prop := fnProofAllRow.holds Tryd.pinned (OpenSpec.ofChange fnProofAllSpec)

/-- ITS FALSE NEIGHBOUR: 'it returns false'. Refute it at one input. -/
def fnProofAllWrong : ChangeSpec := { name := "fnProofAll", vars := ["loop.example/scrutineer/impl.errProof"], fn := fun _ => fun
  | [d, g1] => { results := [.lit (.bool false)], args := [d], vars := [g1] }
  | _ => none }
def FnProofAllWrongFalsely : Prop := fnProofAllRow.holds Tryd.pinned (OpenSpec.ofChange fnProofAllWrong)

/-- 'laws.FnExactProofOk': WHATEVER THE INPUT: true; the input reads as it did. -/
def fnExactProofOkSpec : ChangeSpec := { name := "fnExactProofOk", vars := ["loop.example/scrutineer/impl.errProof"], fn := fun _ => fun
  | [d1, d2, d3, g1] => { results := [.lit (.bool true)], args := [d1, d2, d3], vars := [g1] }
  | _ => none }
def fnExactProofOkRow : OpenClaim := { program := "ytahbooeioigbgaadoor", sum := "11d6fadca1678e0c2a62dcb0bf315ca1daacd186847850f4368478af8749c692", func := "loop.example/scrutineer/laws.FnExactProofOk", spec := "fnExactProofOk", inPlace := ["internal/reflectlite.TypeOf"], unfollowed := true, recurses := true, named := ["loop.example/scrutineer/impl.errProof"], ifaces := true, apart := false, laid := [("loop.example/scrutineer/impl.errProof", laid_loop_example_scrutineer_impl_errProof)] }
def FnExactProofOkSaid : Prop := fnExactProofOkRow.holds Tryd.pinned (OpenSpec.ofChange fnExactProofOkSpec)

/-- ITS FALSE NEIGHBOUR: 'it returns false'. Refute it at one input. -/
def fnExactProofOkWrong : ChangeSpec := { name := "fnExactProofOk", vars := ["loop.example/scrutineer/impl.errProof"], fn := fun _ => fun
  | [d1, d2, d3, g1] => { results := [.lit (.bool false)], args := [d1, d2, d3], vars := [g1] }
  | _ => none }
def FnExactProofOkWrongFalsely : Prop := fnExactProofOkRow.holds Tryd.pinned (OpenSpec.ofChange fnExactProofOkWrong)

/-- 'laws.FnProofCut': WHATEVER THE INPUT: true; the input reads as it did. -/
def fnProofCutSpec : ChangeSpec := { name := "fnProofCut", vars := ["loop.example/scrutineer/impl.errProof"], fn := fun _ => fun
  | [d, g1] => { results := [.lit (.bool true)], args := [d], vars := [g1] }
  | _ => none }
def fnProofCutRow : OpenClaim := { program := "ytahbooeioigbgaadoor", sum := "11d6fadca1678e0c2a62dcb0bf315ca1daacd186847850f4368478af8749c692", func := "loop.example/scrutineer/laws.FnProofCut", spec := "fnProofCut", inPlace := ["internal/reflectlite.TypeOf"], unfollowed := true, recurses := true, named := ["loop.example/scrutineer/impl.errProof"], ifaces := true, apart := false, laid := [("loop.example/scrutineer/impl.errProof", laid_loop_example_scrutineer_impl_errProof)] }
def FnProofCutSaid : Prop := fnProofCutRow.holds Tryd.pinned (OpenSpec.ofChange fnProofCutSpec)

/-- ITS FALSE NEIGHBOUR: 'it returns false'. Refute it at one input. -/
def fnProofCutWrong : ChangeSpec := { name := "fnProofCut", vars := ["loop.example/scrutineer/impl.errProof"], fn := fun _ => fun
  | [d, g1] => { results := [.lit (.bool false)], args := [d], vars := [g1] }
  | _ => none }
def FnProofCutWrongFalsely : Prop := fnProofCutRow.holds Tryd.pinned (OpenSpec.ofChange fnProofCutWrong)

/-- 'laws.FnPartForm': WHATEVER THE INPUT: true; the input reads as it did. -/
def fnPartFormSpec : ChangeSpec := { name := "fnPartForm", fn := fun _ => fun
  | [d] => { results := [.lit (.bool true)], args := [d] }
  | _ => none }
def fnPartFormRow : OpenClaim := { program := "ytahbooeioigbgaadoor", sum := "11d6fadca1678e0c2a62dcb0bf315ca1daacd186847850f4368478af8749c692", func := "loop.example/scrutineer/laws.FnPartForm", spec := "fnPartForm", inPlace := ["internal/reflectlite.ValueOf", "(internal/reflectlite.Value).Type", "(internal/reflectlite.Value).IsNil", "internal/reflectlite.TypeOf", "(internal/reflectlite.Value).Elem", "(internal/reflectlite.Value).Set"], unfollowed := true, recurses := true, named := ["errors.errorType"], apart := false, laid := [("errors.errorType", laid_errors_errorType)] }
def FnPartFormSaid : Prop := fnPartFormRow.holds Tryd.pinned (OpenSpec.ofChange fnPartFormSpec)

/-- ITS FALSE NEIGHBOUR: 'it returns false'. Refute it at one input. -/
def fnPartFormWrong : ChangeSpec := { name := "fnPartForm", fn := fun _ => fun
  | [d] => { results := [.lit (.bool false)], args := [d] }
  | _ => none }
def FnPartFormWrongFalsely : Prop := fnPartFormRow.holds Tryd.pinned (OpenSpec.ofChange fnPartFormWrong)

/-- 'laws.FnFit': WHATEVER THE INPUT: true; the input reads as it did. -/
def fnFitSpec : ChangeSpec := { name := "fnFit", fn := fun _ => fun
  | [d] => { results := [.lit (.bool true)], args := [d] }
  | _ => none }
def fnFitRow : OpenClaim := { program := "ytahbooeioigbgaadoor", sum := "11d6fadca1678e0c2a62dcb0bf315ca1daacd186847850f4368478af8749c692", func := "loop.example/scrutineer/laws.FnFit", spec := "fnFit", inPlace := ["internal/reflectlite.ValueOf", "(internal/reflectlite.Value).Type", "(internal/reflectlite.Value).IsNil", "internal/reflectlite.TypeOf", "(internal/reflectlite.Value).Elem", "(internal/reflectlite.Value).Set"], unfollowed := true, recurses := true, named := ["errors.errorType"], apart := false, laid := [("errors.errorType", laid_errors_errorType)] }
def FnFitSaid : Prop := fnFitRow.holds Tryd.pinned (OpenSpec.ofChange fnFitSpec)

/-- ITS FALSE NEIGHBOUR: 'it returns false'. Refute it at one input. -/
def fnFitWrong : ChangeSpec := { name := "fnFit", fn := fun _ => fun
  | [d] => { results := [.lit (.bool false)], args := [d] }
  | _ => none }
def FnFitWrongFalsely : Prop := fnFitRow.holds Tryd.pinned (OpenSpec.ofChange fnFitWrong)

/-- 'laws.FnProofMake': WHATEVER THE INPUT: true; the input reads as it did. -/
def fnProofMakeSpec : ChangeSpec := { name := "fnProofMake", vars := ["loop.example/scrutineer/impl.errProof"], fn := fun _ => fun
  | [d, g1] => { results := [.lit (.bool true)], args := [d], vars := [g1] }
  | _ => none }
def fnProofMakeRow : OpenClaim := { program := "ytahbooeioigbgaadoor", sum := "11d6fadca1678e0c2a62dcb0bf315ca1daacd186847850f4368478af8749c692", func := "loop.example/scrutineer/laws.FnProofMake", spec := "fnProofMake", inPlace := ["internal/reflectlite.TypeOf"], unfollowed := true, recurses := true, named := ["loop.example/scrutineer/impl.errProof"], ifaces := true, apart := false, laid := [("loop.example/scrutineer/impl.errProof", laid_loop_example_scrutineer_impl_errProof)] }
def FnProofMakeSaid : Prop := fnProofMakeRow.holds Tryd.pinned (OpenSpec.ofChange fnProofMakeSpec)

/-- ITS FALSE NEIGHBOUR: 'it returns false'. Refute it at one input. -/
def fnProofMakeWrong : ChangeSpec := { name := "fnProofMake", vars := ["loop.example/scrutineer/impl.errProof"], fn := fun _ => fun
  | [d, g1] => { results := [.lit (.bool false)], args := [d], vars := [g1] }
  | _ => none }
def FnProofMakeWrongFalsely : Prop := fnProofMakeRow.holds Tryd.pinned (OpenSpec.ofChange fnProofMakeWrong)

/-- 'laws.FnProofOk': WHATEVER THE INPUT: true; the input reads as it did. -/
def fnProofOkSpec : ChangeSpec := { name := "fnProofOk", vars := ["loop.example/scrutineer/impl.errProof"], fn := fun _ => fun
  | [d1, d2, g1] => { results := [.lit (.bool true)], args := [d1, d2], vars := [g1] }
  | _ => none }
def fnProofOkRow : OpenClaim := { program := "ytahbooeioigbgaadoor", sum := "11d6fadca1678e0c2a62dcb0bf315ca1daacd186847850f4368478af8749c692", func := "loop.example/scrutineer/laws.FnProofOk", spec := "fnProofOk", inPlace := ["internal/reflectlite.TypeOf"], unfollowed := true, recurses := true, named := ["loop.example/scrutineer/impl.errProof"], ifaces := true, apart := false, laid := [("loop.example/scrutineer/impl.errProof", laid_loop_example_scrutineer_impl_errProof)] }
def FnProofOkSaid : Prop := fnProofOkRow.holds Tryd.pinned (OpenSpec.ofChange fnProofOkSpec)

/-- ITS FALSE NEIGHBOUR: 'it returns false'. Refute it at one input. -/
def fnProofOkWrong : ChangeSpec := { name := "fnProofOk", vars := ["loop.example/scrutineer/impl.errProof"], fn := fun _ => fun
  | [d1, d2, g1] => { results := [.lit (.bool false)], args := [d1, d2], vars := [g1] }
  | _ => none }
def FnProofOkWrongFalsely : Prop := fnProofOkRow.holds Tryd.pinned (OpenSpec.ofChange fnProofOkWrong)

/-- 'laws.FnProofOne': WHATEVER THE INPUT: true; the input reads as it did. -/
def fnProofOneSpec : ChangeSpec := { name := "fnProofOne", vars := ["loop.example/scrutineer/impl.errProof"], fn := fun _ => fun
  | [d, g1] => { results := [.lit (.bool true)], args := [d], vars := [g1] }
  | _ => none }
def fnProofOneRow : OpenClaim := { program := "ytahbooeioigbgaadoor", sum := "11d6fadca1678e0c2a62dcb0bf315ca1daacd186847850f4368478af8749c692", func := "loop.example/scrutineer/laws.FnProofOne", spec := "fnProofOne", inPlace := ["internal/reflectlite.TypeOf"], unfollowed := true, recurses := true, named := ["loop.example/scrutineer/impl.errProof"], ifaces := true, apart := false, laid := [("loop.example/scrutineer/impl.errProof", laid_loop_example_scrutineer_impl_errProof)] }
def FnProofOneSaid : Prop := fnProofOneRow.holds Tryd.pinned (OpenSpec.ofChange fnProofOneSpec)

/-- ITS FALSE NEIGHBOUR: 'it returns false'. Refute it at one input. -/
def fnProofOneWrong : ChangeSpec := { name := "fnProofOne", vars := ["loop.example/scrutineer/impl.errProof"], fn := fun _ => fun
  | [d, g1] => { results := [.lit (.bool false)], args := [d], vars := [g1] }
  | _ => none }
def FnProofOneWrongFalsely : Prop := fnProofOneRow.holds Tryd.pinned (OpenSpec.ofChange fnProofOneWrong)

/- THE SECOND FORM. 'bulk': how many values and letters a reading holds, each counted each time it is reached (what is shared counts as often as it is met; a slice's spare places count too). A statement '..UptoSaid' is the law's where the arguments, and the package variables that the reading takes, are together of bulk at most 1048576: NARROWER than '..Said'. Prove '..Said' where nothing that the law and all that it calls make is longer than what came in: it says more and counts as full. Else prove '..UptoSaid'. A law counts once. -/
mutual
def uptoBulk {H : Type} : DataW H → Nat
  | .lit (.string bytes) => bytes.length + 1
  | .lit _ => 1
  | .nil => 1
  | .ptr d => uptoBulk d + 1
  | .slice elems spare => uptoBulkAll elems + uptoBulkAll spare + 1
  | .agg parts => uptoBulkAll parts + 1
  | .iface _ d => uptoBulk d + 1
  | .map entries => uptoBulkEntries entries + 1
  | .held _ => 1
def uptoBulkAll {H : Type} : List (DataW H) → Nat
  | [] => 0
  | d :: r => uptoBulk d + uptoBulkAll r
def uptoBulkEntries {H : Type} : List (Lit × DataW H) → Nat
  | [] => 0
  | x :: r => uptoBulkEntry x + uptoBulkEntries r
def uptoBulkEntry {H : Type} : Lit × DataW H → Nat
  | (.string bytes, d) => bytes.length + uptoBulk d + 1
  | (_, d) => uptoBulk d + 1
 end
def uptoSmall : (H : Type) → List (DataW H) → Bool := fun _ ds => decide (uptoBulkAll ds ≤ 1048576)
def OpenSpec.upto (s : _root_.Go.ChangeSpec) : _root_.Go.OpenSpec := { _root_.Go.OpenSpec.ofChange s with cond := some uptoSmall }

/-- 'laws.FnExactProofAll', WHERE WHAT IT READS IS OF BULK AT MOST 1048576: true; the input reads as it did. -/
def fnExactProofAllUptoRow : OpenClaim := { program := "ytahbooeioigbgaadoor", sum := "11d6fadca1678e0c2a62dcb0bf315ca1daacd186847850f4368478af8749c692", func := "loop.example/scrutineer/laws.FnExactProofAll", spec := "fnExactProofAll", inPlace := ["internal/reflectlite.TypeOf"], unfollowed := true, recurses := true, named := ["loop.example/scrutineer/impl.errProof"], ifaces := true, apart := false, laid := [("loop.example/scrutineer/impl.errProof", laid_loop_example_scrutineer_impl_errProof)], narrowed := true }
def FnExactProofAllUptoSaid : Prop := fnExactProofAllUptoRow.holds Tryd.pinned (OpenSpec.upto fnExactProofAllSpec)

/-- 'laws.FnExactPartOk', WHERE WHAT IT READS IS OF BULK AT MOST 1048576: true; the input reads as it did. -/
def fnExactPartOkUptoRow : OpenClaim := { program := "ytahbooeioigbgaadoor", sum := "11d6fadca1678e0c2a62dcb0bf315ca1daacd186847850f4368478af8749c692", func := "loop.example/scrutineer/laws.FnExactPartOk", spec := "fnExactPartOk", inPlace := ["internal/reflectlite.ValueOf", "(internal/reflectlite.Value).Type", "(internal/reflectlite.Value).IsNil", "internal/reflectlite.TypeOf", "(internal/reflectlite.Value).Elem", "(internal/reflectlite.Value).Set"], unfollowed := true, recurses := true, named := ["errors.errorType"], apart := false, laid := [("errors.errorType", laid_errors_errorType)], narrowed := true }
def FnExactPartOkUptoSaid : Prop := fnExactPartOkUptoRow.holds Tryd.pinned (OpenSpec.upto fnExactPartOkSpec)

/-- 'laws.FnExactPartsFit', WHERE WHAT IT READS IS OF BULK AT MOST 1048576: true; the input reads as it did. -/
def fnExactPartsFitUptoRow : OpenClaim := { program := "ytahbooeioigbgaadoor", sum := "11d6fadca1678e0c2a62dcb0bf315ca1daacd186847850f4368478af8749c692", func := "loop.example/scrutineer/laws.FnExactPartsFit", spec := "fnExactPartsFit", inPlace := ["internal/reflectlite.ValueOf", "(internal/reflectlite.Value).Type", "(internal/reflectlite.Value).IsNil", "internal/reflectlite.TypeOf", "(internal/reflectlite.Value).Elem", "(internal/reflectlite.Value).Set"], unfollowed := true, recurses := true, named := ["errors.errorType"], apart := false, laid := [("errors.errorType", laid_errors_errorType)], narrowed := true }
def FnExactPartsFitUptoSaid : Prop := fnExactPartsFitUptoRow.holds Tryd.pinned (OpenSpec.upto fnExactPartsFitSpec)

/-- 'laws.FnProofAll', WHERE WHAT IT READS IS OF BULK AT MOST 1048576: true; the input reads as it did. -/
def fnProofAllUptoRow : OpenClaim := { program := "ytahbooeioigbgaadoor", sum := "11d6fadca1678e0c2a62dcb0bf315ca1daacd186847850f4368478af8749c692", func := "loop.example/scrutineer/laws.FnProofAll", spec := "fnProofAll", inPlace := ["internal/reflectlite.TypeOf"], unfollowed := true, recurses := true, named := ["loop.example/scrutineer/impl.errProof"], ifaces := true, apart := false, laid := [("loop.example/scrutineer/impl.errProof", laid_loop_example_scrutineer_impl_errProof)], narrowed := true }
def FnProofAllUptoSaid : Prop := fnProofAllUptoRow.holds Tryd.pinned (OpenSpec.upto fnProofAllSpec)

/-- 'laws.FnExactProofOk', WHERE WHAT IT READS IS OF BULK AT MOST 1048576: true; the input reads as it did. -/
def fnExactProofOkUptoRow : OpenClaim := { program := "ytahbooeioigbgaadoor", sum := "11d6fadca1678e0c2a62dcb0bf315ca1daacd186847850f4368478af8749c692", func := "loop.example/scrutineer/laws.FnExactProofOk", spec := "fnExactProofOk", inPlace := ["internal/reflectlite.TypeOf"], unfollowed := true, recurses := true, named := ["loop.example/scrutineer/impl.errProof"], ifaces := true, apart := false, laid := [("loop.example/scrutineer/impl.errProof", laid_loop_example_scrutineer_impl_errProof)], narrowed := true }
def FnExactProofOkUptoSaid : Prop := fnExactProofOkUptoRow.holds Tryd.pinned (OpenSpec.upto fnExactProofOkSpec)

/-- 'laws.FnProofCut', WHERE WHAT IT READS IS OF BULK AT MOST 1048576: true; the input reads as it did. -/
def fnProofCutUptoRow : OpenClaim := { program := "ytahbooeioigbgaadoor", sum := "11d6fadca1678e0c2a62dcb0bf315ca1daacd186847850f4368478af8749c692", func := "loop.example/scrutineer/laws.FnProofCut", spec := "fnProofCut", inPlace := ["internal/reflectlite.TypeOf"], unfollowed := true, recurses := true, named := ["loop.example/scrutineer/impl.errProof"], ifaces := true, apart := false, laid := [("loop.example/scrutineer/impl.errProof", laid_loop_example_scrutineer_impl_errProof)], narrowed := true }
def FnProofCutUptoSaid : Prop := fnProofCutUptoRow.holds Tryd.pinned (OpenSpec.upto fnProofCutSpec)

/-- 'laws.FnPartForm', WHERE WHAT IT READS IS OF BULK AT MOST 1048576: true; the input reads as it did. -/
def fnPartFormUptoRow : OpenClaim := { program := "ytahbooeioigbgaadoor", sum := "11d6fadca1678e0c2a62dcb0bf315ca1daacd186847850f4368478af8749c692", func := "loop.example/scrutineer/laws.FnPartForm", spec := "fnPartForm", inPlace := ["internal/reflectlite.ValueOf", "(internal/reflectlite.Value).Type", "(internal/reflectlite.Value).IsNil", "internal/reflectlite.TypeOf", "(internal/reflectlite.Value).Elem", "(internal/reflectlite.Value).Set"], unfollowed := true, recurses := true, named := ["errors.errorType"], apart := false, laid := [("errors.errorType", laid_errors_errorType)], narrowed := true }
def FnPartFormUptoSaid : Prop := fnPartFormUptoRow.holds Tryd.pinned (OpenSpec.upto fnPartFormSpec)

/-- 'laws.FnFit', WHERE WHAT IT READS IS OF BULK AT MOST 1048576: true; the input reads as it did. -/
def fnFitUptoRow : OpenClaim := { program := "ytahbooeioigbgaadoor", sum := "11d6fadca1678e0c2a62dcb0bf315ca1daacd186847850f4368478af8749c692", func := "loop.example/scrutineer/laws.FnFit", spec := "fnFit", inPlace := ["internal/reflectlite.ValueOf", "(internal/reflectlite.Value).Type", "(internal/reflectlite.Value).IsNil", "internal/reflectlite.TypeOf", "(internal/reflectlite.Value).Elem", "(internal/reflectlite.Value).Set"], unfollowed := true, recurses := true, named := ["errors.errorType"], apart := false, laid := [("errors.errorType", laid_errors_errorType)], narrowed := true }
def FnFitUptoSaid : Prop := fnFitUptoRow.holds Tryd.pinned (OpenSpec.upto fnFitSpec)

/-- 'laws.FnProofMake', WHERE WHAT IT READS IS OF BULK AT MOST 1048576: true; the input reads as it did. -/
def fnProofMakeUptoRow : OpenClaim := { program := "ytahbooeioigbgaadoor", sum := "11d6fadca1678e0c2a62dcb0bf315ca1daacd186847850f4368478af8749c692", func := "loop.example/scrutineer/laws.FnProofMake", spec := "fnProofMake", inPlace := ["internal/reflectlite.TypeOf"], unfollowed := true, recurses := true, named := ["loop.example/scrutineer/impl.errProof"], ifaces := true, apart := false, laid := [("loop.example/scrutineer/impl.errProof", laid_loop_example_scrutineer_impl_errProof)], narrowed := true }
def FnProofMakeUptoSaid : Prop := fnProofMakeUptoRow.holds Tryd.pinned (OpenSpec.upto fnProofMakeSpec)

/-- 'laws.FnProofOk', WHERE WHAT IT READS IS OF BULK AT MOST 1048576: true; the input reads as it did. -/
def fnProofOkUptoRow : OpenClaim := { program := "ytahbooeioigbgaadoor", sum := "11d6fadca1678e0c2a62dcb0bf315ca1daacd186847850f4368478af8749c692", func := "loop.example/scrutineer/laws.FnProofOk", spec := "fnProofOk", inPlace := ["internal/reflectlite.TypeOf"], unfollowed := true, recurses := true, named := ["loop.example/scrutineer/impl.errProof"], ifaces := true, apart := false, laid := [("loop.example/scrutineer/impl.errProof", laid_loop_example_scrutineer_impl_errProof)], narrowed := true }
def FnProofOkUptoSaid : Prop := fnProofOkUptoRow.holds Tryd.pinned (OpenSpec.upto fnProofOkSpec)

/-- 'laws.FnProofOne', WHERE WHAT IT READS IS OF BULK AT MOST 1048576: true; the input reads as it did. -/
def fnProofOneUptoRow : OpenClaim := { program := "ytahbooeioigbgaadoor", sum := "11d6fadca1678e0c2a62dcb0bf315ca1daacd186847850f4368478af8749c692", func := "loop.example/scrutineer/laws.FnProofOne", spec := "fnProofOne", inPlace := ["internal/reflectlite.TypeOf"], unfollowed := true, recurses := true, named := ["loop.example/scrutineer/impl.errProof"], ifaces := true, apart := false, laid := [("loop.example/scrutineer/impl.errProof", laid_loop_example_scrutineer_impl_errProof)], narrowed := true }
def FnProofOneUptoSaid : Prop := fnProofOneUptoRow.holds Tryd.pinned (OpenSpec.upto fnProofOneSpec)

end Rows
end Go.Proofs.YtahbooeioigbgaaDoor
