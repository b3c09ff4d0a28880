/-
  No cell of these rows narrows 'for every input' (looked for: loops, veiled, ifaces, maps, wideKeys, modest, calm, conditions, laid).
  DERIVED. THE GIVEN ROWS OF THIS SEAT. 5 by the template 'for every input the law returns true; each argument reads behind the call as it read before'; 0 by the template 'total and deterministic' (their statements: YtjkikkgpenhbgaaTotals.lean).
  GIVEN WITH THE SEED: the statements are not yours to turn. If you find one false, say at which input.
  Laid BY PROGRAM, IN A SANDBOX (cutbox-rows.mjs): the forced cells as the released guide's own fill.sh prints them over the translation cc2f1493d9186afc… (all of the seat's roots in one cut). By AI agents, Wed Nov 11 2026. No macro, syntax, notation, axiom, sorry.
-/
import Derived.Test.YtjkikkgpenhbgaaChecked
import GoSem.Claim
import GoSem.ClaimJoined
import GoSem.ClaimMapViews
import Derived.JoinedTies
import Derived.KernelRfl
namespace Go.Proofs.Ytjkikkgpenhbgaa
/- THE CELL 'sum', in the pinned program and in every row, IS THE sha256 OF THE DUMP (.gsa) THAT YtjkikkgpenhbgaaProg.lean LOADS. Nothing in Lean hashes anything: it is a label: what it is worth is what the hold of that sum in a sandbox is worth. -/
noncomputable def Try.pinned : Pinned := { name := "ytjkikkgpenhbgaa", sum := "cc2f1493d9186afc3f5a3ebcf7277ee4727c9c5b34c23317f4d50a24e7f2d825", checked := Try.checked }
namespace Rows
def none {H : Type} : Left H := { results := [], args := [] }

/-- 'laws.FnDecide': WHATEVER THE INPUT: true; the input reads as it did. -/
def fnDecideSpec : ChangeSpec := { name := "fnDecide", fn := fun _ => fun
  | [d] => { results := [.lit (.bool true)], args := [d] }
  | _ => none }
def fnDecideRow : OpenClaim := { program := "ytjkikkgpenhbgaa", sum := "cc2f1493d9186afc3f5a3ebcf7277ee4727c9c5b34c23317f4d50a24e7f2d825", func := "loop.example/scrutineer/laws.FnDecide", spec := "fnDecide", inPlace := ["(*sync.WaitGroup).Add", "internal/race.ReleaseMerge", "internal/race.Disable", "internal/race.Enable", "internal/synctest.IsInBubble", "internal/synctest.Associate[sync.WaitGroup]", "sync.fatal", "sync/atomic.OrUint64", "sync/atomic.AddUint64", "internal/race.Read", "sync/atomic.LoadUint64", "sync/atomic.StoreUint64", "internal/synctest.Disassociate[sync.WaitGroup]", "sync.runtime_Semrelease", "(*sync.WaitGroup).Done", "(*sync.WaitGroup).Wait", "internal/race.Acquire", "internal/synctest.IsAssociated[sync.WaitGroup]", "sync/atomic.CompareAndSwapUint64", "internal/race.Write", "sync.runtime_SemacquireWaitGroup"], unfollowed := true, recurses := true, leaving := true, apart := false }
def FnDecideSaid : Prop := fnDecideRow.holds Try.pinned (OpenSpec.ofChange fnDecideSpec)

/-- ITS FALSE NEIGHBOUR: 'it returns false'. Refute it at one input. -/
def fnDecideWrong : ChangeSpec := { name := "fnDecide", fn := fun _ => fun
  | [d] => { results := [.lit (.bool false)], args := [d] }
  | _ => none }
def FnDecideWrongFalsely : Prop := fnDecideRow.holds Try.pinned (OpenSpec.ofChange fnDecideWrong)

/-- 'laws.FnDecideSplit': WHATEVER THE INPUT: true; the input reads as it did. -/
def fnDecideSplitSpec : ChangeSpec := { name := "fnDecideSplit", fn := fun _ => fun
  | [d1, d2] => { results := [.lit (.bool true)], args := [d1, d2] }
  | _ => none }
def fnDecideSplitRow : OpenClaim := { program := "ytjkikkgpenhbgaa", sum := "cc2f1493d9186afc3f5a3ebcf7277ee4727c9c5b34c23317f4d50a24e7f2d825", func := "loop.example/scrutineer/laws.FnDecideSplit", spec := "fnDecideSplit", inPlace := ["(*sync.WaitGroup).Add", "internal/race.ReleaseMerge", "internal/race.Disable", "internal/race.Enable", "internal/synctest.IsInBubble", "internal/synctest.Associate[sync.WaitGroup]", "sync.fatal", "sync/atomic.OrUint64", "sync/atomic.AddUint64", "internal/race.Read", "sync/atomic.LoadUint64", "sync/atomic.StoreUint64", "internal/synctest.Disassociate[sync.WaitGroup]", "sync.runtime_Semrelease", "(*sync.WaitGroup).Done", "(*sync.WaitGroup).Wait", "internal/race.Acquire", "internal/synctest.IsAssociated[sync.WaitGroup]", "sync/atomic.CompareAndSwapUint64", "internal/race.Write", "sync.runtime_SemacquireWaitGroup"], unfollowed := true, recurses := true, leaving := true, apart := false }
def FnDecideSplitSaid : Prop := fnDecideSplitRow.holds Try.pinned (OpenSpec.ofChange fnDecideSplitSpec)

/-- ITS FALSE NEIGHBOUR: 'it returns false'. Refute it at one input. -/
def fnDecideSplitWrong : ChangeSpec := { name := "fnDecideSplit", fn := fun _ => fun
  | [d1, d2] => { results := [.lit (.bool false)], args := [d1, d2] }
  | _ => none }
def FnDecideSplitWrongFalsely : Prop := fnDecideSplitRow.holds Try.pinned (OpenSpec.ofChange fnDecideSplitWrong)

/-- 'laws.FnBatchNew': WHATEVER THE INPUT: true; the input reads as it did. -/
def fnBatchNewSpec : ChangeSpec := { name := "fnBatchNew", fn := fun _ => fun
  | [d] => { results := [.lit (.bool true)], args := [d] }
  | _ => none }
def fnBatchNewRow : OpenClaim := { program := "ytjkikkgpenhbgaa", sum := "cc2f1493d9186afc3f5a3ebcf7277ee4727c9c5b34c23317f4d50a24e7f2d825", func := "loop.example/scrutineer/laws.FnBatchNew", spec := "fnBatchNew", inPlace := ["(*sync.WaitGroup).Add", "internal/race.ReleaseMerge", "internal/race.Disable", "internal/race.Enable", "internal/synctest.IsInBubble", "internal/synctest.Associate[sync.WaitGroup]", "sync.fatal", "sync/atomic.OrUint64", "sync/atomic.AddUint64", "internal/race.Read", "sync/atomic.LoadUint64", "sync/atomic.StoreUint64", "internal/synctest.Disassociate[sync.WaitGroup]", "sync.runtime_Semrelease", "(*sync.WaitGroup).Done", "(*sync.WaitGroup).Wait", "internal/race.Acquire", "internal/synctest.IsAssociated[sync.WaitGroup]", "sync/atomic.CompareAndSwapUint64", "internal/race.Write", "sync.runtime_SemacquireWaitGroup"], unfollowed := true, recurses := true, leaving := true, apart := false }
def FnBatchNewSaid : Prop := fnBatchNewRow.holds Try.pinned (OpenSpec.ofChange fnBatchNewSpec)

/-- ITS FALSE NEIGHBOUR: 'it returns false'. Refute it at one input. -/
def fnBatchNewWrong : ChangeSpec := { name := "fnBatchNew", fn := fun _ => fun
  | [d] => { results := [.lit (.bool false)], args := [d] }
  | _ => none }
def FnBatchNewWrongFalsely : Prop := fnBatchNewRow.holds Try.pinned (OpenSpec.ofChange fnBatchNewWrong)

/-- 'laws.FnExactBatchTell': WHATEVER THE INPUT: true; the input reads as it did. -/
def fnExactBatchTellSpec : ChangeSpec := { name := "fnExactBatchTell", fn := fun _ => fun
  | [d] => { results := [.lit (.bool true)], args := [d] }
  | _ => none }
def fnExactBatchTellRow : OpenClaim := { program := "ytjkikkgpenhbgaa", sum := "cc2f1493d9186afc3f5a3ebcf7277ee4727c9c5b34c23317f4d50a24e7f2d825", func := "loop.example/scrutineer/laws.FnExactBatchTell", spec := "fnExactBatchTell", inPlace := ["(*sync.WaitGroup).Add", "internal/race.ReleaseMerge", "internal/race.Disable", "internal/race.Enable", "internal/synctest.IsInBubble", "internal/synctest.Associate[sync.WaitGroup]", "sync.fatal", "sync/atomic.OrUint64", "sync/atomic.AddUint64", "internal/race.Read", "sync/atomic.LoadUint64", "sync/atomic.StoreUint64", "internal/synctest.Disassociate[sync.WaitGroup]", "sync.runtime_Semrelease", "(*sync.WaitGroup).Done", "(*sync.WaitGroup).Wait", "internal/race.Acquire", "internal/synctest.IsAssociated[sync.WaitGroup]", "sync/atomic.CompareAndSwapUint64", "internal/race.Write", "sync.runtime_SemacquireWaitGroup"], unfollowed := true, recurses := true, leaving := true, apart := false }
def FnExactBatchTellSaid : Prop := fnExactBatchTellRow.holds Try.pinned (OpenSpec.ofChange fnExactBatchTellSpec)

/-- ITS FALSE NEIGHBOUR: 'it returns false'. Refute it at one input. -/
def fnExactBatchTellWrong : ChangeSpec := { name := "fnExactBatchTell", fn := fun _ => fun
  | [d] => { results := [.lit (.bool false)], args := [d] }
  | _ => none }
def FnExactBatchTellWrongFalsely : Prop := fnExactBatchTellRow.holds Try.pinned (OpenSpec.ofChange fnExactBatchTellWrong)

/-- 'laws.FnExactBatchTotal': WHATEVER THE INPUT: true; the input reads as it did. -/
def fnExactBatchTotalSpec : ChangeSpec := { name := "fnExactBatchTotal", fn := fun _ => fun
  | [d] => { results := [.lit (.bool true)], args := [d] }
  | _ => none }
def fnExactBatchTotalRow : OpenClaim := { program := "ytjkikkgpenhbgaa", sum := "cc2f1493d9186afc3f5a3ebcf7277ee4727c9c5b34c23317f4d50a24e7f2d825", func := "loop.example/scrutineer/laws.FnExactBatchTotal", spec := "fnExactBatchTotal", inPlace := ["(*sync.WaitGroup).Add", "internal/race.ReleaseMerge", "internal/race.Disable", "internal/race.Enable", "internal/synctest.IsInBubble", "internal/synctest.Associate[sync.WaitGroup]", "sync.fatal", "sync/atomic.OrUint64", "sync/atomic.AddUint64", "internal/race.Read", "sync/atomic.LoadUint64", "sync/atomic.StoreUint64", "internal/synctest.Disassociate[sync.WaitGroup]", "sync.runtime_Semrelease", "(*sync.WaitGroup).Done", "(*sync.WaitGroup).Wait", "internal/race.Acquire", "internal/synctest.IsAssociated[sync.WaitGroup]", "sync/atomic.CompareAndSwapUint64", "internal/race.Write", "sync.runtime_SemacquireWaitGroup"], unfollowed := true, recurses := true, leaving := true, apart := false }
def FnExactBatchTotalSaid : Prop := fnExactBatchTotalRow.holds Try.pinned (OpenSpec.ofChange fnExactBatchTotalSpec)

/-- ITS FALSE NEIGHBOUR: 'it returns false'. Refute it at one input. -/
def fnExactBatchTotalWrong : ChangeSpec := { name := "fnExactBatchTotal", fn := fun _ => fun
  | [d] => { results := [.lit (.bool false)], args := [d] }
  | _ => none }
def FnExactBatchTotalWrongFalsely : Prop := fnExactBatchTotalRow.holds Try.pinned (OpenSpec.ofChange fnExactBatchTotalWrong)

/- THE SECOND FORM. 'bulk': how many values and letters a reading holds, each counted each time it is reached (what is shared counts as often as it is met; a slice's spare places count too). A statement '..UptoSaid' is the law's where the arguments, and the package variables that the reading takes, are together of bulk at most 1048576: NARROWER than '..Said'. Prove '..Said' where nothing that the law and all that it calls make is longer than what came in: it says more and counts as full. Else prove '..UptoSaid'. A law counts once. -/
mutual
def uptoBulk {H : Type} : DataW H → Nat
  | .lit (.string bytes) => bytes.length + 1
  | .lit _ => 1
  | .nil => 1
  | .ptr d => uptoBulk d + 1
  | .slice elems spare => uptoBulkAll elems + uptoBulkAll spare + 1
  | .agg parts => uptoBulkAll parts + 1
  | .iface _ d => uptoBulk d + 1
  | .map entries => uptoBulkEntries entries + 1
  | .held _ => 1
def uptoBulkAll {H : Type} : List (DataW H) → Nat
  | [] => 0
  | d :: r => uptoBulk d + uptoBulkAll r
def uptoBulkEntries {H : Type} : List (Lit × DataW H) → Nat
  | [] => 0
  | x :: r => uptoBulkEntry x + uptoBulkEntries r
def uptoBulkEntry {H : Type} : Lit × DataW H → Nat
  | (.string bytes, d) => bytes.length + uptoBulk d + 1
  | (_, d) => uptoBulk d + 1
 end
def uptoSmall : (H : Type) → List (DataW H) → Bool := fun _ ds => decide (uptoBulkAll ds ≤ 1048576)
def OpenSpec.upto (s : _root_.Go.ChangeSpec) : _root_.Go.OpenSpec := { _root_.Go.OpenSpec.ofChange s with cond := some uptoSmall }

/-- 'laws.FnDecide', WHERE WHAT IT READS IS OF BULK AT MOST 1048576: true; the input reads as it did. -/
def fnDecideUptoRow : OpenClaim := { program := "ytjkikkgpenhbgaa", sum := "cc2f1493d9186afc3f5a3ebcf7277ee4727c9c5b34c23317f4d50a24e7f2d825", func := "loop.example/scrutineer/laws.FnDecide", spec := "fnDecide", inPlace := ["(*sync.WaitGroup).Add", "internal/race.ReleaseMerge", "internal/race.Disable", "internal/race.Enable", "internal/synctest.IsInBubble", "internal/synctest.Associate[sync.WaitGroup]", "sync.fatal", "sync/atomic.OrUint64", "sync/atomic.AddUint64", "internal/race.Read", "sync/atomic.LoadUint64", "sync/atomic.StoreUint64", "internal/synctest.Disassociate[sync.WaitGroup]", "sync.runtime_Semrelease", "(*sync.WaitGroup).Done", "(*sync.WaitGroup).Wait", "internal/race.Acquire", "internal/synctest.IsAssociated[sync.WaitGroup]", "sync/atomic.CompareAndSwapUint64", "internal/race.Write", "sync.runtime_SemacquireWaitGroup"], unfollowed := true, recurses := true, leaving := true, apart := false, narrowed := true }
def FnDecideUptoSaid : Prop := fnDecideUptoRow.holds Try.pinned (OpenSpec.upto fnDecideSpec)

/-- 'laws.FnDecideSplit', WHERE WHAT IT READS IS OF BULK AT MOST 1048576: true; the input reads as it did. -/
def fnDecideSplitUptoRow : OpenClaim := { program := "ytjkikkgpenhbgaa", sum := "cc2f1493d9186afc3f5a3ebcf7277ee4727c9c5b34c23317f4d50a24e7f2d825", func := "loop.example/scrutineer/laws.FnDecideSplit", spec := "fnDecideSplit", inPlace := ["(*sync.WaitGroup).Add", "internal/race.ReleaseMerge", "internal/race.Disable", "internal/race.Enable", "internal/synctest.IsInBubble", "internal/synctest.Associate[sync.WaitGroup]", "sync.fatal", "sync/atomic.OrUint64", "sync/atomic.AddUint64", "internal/race.Read", "sync/atomic.LoadUint64", "sync/atomic.StoreUint64", "internal/synctest.Disassociate[sync.WaitGroup]", "sync.runtime_Semrelease", "(*sync.WaitGroup).Done", "(*sync.WaitGroup).Wait", "internal/race.Acquire", "internal/synctest.IsAssociated[sync.WaitGroup]", "sync/atomic.CompareAndSwapUint64", "internal/race.Write", "sync.runtime_SemacquireWaitGroup"], unfollowed := true, recurses := true, leaving := true, apart := false, narrowed := true }
def FnDecideSplitUptoSaid : Prop := fnDecideSplitUptoRow.holds Try.pinned (OpenSpec.upto fnDecideSplitSpec)

/-- 'laws.FnBatchNew', WHERE WHAT IT READS IS OF BULK AT MOST 1048576: true; the input reads as it did. -/
def fnBatchNewUptoRow : OpenClaim := { program := "ytjkikkgpenhbgaa", sum := "cc2f1493d9186afc3f5a3ebcf7277ee4727c9c5b34c23317f4d50a24e7f2d825", func := "loop.example/scrutineer/laws.FnBatchNew", spec := "fnBatchNew", inPlace := ["(*sync.WaitGroup).Add", "internal/race.ReleaseMerge", "internal/race.Disable", "internal/race.Enable", "internal/synctest.IsInBubble", "internal/synctest.Associate[sync.WaitGroup]", "sync.fatal", "sync/atomic.OrUint64", "sync/atomic.AddUint64", "internal/race.Read", "sync/atomic.LoadUint64", "sync/atomic.StoreUint64", "internal/synctest.Disassociate[sync.WaitGroup]", "sync.runtime_Semrelease", "(*sync.WaitGroup).Done", "(*sync.WaitGroup).Wait", "internal/race.Acquire", "internal/synctest.IsAssociated[sync.WaitGroup]", "sync/atomic.CompareAndSwapUint64", "internal/race.Write", "sync.runtime_SemacquireWaitGroup"], unfollowed := true, recurses := true, leaving := true, apart := false, narrowed := true }
def FnBatchNewUptoSaid : Prop := fnBatchNewUptoRow.holds Try.pinned (OpenSpec.upto fnBatchNewSpec)

/-- 'laws.FnExactBatchTell', WHERE WHAT IT READS IS OF BULK AT MOST 1048576: true; the input reads as it did. -/
def fnExactBatchTellUptoRow : OpenClaim := { program := "ytjkikkgpenhbgaa", sum := "cc2f1493d9186afc3f5a3ebcf7277ee4727c9c5b34c23317f4d50a24e7f2d825", func := "loop.example/scrutineer/laws.FnExactBatchTell", spec := "fnExactBatchTell", inPlace := ["(*sync.WaitGroup).Add", "internal/race.ReleaseMerge", "internal/race.Disable", "internal/race.Enable", "internal/synctest.IsInBubble", "internal/synctest.Associate[sync.WaitGroup]", "sync.fatal", "sync/atomic.OrUint64", "sync/atomic.AddUint64", "internal/race.Read", "sync/atomic.LoadUint64", "sync/atomic.StoreUint64", "internal/synctest.Disassociate[sync.WaitGroup]", "sync.runtime_Semrelease", "(*sync.WaitGroup).Done", "(*sync.WaitGroup).Wait", "internal/race.Acquire", "internal/synctest.IsAssociated[sync.WaitGroup]", "sync/atomic.CompareAndSwapUint64", "internal/race.Write", "sync.runtime_SemacquireWaitGroup"], unfollowed := true, recurses := true, leaving := true, apart := false, narrowed := true }
def FnExactBatchTellUptoSaid : Prop := fnExactBatchTellUptoRow.holds Try.pinned (OpenSpec.upto fnExactBatchTellSpec)

/-- 'laws.FnExactBatchTotal', WHERE WHAT IT READS IS OF BULK AT MOST 1048576: true; the input reads as it did. -/
def fnExactBatchTotalUptoRow : OpenClaim := { program := "ytjkikkgpenhbgaa", sum := "cc2f1493d9186afc3f5a3ebcf7277ee4727c9c5b34c23317f4d50a24e7f2d825", func := "loop.example/scrutineer/laws.FnExactBatchTotal", spec := "fnExactBatchTotal", inPlace := ["(*sync.WaitGroup).Add", "internal/race.ReleaseMerge", "internal/race.Disable", "internal/race.Enable", "internal/synctest.IsInBubble", "internal/synctest.Associate[sync.WaitGroup]", "sync.fatal", "sync/atomic.OrUint64", "sync/atomic.AddUint64", "internal/race.Read", "sync/atomic.LoadUint64", "sync/atomic.StoreUint64", "internal/synctest.Disassociate[sync.WaitGroup]", "sync.runtime_Semrelease", "(*sync.WaitGroup).Done", "(*sync.WaitGroup).Wait", "internal/race.Acquire", "internal/synctest.IsAssociated[sync.WaitGroup]", "sync/atomic.CompareAndSwapUint64", "internal/race.Write", "sync.runtime_SemacquireWaitGroup"], unfollowed := true, recurses := true, leaving := true, apart := false, narrowed := true }
def FnExactBatchTotalUptoSaid : Prop := fnExactBatchTotalUptoRow.holds Try.pinned (OpenSpec.upto fnExactBatchTotalSpec)

end Rows
end Go.Proofs.Ytjkikkgpenhbgaa
