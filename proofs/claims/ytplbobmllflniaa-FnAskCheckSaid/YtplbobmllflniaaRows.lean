/-
  No cell of these rows narrows 'for every input' (looked for: loops, veiled, ifaces, maps, wideKeys, modest, calm, conditions, laid).
  DERIVED. THE GIVEN ROWS OF THIS SEAT. 22 by the template 'for every input the law returns true; each argument reads behind the call as it read before'; 0 by the template 'total and deterministic' (their statements: YtplbobmllflniaaTotals.lean).
  GIVEN WITH THE SEED: the statements are not yours to turn. If you find one false, say at which input.
  Laid BY PROGRAM, IN A SANDBOX (cutbox-rows.mjs): the forced cells as the released guide's own fill.sh prints them over the translation 0bd493b34c9320be… (all of the seat's roots in one cut). By AI agents, Wed Nov 11 2026. No macro, syntax, notation, axiom, sorry.
-/
import Derived.Test.YtplbobmllflniaaChecked
import GoSem.Claim
import GoSem.ClaimJoined
import GoSem.ClaimMapViews
import Derived.JoinedTies
import Derived.KernelRfl
namespace Go.Proofs.Ytplbobmllflniaa
/- THE CELL 'sum', in the pinned program and in every row, IS THE sha256 OF THE DUMP (.gsa) THAT YtplbobmllflniaaProg.lean LOADS. Nothing in Lean hashes anything: it is a label: what it is worth is what the hold of that sum in a sandbox is worth. -/
noncomputable def Try.pinned : Pinned := { name := "ytplbobmllflniaa", sum := "0bd493b34c9320be5f78ff8bf723811cc800a7b52ff159cfd2f7af5451362f22", checked := Try.checked }
namespace Rows
def none {H : Type} : Left H := { results := [], args := [] }

/-- 'laws.FnExactQueryBound': WHATEVER THE INPUT: true; the input reads as it did. -/
def fnExactQueryBoundSpec : ChangeSpec := { name := "fnExactQueryBound", fn := fun _ => fun
  | [d] => { results := [.lit (.bool true)], args := [d] }
  | _ => none }
def fnExactQueryBoundRow : OpenClaim := { program := "ytplbobmllflniaa", sum := "0bd493b34c9320be5f78ff8bf723811cc800a7b52ff159cfd2f7af5451362f22", func := "loop.example/scrutineer/laws.FnExactQueryBound", spec := "fnExactQueryBound", unfollowed := true, recurses := true, apart := false }
def FnExactQueryBoundSaid : Prop := fnExactQueryBoundRow.holds Try.pinned (OpenSpec.ofChange fnExactQueryBoundSpec)

/-- ITS FALSE NEIGHBOUR: 'it returns false'. Refute it at one input. -/
def fnExactQueryBoundWrong : ChangeSpec := { name := "fnExactQueryBound", fn := fun _ => fun
  | [d] => { results := [.lit (.bool false)], args := [d] }
  | _ => none }
def FnExactQueryBoundWrongFalsely : Prop := fnExactQueryBoundRow.holds Try.pinned (OpenSpec.ofChange fnExactQueryBoundWrong)

/-- 'laws.FnExactQueryMay': WHATEVER THE INPUT: true; the input reads as it did. -/
def fnExactQueryMaySpec : ChangeSpec := { name := "fnExactQueryMay", fn := fun _ => fun
  | [d1, d2] => { results := [.lit (.bool true)], args := [d1, d2] }
  | _ => none }
def fnExactQueryMayRow : OpenClaim := { program := "ytplbobmllflniaa", sum := "0bd493b34c9320be5f78ff8bf723811cc800a7b52ff159cfd2f7af5451362f22", func := "loop.example/scrutineer/laws.FnExactQueryMay", spec := "fnExactQueryMay", unfollowed := true, recurses := true, apart := false }
def FnExactQueryMaySaid : Prop := fnExactQueryMayRow.holds Try.pinned (OpenSpec.ofChange fnExactQueryMaySpec)

/-- ITS FALSE NEIGHBOUR: 'it returns false'. Refute it at one input. -/
def fnExactQueryMayWrong : ChangeSpec := { name := "fnExactQueryMay", fn := fun _ => fun
  | [d1, d2] => { results := [.lit (.bool false)], args := [d1, d2] }
  | _ => none }
def FnExactQueryMayWrongFalsely : Prop := fnExactQueryMayRow.holds Try.pinned (OpenSpec.ofChange fnExactQueryMayWrong)

/-- 'laws.FnBound': WHATEVER THE INPUT: true; the input reads as it did. -/
def fnBoundSpec : ChangeSpec := { name := "fnBound", fn := fun _ => fun
  | [d] => { results := [.lit (.bool true)], args := [d] }
  | _ => none }
def fnBoundRow : OpenClaim := { program := "ytplbobmllflniaa", sum := "0bd493b34c9320be5f78ff8bf723811cc800a7b52ff159cfd2f7af5451362f22", func := "loop.example/scrutineer/laws.FnBound", spec := "fnBound", unfollowed := true, recurses := true, apart := false }
def FnBoundSaid : Prop := fnBoundRow.holds Try.pinned (OpenSpec.ofChange fnBoundSpec)

/-- ITS FALSE NEIGHBOUR: 'it returns false'. Refute it at one input. -/
def fnBoundWrong : ChangeSpec := { name := "fnBound", fn := fun _ => fun
  | [d] => { results := [.lit (.bool false)], args := [d] }
  | _ => none }
def FnBoundWrongFalsely : Prop := fnBoundRow.holds Try.pinned (OpenSpec.ofChange fnBoundWrong)

/-- 'laws.FnMay': WHATEVER THE INPUT: true; the input reads as it did. -/
def fnMaySpec : ChangeSpec := { name := "fnMay", fn := fun _ => fun
  | [d] => { results := [.lit (.bool true)], args := [d] }
  | _ => none }
def fnMayRow : OpenClaim := { program := "ytplbobmllflniaa", sum := "0bd493b34c9320be5f78ff8bf723811cc800a7b52ff159cfd2f7af5451362f22", func := "loop.example/scrutineer/laws.FnMay", spec := "fnMay", unfollowed := true, recurses := true, apart := false }
def FnMaySaid : Prop := fnMayRow.holds Try.pinned (OpenSpec.ofChange fnMaySpec)

/-- ITS FALSE NEIGHBOUR: 'it returns false'. Refute it at one input. -/
def fnMayWrong : ChangeSpec := { name := "fnMay", fn := fun _ => fun
  | [d] => { results := [.lit (.bool false)], args := [d] }
  | _ => none }
def FnMayWrongFalsely : Prop := fnMayRow.holds Try.pinned (OpenSpec.ofChange fnMayWrong)

/-- 'laws.FnExactQueryDecide': WHATEVER THE INPUT: true; the input reads as it did. -/
def fnExactQueryDecideSpec : ChangeSpec := { name := "fnExactQueryDecide", fn := fun _ => fun
  | [d1, d2] => { results := [.lit (.bool true)], args := [d1, d2] }
  | _ => none }
def fnExactQueryDecideRow : OpenClaim := { program := "ytplbobmllflniaa", sum := "0bd493b34c9320be5f78ff8bf723811cc800a7b52ff159cfd2f7af5451362f22", func := "loop.example/scrutineer/laws.FnExactQueryDecide", spec := "fnExactQueryDecide", unfollowed := true, recurses := true, apart := false }
def FnExactQueryDecideSaid : Prop := fnExactQueryDecideRow.holds Try.pinned (OpenSpec.ofChange fnExactQueryDecideSpec)

/-- ITS FALSE NEIGHBOUR: 'it returns false'. Refute it at one input. -/
def fnExactQueryDecideWrong : ChangeSpec := { name := "fnExactQueryDecide", fn := fun _ => fun
  | [d1, d2] => { results := [.lit (.bool false)], args := [d1, d2] }
  | _ => none }
def FnExactQueryDecideWrongFalsely : Prop := fnExactQueryDecideRow.holds Try.pinned (OpenSpec.ofChange fnExactQueryDecideWrong)

/-- 'laws.FnExactColNew': WHATEVER THE INPUT: true; the input reads as it did. -/
def fnExactColNewSpec : ChangeSpec := { name := "fnExactColNew", fn := fun _ => fun
  | [d1, d2] => { results := [.lit (.bool true)], args := [d1, d2] }
  | _ => none }
def fnExactColNewRow : OpenClaim := { program := "ytplbobmllflniaa", sum := "0bd493b34c9320be5f78ff8bf723811cc800a7b52ff159cfd2f7af5451362f22", func := "loop.example/scrutineer/laws.FnExactColNew", spec := "fnExactColNew", unfollowed := true, recurses := true, apart := false }
def FnExactColNewSaid : Prop := fnExactColNewRow.holds Try.pinned (OpenSpec.ofChange fnExactColNewSpec)

/-- ITS FALSE NEIGHBOUR: 'it returns false'. Refute it at one input. -/
def fnExactColNewWrong : ChangeSpec := { name := "fnExactColNew", fn := fun _ => fun
  | [d1, d2] => { results := [.lit (.bool false)], args := [d1, d2] }
  | _ => none }
def FnExactColNewWrongFalsely : Prop := fnExactColNewRow.holds Try.pinned (OpenSpec.ofChange fnExactColNewWrong)

/-- 'laws.FnColNew': WHATEVER THE INPUT: true; the input reads as it did. -/
def fnColNewSpec : ChangeSpec := { name := "fnColNew", fn := fun _ => fun
  | [d] => { results := [.lit (.bool true)], args := [d] }
  | _ => none }
def fnColNewRow : OpenClaim := { program := "ytplbobmllflniaa", sum := "0bd493b34c9320be5f78ff8bf723811cc800a7b52ff159cfd2f7af5451362f22", func := "loop.example/scrutineer/laws.FnColNew", spec := "fnColNew", unfollowed := true, recurses := true, apart := false }
def FnColNewSaid : Prop := fnColNewRow.holds Try.pinned (OpenSpec.ofChange fnColNewSpec)

/-- ITS FALSE NEIGHBOUR: 'it returns false'. Refute it at one input. -/
def fnColNewWrong : ChangeSpec := { name := "fnColNew", fn := fun _ => fun
  | [d] => { results := [.lit (.bool false)], args := [d] }
  | _ => none }
def FnColNewWrongFalsely : Prop := fnColNewRow.holds Try.pinned (OpenSpec.ofChange fnColNewWrong)

/-- 'laws.FnExactBatchNew': WHATEVER THE INPUT: true; the input reads as it did. -/
def fnExactBatchNewSpec : ChangeSpec := { name := "fnExactBatchNew", fn := fun _ => fun
  | [d1, d2] => { results := [.lit (.bool true)], args := [d1, d2] }
  | _ => none }
def fnExactBatchNewRow : OpenClaim := { program := "ytplbobmllflniaa", sum := "0bd493b34c9320be5f78ff8bf723811cc800a7b52ff159cfd2f7af5451362f22", func := "loop.example/scrutineer/laws.FnExactBatchNew", spec := "fnExactBatchNew", unfollowed := true, recurses := true, apart := false }
def FnExactBatchNewSaid : Prop := fnExactBatchNewRow.holds Try.pinned (OpenSpec.ofChange fnExactBatchNewSpec)

/-- ITS FALSE NEIGHBOUR: 'it returns false'. Refute it at one input. -/
def fnExactBatchNewWrong : ChangeSpec := { name := "fnExactBatchNew", fn := fun _ => fun
  | [d1, d2] => { results := [.lit (.bool false)], args := [d1, d2] }
  | _ => none }
def FnExactBatchNewWrongFalsely : Prop := fnExactBatchNewRow.holds Try.pinned (OpenSpec.ofChange fnExactBatchNewWrong)

/-- 'laws.FnExactColOk': WHATEVER THE INPUT: true; the input reads as it did. -/
def fnExactColOkSpec : ChangeSpec := { name := "fnExactColOk", fn := fun _ => fun
  | [d] => { results := [.lit (.bool true)], args := [d] }
  | _ => none }
def fnExactColOkRow : OpenClaim := { program := "ytplbobmllflniaa", sum := "0bd493b34c9320be5f78ff8bf723811cc800a7b52ff159cfd2f7af5451362f22", func := "loop.example/scrutineer/laws.FnExactColOk", spec := "fnExactColOk", unfollowed := true, recurses := true, apart := false }
def FnExactColOkSaid : Prop := fnExactColOkRow.holds Try.pinned (OpenSpec.ofChange fnExactColOkSpec)

/-- ITS FALSE NEIGHBOUR: 'it returns false'. Refute it at one input. -/
def fnExactColOkWrong : ChangeSpec := { name := "fnExactColOk", fn := fun _ => fun
  | [d] => { results := [.lit (.bool false)], args := [d] }
  | _ => none }
def FnExactColOkWrongFalsely : Prop := fnExactColOkRow.holds Try.pinned (OpenSpec.ofChange fnExactColOkWrong)

/-- 'laws.FnExactColHas': WHATEVER THE INPUT: true; the input reads as it did. -/
def fnExactColHasSpec : ChangeSpec := { name := "fnExactColHas", fn := fun _ => fun
  | [d1, d2] => { results := [.lit (.bool true)], args := [d1, d2] }
  | _ => none }
def fnExactColHasRow : OpenClaim := { program := "ytplbobmllflniaa", sum := "0bd493b34c9320be5f78ff8bf723811cc800a7b52ff159cfd2f7af5451362f22", func := "loop.example/scrutineer/laws.FnExactColHas", spec := "fnExactColHas", unfollowed := true, recurses := true, apart := false }
def FnExactColHasSaid : Prop := fnExactColHasRow.holds Try.pinned (OpenSpec.ofChange fnExactColHasSpec)

/-- ITS FALSE NEIGHBOUR: 'it returns false'. Refute it at one input. -/
def fnExactColHasWrong : ChangeSpec := { name := "fnExactColHas", fn := fun _ => fun
  | [d1, d2] => { results := [.lit (.bool false)], args := [d1, d2] }
  | _ => none }
def FnExactColHasWrongFalsely : Prop := fnExactColHasRow.holds Try.pinned (OpenSpec.ofChange fnExactColHasWrong)

/-- 'laws.FnExactBatchOk': WHATEVER THE INPUT: true; the input reads as it did. -/
def fnExactBatchOkSpec : ChangeSpec := { name := "fnExactBatchOk", fn := fun _ => fun
  | [d] => { results := [.lit (.bool true)], args := [d] }
  | _ => none }
def fnExactBatchOkRow : OpenClaim := { program := "ytplbobmllflniaa", sum := "0bd493b34c9320be5f78ff8bf723811cc800a7b52ff159cfd2f7af5451362f22", func := "loop.example/scrutineer/laws.FnExactBatchOk", spec := "fnExactBatchOk", unfollowed := true, recurses := true, apart := false }
def FnExactBatchOkSaid : Prop := fnExactBatchOkRow.holds Try.pinned (OpenSpec.ofChange fnExactBatchOkSpec)

/-- ITS FALSE NEIGHBOUR: 'it returns false'. Refute it at one input. -/
def fnExactBatchOkWrong : ChangeSpec := { name := "fnExactBatchOk", fn := fun _ => fun
  | [d] => { results := [.lit (.bool false)], args := [d] }
  | _ => none }
def FnExactBatchOkWrongFalsely : Prop := fnExactBatchOkRow.holds Try.pinned (OpenSpec.ofChange fnExactBatchOkWrong)

/-- 'laws.FnExactProofMake': WHATEVER THE INPUT: true; the input reads as it did. -/
def fnExactProofMakeSpec : ChangeSpec := { name := "fnExactProofMake", fn := fun _ => fun
  | [d1, d2, d3, d4] => { results := [.lit (.bool true)], args := [d1, d2, d3, d4] }
  | _ => none }
def fnExactProofMakeRow : OpenClaim := { program := "ytplbobmllflniaa", sum := "0bd493b34c9320be5f78ff8bf723811cc800a7b52ff159cfd2f7af5451362f22", func := "loop.example/scrutineer/laws.FnExactProofMake", spec := "fnExactProofMake", unfollowed := true, recurses := true, apart := false }
def FnExactProofMakeSaid : Prop := fnExactProofMakeRow.holds Try.pinned (OpenSpec.ofChange fnExactProofMakeSpec)

/-- ITS FALSE NEIGHBOUR: 'it returns false'. Refute it at one input. -/
def fnExactProofMakeWrong : ChangeSpec := { name := "fnExactProofMake", fn := fun _ => fun
  | [d1, d2, d3, d4] => { results := [.lit (.bool false)], args := [d1, d2, d3, d4] }
  | _ => none }
def FnExactProofMakeWrongFalsely : Prop := fnExactProofMakeRow.holds Try.pinned (OpenSpec.ofChange fnExactProofMakeWrong)

/-- 'laws.FnProofZero': WHATEVER THE INPUT: true; the input reads as it did. -/
def fnProofZeroSpec : ChangeSpec := { name := "fnProofZero", fn := fun _ => fun
  | [d1, d2] => { results := [.lit (.bool true)], args := [d1, d2] }
  | _ => none }
def fnProofZeroRow : OpenClaim := { program := "ytplbobmllflniaa", sum := "0bd493b34c9320be5f78ff8bf723811cc800a7b52ff159cfd2f7af5451362f22", func := "loop.example/scrutineer/laws.FnProofZero", spec := "fnProofZero", unfollowed := true, recurses := true, apart := false }
def FnProofZeroSaid : Prop := fnProofZeroRow.holds Try.pinned (OpenSpec.ofChange fnProofZeroSpec)

/-- ITS FALSE NEIGHBOUR: 'it returns false'. Refute it at one input. -/
def fnProofZeroWrong : ChangeSpec := { name := "fnProofZero", fn := fun _ => fun
  | [d1, d2] => { results := [.lit (.bool false)], args := [d1, d2] }
  | _ => none }
def FnProofZeroWrongFalsely : Prop := fnProofZeroRow.holds Try.pinned (OpenSpec.ofChange fnProofZeroWrong)

/-- 'laws.FnExactQueryAsk': WHATEVER THE INPUT: true; the input reads as it did. -/
def fnExactQueryAskSpec : ChangeSpec := { name := "fnExactQueryAsk", fn := fun _ => fun
  | [d1, d2, d3, d4, d5] => { results := [.lit (.bool true)], args := [d1, d2, d3, d4, d5] }
  | _ => none }
def fnExactQueryAskRow : OpenClaim := { program := "ytplbobmllflniaa", sum := "0bd493b34c9320be5f78ff8bf723811cc800a7b52ff159cfd2f7af5451362f22", func := "loop.example/scrutineer/laws.FnExactQueryAsk", spec := "fnExactQueryAsk", unfollowed := true, recurses := true, apart := false }
def FnExactQueryAskSaid : Prop := fnExactQueryAskRow.holds Try.pinned (OpenSpec.ofChange fnExactQueryAskSpec)

/-- ITS FALSE NEIGHBOUR: 'it returns false'. Refute it at one input. -/
def fnExactQueryAskWrong : ChangeSpec := { name := "fnExactQueryAsk", fn := fun _ => fun
  | [d1, d2, d3, d4, d5] => { results := [.lit (.bool false)], args := [d1, d2, d3, d4, d5] }
  | _ => none }
def FnExactQueryAskWrongFalsely : Prop := fnExactQueryAskRow.holds Try.pinned (OpenSpec.ofChange fnExactQueryAskWrong)

/-- 'laws.FnExactQueryChance': WHATEVER THE INPUT: true; the input reads as it did. -/
def fnExactQueryChanceSpec : ChangeSpec := { name := "fnExactQueryChance", fn := fun _ => fun
  | [d1, d2] => { results := [.lit (.bool true)], args := [d1, d2] }
  | _ => none }
def fnExactQueryChanceRow : OpenClaim := { program := "ytplbobmllflniaa", sum := "0bd493b34c9320be5f78ff8bf723811cc800a7b52ff159cfd2f7af5451362f22", func := "loop.example/scrutineer/laws.FnExactQueryChance", spec := "fnExactQueryChance", unfollowed := true, recurses := true, apart := false }
def FnExactQueryChanceSaid : Prop := fnExactQueryChanceRow.holds Try.pinned (OpenSpec.ofChange fnExactQueryChanceSpec)

/-- ITS FALSE NEIGHBOUR: 'it returns false'. Refute it at one input. -/
def fnExactQueryChanceWrong : ChangeSpec := { name := "fnExactQueryChance", fn := fun _ => fun
  | [d1, d2] => { results := [.lit (.bool false)], args := [d1, d2] }
  | _ => none }
def FnExactQueryChanceWrongFalsely : Prop := fnExactQueryChanceRow.holds Try.pinned (OpenSpec.ofChange fnExactQueryChanceWrong)

/-- 'laws.FnColForm': WHATEVER THE INPUT: true; the input reads as it did. -/
def fnColFormSpec : ChangeSpec := { name := "fnColForm", fn := fun _ => fun
  | [d] => { results := [.lit (.bool true)], args := [d] }
  | _ => none }
def fnColFormRow : OpenClaim := { program := "ytplbobmllflniaa", sum := "0bd493b34c9320be5f78ff8bf723811cc800a7b52ff159cfd2f7af5451362f22", func := "loop.example/scrutineer/laws.FnColForm", spec := "fnColForm", unfollowed := true, recurses := true, apart := false }
def FnColFormSaid : Prop := fnColFormRow.holds Try.pinned (OpenSpec.ofChange fnColFormSpec)

/-- ITS FALSE NEIGHBOUR: 'it returns false'. Refute it at one input. -/
def fnColFormWrong : ChangeSpec := { name := "fnColForm", fn := fun _ => fun
  | [d] => { results := [.lit (.bool false)], args := [d] }
  | _ => none }
def FnColFormWrongFalsely : Prop := fnColFormRow.holds Try.pinned (OpenSpec.ofChange fnColFormWrong)

/-- 'laws.FnColHas': WHATEVER THE INPUT: true; the input reads as it did. -/
def fnColHasSpec : ChangeSpec := { name := "fnColHas", fn := fun _ => fun
  | [d] => { results := [.lit (.bool true)], args := [d] }
  | _ => none }
def fnColHasRow : OpenClaim := { program := "ytplbobmllflniaa", sum := "0bd493b34c9320be5f78ff8bf723811cc800a7b52ff159cfd2f7af5451362f22", func := "loop.example/scrutineer/laws.FnColHas", spec := "fnColHas", unfollowed := true, recurses := true, apart := false }
def FnColHasSaid : Prop := fnColHasRow.holds Try.pinned (OpenSpec.ofChange fnColHasSpec)

/-- ITS FALSE NEIGHBOUR: 'it returns false'. Refute it at one input. -/
def fnColHasWrong : ChangeSpec := { name := "fnColHas", fn := fun _ => fun
  | [d] => { results := [.lit (.bool false)], args := [d] }
  | _ => none }
def FnColHasWrongFalsely : Prop := fnColHasRow.holds Try.pinned (OpenSpec.ofChange fnColHasWrong)

/-- 'laws.FnBatchForm': WHATEVER THE INPUT: true; the input reads as it did. -/
def fnBatchFormSpec : ChangeSpec := { name := "fnBatchForm", fn := fun _ => fun
  | [d] => { results := [.lit (.bool true)], args := [d] }
  | _ => none }
def fnBatchFormRow : OpenClaim := { program := "ytplbobmllflniaa", sum := "0bd493b34c9320be5f78ff8bf723811cc800a7b52ff159cfd2f7af5451362f22", func := "loop.example/scrutineer/laws.FnBatchForm", spec := "fnBatchForm", unfollowed := true, recurses := true, apart := false }
def FnBatchFormSaid : Prop := fnBatchFormRow.holds Try.pinned (OpenSpec.ofChange fnBatchFormSpec)

/-- ITS FALSE NEIGHBOUR: 'it returns false'. Refute it at one input. -/
def fnBatchFormWrong : ChangeSpec := { name := "fnBatchForm", fn := fun _ => fun
  | [d] => { results := [.lit (.bool false)], args := [d] }
  | _ => none }
def FnBatchFormWrongFalsely : Prop := fnBatchFormRow.holds Try.pinned (OpenSpec.ofChange fnBatchFormWrong)

/-- 'laws.FnAskNone': WHATEVER THE INPUT: true; the input reads as it did. -/
def fnAskNoneSpec : ChangeSpec := { name := "fnAskNone", fn := fun _ => fun
  | [d] => { results := [.lit (.bool true)], args := [d] }
  | _ => none }
def fnAskNoneRow : OpenClaim := { program := "ytplbobmllflniaa", sum := "0bd493b34c9320be5f78ff8bf723811cc800a7b52ff159cfd2f7af5451362f22", func := "loop.example/scrutineer/laws.FnAskNone", spec := "fnAskNone", unfollowed := true, recurses := true, apart := false }
def FnAskNoneSaid : Prop := fnAskNoneRow.holds Try.pinned (OpenSpec.ofChange fnAskNoneSpec)

/-- ITS FALSE NEIGHBOUR: 'it returns false'. Refute it at one input. -/
def fnAskNoneWrong : ChangeSpec := { name := "fnAskNone", fn := fun _ => fun
  | [d] => { results := [.lit (.bool false)], args := [d] }
  | _ => none }
def FnAskNoneWrongFalsely : Prop := fnAskNoneRow.holds Try.pinned (OpenSpec.ofChange fnAskNoneWrong)

/-- 'laws.FnChanceOne': WHATEVER THE INPUT: true; the input reads as it did. -/
def fnChanceOneSpec : ChangeSpec := { name := "fnChanceOne", fn := fun _ => fun
  | [d1, d2] => { results := [.lit (.bool true)], args := [d1, d2] }
  | _ => none }
def fnChanceOneRow : OpenClaim := { program := "ytplbobmllflniaa", sum := "0bd493b34c9320be5f78ff8bf723811cc800a7b52ff159cfd2f7af5451362f22", func := "loop.example/scrutineer/laws.FnChanceOne", spec := "fnChanceOne", unfollowed := true, recurses := true, apart := false }
def FnChanceOneSaid : Prop := fnChanceOneRow.holds Try.pinned (OpenSpec.ofChange fnChanceOneSpec)

/-- ITS FALSE NEIGHBOUR: 'it returns false'. Refute it at one input. -/
def fnChanceOneWrong : ChangeSpec := { name := "fnChanceOne", fn := fun _ => fun
  | [d1, d2] => { results := [.lit (.bool false)], args := [d1, d2] }
  | _ => none }
def FnChanceOneWrongFalsely : Prop := fnChanceOneRow.holds Try.pinned (OpenSpec.ofChange fnChanceOneWrong)

/-- 'laws.FnAskWhole': WHATEVER THE INPUT: true; the input reads as it did. -/
def fnAskWholeSpec : ChangeSpec := { name := "fnAskWhole", fn := fun _ => fun
  | [d] => { results := [.lit (.bool true)], args := [d] }
  | _ => none }
def fnAskWholeRow : OpenClaim := { program := "ytplbobmllflniaa", sum := "0bd493b34c9320be5f78ff8bf723811cc800a7b52ff159cfd2f7af5451362f22", func := "loop.example/scrutineer/laws.FnAskWhole", spec := "fnAskWhole", unfollowed := true, recurses := true, apart := false }
def FnAskWholeSaid : Prop := fnAskWholeRow.holds Try.pinned (OpenSpec.ofChange fnAskWholeSpec)

/-- ITS FALSE NEIGHBOUR: 'it returns false'. Refute it at one input. -/
def fnAskWholeWrong : ChangeSpec := { name := "fnAskWhole", fn := fun _ => fun
  | [d] => { results := [.lit (.bool false)], args := [d] }
  | _ => none }
def FnAskWholeWrongFalsely : Prop := fnAskWholeRow.holds Try.pinned (OpenSpec.ofChange fnAskWholeWrong)

/-- 'laws.FnAskCheck': WHATEVER THE INPUT: true; the input reads as it did. -/
def fnAskCheckSpec : ChangeSpec := { name := "fnAskCheck", fn := fun _ => fun
  | [d] => { results := [.lit (.bool true)], args := [d] }
  | _ => none }
def fnAskCheckRow : OpenClaim := { program := "ytplbobmllflniaa", sum := "0bd493b34c9320be5f78ff8bf723811cc800a7b52ff159cfd2f7af5451362f22", func := "loop.example/scrutineer/laws.FnAskCheck", spec := "fnAskCheck", unfollowed := true, recurses := true, apart := false }
def FnAskCheckSaid : Prop := fnAskCheckRow.holds Try.pinned (OpenSpec.ofChange fnAskCheckSpec)

/-- ITS FALSE NEIGHBOUR: 'it returns false'. Refute it at one input. -/
def fnAskCheckWrong : ChangeSpec := { name := "fnAskCheck", fn := fun _ => fun
  | [d] => { results := [.lit (.bool false)], args := [d] }
  | _ => none }
def FnAskCheckWrongFalsely : Prop := fnAskCheckRow.holds Try.pinned (OpenSpec.ofChange fnAskCheckWrong)

/- THE SECOND FORM. 'bulk': how many values and letters a reading holds, each counted each time it is reached (what is shared counts as often as it is met; a slice's spare places count too). A statement '..UptoSaid' is the law's where the arguments, and the package variables that the reading takes, are together of bulk at most 1048576: NARROWER than '..Said'. Prove '..Said' where nothing that the law and all that it calls make is longer than what came in: it says more and counts as full. Else prove '..UptoSaid'. A law counts once. -/
mutual
def uptoBulk {H : Type} : DataW H → Nat
  | .lit (.string bytes) => bytes.length + 1
  | .lit _ => 1
  | .nil => 1
  | .ptr d => uptoBulk d + 1
  | .slice elems spare => uptoBulkAll elems + uptoBulkAll spare + 1
  | .agg parts => uptoBulkAll parts + 1
  | .iface _ d => uptoBulk d + 1
  | .map entries => uptoBulkEntries entries + 1
  | .held _ => 1
def uptoBulkAll {H : Type} : List (DataW H) → Nat
  | [] => 0
  | d :: r => uptoBulk d + uptoBulkAll r
def uptoBulkEntries {H : Type} : List (Lit × DataW H) → Nat
  | [] => 0
  | x :: r => uptoBulkEntry x + uptoBulkEntries r
def uptoBulkEntry {H : Type} : Lit × DataW H → Nat
  | (.string bytes, d) => bytes.length + uptoBulk d + 1
  | (_, d) => uptoBulk d + 1
 end
def uptoSmall : (H : Type) → List (DataW H) → Bool := fun _ ds => decide (uptoBulkAll ds ≤ 1048576)
def OpenSpec.upto (s : _root_.Go.ChangeSpec) : _root_.Go.OpenSpec := { _root_.Go.OpenSpec.ofChange s with cond := some uptoSmall }

/-- 'laws.FnExactQueryBound', WHERE WHAT IT READS IS OF BULK AT MOST 1048576: true; the input reads as it did. -/
def fnExactQueryBoundUptoRow : OpenClaim := { program := "ytplbobmllflniaa", sum := "0bd493b34c9320be5f78ff8bf723811cc800a7b52ff159cfd2f7af5451362f22", func := "loop.example/scrutineer/laws.FnExactQueryBound", spec := "fnExactQueryBound", unfollowed := true, recurses := true, apart := false, narrowed := true }
def FnExactQueryBoundUptoSaid : Prop := fnExactQueryBoundUptoRow.holds Try.pinned (OpenSpec.upto fnExactQueryBoundSpec)

/-- 'laws.FnExactQueryMay', WHERE WHAT IT READS IS OF BULK AT MOST 1048576: true; the input reads as it did. -/
def fnExactQueryMayUptoRow : OpenClaim := { program := "ytplbobmllflniaa", sum := "0bd493b34c9320be5f78ff8bf723811cc800a7b52ff159cfd2f7af5451362f22", func := "loop.example/scrutineer/laws.FnExactQueryMay", spec := "fnExactQueryMay", unfollowed := true, recurses := true, apart := false, narrowed := true }
def FnExactQueryMayUptoSaid : Prop := fnExactQueryMayUptoRow.holds Try.pinned (OpenSpec.upto fnExactQueryMaySpec)

/-- 'laws.FnBound', WHERE WHAT IT READS IS OF BULK AT MOST 1048576: true; the input reads as it did. -/
def fnBoundUptoRow : OpenClaim := { program := "ytplbobmllflniaa", sum := "0bd493b34c9320be5f78ff8bf723811cc800a7b52ff159cfd2f7af5451362f22", func := "loop.example/scrutineer/laws.FnBound", spec := "fnBound", unfollowed := true, recurses := true, apart := false, narrowed := true }
def FnBoundUptoSaid : Prop := fnBoundUptoRow.holds Try.pinned (OpenSpec.upto fnBoundSpec)

/-- 'laws.FnMay', WHERE WHAT IT READS IS OF BULK AT MOST 1048576: true; the input reads as it did. -/
def fnMayUptoRow : OpenClaim := { program := "ytplbobmllflniaa", sum := "0bd493b34c9320be5f78ff8bf723811cc800a7b52ff159cfd2f7af5451362f22", func := "loop.example/scrutineer/laws.FnMay", spec := "fnMay", unfollowed := true, recurses := true, apart := false, narrowed := true }
def FnMayUptoSaid : Prop := fnMayUptoRow.holds Try.pinned (OpenSpec.upto fnMaySpec)

/-- 'laws.FnExactQueryDecide', WHERE WHAT IT READS IS OF BULK AT MOST 1048576: true; the input reads as it did. -/
def fnExactQueryDecideUptoRow : OpenClaim := { program := "ytplbobmllflniaa", sum := "0bd493b34c9320be5f78ff8bf723811cc800a7b52ff159cfd2f7af5451362f22", func := "loop.example/scrutineer/laws.FnExactQueryDecide", spec := "fnExactQueryDecide", unfollowed := true, recurses := true, apart := false, narrowed := true }
def FnExactQueryDecideUptoSaid : Prop := fnExactQueryDecideUptoRow.holds Try.pinned (OpenSpec.upto fnExactQueryDecideSpec)

/-- 'laws.FnExactColNew', WHERE WHAT IT READS IS OF BULK AT MOST 1048576: true; the input reads as it did. -/
def fnExactColNewUptoRow : OpenClaim := { program := "ytplbobmllflniaa", sum := "0bd493b34c9320be5f78ff8bf723811cc800a7b52ff159cfd2f7af5451362f22", func := "loop.example/scrutineer/laws.FnExactColNew", spec := "fnExactColNew", unfollowed := true, recurses := true, apart := false, narrowed := true }
def FnExactColNewUptoSaid : Prop := fnExactColNewUptoRow.holds Try.pinned (OpenSpec.upto fnExactColNewSpec)

/-- 'laws.FnColNew', WHERE WHAT IT READS IS OF BULK AT MOST 1048576: true; the input reads as it did. -/
def fnColNewUptoRow : OpenClaim := { program := "ytplbobmllflniaa", sum := "0bd493b34c9320be5f78ff8bf723811cc800a7b52ff159cfd2f7af5451362f22", func := "loop.example/scrutineer/laws.FnColNew", spec := "fnColNew", unfollowed := true, recurses := true, apart := false, narrowed := true }
def FnColNewUptoSaid : Prop := fnColNewUptoRow.holds Try.pinned (OpenSpec.upto fnColNewSpec)

/-- 'laws.FnExactBatchNew', WHERE WHAT IT READS IS OF BULK AT MOST 1048576: true; the input reads as it did. -/
def fnExactBatchNewUptoRow : OpenClaim := { program := "ytplbobmllflniaa", sum := "0bd493b34c9320be5f78ff8bf723811cc800a7b52ff159cfd2f7af5451362f22", func := "loop.example/scrutineer/laws.FnExactBatchNew", spec := "fnExactBatchNew", unfollowed := true, recurses := true, apart := false, narrowed := true }
def FnExactBatchNewUptoSaid : Prop := fnExactBatchNewUptoRow.holds Try.pinned (OpenSpec.upto fnExactBatchNewSpec)

/-- 'laws.FnExactColOk', WHERE WHAT IT READS IS OF BULK AT MOST 1048576: true; the input reads as it did. -/
def fnExactColOkUptoRow : OpenClaim := { program := "ytplbobmllflniaa", sum := "0bd493b34c9320be5f78ff8bf723811cc800a7b52ff159cfd2f7af5451362f22", func := "loop.example/scrutineer/laws.FnExactColOk", spec := "fnExactColOk", unfollowed := true, recurses := true, apart := false, narrowed := true }
def FnExactColOkUptoSaid : Prop := fnExactColOkUptoRow.holds Try.pinned (OpenSpec.upto fnExactColOkSpec)

/-- 'laws.FnExactColHas', WHERE WHAT IT READS IS OF BULK AT MOST 1048576: true; the input reads as it did. -/
def fnExactColHasUptoRow : OpenClaim := { program := "ytplbobmllflniaa", sum := "0bd493b34c9320be5f78ff8bf723811cc800a7b52ff159cfd2f7af5451362f22", func := "loop.example/scrutineer/laws.FnExactColHas", spec := "fnExactColHas", unfollowed := true, recurses := true, apart := false, narrowed := true }
def FnExactColHasUptoSaid : Prop := fnExactColHasUptoRow.holds Try.pinned (OpenSpec.upto fnExactColHasSpec)

/-- 'laws.FnExactBatchOk', WHERE WHAT IT READS IS OF BULK AT MOST 1048576: true; the input reads as it did. -/
def fnExactBatchOkUptoRow : OpenClaim := { program := "ytplbobmllflniaa", sum := "0bd493b34c9320be5f78ff8bf723811cc800a7b52ff159cfd2f7af5451362f22", func := "loop.example/scrutineer/laws.FnExactBatchOk", spec := "fnExactBatchOk", unfollowed := true, recurses := true, apart := false, narrowed := true }
def FnExactBatchOkUptoSaid : Prop := fnExactBatchOkUptoRow.holds Try.pinned (OpenSpec.upto fnExactBatchOkSpec)

/-- 'laws.FnExactProofMake', WHERE WHAT IT READS IS OF BULK AT MOST 1048576: true; the input reads as it did. -/
def fnExactProofMakeUptoRow : OpenClaim := { program := "ytplbobmllflniaa", sum := "0bd493b34c9320be5f78ff8bf723811cc800a7b52ff159cfd2f7af5451362f22", func := "loop.example/scrutineer/laws.FnExactProofMake", spec := "fnExactProofMake", unfollowed := true, recurses := true, apart := false, narrowed := true }
def FnExactProofMakeUptoSaid : Prop := fnExactProofMakeUptoRow.holds Try.pinned (OpenSpec.upto fnExactProofMakeSpec)

/-- 'laws.FnProofZero', WHERE WHAT IT READS IS OF BULK AT MOST 1048576: true; the input reads as it did. -/
def fnProofZeroUptoRow : OpenClaim := { program := "ytplbobmllflniaa", sum := "0bd493b34c9320be5f78ff8bf723811cc800a7b52ff159cfd2f7af5451362f22", func := "loop.example/scrutineer/laws.FnProofZero", spec := "fnProofZero", unfollowed := true, recurses := true, apart := false, narrowed := true }
def FnProofZeroUptoSaid : Prop := fnProofZeroUptoRow.holds Try.pinned (OpenSpec.upto fnProofZeroSpec)

/-- 'laws.FnExactQueryAsk', WHERE WHAT IT READS IS OF BULK AT MOST 1048576: true; the input reads as it did. -/
def fnExactQueryAskUptoRow : OpenClaim := { program := "ytplbobmllflniaa", sum := "0bd493b34c9320be5f78ff8bf723811cc800a7b52ff159cfd2f7af5451362f22", func := "loop.example/scrutineer/laws.FnExactQueryAsk", spec := "fnExactQueryAsk", unfollowed := true, recurses := true, apart := false, narrowed := true }
def FnExactQueryAskUptoSaid : Prop := fnExactQueryAskUptoRow.holds Try.pinned (OpenSpec.upto fnExactQueryAskSpec)

/-- 'laws.FnExactQueryChance', WHERE WHAT IT READS IS OF BULK AT MOST 1048576: true; the input reads as it did. -/
def fnExactQueryChanceUptoRow : OpenClaim := { program := "ytplbobmllflniaa", sum := "0bd493b34c9320be5f78ff8bf723811cc800a7b52ff159cfd2f7af5451362f22", func := "loop.example/scrutineer/laws.FnExactQueryChance", spec := "fnExactQueryChance", unfollowed := true, recurses := true, apart := false, narrowed := true }
def FnExactQueryChanceUptoSaid : Prop := fnExactQueryChanceUptoRow.holds Try.pinned (OpenSpec.upto fnExactQueryChanceSpec)

/-- 'laws.FnColForm', WHERE WHAT IT READS IS OF BULK AT MOST 1048576: true; the input reads as it did. -/
def fnColFormUptoRow : OpenClaim := { program := "ytplbobmllflniaa", sum := "0bd493b34c9320be5f78ff8bf723811cc800a7b52ff159cfd2f7af5451362f22", func := "loop.example/scrutineer/laws.FnColForm", spec := "fnColForm", unfollowed := true, recurses := true, apart := false, narrowed := true }
def FnColFormUptoSaid : Prop := fnColFormUptoRow.holds Try.pinned (OpenSpec.upto fnColFormSpec)

/-- 'laws.FnColHas', WHERE WHAT IT READS IS OF BULK AT MOST 1048576: true; the input reads as it did. -/
def fnColHasUptoRow : OpenClaim := { program := "ytplbobmllflniaa", sum := "0bd493b34c9320be5f78ff8bf723811cc800a7b52ff159cfd2f7af5451362f22", func := "loop.example/scrutineer/laws.FnColHas", spec := "fnColHas", unfollowed := true, recurses := true, apart := false, narrowed := true }
def FnColHasUptoSaid : Prop := fnColHasUptoRow.holds Try.pinned (OpenSpec.upto fnColHasSpec)

/-- 'laws.FnBatchForm', WHERE WHAT IT READS IS OF BULK AT MOST 1048576: true; the input reads as it did. -/
def fnBatchFormUptoRow : OpenClaim := { program := "ytplbobmllflniaa", sum := "0bd493b34c9320be5f78ff8bf723811cc800a7b52ff159cfd2f7af5451362f22", func := "loop.example/scrutineer/laws.FnBatchForm", spec := "fnBatchForm", unfollowed := true, recurses := true, apart := false, narrowed := true }
def FnBatchFormUptoSaid : Prop := fnBatchFormUptoRow.holds Try.pinned (OpenSpec.upto fnBatchFormSpec)

/-- 'laws.FnAskNone', WHERE WHAT IT READS IS OF BULK AT MOST 1048576: true; the input reads as it did. -/
def fnAskNoneUptoRow : OpenClaim := { program := "ytplbobmllflniaa", sum := "0bd493b34c9320be5f78ff8bf723811cc800a7b52ff159cfd2f7af5451362f22", func := "loop.example/scrutineer/laws.FnAskNone", spec := "fnAskNone", unfollowed := true, recurses := true, apart := false, narrowed := true }
def FnAskNoneUptoSaid : Prop := fnAskNoneUptoRow.holds Try.pinned (OpenSpec.upto fnAskNoneSpec)

/-- 'laws.FnChanceOne', WHERE WHAT IT READS IS OF BULK AT MOST 1048576: true; the input reads as it did. -/
def fnChanceOneUptoRow : OpenClaim := { program := "ytplbobmllflniaa", sum := "0bd493b34c9320be5f78ff8bf723811cc800a7b52ff159cfd2f7af5451362f22", func := "loop.example/scrutineer/laws.FnChanceOne", spec := "fnChanceOne", unfollowed := true, recurses := true, apart := false, narrowed := true }
def FnChanceOneUptoSaid : Prop := fnChanceOneUptoRow.holds Try.pinned (OpenSpec.upto fnChanceOneSpec)

/-- 'laws.FnAskWhole', WHERE WHAT IT READS IS OF BULK AT MOST 1048576: true; the input reads as it did. -/
def fnAskWholeUptoRow : OpenClaim := { program := "ytplbobmllflniaa", sum := "0bd493b34c9320be5f78ff8bf723811cc800a7b52ff159cfd2f7af5451362f22", func := "loop.example/scrutineer/laws.FnAskWhole", spec := "fnAskWhole", unfollowed := true, recurses := true, apart := false, narrowed := true }
def FnAskWholeUptoSaid : Prop := fnAskWholeUptoRow.holds Try.pinned (OpenSpec.upto fnAskWholeSpec)

/-- 'laws.FnAskCheck', WHERE WHAT IT READS IS OF BULK AT MOST 1048576: true; the input reads as it did. -/
def fnAskCheckUptoRow : OpenClaim := { program := "ytplbobmllflniaa", sum := "0bd493b34c9320be5f78ff8bf723811cc800a7b52ff159cfd2f7af5451362f22", func := "loop.example/scrutineer/laws.FnAskCheck", spec := "fnAskCheck", unfollowed := true, recurses := true, apart := false, narrowed := true }
def FnAskCheckUptoSaid : Prop := fnAskCheckUptoRow.holds Try.pinned (OpenSpec.upto fnAskCheckSpec)

end Rows
end Go.Proofs.Ytplbobmllflniaa
