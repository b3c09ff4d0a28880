import Derived.Test.YtjkikkgpenhbgaaLEA
import Derived.Test.YtjkikkgpenhbgaaLSG
import Derived.Test.YtjkikkgpenhbgaaProg
import Derived.Below
import Derived.Deep.Draws
import Derived.Deep.AppendLies
import Derived.Maps.AppendAt
import Derived.OwnWalk
import Derived.Laws.BytesArg
import Derived.Laws.MakeOwn
import Derived.Laws.OwnMore
import Derived.Deep.OwnRows
import Derived.Tactics
import Derived.Lib.ConvBytes
import Derived.Laws.Slices
import Derived.WalkKit
import Derived.KernelRfl
import Derived.RowKit3
import Derived.Deep.LoopGhost
import Derived.Deep.QuietTactic
import Derived.BigQuiet
import Derived.WideLaws
import Derived.Deep.DeepCutAuto
import Derived.Deep.CutBlock
import Derived.Deep.RegionHeld3
import Derived.Laws.Rows
import Derived.Lib.AppendStr
import Derived.ArgAppend
import Derived.Laws.IdiomCopy
import Derived.OrdersHeld
import Derived.Laws.BitsLemmas
import Derived.RowKit
import Derived.StillTailTactics
import Derived.Outline
import Derived.Maps.Own
import Derived.Maps.OwnSet
import Derived.Maps.OwnOps
import Derived.Test.YtjkikkgpenhbgaaLComm
import Derived.RangeFuncNested
import Derived.RangeFuncBound
import Derived.RangeFuncCalls
import Derived.RangeFuncLeaves
import Derived.RangeFuncBox
import Derived.Shelf.Abstract
import Derived.OwnWalkIn
import Derived.TacticsInMore
import Derived.LoopNIn
import Derived.LoopIn
import Derived.Conc.LoneCalls
import Derived.Test.YtjkikkgpenhbgaaLWWords
import Derived.Test.YtjkikkgpenhbgaaLWLast
import Derived.Test.YtjkikkgpenhbgaaLWTab
import Derived.Test.YtjkikkgpenhbgaaLWApart
import Derived.Test.YtjkikkgpenhbgaaLWArr
import Derived.Test.YtjkikkgpenhbgaaLWFoot
import Derived.Test.YtjkikkgpenhbgaaLWKept
import Derived.Test.YtjkikkgpenhbgaaLWShare
import Derived.Test.YtjkikkgpenhbgaaLWN
import Derived.Laws.StructEq
import Derived.Test.YtjkikkgpenhbgaaLWRepsOne
import Derived.Test.YtjkikkgpenhbgaaLWInv
import Derived.Test.YtjkikkgpenhbgaaLWGuard
import Derived.Test.YtjkikkgpenhbgaaLWMore
set_option linter.unusedVariables false
set_option linter.unusedSimpArgs false
set_option linter.unusedSectionVars false
namespace Go.Proofs.Ytjkikkgpenhbgaa
open Go Go.Proofs.Ytjkikkgpenhbgaa.Sim
@[simp] theorem Tru.tabs:Tru.prog.toTables=Try.prog.toTables:=by
 show Try.progTables=Try.progTables
 rfl
@[simp] theorem Tru.und (t:TypeId):Tru.prog.underlying t=Try.prog.underlying t:=underlying_F (T:=Try.progTables) (F:=Tru.funcs) (F':=Try.funcs) t
@[simp] theorem Tru.info (t:TypeId):Tru.prog.info? t=Try.prog.info? t:=by
 show Try.progTables.info? t=Try.progTables.info? t
 rfl
@[simp] theorem Tru.runInfo (t:TypeId) (w:World):(Go.typeInfo t).run Tru.prog w=(Go.typeInfo t).run Try.prog w:=runInfo_F (T:=Try.progTables) (F:=Tru.funcs) (F':=Try.funcs) t w
@[simp] theorem Tru.runSize (t:TypeId) (w:World):(Go.sizeOf t).run Tru.prog w=(Go.sizeOf t).run Try.prog w:=runSize_F (T:=Try.progTables) (F:=Tru.funcs) (F':=Try.funcs) t w
@[simp] theorem Tru.runUnd (t:TypeId) (w:World):(Go.underlying t).run Tru.prog w=(Go.underlying t).run Try.prog w:=runUnd_F (T:=Try.progTables) (F:=Tru.funcs) (F':=Try.funcs) t w
@[simp] theorem Tru.runAgg (t:TypeId) (w:World):(Go.isAgg t).run Tru.prog w=(Go.isAgg t).run Try.prog w:=runAgg_F (T:=Try.progTables) (F:=Tru.funcs) (F':=Try.funcs) t w
@[simp] theorem Tru.runZero (t:TypeId) (w:World):(Go.zeroValue t).run Tru.prog w=(Go.zeroValue t).run Try.prog w:=runZero_F (T:=Try.progTables) (F:=Tru.funcs) (F':=Try.funcs) t w
@[simp] theorem Tru.dep:Tru.prog.depth=Try.prog.depth:=depth_F (T:=Try.progTables) (F:=Tru.funcs) (F':=Try.funcs)
@[simp] theorem Tru.eqg (d:Nat) (t:TypeId):Tru.prog.eqGuardType d t=Try.prog.eqGuardType d t:=eqg_F (T:=Try.progTables) (F:=Tru.funcs) (F':=Try.funcs) d t
@[simp] theorem Tru.func11:Tru.prog.funcs[11]? = some { Try.f11 with ntmps:=32,body:=some (share1Code Ish (mkV 37) .plus) }:=by kernel_rfl
@[simp] theorem Tru.func3:Tru.prog.funcs[3]? = some Try.f3:=by kernel_rfl
@[simp] theorem Tru.func4:Tru.prog.funcs[4]? = some Try.f4:=by kernel_rfl
@[simp] theorem Tru.func7:Tru.prog.funcs[7]? = some Try.f7:=by kernel_rfl
@[simp] theorem Tru.func19:Tru.prog.funcs[19]? = some Try.f19:=by kernel_rfl
@[simp] theorem Tru.func20:Tru.prog.funcs[20]? = some Try.f20:=by kernel_rfl
@[simp] theorem Tru.func21:Tru.prog.funcs[21]? = some Try.f21:=by kernel_rfl
@[simp] theorem Tru.func22:Tru.prog.funcs[22]? = some Try.f22:=by kernel_rfl
@[simp] theorem Tru.func23:Tru.prog.funcs[23]? = some Try.f23:=by kernel_rfl
@[simp] theorem Tru.func24:Tru.prog.funcs[24]? = some Try.f24:=by kernel_rfl
@[simp] theorem Tru.func25:Tru.prog.funcs[25]? = some Try.f25:=by kernel_rfl
@[simp] theorem Tru.func26:Tru.prog.funcs[26]? = some Try.f26:=by kernel_rfl
@[simp] theorem Tru.func30:Tru.prog.funcs[30]? = some Try.f30:=by kernel_rfl
@[simp] theorem Tru.func31:Tru.prog.funcs[31]? = some Try.f31:=by kernel_rfl
@[simp] theorem Tru.func36:Tru.prog.funcs[36]? = some Try.f36:=by kernel_rfl
@[simp] theorem Tru.func39:Tru.prog.funcs[39]? = some Try.f39:=by kernel_rfl
@[simp] theorem Tru.func42:Tru.prog.funcs[42]? = some Try.f42:=by kernel_rfl
@[simp] theorem Tru.func47:Tru.prog.funcs[47]? = some Try.f47:=by kernel_rfl
@[simp] theorem Tru.func49:Tru.prog.funcs[49]? = some Try.f49:=by kernel_rfl
@[simp] theorem Tru.func51:Tru.prog.funcs[51]? = some Try.f51:=by kernel_rfl
@[simp] theorem Tru.func52:Tru.prog.funcs[52]? = some Try.f52:=by kernel_rfl
@[simp] theorem Tru.func53:Tru.prog.funcs[53]? = some Try.f53:=by kernel_rfl
@[simp] theorem Tru.func54:Tru.prog.funcs[54]? = some Try.f54:=by kernel_rfl
@[simp] theorem Tru.func55:Tru.prog.funcs[55]? = some Try.f55:=by kernel_rfl
@[simp] theorem Tru.func56:Tru.prog.funcs[56]? = some Try.f56:=by kernel_rfl
@[simp] theorem Tru.func57:Tru.prog.funcs[57]? = some Try.f57:=by kernel_rfl
@[simp] theorem Tru.func58:Tru.prog.funcs[58]? = some Try.f58:=by kernel_rfl
@[simp] theorem Tru.func59:Tru.prog.funcs[59]? = some Try.f59:=by kernel_rfl
@[simp] theorem Tru.func61:Tru.prog.funcs[61]? = some Try.f61:=by kernel_rfl
@[simp] theorem Tru.func63:Tru.prog.funcs[63]? = some Try.f63:=by kernel_rfl
@[simp] theorem Tru.func64:Tru.prog.funcs[64]? = some Try.f64:=by kernel_rfl
@[simp] theorem Tru.func65:Tru.prog.funcs[65]? = some Try.f65:=by kernel_rfl
@[simp] theorem Tru.func67:Tru.prog.funcs[67]? = some Try.f67:=by kernel_rfl
@[simp] theorem Tru.func68:Tru.prog.funcs[68]? = some Try.f68:=by kernel_rfl
@[simp] theorem Tru.func73:Tru.prog.funcs[73]? = some Try.f73:=by kernel_rfl
@[simp] theorem Tru.func74:Tru.prog.funcs[74]? = some Try.f74:=by kernel_rfl
@[simp] theorem Tru.func75:Tru.prog.funcs[75]? = some Try.f75:=by kernel_rfl
@[simp] theorem Tru.func76:Tru.prog.funcs[76]? = some Try.f76:=by kernel_rfl
@[simp] theorem Tru.func78:Tru.prog.funcs[78]? = some Try.f78:=by kernel_rfl
@[simp] theorem Tru.func79:Tru.prog.funcs[79]? = some Try.f79:=by kernel_rfl
@[simp] theorem Tru.func80:Tru.prog.funcs[80]? = some Try.f80:=by kernel_rfl
@[simp] theorem Tru.func81:Tru.prog.funcs[81]? = some Try.f81:=by kernel_rfl
@[simp] theorem Tru.func82:Tru.prog.funcs[82]? = some Try.f82:=by kernel_rfl
@[simp] theorem Tru.func83:Tru.prog.funcs[83]? = some Try.f83:=by kernel_rfl
@[simp] theorem Tru.func84:Tru.prog.funcs[84]? = some Try.f84:=by kernel_rfl
@[simp] theorem Tru.func85:Tru.prog.funcs[85]? = some Try.f85:=by kernel_rfl
@[simp] theorem Tru.func104:Tru.prog.funcs[104]? = some Try.f104:=by kernel_rfl
@[simp] theorem Tru.func105:Tru.prog.funcs[105]? = some Try.f105:=by kernel_rfl
@[simp] theorem Tru.func106:Tru.prog.funcs[106]? = some Try.f106:=by kernel_rfl
@[simp] theorem Tru.func107:Tru.prog.funcs[107]? = some Try.f107:=by kernel_rfl
@[simp] theorem Tru.func108:Tru.prog.funcs[108]? = some Try.f108:=by kernel_rfl
@[simp] theorem Tru.func133:Tru.prog.funcs[133]? = some Try.f133:=by kernel_rfl
@[simp] theorem Tru.func136:Tru.prog.funcs[136]? = some Try.f136:=by kernel_rfl
@[simp] theorem Tru.func139:Tru.prog.funcs[139]? = some Try.f139:=by kernel_rfl
theorem Tru.ntmps3:Try.f3.ntmps=66:=Try.ntmps3
theorem Tru.ntmps4:Try.f4.ntmps=75:=Try.ntmps4
theorem Tru.ntmps7:Try.f7.ntmps=40:=Try.ntmps7
theorem Tru.ntmps19:Try.f19.ntmps=10:=Try.ntmps19
theorem Tru.ntmps20:Try.f20.ntmps=23:=Try.ntmps20
theorem Tru.ntmps21:Try.f21.ntmps=46:=Try.ntmps21
theorem Tru.ntmps22:Try.f22.ntmps=18:=Try.ntmps22
theorem Tru.ntmps23:Try.f23.ntmps=24:=Try.ntmps23
theorem Tru.ntmps24:Try.f24.ntmps=16:=Try.ntmps24
theorem Tru.ntmps25:Try.f25.ntmps=26:=Try.ntmps25
theorem Tru.ntmps26:Try.f26.ntmps=22:=Try.ntmps26
theorem Tru.ntmps30:Try.f30.ntmps=46:=Try.ntmps30
theorem Tru.ntmps31:Try.f31.ntmps=39:=Try.ntmps31
theorem Tru.ntmps36:Try.f36.ntmps=14:=Try.ntmps36
theorem Tru.ntmps39:Try.f39.ntmps=19:=Try.ntmps39
theorem Tru.ntmps42:Try.f42.ntmps=5:=Try.ntmps42
theorem Tru.ntmps47:Try.f47.ntmps=15:=Try.ntmps47
theorem Tru.ntmps49:Try.f49.ntmps=5:=Try.ntmps49
theorem Tru.ntmps51:Try.f51.ntmps=16:=Try.ntmps51
theorem Tru.ntmps52:Try.f52.ntmps=16:=Try.ntmps52
theorem Tru.ntmps53:Try.f53.ntmps=21:=Try.ntmps53
theorem Tru.ntmps54:Try.f54.ntmps=26:=Try.ntmps54
theorem Tru.ntmps55:Try.f55.ntmps=18:=Try.ntmps55
theorem Tru.ntmps56:Try.f56.ntmps=46:=Try.ntmps56
theorem Tru.ntmps57:Try.f57.ntmps=10:=Try.ntmps57
theorem Tru.ntmps58:Try.f58.ntmps=19:=Try.ntmps58
theorem Tru.ntmps59:Try.f59.ntmps=27:=Try.ntmps59
theorem Tru.ntmps61:Try.f61.ntmps=8:=Try.ntmps61
theorem Tru.ntmps63:Try.f63.ntmps=5:=Try.ntmps63
theorem Tru.ntmps64:Try.f64.ntmps=9:=Try.ntmps64
theorem Tru.ntmps65:Try.f65.ntmps=6:=Try.ntmps65
theorem Tru.ntmps67:Try.f67.ntmps=27:=Try.ntmps67
theorem Tru.ntmps68:Try.f68.ntmps=5:=Try.ntmps68
theorem Tru.ntmps73:Try.f73.ntmps=15:=Try.ntmps73
theorem Tru.ntmps74:Try.f74.ntmps=5:=Try.ntmps74
theorem Tru.ntmps75:Try.f75.ntmps=10:=Try.ntmps75
theorem Tru.ntmps76:Try.f76.ntmps=6:=Try.ntmps76
theorem Tru.ntmps78:Try.f78.ntmps=19:=Try.ntmps78
theorem Tru.ntmps79:Try.f79.ntmps=24:=Try.ntmps79
theorem Tru.ntmps80:Try.f80.ntmps=12:=Try.ntmps80
theorem Tru.ntmps81:Try.f81.ntmps=46:=Try.ntmps81
theorem Tru.ntmps82:Try.f82.ntmps=26:=Try.ntmps82
theorem Tru.ntmps83:Try.f83.ntmps=22:=Try.ntmps83
theorem Tru.ntmps84:Try.f84.ntmps=19:=Try.ntmps84
theorem Tru.ntmps85:Try.f85.ntmps=17:=Try.ntmps85
theorem Tru.ntmps104:Try.f104.ntmps=23:=Try.ntmps104
theorem Tru.ntmps105:Try.f105.ntmps=6:=Try.ntmps105
theorem Tru.ntmps106:Try.f106.ntmps=5:=Try.ntmps106
theorem Tru.ntmps107:Try.f107.ntmps=18:=Try.ntmps107
theorem Tru.ntmps108:Try.f108.ntmps=18:=Try.ntmps108
theorem Tru.ntmps133:Try.f133.ntmps=3:=Try.ntmps133
theorem Tru.ntmps136:Try.f136.ntmps=3:=Try.ntmps136
theorem Tru.ntmps139:Try.f139.ntmps=3:=Try.ntmps139
@[simp] theorem Tru.call3 (args:Array Value) (w:World):(Go.callFunc 3 args).run Tru.prog w = .ok (.enter 3 args) w:=zan (Tru.func3) (by kernel_rfl) (by kernel_rfl) args w
@[simp] theorem Tru.call4 (args:Array Value) (w:World):(Go.callFunc 4 args).run Tru.prog w = .ok (.enter 4 args) w:=zan (Tru.func4) (by kernel_rfl) (by kernel_rfl) args w
@[simp] theorem Tru.call7 (args:Array Value) (w:World):(Go.callFunc 7 args).run Tru.prog w = .ok (.enter 7 args) w:=zan (Tru.func7) (by kernel_rfl) (by kernel_rfl) args w
@[simp] theorem Tru.call11 (args:Array Value) (w:World):(Go.callFunc 11 args).run Tru.prog w = .ok (.enter 11 args) w:=zan (fn:=tr 11 Try.f11) (by kernel_rfl) (by kernel_rfl) (by kernel_rfl) args w
@[simp] theorem Tru.call19 (args:Array Value) (w:World):(Go.callFunc 19 args).run Tru.prog w = .ok (.enter 19 args) w:=zan (Tru.func19) (by kernel_rfl) (by kernel_rfl) args w
@[simp] theorem Tru.call20 (args:Array Value) (w:World):(Go.callFunc 20 args).run Tru.prog w = .ok (.enter 20 args) w:=zan (Tru.func20) (by kernel_rfl) (by kernel_rfl) args w
@[simp] theorem Tru.call21 (args:Array Value) (w:World):(Go.callFunc 21 args).run Tru.prog w = .ok (.enter 21 args) w:=zan (Tru.func21) (by kernel_rfl) (by kernel_rfl) args w
@[simp] theorem Tru.call22 (args:Array Value) (w:World):(Go.callFunc 22 args).run Tru.prog w = .ok (.enter 22 args) w:=zan (Tru.func22) (by kernel_rfl) (by kernel_rfl) args w
@[simp] theorem Tru.call23 (args:Array Value) (w:World):(Go.callFunc 23 args).run Tru.prog w = .ok (.enter 23 args) w:=zan (Tru.func23) (by kernel_rfl) (by kernel_rfl) args w
@[simp] theorem Tru.call24 (args:Array Value) (w:World):(Go.callFunc 24 args).run Tru.prog w = .ok (.enter 24 args) w:=zan (Tru.func24) (by kernel_rfl) (by kernel_rfl) args w
@[simp] theorem Tru.call25 (args:Array Value) (w:World):(Go.callFunc 25 args).run Tru.prog w = .ok (.enter 25 args) w:=zan (Tru.func25) (by kernel_rfl) (by kernel_rfl) args w
@[simp] theorem Tru.call26 (args:Array Value) (w:World):(Go.callFunc 26 args).run Tru.prog w = .ok (.enter 26 args) w:=zan (Tru.func26) (by kernel_rfl) (by kernel_rfl) args w
@[simp] theorem Tru.call30 (args:Array Value) (w:World):(Go.callFunc 30 args).run Tru.prog w = .ok (.enter 30 args) w:=zan (Tru.func30) (by kernel_rfl) (by kernel_rfl) args w
@[simp] theorem Tru.call31 (args:Array Value) (w:World):(Go.callFunc 31 args).run Tru.prog w = .ok (.enter 31 args) w:=zan (Tru.func31) (by kernel_rfl) (by kernel_rfl) args w
@[simp] theorem Tru.call36 (args:Array Value) (w:World):(Go.callFunc 36 args).run Tru.prog w = .ok (.enter 36 args) w:=zan (Tru.func36) (by kernel_rfl) (by kernel_rfl) args w
@[simp] theorem Tru.call39 (args:Array Value) (w:World):(Go.callFunc 39 args).run Tru.prog w = .ok (.enter 39 args) w:=zan (Tru.func39) (by kernel_rfl) (by kernel_rfl) args w
@[simp] theorem Tru.call42 (args:Array Value) (w:World):(Go.callFunc 42 args).run Tru.prog w = .ok (.enter 42 args) w:=zan (Tru.func42) (by kernel_rfl) (by kernel_rfl) args w
@[simp] theorem Tru.call47 (args:Array Value) (w:World):(Go.callFunc 47 args).run Tru.prog w = .ok (.enter 47 args) w:=zan (Tru.func47) (by kernel_rfl) (by kernel_rfl) args w
@[simp] theorem Tru.call49 (args:Array Value) (w:World):(Go.callFunc 49 args).run Tru.prog w = .ok (.enter 49 args) w:=zan (Tru.func49) (by kernel_rfl) (by kernel_rfl) args w
@[simp] theorem Tru.call51 (args:Array Value) (w:World):(Go.callFunc 51 args).run Tru.prog w = .ok (.enter 51 args) w:=zan (Tru.func51) (by kernel_rfl) (by kernel_rfl) args w
@[simp] theorem Tru.call52 (args:Array Value) (w:World):(Go.callFunc 52 args).run Tru.prog w = .ok (.enter 52 args) w:=zan (Tru.func52) (by kernel_rfl) (by kernel_rfl) args w
@[simp] theorem Tru.call53 (args:Array Value) (w:World):(Go.callFunc 53 args).run Tru.prog w = .ok (.enter 53 args) w:=zan (Tru.func53) (by kernel_rfl) (by kernel_rfl) args w
@[simp] theorem Tru.call54 (args:Array Value) (w:World):(Go.callFunc 54 args).run Tru.prog w = .ok (.enter 54 args) w:=zan (Tru.func54) (by kernel_rfl) (by kernel_rfl) args w
@[simp] theorem Tru.call55 (args:Array Value) (w:World):(Go.callFunc 55 args).run Tru.prog w = .ok (.enter 55 args) w:=zan (Tru.func55) (by kernel_rfl) (by kernel_rfl) args w
@[simp] theorem Tru.call56 (args:Array Value) (w:World):(Go.callFunc 56 args).run Tru.prog w = .ok (.enter 56 args) w:=zan (Tru.func56) (by kernel_rfl) (by kernel_rfl) args w
@[simp] theorem Tru.call57 (args:Array Value) (w:World):(Go.callFunc 57 args).run Tru.prog w = .ok (.enter 57 args) w:=zan (Tru.func57) (by kernel_rfl) (by kernel_rfl) args w
@[simp] theorem Tru.call58 (args:Array Value) (w:World):(Go.callFunc 58 args).run Tru.prog w = .ok (.enter 58 args) w:=zan (Tru.func58) (by kernel_rfl) (by kernel_rfl) args w
@[simp] theorem Tru.call59 (args:Array Value) (w:World):(Go.callFunc 59 args).run Tru.prog w = .ok (.enter 59 args) w:=zan (Tru.func59) (by kernel_rfl) (by kernel_rfl) args w
@[simp] theorem Tru.call61 (args:Array Value) (w:World):(Go.callFunc 61 args).run Tru.prog w = .ok (.enter 61 args) w:=zan (Tru.func61) (by kernel_rfl) (by kernel_rfl) args w
@[simp] theorem Tru.call63 (args:Array Value) (w:World):(Go.callFunc 63 args).run Tru.prog w = .ok (.enter 63 args) w:=zan (Tru.func63) (by kernel_rfl) (by kernel_rfl) args w
@[simp] theorem Tru.call64 (args:Array Value) (w:World):(Go.callFunc 64 args).run Tru.prog w = .ok (.enter 64 args) w:=zan (Tru.func64) (by kernel_rfl) (by kernel_rfl) args w
@[simp] theorem Tru.call65 (args:Array Value) (w:World):(Go.callFunc 65 args).run Tru.prog w = .ok (.enter 65 args) w:=zan (Tru.func65) (by kernel_rfl) (by kernel_rfl) args w
@[simp] theorem Tru.call67 (args:Array Value) (w:World):(Go.callFunc 67 args).run Tru.prog w = .ok (.enter 67 args) w:=zan (Tru.func67) (by kernel_rfl) (by kernel_rfl) args w
@[simp] theorem Tru.call68 (args:Array Value) (w:World):(Go.callFunc 68 args).run Tru.prog w = .ok (.enter 68 args) w:=zan (Tru.func68) (by kernel_rfl) (by kernel_rfl) args w
@[simp] theorem Tru.call73 (args:Array Value) (w:World):(Go.callFunc 73 args).run Tru.prog w = .ok (.enter 73 args) w:=zan (Tru.func73) (by kernel_rfl) (by kernel_rfl) args w
@[simp] theorem Tru.call74 (args:Array Value) (w:World):(Go.callFunc 74 args).run Tru.prog w = .ok (.enter 74 args) w:=zan (Tru.func74) (by kernel_rfl) (by kernel_rfl) args w
@[simp] theorem Tru.call75 (args:Array Value) (w:World):(Go.callFunc 75 args).run Tru.prog w = .ok (.enter 75 args) w:=zan (Tru.func75) (by kernel_rfl) (by kernel_rfl) args w
@[simp] theorem Tru.call76 (args:Array Value) (w:World):(Go.callFunc 76 args).run Tru.prog w = .ok (.enter 76 args) w:=zan (Tru.func76) (by kernel_rfl) (by kernel_rfl) args w
@[simp] theorem Tru.call78 (args:Array Value) (w:World):(Go.callFunc 78 args).run Tru.prog w = .ok (.enter 78 args) w:=zan (Tru.func78) (by kernel_rfl) (by kernel_rfl) args w
@[simp] theorem Tru.call79 (args:Array Value) (w:World):(Go.callFunc 79 args).run Tru.prog w = .ok (.enter 79 args) w:=zan (Tru.func79) (by kernel_rfl) (by kernel_rfl) args w
@[simp] theorem Tru.call80 (args:Array Value) (w:World):(Go.callFunc 80 args).run Tru.prog w = .ok (.enter 80 args) w:=zan (Tru.func80) (by kernel_rfl) (by kernel_rfl) args w
@[simp] theorem Tru.call81 (args:Array Value) (w:World):(Go.callFunc 81 args).run Tru.prog w = .ok (.enter 81 args) w:=zan (Tru.func81) (by kernel_rfl) (by kernel_rfl) args w
@[simp] theorem Tru.call82 (args:Array Value) (w:World):(Go.callFunc 82 args).run Tru.prog w = .ok (.enter 82 args) w:=zan (Tru.func82) (by kernel_rfl) (by kernel_rfl) args w
@[simp] theorem Tru.call83 (args:Array Value) (w:World):(Go.callFunc 83 args).run Tru.prog w = .ok (.enter 83 args) w:=zan (Tru.func83) (by kernel_rfl) (by kernel_rfl) args w
@[simp] theorem Tru.call84 (args:Array Value) (w:World):(Go.callFunc 84 args).run Tru.prog w = .ok (.enter 84 args) w:=zan (Tru.func84) (by kernel_rfl) (by kernel_rfl) args w
@[simp] theorem Tru.call85 (args:Array Value) (w:World):(Go.callFunc 85 args).run Tru.prog w = .ok (.enter 85 args) w:=zan (Tru.func85) (by kernel_rfl) (by kernel_rfl) args w
@[simp] theorem Tru.call104 (args:Array Value) (w:World):(Go.callFunc 104 args).run Tru.prog w = .ok (.enter 104 args) w:=zan (Tru.func104) (by kernel_rfl) (by kernel_rfl) args w
@[simp] theorem Tru.call105 (args:Array Value) (w:World):(Go.callFunc 105 args).run Tru.prog w = .ok (.enter 105 args) w:=zan (Tru.func105) (by kernel_rfl) (by kernel_rfl) args w
@[simp] theorem Tru.call106 (args:Array Value) (w:World):(Go.callFunc 106 args).run Tru.prog w = .ok (.enter 106 args) w:=zan (Tru.func106) (by kernel_rfl) (by kernel_rfl) args w
@[simp] theorem Tru.call107 (args:Array Value) (w:World):(Go.callFunc 107 args).run Tru.prog w = .ok (.enter 107 args) w:=zan (Tru.func107) (by kernel_rfl) (by kernel_rfl) args w
@[simp] theorem Tru.call108 (args:Array Value) (w:World):(Go.callFunc 108 args).run Tru.prog w = .ok (.enter 108 args) w:=zan (Tru.func108) (by kernel_rfl) (by kernel_rfl) args w
@[simp] theorem Tru.call133 (args:Array Value) (w:World):(Go.callFunc 133 args).run Tru.prog w = .ok (.enter 133 args) w:=zan (Tru.func133) (by kernel_rfl) (by kernel_rfl) args w
@[simp] theorem Tru.call136 (args:Array Value) (w:World):(Go.callFunc 136 args).run Tru.prog w = .ok (.enter 136 args) w:=zan (Tru.func136) (by kernel_rfl) (by kernel_rfl) args w
@[simp] theorem Tru.call139 (args:Array Value) (w:World):(Go.callFunc 139 args).run Tru.prog w = .ok (.enter 139 args) w:=zan (Tru.func139) (by kernel_rfl) (by kernel_rfl) args w
@[simp] theorem Trv.tabs:Trv.prog.toTables=Try.prog.toTables:=by
 show Try.progTables=Try.progTables
 rfl
@[simp] theorem Trv.und (t:TypeId):Trv.prog.underlying t=Try.prog.underlying t:=underlying_F (T:=Try.progTables) (F:=Trv.funcs) (F':=Try.funcs) t
@[simp] theorem Trv.info (t:TypeId):Trv.prog.info? t=Try.prog.info? t:=by
 show Try.progTables.info? t=Try.progTables.info? t
 rfl
@[simp] theorem Trv.runInfo (t:TypeId) (w:World):(Go.typeInfo t).run Trv.prog w=(Go.typeInfo t).run Try.prog w:=runInfo_F (T:=Try.progTables) (F:=Trv.funcs) (F':=Try.funcs) t w
@[simp] theorem Trv.runSize (t:TypeId) (w:World):(Go.sizeOf t).run Trv.prog w=(Go.sizeOf t).run Try.prog w:=runSize_F (T:=Try.progTables) (F:=Trv.funcs) (F':=Try.funcs) t w
@[simp] theorem Trv.runUnd (t:TypeId) (w:World):(Go.underlying t).run Trv.prog w=(Go.underlying t).run Try.prog w:=runUnd_F (T:=Try.progTables) (F:=Trv.funcs) (F':=Try.funcs) t w
@[simp] theorem Trv.runAgg (t:TypeId) (w:World):(Go.isAgg t).run Trv.prog w=(Go.isAgg t).run Try.prog w:=runAgg_F (T:=Try.progTables) (F:=Trv.funcs) (F':=Try.funcs) t w
@[simp] theorem Trv.runZero (t:TypeId) (w:World):(Go.zeroValue t).run Trv.prog w=(Go.zeroValue t).run Try.prog w:=runZero_F (T:=Try.progTables) (F:=Trv.funcs) (F':=Try.funcs) t w
@[simp] theorem Trv.dep:Trv.prog.depth=Try.prog.depth:=depth_F (T:=Try.progTables) (F:=Trv.funcs) (F':=Try.funcs)
@[simp] theorem Trv.eqg (d:Nat) (t:TypeId):Trv.prog.eqGuardType d t=Try.prog.eqGuardType d t:=eqg_F (T:=Try.progTables) (F:=Trv.funcs) (F':=Try.funcs) d t
@[simp] theorem Trv.func36:Trv.prog.funcs[36]? = some Try.f36:=by kernel_rfl
@[simp] theorem Trv.func42:Trv.prog.funcs[42]? = some Try.f42:=by kernel_rfl
@[simp] theorem Trv.func64:Trv.prog.funcs[64]? = some Try.f64:=by kernel_rfl
@[simp] theorem Trv.func65:Trv.prog.funcs[65]? = some Try.f65:=by kernel_rfl
@[simp] theorem Trv.func68:Trv.prog.funcs[68]? = some Try.f68:=by kernel_rfl
@[simp] theorem Trv.func73:Trv.prog.funcs[73]? = some Try.f73:=by kernel_rfl
@[simp] theorem Trv.func84:Trv.prog.funcs[84]? = some Try.f84:=by kernel_rfl
theorem Trv.ntmps36:Try.f36.ntmps=14:=Try.ntmps36
theorem Trv.ntmps42:Try.f42.ntmps=5:=Try.ntmps42
theorem Trv.ntmps64:Try.f64.ntmps=9:=Try.ntmps64
theorem Trv.ntmps65:Try.f65.ntmps=6:=Try.ntmps65
theorem Trv.ntmps68:Try.f68.ntmps=5:=Try.ntmps68
theorem Trv.ntmps73:Try.f73.ntmps=15:=Try.ntmps73
theorem Trv.ntmps84:Try.f84.ntmps=19:=Try.ntmps84
@[simp] theorem Trv.call36 (args:Array Value) (w:World):(Go.callFunc 36 args).run Trv.prog w = .ok (.enter 36 args) w:=zan (Trv.func36) (by kernel_rfl) (by kernel_rfl) args w
@[simp] theorem Trv.call42 (args:Array Value) (w:World):(Go.callFunc 42 args).run Trv.prog w = .ok (.enter 42 args) w:=zan (Trv.func42) (by kernel_rfl) (by kernel_rfl) args w
@[simp] theorem Trv.call64 (args:Array Value) (w:World):(Go.callFunc 64 args).run Trv.prog w = .ok (.enter 64 args) w:=zan (Trv.func64) (by kernel_rfl) (by kernel_rfl) args w
@[simp] theorem Trv.call65 (args:Array Value) (w:World):(Go.callFunc 65 args).run Trv.prog w = .ok (.enter 65 args) w:=zan (Trv.func65) (by kernel_rfl) (by kernel_rfl) args w
@[simp] theorem Trv.call68 (args:Array Value) (w:World):(Go.callFunc 68 args).run Trv.prog w = .ok (.enter 68 args) w:=zan (Trv.func68) (by kernel_rfl) (by kernel_rfl) args w
@[simp] theorem Trv.call73 (args:Array Value) (w:World):(Go.callFunc 73 args).run Trv.prog w = .ok (.enter 73 args) w:=zan (Trv.func73) (by kernel_rfl) (by kernel_rfl) args w
@[simp] theorem Trv.call84 (args:Array Value) (w:World):(Go.callFunc 84 args).run Trv.prog w = .ok (.enter 84 args) w:=zan (Trv.func84) (by kernel_rfl) (by kernel_rfl) args w
end Go.Proofs.Ytjkikkgpenhbgaa
namespace Go.Proofs.Ytjkikkgpenhbgaa.OkU
open Go.RowKit Go.Proofs.YtjkikkgpenhbgaaW.PrintWords Go.Proofs.YtjkikkgpenhbgaaW.PrintLast Go.Proofs.YtjkikkgpenhbgaaW.PrintMore
attribute [local go_sem] max2_int min2_int max_two min_two max_three min_three max_four min_four
set_option linter.unusedVariables false
set_option linter.unusedSimpArgs false
def fOk (n:Int):Bool:=decide (0≤n) && decide (n≤30)
set_option maxHeartbeats 400000 in
set_option maxRecDepth 100000 in
theorem elementsOk1.yes (n:Int) (w:World) (h:fOk n=true):Calls Tru.prog 65 #[.int .i64 n] w fun e w'=>e = .returned (.bool false)∧Drawn0 w w':=by
 simp only [fOk,Bool.and_eq_true,decide_eq_true_eq] at h
 obtain ⟨h1,h2⟩:=h
 go_enter Tru.func65,Try.ntmps65
 go_wp2
 go_ret
 exact ⟨rfl,Drawn0.refl _⟩
set_option maxHeartbeats 400000 in
set_option maxRecDepth 100000 in
theorem elementsOk1.no (n:Int) (w:World) (h:fOk n=false):Calls Tru.prog 65 #[.int .i64 n] w fun e w'=>e = .returned (.bool true)∧Drawn0 w w':=by
 have h':n<0∨30<n:=by simp only [fOk,Bool.and_eq_false_iff,decide_eq_false_iff_not] at h;omega
 clear h
 rcases h' with h1 | h1
 ·go_enter Tru.func65,Try.ntmps65
  go_wp2
  go_ret
  exact ⟨rfl,Drawn0.refl _⟩
 ·have h0:decide (0≤n)=true:=by simp;omega
  have h2:decide (n≤30)=false:=by simp;omega
  go_enter Tru.func65,Try.ntmps65
  go_wp2
  go_ret
  exact ⟨rfl,Drawn0.refl _⟩
set_option maxHeartbeats 1000000 in
set_option maxRecDepth 100000 in
theorem IndexFunc.ok (A0:Option Addr) (c0:Nat) (l0:List Int) (w:World) (hr0:Kd.C (Kd.int .i64) w A0 l0.length l0) (hm:l0.length≤9223372036854775807) (h:l0.all fOk=true) :
  Calls Tru.prog 84 #[.slice A0 l0.length c0,.func (.func 65) #[] #[]] w fun e w'=>e = .returned (.int .i64 (-1))∧Drawn0 w w':=by
 have HR0:=Aside0.mk hr0
 clear hr0
 have H:=Aside0.mk h
 clear h
 go_enter Tru.func84,Try.ntmps84
 go_wp2
 go_loopw [8] (fun i wr=>∃ k:Nat,k≤l0.length∧i = .int .i64 k∧Drawn0 w wr) (fun i _=>l0.length - (intOf i).toNat)
 case atStart=>exact ⟨0,Nat.zero_le _,rfl,Drawn0.refl _⟩
 case round=>
  obtain ⟨k,hk,rfl,⟨m1,rfl⟩⟩:=hrel
  by_cases hlt:k<l0.length
  ·have hok:fOk (rd l0 k)=true:=by
    have:=List.all_eq_true.1 H.out (l0[k]) (List.getElem_mem hlt)
    simpa [rd,hlt] using this
   have HOK:=Aside0.mk hok
   clear hok
   obtain ⟨ad,e,hx⟩:=Kd.at_int HR0.out (k:Int) (by omega) (by omega)
   cases e
   simp only [Int.toNat_natCast] at hx
   go_wp2_with (first | (go_at_call 65;refine (elementsOk1.yes _ _ HOK.out).mono ?_;rintro e w' ⟨rfl,⟨nd,rfl⟩⟩))
   go_roundw
   case rel=>exact ⟨k+1,by omega,by go_num,by repeat (first | exact Drawn0.refl _ | apply Drawn0.step)⟩
   case measure=>simp [intOf];omega
  ·go_wp2
   go_ret
   exact ⟨rfl,by repeat (first | exact Drawn0.refl _ | apply Drawn0.step)⟩
theorem all_rd (l:List Int) (h:∀ i,i<l.length→fOk (rd l i)=true):l.all fOk=true:=by
 rw [List.all_eq_true]
 intro x hx
 obtain ⟨i,hi,rfl⟩:=List.getElem_of_mem hx
 have:=h i hi
 simpa [rd,hi] using this
def SomeNat (w:World) (e:Ending) (w':World):Prop:=∃ j:Nat,e = .returned (.int .i64 j)∧Drawn0 w w'
set_option maxHeartbeats 1000000 in
set_option maxRecDepth 100000 in
theorem IndexFunc.bad (A0:Option Addr) (c0:Nat) (l0:List Int) (w:World) (hr0:Kd.C (Kd.int .i64) w A0 l0.length l0) (hm:l0.length≤9223372036854775807) (h:l0.all fOk=false) :
  Calls Tru.prog 84 #[.slice A0 l0.length c0,.func (.func 65) #[] #[]] w (SomeNat w):=by
 have HR0:=Aside0.mk hr0
 clear hr0
 have H:=Aside0.mk h
 clear h
 go_enter Tru.func84,Try.ntmps84
 go_wp2
 go_loopw [8] (fun i wr=>∃ k:Nat,k≤l0.length∧i = .int .i64 k∧Drawn0 w wr∧Aside0 (∀ i,i<k→fOk (rd l0 i)=true)) (fun i _=>l0.length - (intOf i).toNat)
 case atStart=>exact ⟨0,Nat.zero_le _,rfl,Drawn0.refl _,⟨by omega⟩⟩
 case round=>
  obtain ⟨k,hk,rfl,⟨m1,rfl⟩,hall⟩:=hrel
  by_cases hlt:k<l0.length
  ·obtain ⟨ad,e,hx⟩:=Kd.at_int HR0.out (k:Int) (by omega) (by omega)
   cases e
   simp only [Int.toNat_natCast] at hx
   cases hok:fOk (rd l0 k)
   ·have HOK:=Aside0.mk hok
    clear hok
    go_wp2_with (first | (go_at_call 65;refine (elementsOk1.no _ _ HOK.out).mono ?_;rintro e w' ⟨rfl,⟨nd,rfl⟩⟩))
    go_ret
    exact ⟨k,rfl,by repeat (first | exact Drawn0.refl _ | apply Drawn0.step)⟩
   ·have HOK:=Aside0.mk hok
    clear hok
    go_wp2_with (first | (go_at_call 65;refine (elementsOk1.yes _ _ HOK.out).mono ?_;rintro e w' ⟨rfl,⟨nd,rfl⟩⟩))
    go_roundw
    case rel=>exact ⟨k+1,by omega,by go_num,by repeat (first | exact Drawn0.refl _ | apply Drawn0.step),⟨fun i hi=>by
     rcases Nat.lt_or_ge i k with h1 | h1
     ·exact hall.out i h1
     ·obtain rfl:i=k:=by omega
      exact HOK.out⟩⟩
    case measure=>simp [intOf];omega
  ·exfalso
   have:=all_rd l0 (fun i hi=>hall.out i (by omega))
   rw [H.out] at this
   cases this
theorem ContainsFunc.ok (A0:Option Addr) (c0:Nat) (l0:List Int) (w:World) (hr0:Kd.C (Kd.int .i64) w A0 l0.length l0) (hm:l0.length≤9223372036854775807) (h:l0.all fOk=true) :
  Calls Tru.prog 64 #[.slice A0 l0.length c0,.func (.func 65) #[] #[]] w fun e w'=>e = .returned (.bool false)∧Drawn0 w w':=by
 have HR0:=Aside0.mk hr0
 clear hr0
 have H:=Aside0.mk h
 clear h
 go_enter Tru.func64,Try.ntmps64
 go_wp2_with (first | (go_at_call 84;refine (IndexFunc.ok A0 c0 l0 _ HR0.out hm H.out).mono ?_;rintro e w' ⟨rfl,⟨nd,rfl⟩⟩))
 go_ret
 exact ⟨rfl,by repeat (first | exact Drawn0.refl _ | apply Drawn0.step)⟩
theorem ContainsFunc.bad (A0:Option Addr) (c0:Nat) (l0:List Int) (w:World) (hr0:Kd.C (Kd.int .i64) w A0 l0.length l0) (hm:l0.length≤9223372036854775807) (h:l0.all fOk=false) :
  Calls Tru.prog 64 #[.slice A0 l0.length c0,.func (.func 65) #[] #[]] w fun e w'=>e = .returned (.bool true)∧Drawn0 w w':=by
 have HR0:=Aside0.mk hr0
 clear hr0
 have H:=Aside0.mk h
 clear h
 go_enter Tru.func64,Try.ntmps64
 go_wp2_with (first | (go_at_call 84;refine (IndexFunc.bad A0 c0 l0 _ HR0.out hm H.out).mono ?_;rintro e w' ⟨j,rfl,⟨nd,rfl⟩⟩))
 go_ret
 exact ⟨by simp,by repeat (first | exact Drawn0.refl _ | apply Drawn0.step)⟩
def impl_elementsOk.f (l0:List Int) (a1:Int):Option Bool:=some (decide ((l0.length:Int)≤a1) && l0.all fOk)
set_option maxHeartbeats 1000000 in
set_option maxRecDepth 100000 in
theorem impl_elementsOk.calls0 (A0:Option Addr) (c0:Nat) (l0:List Int) (a1:Int) (r:Bool) (w:World) (hr0:Kd.C (Kd.int .i64) w A0 l0.length l0) (h:impl_elementsOk.f l0 a1=some r) :
  Calls Tru.prog 36 #[.slice A0 l0.length c0,.int .i64 a1] w fun e w'=>e = .returned (.bool r)∧Drawn0 w w':=by
 obtain rfl:=Option.some.inj h
 clear h
 have hm:l0.length≤9223372036854775807:=hr0.2.1
 have HR0:=Aside0.mk hr0
 clear hr0
 by_cases c2:(l0.length:Int)≤a1
 ·have c2b0:decide ((l0.length:Int)≤a1)=true:=decide_eq_true c2
  cases hall:l0.all fOk
  ·have H:=Aside0.mk hall
   rw [c2b0]
   clear hall c2
   go_enter Tru.func36,Try.ntmps36
   go_wp2_with (first | (go_at_call 64;refine (ContainsFunc.bad A0 c0 l0 _ HR0.out hm H.out).mono ?_;rintro e w' ⟨rfl,⟨nd,rfl⟩⟩))
   go_ret
   exact ⟨by first | rfl | (simp;done) | (simp [*];done),by repeat (first | exact Drawn0.refl _ | apply Drawn0.step)⟩
  ·have H:=Aside0.mk hall
   rw [c2b0]
   clear hall c2
   go_enter Tru.func36,Try.ntmps36
   go_wp2_with (first | (go_at_call 64;refine (ContainsFunc.ok A0 c0 l0 _ HR0.out hm H.out).mono ?_;rintro e w' ⟨rfl,⟨nd,rfl⟩⟩))
   go_ret
   exact ⟨by first | rfl | (simp;done) | (simp [*];done),by repeat (first | exact Drawn0.refl _ | apply Drawn0.step)⟩
 ·have c2b0:decide ((l0.length:Int)≤a1)=false:=decide_eq_false c2
  rw [c2b0]
  clear c2
  go_enter Tru.func36,Try.ntmps36
  go_wp2
  go_ret
  exact ⟨by first | rfl | (simp;done) | (simp [*];done),by repeat (first | exact Drawn0.refl _ | apply Drawn0.step)⟩
theorem rowC {w:World} {A:Option Addr} {l:List Int} (h:Go.Proofs.Ytjkikkgpenhbgaa.Sim.Row w A l) (hl:(l.length:Int)<9223372036854775808):Kd.C (Kd.int .i64) w A l.length l:=by
 refine ⟨rfl,by omega,fun h0=>?_⟩
 obtain ⟨ad,e,_⟩:=h 0 h0
 refine ⟨ad,e,fun j p hj=>⟨[.int .i64 p],rfl,rfl,fun i u hi=>?_⟩⟩
 obtain ⟨hlt,rfl⟩:=List.getElem?_eq_some_iff.1 hj
 obtain ⟨ad',e',hc⟩:=h j hlt
 rw [e] at e'
 cases e'
 rw [Go.Proofs.Ytjkikkgpenhbgaa.Sim.getD_lt hlt] at hc
 cases i with
 | zero=>
  cases hi
  simpa [Kd.int,Kd.scalar] using hc
 | succ i=>simp at hi
theorem sOk_eq (l:List Int):Go.Proofs.Ytjkikkgpenhbgaa.Sim.sOk l=(decide ((l.length:Int)≤20) && l.all fOk):=by
 have e:Go.Proofs.Ytjkikkgpenhbgaa.Sim.numOk=fOk:=rfl
 rw [Go.Proofs.Ytjkikkgpenhbgaa.Sim.sOk,e]
 congr 1
 exact decide_eq_decide.2 (by omega)
set_option maxHeartbeats 8000000 in
set_option maxRecDepth 100000 in
theorem ok_calls (A0:Option Addr) (c0:Nat) (l0:List Int) (r:Bool) (w:World) (hr0:Kd.C (Kd.int .i64) w A0 l0.length l0) (h:impl_elementsOk.f l0 20=some r) :
  Calls Tru.prog 68 #[.slice A0 l0.length c0] w fun e w'=>e = .returned (.bool r)∧Drawn0 w w':=by
 have HR0:=Aside0.mk hr0
 have H:=Aside0.mk h
 clear hr0 h
 go_enter Tru.func68,Try.ntmps68
 go_wp2_with (first | (go_at_call 36;refine (impl_elementsOk.calls0 _ _ l0 20 r _ HR0.out H.out).mono ?_;rintro e w' ⟨rfl,⟨nd,rfl⟩⟩))
 go_ret
 exact ⟨rfl,by repeat (first | exact Drawn0.refl _ | apply Drawn0.step)⟩
theorem okS:Go.Proofs.Ytjkikkgpenhbgaa.Sim.OkFn Tru.prog Ish:=
 ⟨⟨_,Tru.func68,by kernel_rfl,by kernel_rfl⟩,fun A l c W hr hl=>(ok_calls A c l (Go.Proofs.Ytjkikkgpenhbgaa.Sim.sOk l) W (rowC hr hl) (by rw [sOk_eq];rfl)).mono fun e w' ⟨he,hd⟩=>⟨he,by
  obtain ⟨d,rfl⟩:=hd
  exact ⟨_,rfl⟩⟩⟩
end Go.Proofs.Ytjkikkgpenhbgaa.OkU
namespace Go.Proofs.Ytjkikkgpenhbgaa.OkV
open Go.RowKit Go.Proofs.YtjkikkgpenhbgaaW.PrintWords Go.Proofs.YtjkikkgpenhbgaaW.PrintLast Go.Proofs.YtjkikkgpenhbgaaW.PrintMore
attribute [local go_sem] max2_int min2_int max_two min_two max_three min_three max_four min_four
set_option linter.unusedVariables false
set_option linter.unusedSimpArgs false
def fOk (n:Int):Bool:=decide (0≤n) && decide (n≤30)
set_option maxHeartbeats 400000 in
set_option maxRecDepth 100000 in
theorem elementsOk1.yes (n:Int) (w:World) (h:fOk n=true):Calls Trv.prog 65 #[.int .i64 n] w fun e w'=>e = .returned (.bool false)∧Drawn0 w w':=by
 simp only [fOk,Bool.and_eq_true,decide_eq_true_eq] at h
 obtain ⟨h1,h2⟩:=h
 go_enter Trv.func65,Try.ntmps65
 go_wp2
 go_ret
 exact ⟨rfl,Drawn0.refl _⟩
set_option maxHeartbeats 400000 in
set_option maxRecDepth 100000 in
theorem elementsOk1.no (n:Int) (w:World) (h:fOk n=false):Calls Trv.prog 65 #[.int .i64 n] w fun e w'=>e = .returned (.bool true)∧Drawn0 w w':=by
 have h':n<0∨30<n:=by simp only [fOk,Bool.and_eq_false_iff,decide_eq_false_iff_not] at h;omega
 clear h
 rcases h' with h1 | h1
 ·go_enter Trv.func65,Try.ntmps65
  go_wp2
  go_ret
  exact ⟨rfl,Drawn0.refl _⟩
 ·have h0:decide (0≤n)=true:=by simp;omega
  have h2:decide (n≤30)=false:=by simp;omega
  go_enter Trv.func65,Try.ntmps65
  go_wp2
  go_ret
  exact ⟨rfl,Drawn0.refl _⟩
set_option maxHeartbeats 1000000 in
set_option maxRecDepth 100000 in
theorem IndexFunc.ok (A0:Option Addr) (c0:Nat) (l0:List Int) (w:World) (hr0:Kd.C (Kd.int .i64) w A0 l0.length l0) (hm:l0.length≤9223372036854775807) (h:l0.all fOk=true) :
  Calls Trv.prog 84 #[.slice A0 l0.length c0,.func (.func 65) #[] #[]] w fun e w'=>e = .returned (.int .i64 (-1))∧Drawn0 w w':=by
 have HR0:=Aside0.mk hr0
 clear hr0
 have H:=Aside0.mk h
 clear h
 go_enter Trv.func84,Try.ntmps84
 go_wp2
 go_loopw [8] (fun i wr=>∃ k:Nat,k≤l0.length∧i = .int .i64 k∧Drawn0 w wr) (fun i _=>l0.length - (intOf i).toNat)
 case atStart=>exact ⟨0,Nat.zero_le _,rfl,Drawn0.refl _⟩
 case round=>
  obtain ⟨k,hk,rfl,⟨m1,rfl⟩⟩:=hrel
  by_cases hlt:k<l0.length
  ·have hok:fOk (rd l0 k)=true:=by
    have:=List.all_eq_true.1 H.out (l0[k]) (List.getElem_mem hlt)
    simpa [rd,hlt] using this
   have HOK:=Aside0.mk hok
   clear hok
   obtain ⟨ad,e,hx⟩:=Kd.at_int HR0.out (k:Int) (by omega) (by omega)
   cases e
   simp only [Int.toNat_natCast] at hx
   go_wp2_with (first | (go_at_call 65;refine (elementsOk1.yes _ _ HOK.out).mono ?_;rintro e w' ⟨rfl,⟨nd,rfl⟩⟩))
   go_roundw
   case rel=>exact ⟨k+1,by omega,by go_num,by repeat (first | exact Drawn0.refl _ | apply Drawn0.step)⟩
   case measure=>simp [intOf];omega
  ·go_wp2
   go_ret
   exact ⟨rfl,by repeat (first | exact Drawn0.refl _ | apply Drawn0.step)⟩
theorem all_rd (l:List Int) (h:∀ i,i<l.length→fOk (rd l i)=true):l.all fOk=true:=by
 rw [List.all_eq_true]
 intro x hx
 obtain ⟨i,hi,rfl⟩:=List.getElem_of_mem hx
 have:=h i hi
 simpa [rd,hi] using this
def SomeNat (w:World) (e:Ending) (w':World):Prop:=∃ j:Nat,e = .returned (.int .i64 j)∧Drawn0 w w'
set_option maxHeartbeats 1000000 in
set_option maxRecDepth 100000 in
theorem IndexFunc.bad (A0:Option Addr) (c0:Nat) (l0:List Int) (w:World) (hr0:Kd.C (Kd.int .i64) w A0 l0.length l0) (hm:l0.length≤9223372036854775807) (h:l0.all fOk=false) :
  Calls Trv.prog 84 #[.slice A0 l0.length c0,.func (.func 65) #[] #[]] w (SomeNat w):=by
 have HR0:=Aside0.mk hr0
 clear hr0
 have H:=Aside0.mk h
 clear h
 go_enter Trv.func84,Try.ntmps84
 go_wp2
 go_loopw [8] (fun i wr=>∃ k:Nat,k≤l0.length∧i = .int .i64 k∧Drawn0 w wr∧Aside0 (∀ i,i<k→fOk (rd l0 i)=true)) (fun i _=>l0.length - (intOf i).toNat)
 case atStart=>exact ⟨0,Nat.zero_le _,rfl,Drawn0.refl _,⟨by omega⟩⟩
 case round=>
  obtain ⟨k,hk,rfl,⟨m1,rfl⟩,hall⟩:=hrel
  by_cases hlt:k<l0.length
  ·obtain ⟨ad,e,hx⟩:=Kd.at_int HR0.out (k:Int) (by omega) (by omega)
   cases e
   simp only [Int.toNat_natCast] at hx
   cases hok:fOk (rd l0 k)
   ·have HOK:=Aside0.mk hok
    clear hok
    go_wp2_with (first | (go_at_call 65;refine (elementsOk1.no _ _ HOK.out).mono ?_;rintro e w' ⟨rfl,⟨nd,rfl⟩⟩))
    go_ret
    exact ⟨k,rfl,by repeat (first | exact Drawn0.refl _ | apply Drawn0.step)⟩
   ·have HOK:=Aside0.mk hok
    clear hok
    go_wp2_with (first | (go_at_call 65;refine (elementsOk1.yes _ _ HOK.out).mono ?_;rintro e w' ⟨rfl,⟨nd,rfl⟩⟩))
    go_roundw
    case rel=>exact ⟨k+1,by omega,by go_num,by repeat (first | exact Drawn0.refl _ | apply Drawn0.step),⟨fun i hi=>by
     rcases Nat.lt_or_ge i k with h1 | h1
     ·exact hall.out i h1
     ·obtain rfl:i=k:=by omega
      exact HOK.out⟩⟩
    case measure=>simp [intOf];omega
  ·exfalso
   have:=all_rd l0 (fun i hi=>hall.out i (by omega))
   rw [H.out] at this
   cases this
theorem ContainsFunc.ok (A0:Option Addr) (c0:Nat) (l0:List Int) (w:World) (hr0:Kd.C (Kd.int .i64) w A0 l0.length l0) (hm:l0.length≤9223372036854775807) (h:l0.all fOk=true) :
  Calls Trv.prog 64 #[.slice A0 l0.length c0,.func (.func 65) #[] #[]] w fun e w'=>e = .returned (.bool false)∧Drawn0 w w':=by
 have HR0:=Aside0.mk hr0
 clear hr0
 have H:=Aside0.mk h
 clear h
 go_enter Trv.func64,Try.ntmps64
 go_wp2_with (first | (go_at_call 84;refine (IndexFunc.ok A0 c0 l0 _ HR0.out hm H.out).mono ?_;rintro e w' ⟨rfl,⟨nd,rfl⟩⟩))
 go_ret
 exact ⟨rfl,by repeat (first | exact Drawn0.refl _ | apply Drawn0.step)⟩
theorem ContainsFunc.bad (A0:Option Addr) (c0:Nat) (l0:List Int) (w:World) (hr0:Kd.C (Kd.int .i64) w A0 l0.length l0) (hm:l0.length≤9223372036854775807) (h:l0.all fOk=false) :
  Calls Trv.prog 64 #[.slice A0 l0.length c0,.func (.func 65) #[] #[]] w fun e w'=>e = .returned (.bool true)∧Drawn0 w w':=by
 have HR0:=Aside0.mk hr0
 clear hr0
 have H:=Aside0.mk h
 clear h
 go_enter Trv.func64,Try.ntmps64
 go_wp2_with (first | (go_at_call 84;refine (IndexFunc.bad A0 c0 l0 _ HR0.out hm H.out).mono ?_;rintro e w' ⟨j,rfl,⟨nd,rfl⟩⟩))
 go_ret
 exact ⟨by simp,by repeat (first | exact Drawn0.refl _ | apply Drawn0.step)⟩
def impl_elementsOk.f (l0:List Int) (a1:Int):Option Bool:=some (decide ((l0.length:Int)≤a1) && l0.all fOk)
set_option maxHeartbeats 1000000 in
set_option maxRecDepth 100000 in
theorem impl_elementsOk.calls0 (A0:Option Addr) (c0:Nat) (l0:List Int) (a1:Int) (r:Bool) (w:World) (hr0:Kd.C (Kd.int .i64) w A0 l0.length l0) (h:impl_elementsOk.f l0 a1=some r) :
  Calls Trv.prog 36 #[.slice A0 l0.length c0,.int .i64 a1] w fun e w'=>e = .returned (.bool r)∧Drawn0 w w':=by
 obtain rfl:=Option.some.inj h
 clear h
 have hm:l0.length≤9223372036854775807:=hr0.2.1
 have HR0:=Aside0.mk hr0
 clear hr0
 by_cases c2:(l0.length:Int)≤a1
 ·have c2b0:decide ((l0.length:Int)≤a1)=true:=decide_eq_true c2
  cases hall:l0.all fOk
  ·have H:=Aside0.mk hall
   rw [c2b0]
   clear hall c2
   go_enter Trv.func36,Try.ntmps36
   go_wp2_with (first | (go_at_call 64;refine (ContainsFunc.bad A0 c0 l0 _ HR0.out hm H.out).mono ?_;rintro e w' ⟨rfl,⟨nd,rfl⟩⟩))
   go_ret
   exact ⟨by first | rfl | (simp;done) | (simp [*];done),by repeat (first | exact Drawn0.refl _ | apply Drawn0.step)⟩
  ·have H:=Aside0.mk hall
   rw [c2b0]
   clear hall c2
   go_enter Trv.func36,Try.ntmps36
   go_wp2_with (first | (go_at_call 64;refine (ContainsFunc.ok A0 c0 l0 _ HR0.out hm H.out).mono ?_;rintro e w' ⟨rfl,⟨nd,rfl⟩⟩))
   go_ret
   exact ⟨by first | rfl | (simp;done) | (simp [*];done),by repeat (first | exact Drawn0.refl _ | apply Drawn0.step)⟩
 ·have c2b0:decide ((l0.length:Int)≤a1)=false:=decide_eq_false c2
  rw [c2b0]
  clear c2
  go_enter Trv.func36,Try.ntmps36
  go_wp2
  go_ret
  exact ⟨by first | rfl | (simp;done) | (simp [*];done),by repeat (first | exact Drawn0.refl _ | apply Drawn0.step)⟩
theorem rowC {w:World} {A:Option Addr} {l:List Int} (h:Go.Proofs.Ytjkikkgpenhbgaa.Sim.Row w A l) (hl:(l.length:Int)<9223372036854775808):Kd.C (Kd.int .i64) w A l.length l:=by
 refine ⟨rfl,by omega,fun h0=>?_⟩
 obtain ⟨ad,e,_⟩:=h 0 h0
 refine ⟨ad,e,fun j p hj=>⟨[.int .i64 p],rfl,rfl,fun i u hi=>?_⟩⟩
 obtain ⟨hlt,rfl⟩:=List.getElem?_eq_some_iff.1 hj
 obtain ⟨ad',e',hc⟩:=h j hlt
 rw [e] at e'
 cases e'
 rw [Go.Proofs.Ytjkikkgpenhbgaa.Sim.getD_lt hlt] at hc
 cases i with
 | zero=>
  cases hi
  simpa [Kd.int,Kd.scalar] using hc
 | succ i=>simp at hi
theorem sOk_eq (l:List Int):Go.Proofs.Ytjkikkgpenhbgaa.Sim.sOk l=(decide ((l.length:Int)≤20) && l.all fOk):=by
 have e:Go.Proofs.Ytjkikkgpenhbgaa.Sim.numOk=fOk:=rfl
 rw [Go.Proofs.Ytjkikkgpenhbgaa.Sim.sOk,e]
 congr 1
 exact decide_eq_decide.2 (by omega)
set_option maxHeartbeats 8000000 in
set_option maxRecDepth 100000 in
theorem ok_calls (A0:Option Addr) (c0:Nat) (l0:List Int) (r:Bool) (w:World) (hr0:Kd.C (Kd.int .i64) w A0 l0.length l0) (h:impl_elementsOk.f l0 20=some r) :
  Calls Trv.prog 68 #[.slice A0 l0.length c0] w fun e w'=>e = .returned (.bool r)∧Drawn0 w w':=by
 have HR0:=Aside0.mk hr0
 have H:=Aside0.mk h
 clear hr0 h
 go_enter Trv.func68,Try.ntmps68
 go_wp2_with (first | (go_at_call 36;refine (impl_elementsOk.calls0 _ _ l0 20 r _ HR0.out H.out).mono ?_;rintro e w' ⟨rfl,⟨nd,rfl⟩⟩))
 go_ret
 exact ⟨rfl,by repeat (first | exact Drawn0.refl _ | apply Drawn0.step)⟩
theorem okS:Go.Proofs.Ytjkikkgpenhbgaa.Sim.OkFn Trv.prog Ish:=
 ⟨⟨_,Trv.func68,by kernel_rfl,by kernel_rfl⟩,fun A l c W hr hl=>(ok_calls A c l (Go.Proofs.Ytjkikkgpenhbgaa.Sim.sOk l) W (rowC hr hl) (by rw [sOk_eq];rfl)).mono fun e w' ⟨he,hd⟩=>⟨he,by
  obtain ⟨d,rfl⟩:=hd
  exact ⟨_,rfl⟩⟩⟩
end Go.Proofs.Ytjkikkgpenhbgaa.OkV
namespace Go.Proofs.Ytjkikkgpenhbgaa.Ea
open Go Go.Proofs.Ytjkikkgpenhbgaa.Sim Go.RowKit Go.Proofs.YtjkikkgpenhbgaaW.PrintWords
set_option linter.unusedVariables false
theorem rowOf {w:World} {A:Option Addr} {l:List Int} (h:Kd.C (Kd.int .i64) w A l.length l):Row w A l:=fun j hj=>by
 obtain ⟨ad,e,hc⟩:=Kd.at_int h (j:Int) (by omega) (by omega)
 refine ⟨ad,e,?_⟩
 simpa [rd] using hc
def eachF (m:Mk) (l0 l1:List Int):Option (List Int×Bool):=some (if eachGood l0 l1=true then (eachVals m l0 l1,true) else ([],false))
theorem good_length {l0 l1:List Int} (h:eachGood l0 l1=true):l0.length=l1.length∧l0.length≤20:=by
 simp only [eachGood,Bool.and_eq_true,decide_eq_true_eq,sOk] at h
 exact ⟨h.2,h.1.1.1⟩
theorem eachR {w:World} {m:Mk} {l0 l1 r1:List Int} {r2:Bool} {mk a b:Value} (h:eachF m l0 l1=some (r1,r2)) :
  r2=eachGood l0 l1∧Kd.R (Kd.int .i64) 3 (zas w (zaC Ish mk a b m l0 l1 w.heap.size)) w.heap.size (fun _=>True) (eachRes l0 l1 w.heap.size) r1:=by
 have h:=Option.some.inj h
 cases hg:eachGood l0 l1 with
 | false=>
  rw [hg] at h
  cases h
  refine ⟨rfl,?_⟩
  rw [show eachRes l0 l1 w.heap.size = .slice none 0 0 by rw [eachRes,hg];rfl]
  exact Kd.R_nil _ _ _ _ _
 | true=>
  rw [hg] at h
  cases h
  obtain ⟨hl,h20⟩:=good_length hg
  have hvl:=eachVals_length m hl
  refine ⟨rfl,?_⟩
  have hb:(zas w (zaC Ish mk a b m l0 l1 w.heap.size)).heap[w.heap.size+3]? = some (.cells ((eachVals m l0 l1).map (Value.int .i64)).toArray 3 (0,0)):=by
   rw [growW_new,show zaC Ish mk a b m l0 l1 w.heap.size=zaA Ish mk a b w.heap.size l0.length (eachVals m l0 l1) l0.length by rw [zaC,hg];rfl,mid_eq Ish _ _ _ _ hvl]
   rfl
  rw [show eachRes l0 l1 w.heap.size = .slice (some ⟨w.heap.size+3,0,none⟩) (eachVals m l0 l1).length (eachVals m l0 l1).length by rw [eachRes,hg,hvl];rfl]
  refine ⟨fun _ _=>trivial,(eachVals m l0 l1).map (Value.int .i64),⟨by simp [Kd.int,Kd.scalar],.inr ⟨w.heap.size+3,(eachVals m l0 l1).length,_,rfl,by omega,hb,Nat.le_refl _,by rw [hvl];simp only [maxLen];omega,by simp [Kd.int,Kd.scalar],by simp only [Kd.int,Kd.scalar,Nat.mul_one];exact List.take_of_length_le (by simp)⟩⟩,?_⟩
  generalize eachVals m l0 l1=vals
  clear hb hvl hg
  induction vals with
  | nil=>exact Reps.none _ _
  | cons x vals ih=>exact Reps.one rfl ih
theorem share1_R {fX g:Nat} {fn':Func} {m:Mk} (hf:Tru.funcs[fX]? = some fn') (hb:fn'.body=some (share1Code Ish (mkV g) m)) (hnt:fn'.ntmps=32) (hres:fn'.results=#[.tmp 4,.tmp 5])
  {A0 A1:Option Addr} {c0 c1:Nat} {l0 l1 r1:List Int} {r2:Bool} {w:World} (hr0:Kd.C (Kd.int .i64) w A0 l0.length l0) (hr1:Kd.C (Kd.int .i64) w A1 l1.length l1) (h:eachF m l0 l1=some (r1,r2)) :
  Calls Tru.prog fX #[.slice A0 l0.length c0,.slice A1 l1.length c1] w fun e w'=>∃ v0_:Value,e = .returned (.tuple #[v0_,.bool r2])∧Kd.R (Kd.int .i64) 3 w' w.heap.size (fun _=>True) v0_ r1∧Below w.heap.size w w':=by
 obtain ⟨iI,iE,K,h8,hz⟩:=kindsU
 refine (share1_calls (P:=Tru.prog) (w:=w) (cA:=c0) (cB:=c1) hf hb hnt hres rfl K h8 hz OkU.okS (rowOf hr0) (rowOf hr1) (by have:=hr0.2.1;omega) (by have:=hr1.2.1;omega) rfl rfl).mono fun e w' ⟨v,he,hv,d,hw⟩=>?_
 obtain ⟨h2,hR⟩:=eachR (w:=w) (mk:=mkV g) (a:=.slice A0 l0.length c0) (b:=.slice A1 l1.length c1) h
 refine ⟨eachRes l0 l1 w.heap.size,by rw [he,hv,h2],?_,?_⟩
 ·subst hw
  exact hR
 ·subst hw
  exact ⟨rfl,rfl,rfl,by rw [show ((zas w (zaC Ish (mkV g) (.slice A0 l0.length c0) (.slice A1 l1.length c1) m l0 l1 w.heap.size)).at d).heap.size=_ from growW_size _ _];omega,fun k hk=>growW_old hk⟩
end Go.Proofs.Ytjkikkgpenhbgaa.Ea
