import Derived.Test.YtjkikkgpenhbgaaLSA
import Derived.Conc.Listed
set_option linter.unusedVariables false
set_option linter.unusedSimpArgs false
set_option linter.unusedSectionVars false
namespace Go.Proofs.Ytjkikkgpenhbgaa.Sim
section
open Go
variable {T:Tables} {F F':Array Func}
theorem zaz {α:Type}:∀ (s:Sem α),Sem.bind s Sem.pure=s
 | .pure _=>rfl
 | .load m a k=>by simp only [Sem.bind];congr 1;funext v;exact zaz _
 | .store m a v k=>by simp only [Sem.bind];rw [zaz]
 | .new o k=>by simp only [Sem.bind];congr 1;funext v;exact zaz _
 | .shape r k=>by simp only [Sem.bind];congr 1;funext v;exact zaz _
 | .freeze a n k=>by simp only [Sem.bind];rw [zaz]
 | .frozen a k=>by simp only [Sem.bind];congr 1;funext v;exact zaz _
 | .getObj r k=>by simp only [Sem.bind];congr 1;funext v;exact zaz _
 | .setObj r o k=>by simp only [Sem.bind];rw [zaz]
 | .choose q k=>by simp only [Sem.bind];congr 1;funext v;exact zaz _
 | .sys c k=>by simp only [Sem.bind];congr 1;funext v;exact zaz _
 | .program k=>by simp only [Sem.bind];congr 1;funext v;exact zaz _
 | .mark m k=>by simp only [Sem.bind];rw [zaz]
 | .halt h=>rfl
theorem zau {α β γ:Type} (f:α→Sem β) (g:β→Sem γ):∀ (s:Sem α),Sem.bind (Sem.bind s f) g=Sem.bind s fun a=>Sem.bind (f a) g
 | .pure _=>rfl
 | .load m a k=>by simp only [Sem.bind];congr 1;funext v;exact zau f g _
 | .store m a v k=>by simp only [Sem.bind];rw [zau]
 | .new o k=>by simp only [Sem.bind];congr 1;funext v;exact zau f g _
 | .shape r k=>by simp only [Sem.bind];congr 1;funext v;exact zau f g _
 | .freeze a n k=>by simp only [Sem.bind];rw [zau]
 | .frozen a k=>by simp only [Sem.bind];congr 1;funext v;exact zau f g _
 | .getObj r k=>by simp only [Sem.bind];congr 1;funext v;exact zau f g _
 | .setObj r o k=>by simp only [Sem.bind];rw [zau]
 | .choose q k=>by simp only [Sem.bind];congr 1;funext v;exact zau f g _
 | .sys c k=>by simp only [Sem.bind];congr 1;funext v;exact zau f g _
 | .program k=>by simp only [Sem.bind];congr 1;funext v;exact zau f g _
 | .mark m k=>by simp only [Sem.bind];rw [zau]
 | .halt h=>rfl
instance lawful:LawfulMonad Sem:=LawfulMonad.mk' Sem (id_map:=fun x=>zaz x) (pure_bind:=fun _ _=>rfl) (bind_assoc:=fun x f g=>zau f g x)
theorem Sim.pure' {α:Type} (a:α):Sim T F F' (Pure.pure a:Sem α):=Sim.pure a
theorem Sim.bind' {α β:Type} {s:Sem α} {f:α→Sem β} (hs:Sim T F F' s) (hf:∀ a,Sim T F F' (f a)):Sim T F F' (s >>= f):=Sim.bind hs hf
theorem Sim.forInList {α β:Type} (f:α→β→Sem (ForInStep β)) (hf:∀ a b,Sim T F F' (f a b)):∀ (l:List α) (b:β),Sim T F F' (forIn l b f)
 | [],b=>by rw [List.forIn_nil];exact Sim.pure _
 | a :: l,b=>by
  rw [List.forIn_cons]
  refine Sim.bind (hf a b) fun s=>?_
  cases s with
  | done b=>exact Sim.pure _
  | yield b=>exact Sim.forInList f hf l b
theorem Sim.forInArray {α β:Type} (f:α→β→Sem (ForInStep β)) (l:Array α) (b:β) (hf:∀ a b,Sim T F F' (f a b)):Sim T F F' (forIn l b f):=by
 rw [← Array.forIn_toList]
 exact Sim.forInList f hf _ _
theorem Sim.forInRange {β:Type} (f:Nat→β→Sem (ForInStep β)) (l:Std.Legacy.Range) (b:β) (hf:∀ a b,Sim T F F' (f a b)):Sim T F F' (forIn l b f):=by
 rw [Std.Legacy.Range.forIn_eq_forIn_range']
 exact Sim.forInList f hf _ _
theorem Sim.mapMList {α β:Type} (f:α→Sem β) (hf:∀ a,Sim T F F' (f a)) (l:List α):Sim T F F' (l.mapM f):=by
 induction l with
 | nil=>rw [List.mapM_nil];exact Sim.pure _
 | cons a l ih=>rw [List.mapM_cons];exact Sim.bind (hf a) fun _=>Sim.bind ih fun _=>Sim.pure _
theorem Sim.mapMArray {α β:Type} (f:α→Sem β) (l:Array α) (hf:∀ a,Sim T F F' (f a)):Sim T F F' (l.mapM f):=by
 rw [Array.mapM_eq_mapM_toList]
 exact Sim.map _ (Sim.mapMList f hf _)
theorem Sim.go {α:Type} {s:Sem α} (h:Sim T F F' s:=by
  repeat' (first
 | assumption
 | (with_reducible exact Sim.sureAddr _)
 | (with_reducible exact Sim.sliceBound _ _ _)
 | (with_reducible exact Sim.sliceBounds _ _ _ _ _ _)
 | (with_reducible exact Sim.slice _ _ _ _ _)
 | (with_reducible exact Sim.lenOf _)
 | (with_reducible exact Sim.firstCells _ _ _)
 | (with_reducible exact Sim.sameAddr _ _)
 | (with_reducible exact Sim.samePointer _ _)
 | (with_reducible exact ih _ _ _)
 | (with_reducible refine Sim.progBool (c:=fun p q=>p.holdsPacked q.depth _) (holdsPacked_F (F:=F') (F':=F) _ _) ?_ ?_)
 | (with_reducible refine Sim.progBool1 (c:=fun p=>p.stoodInHeld _) (stoodInHeld_F (F:=F') (F':=F) _) ?_ ?_)
 | (with_reducible refine Sim.program' (by with_reducible rfl) ?_)
 | (with_reducible exact ih _ _)
 | (with_reducible exact Sim.equal _ _ _)
 | (with_reducible exact Sim.eqGuardIn _ _ _ _)
 | (with_reducible exact Sim.checkKey _ _ _ _)
 | (with_reducible exact Sim.findAsking _ _ _ _)
 | (with_reducible exact Sim.findKey _ _ _)
 | (with_reducible exact Sim.keyThatStays _ _)
 | (with_reducible exact Sim.intArith _ _ _ _)
 | (with_reducible exact Sim.intBits _ _ _ _)
 | (with_reducible refine Sim.progBool (c:=fun p q=>!p.eqGuardType q.depth _) (congrArg _ (eqGuardType_F (F:=F') (F':=F) _ _)) ?_ ?_)
 | (with_reducible refine Sim.noShare _ _ _ _ _ _ ?_)
 | (with_reducible refine EndsDead.bind (Safe.mark _) ?_)
 | (with_reducible exact EndsDead.unsupported _)
 | (with_reducible exact Sim.floatArith _ _ _ _)
 | (with_reducible exact Sim.floatCmp _ _ _ _)
 | (with_reducible exact Sim.floatToFloat _ _ _)
 | (with_reducible exact Sim.arith _ _ _ _)
 | (with_reducible exact Sim.cmp _ _ _ _)
 | (with_reducible exact Sim.conv _ _ _)
 | (with_reducible exact Sim.cadd _ _)
 | (with_reducible exact Sim.csub _ _)
 | (with_reducible exact Sim.cmul _ _)
 | (with_reducible exact Sim.cquo _ _)
 | (with_reducible exact Sim.product _ _ _ _)
 | (with_reducible exact Sim.corrected _ _ _ _ _)
 | (with_reducible exact Sim.quotient _ _ _ _)
 | (with_reducible exact Sim.twoPlaces _ _)
 | (with_reducible exact Sim.byteOfAny _)
 | (with_reducible exact Sim.unsafeAdd_ _ _ _)
 | (with_reducible exact Sim.asNumber _ _)
 | (with_reducible exact Sim.movedNumber _ _ _)
 | (with_reducible exact Sim.movedPointer _ _ _)
 | (with_reducible exact Sim.shift _ _ _ _ _)
 | (with_reducible exact Sim.intDiv _ _ _ _)
 | (with_reducible exact Sim.intCmp _ _ _)
 | (with_reducible exact Sim.complexOp _ _ _ _ _ _)
 | (with_reducible exact Sim.stringOp _ _ _)
 | (with_reducible exact Sim.addrSub _ _ _)
 | (with_reducible exact Sim.addrCmp _ _ _)
 | (with_reducible exact Sim.addrMod _ _ _)
 | (with_reducible exact Sim.fieldPlaceAny _ _)
 | (with_reducible exact Sim.placeGet _ _)
 | (with_reducible exact Sim.ssaWrap2 _ _ _ _ _)
 | (with_reducible exact Sim.follow _ _ _)
 | (with_reducible exact Sim.followBlind _ _ _)
 | (with_reducible exact Sim.receiverAt _ _ _ _)
 | (with_reducible exact Sim.nilAhead _ _ _ _)
 | (with_reducible exact Sim.pure' _)
 | (with_reducible exact Sim.stuck _)
 | (with_reducible exact Sim.unsupported _)
 | (with_reducible exact Sim.goPanic' _)
 | (with_reducible exact Sim.load' _ _)
 | (with_reducible exact Sim.store' _ _ _)
 | (with_reducible refine Sim.newObj' _ ?_)
 | (with_reducible refine Sim.getObj' ?_ ?_)
 | (exact fun _ _=>.inl fun _ _=>trivial)
 | (exact fun _ _=>.inr ⟨rfl,rfl⟩)
 | (with_reducible refine Sim.setObj' _ _ ?_)
 | (exact True.intro)
 | (with_reducible exact Sim.choose' _)
 | (with_reducible refine Sim.mark' _ ?_)
 | (with_reducible exact Sim.typeInfo _)
 | (with_reducible exact Sim.underlying _)
 | (with_reducible exact Sim.zeroValue _)
 | (with_reducible exact Sim.sizeOf _)
 | (with_reducible exact Sim.isAgg _)
 | (with_reducible exact Sim.typeStr _)
 | (with_reducible exact Sim.loadCells _ _)
 | (with_reducible exact Sim.storeCells _ _ _)
 | (with_reducible exact Sim.loadVar _ _)
 | (with_reducible exact Sim.storeVar _ _ _)
 | (with_reducible exact Sim.newRow _ _)
 | (with_reducible exact Sim.newVar _ _)
 | (with_reducible exact Sim.elemOf _)
 | (with_reducible exact Sim.part _ _ _)
 | (with_reducible exact Sim.runtimePanic _)
 | (with_reducible exact Sim.boundsPanic _ _ _ _)
 | (with_reducible exact Sim.asIntOf _)
 | (with_reducible exact Sim.asInt _)
 | (with_reducible exact Sim.asBool _)
 | (with_reducible exact Sim.asString _)
 | (with_reducible exact Sim.asAgg _)
 | (with_reducible exact Sim.asAddr _)
 | (with_reducible exact Sim.askRoom _)
 | (with_reducible exact Sim.viewAt _)
 | (with_reducible exact Sim.numberAt _)
 | (with_reducible exact Sim.behindNumber _)
 | (with_reducible exact Sim.noView _)
 | (with_reducible refine Sim.program' rfl ?_)
 | (with_reducible refine Sim.bind' ?_ ?_)
 | (with_reducible refine Sim.forInArray _ _ _ ?_)
 | (with_reducible refine Sim.forInRange _ _ _ ?_)
 | (with_reducible refine Sim.mapMArray _ _ ?_)
 | (with_reducible refine Sim.map _ ?_)
 | (with_reducible intro _)
 | split
 | dsimp only)):Sim T F F' s:=h
theorem Sim.sureAddr (v:Value):Sim T F F' (Instr.sureAddr v):=by unfold Instr.sureAddr;exact Sim.go
theorem Sim.loadAt (t:TypeId) (v:Value):Sim T F F' (Instr.loadAt t v):=by
 have:=Sim.sureAddr (T:=T) (F:=F) (F':=F') v
 unfold Instr.loadAt;exact Sim.go
theorem Sim.storeAt (t:TypeId) (v x:Value):Sim T F F' (Instr.storeAt t v x):=by
 have:=Sim.sureAddr (T:=T) (F:=F) (F':=F') v
 unfold Instr.storeAt;exact Sim.go
theorem Sim.indexAt (t:TypeId) (v x:Value):Sim T F F' (Instr.indexAt t v x):=by
 have:=Sim.sureAddr (T:=T) (F:=F) (F':=F') v
 unfold Instr.indexAt;exact Sim.go
end
section
open Go
variable {T:Tables} {F F':Array Func}
theorem Sim.alloc (e:TypeId) (h:Bool) (o:Value):Sim T F F' (Instr.alloc e h o):=by unfold Instr.alloc;exact Sim.go
theorem Sim.box (e:TypeId) (o:Value):Sim T F F' (Instr.box e o):=by unfold Instr.box;exact Sim.go
theorem Sim.build (t:TypeId) (ps:Array (Nat×Value)):Sim T F F' (Instr.build t ps):=by unfold Instr.build;exact Sim.go
theorem Sim.buildSlice (t:TypeId) (n:Nat) (ps:Array (Nat×Value)):Sim T F F' (Instr.buildSlice t n ps):=by unfold Instr.buildSlice;exact Sim.go
theorem Sim.sliceBound (x:Value) (y:Nat) (c:BoundsCode):Sim T F F' (Instr.sliceBound x y c):=by unfold Instr.sliceBound;exact Sim.go
theorem Sim.sliceBounds (b:Bool) (l c:Nat) (x y z:Option Value):Sim T F F' (Instr.sliceBounds b l c x y z):=by unfold Instr.sliceBounds;exact Sim.go
theorem Sim.slice (t:TypeId) (x:Value) (a b c:Option Value):Sim T F F' (Instr.slice t x a b c):=by unfold Instr.slice;exact Sim.go
theorem Sim.sliceAt (t:TypeId) (x:Value) (a b c:Option Value):Sim T F F' (Instr.sliceAt t x a b c):=by unfold Instr.sliceAt;exact Sim.go
theorem Sim.arrayAt (t:TypeId) (x:Value):Sim T F F' (Instr.arrayAt t x):=by unfold Instr.arrayAt;exact Sim.go
theorem Sim.makeSlice (t:TypeId) (x y:Value):Sim T F F' (Instr.makeSlice t x y):=by unfold Instr.makeSlice;exact Sim.go
theorem Sim.makeMap (t:TypeId) (x:Option Value):Sim T F F' (Instr.makeMap t x):=by unfold Instr.makeMap;exact Sim.go
theorem Sim.makeChan (t:TypeId) (x:Value):Sim T F F' (Instr.makeChan t x):=by unfold Instr.makeChan;exact Sim.go
theorem Sim.makeFunc (f:Fn) (x y:Array Value):Sim T F F' (Instr.makeFunc f x y):=by unfold Instr.makeFunc;exact Sim.go
theorem Sim.makeInterface (t:TypeId) (x:Value):Sim T F F' (Instr.makeInterface t x):=by unfold Instr.makeInterface;exact Sim.go
theorem Sim.extract (x:Value) (i:Nat):Sim T F F' (Instr.extract x i):=by unfold Instr.extract;exact Sim.go
theorem Sim.field (t:TypeId) (x:Value) (i:Nat):Sim T F F' (Instr.field t x i):=by unfold Instr.field;exact Sim.go
theorem Sim.index (t:TypeId) (x i:Value):Sim T F F' (Instr.index t x i):=by unfold Instr.index;exact Sim.go
theorem Sim.typeAssert (x:Value) (t u:TypeId) (b:Bool):Sim T F F' (Instr.typeAssert x t u b):=by unfold Instr.typeAssert;exact Sim.go
theorem Sim.range (t:TypeId) (x:Value):Sim T F F' (Instr.range t x):=by
 have h:∀ o,writeOk T o→Sim T F F' (do Pure.pure (Value.pointer (some ⟨← Go.newObj o,0,none⟩)):Sem Value):=fun o ho=>Sim.bind (Sim.newObj' _ ho) fun _=>Sim.pure _
 unfold Instr.range
 refine Sim.bind' (Sim.underlying _) fun d=>?_
 split
 ·exact h _ trivial
 ·exact h _ trivial
 ·refine Sim.getObj' (fun _ _=>.inl fun _ _=>trivial) fun o _=>?_
  split
  ·exact h _ trivial
  ·exact Sim.stuck _
 ·exact Sim.stuck _
theorem Sim.next (x:Value) (b:Bool) (t:TypeId):Sim T F F' (Instr.next x b t):=by unfold Instr.next;exact Sim.go
theorem Sim.getLoopB {α:Type} {l:Nat} {k:Loop→Sem α} (hk:∀ L,zaD T L.assign=true→zaD T L.body=true→(∀ c,L.pending=some c→zaD T c=true)→Sim T F F' (k L)):Sim T F F' (Instr.getLoop l >>= k):=by
 show Sim T F F' (Sem.bind (Sem.bind (Go.getObj l) _) k)
 rw [zau]
 refine Sim.getObj' (fun _ _=>.inl fun _ _=>trivial) fun o ho=>?_
 cases o
 case loop L=>exact hk L ho.1 ho.2.1 ho.2.2
 all_goals exact Sim.stuck "range over a function: no such loop"
theorem Sim.enterLoop (f:FuncId) (ts:Array Value) (ps:Array Tmp) (a b:Code) (r:Option Nat) (ha:zaD T a=true) (hb:zaD T b=true):Sim T F F' (Instr.enterLoop f ts ps a b r):=by
 unfold Instr.enterLoop
 cases r with
 | some l=>
  refine Sim.getLoopB fun L _ _ _=>?_
  dsimp only
  refine Sim.bind' (Sim.pure' _) fun x=>?_
  exact Sim.bind' (Sim.newObj' _ (by exact ⟨ha,hb,fun _ h=>by cases h⟩)) fun _=>Sim.pure' _
 | none=>
  refine Sim.bind' (Sim.newObj' _ (by intro d h;cases h)) fun r=>?_
  dsimp only
  refine Sim.bind' (Sim.pure' _) fun x=>?_
  exact Sim.bind' (Sim.newObj' _ (by exact ⟨ha,hb,fun _ h=>by cases h⟩)) fun _=>Sim.pure' _
theorem Sim.yield (l:Nat) (x:Array Value):Sim T F F' (Instr.yield l x):=by
 unfold Instr.yield
 refine Sim.getLoopB fun L _ _ _=>?_
 dsimp only
 split
 ·exact Sim.bind' (Sim.stuck _) fun _=>Sim.pure' _
 ·exact Sim.pure' _
theorem Sim.beginRound (l:Nat):Sim T F F' (Instr.beginRound l):=by
 unfold Instr.beginRound
 refine Sim.getLoopB fun L h1 h2 h3=>?_
 exact Sim.bind' (Sim.setObj' _ _ ⟨h1,h2,h3⟩) fun _=>by split <;> first | exact Sim.pure' _ | exact Sim.runtimePanic _
theorem Sim.endRound (l:Nat) (c:Option Code) (hc:∀ x,c=some x→zaD T x=true):Sim T F F' (Instr.endRound l c):=by
 unfold Instr.endRound
 refine Sim.getLoopB fun L h1 h2 h3=>?_
 exact Sim.bind' (Sim.setObj' _ _ ⟨h1,h2,hc⟩) fun _=>Sim.pure' _
theorem Sim.endLoop (l:Nat):Sim T F F' (Instr.endLoop l):=by
 unfold Instr.endLoop
 refine Sim.getLoopB fun L h1 h2 h3=>?_
 dsimp only
 split
 ·exact Sim.bind' (Sim.runtimePanic _) fun _=>Sim.bind' (Sim.setObj' _ _ ⟨h1,h2,h3⟩) fun _=>Sim.pure' _
 ·exact Sim.bind' (Sim.setObj' _ _ ⟨h1,h2,h3⟩) fun _=>Sim.pure' _
theorem Sim.takeDeferred (l:Nat):Sim T F F' (Instr.takeDeferred l):=by
 unfold Instr.takeDeferred
 refine Sim.getObj' (fun _ _=>.inl fun _ _=>trivial) fun o ho=>?_
 cases o
 case deferred ds=>
  cases ds with
  | none=>exact Sim.stuck "range over a function: the deferred calls have been taken"
  | some ds=>exact Sim.bind (Sim.setObj' _ _ (by exact True.intro)) fun _=>Sim.pure _
 all_goals exact Sim.stuck "range over a function: the deferred calls have been taken"
theorem Sim.intArith (o:BinOp) (k:IntKind) (x y:Int):Sim T F F' (Op.intArith o k x y):=by unfold Op.intArith;exact Sim.go
theorem Sim.intDiv (o:BinOp) (k:IntKind) (x y:Int):Sim T F F' (Op.intDiv o k x y):=by unfold Op.intDiv;exact Sim.go
theorem Sim.intBits (o:BinOp) (k:IntKind) (x y:Int):Sim T F F' (Op.intBits o k x y):=by unfold Op.intBits;exact Sim.go
theorem Sim.shift (o:BinOp) (k:IntKind) (x:Int) (j:IntKind) (y:Int):Sim T F F' (Op.shift o k x j y):=by unfold Op.shift;exact Sim.go
theorem Sim.intCmp (o:BinOp) (x y:Int):Sim T F F' (Op.intCmp o x y):=by unfold Op.intCmp;exact Sim.go
theorem Sim.stringOp (o:BinOp) (x y:ByteArray):Sim T F F' (Op.stringOp o x y):=by unfold Op.stringOp;exact Sim.go
theorem Sim.lenOf (x:Value):Sim T F F' (Builtin.lenOf x):=by unfold Builtin.lenOf;exact Sim.go
theorem Sim.firstCells (s n:Nat) (x:Value):Sim T F F' (Builtin.firstCells s n x):=by unfold Builtin.firstCells;exact Sim.go
theorem Sim.cap_ (a:Array TypeId) (t:TypeId) (x:Array Value):Sim T F F' (Builtin.cap_ a t x):=by unfold Builtin.cap_;exact Sim.go
theorem Sim.len_ (a:Array TypeId) (t:TypeId) (x:Array Value):Sim T F F' (Builtin.len_ a t x):=by unfold Builtin.len_;exact Sim.go
theorem Sim.close_ (a:Array TypeId) (t:TypeId) (x:Array Value):Sim T F F' (Builtin.close_ a t x):=by
 obtain ⟨l⟩:=x
 rcases l with _ | ⟨v,_ | ⟨u,l⟩⟩
 ·exact Sim.stuck "close: one channel expected"
 ·cases v
  case chan o=>
   cases o with
   | none=>exact Sim.runtimePanic (.plain "close of nil channel")
   | some r=>
    refine Sim.getObj' (r:=r) (fun _ _=>.inl fun _ _=>trivial) fun o _=>?_
    cases o
    case chan room buf d s e timer ho=>
     cases d
     ·exact Sim.bind' (Sim.setObj' _ _ (by exact True.intro)) fun _=>Sim.pure' _
     ·exact Sim.bind' (Sim.runtimePanic _) fun _=>Sim.bind' (Sim.setObj' _ _ (by exact True.intro)) fun _=>Sim.pure' _
    all_goals exact Sim.stuck "close: no channel in this block"
  all_goals exact Sim.stuck "close: one channel expected"
 ·exact Sim.stuck "close: one channel expected"
theorem Sim.copy_ (a:Array TypeId) (t:TypeId) (x:Array Value):Sim T F F' (Builtin.copy_ a t x):=by unfold Builtin.copy_;exact Sim.go
end
section
open Go
variable {T:Tables} {F F':Array Func}
theorem Sim.shapeLow {α:Type} {r:Nat} {k:Option (TypeId×Nat)→Sem α} (hr:r<T.globals.size) (hk:∀ v,Sim T F F' (k v)):Sim T F F' (Bind.bind (Go.shape r) k):=by
 intro _ S hT w w' es es' hR hA
 have hS:¬ S r:=fun h=>by have:=hT r h;omega
 have e1:∀ (P:Program) (w:World) (es:Array Event),(Bind.bind (Go.shape r) k).runT P w es=(k (w.shape? r)).runT P w es:=fun _ _ _=>rfl
 rw [e1] at hA
 rw [e1,e1]
 have e:w'.shape? r=w.shape? r:=(hR.shape hS).symm
 rw [e]
 exact hk _ _ S hT w w' es es' hR hA
theorem Sim.byteOf {a:Addr} (hr:a.block<T.globals.size):Sim T F F' (Go.byteOf a):=by
 unfold Go.byteOf
 have e:∀ (t:TypeId) (d off:Nat),byteOfCell (⟨T,F'⟩:Program) d t off=byteOfCell (⟨T,F⟩:Program) d t off:=fun t d off=>byteOfCell_F (T:=T) (F:=F') (F':=F) d t off
 split
 ·exact Sim.pure _
 ·refine Sim.program' ?_ ?_
  ·simp only [e,cellsOf_F (T:=T) (F:=F') (F':=F),bytesOf_F (T:=T) (F:=F') (F':=F),depth_F (T:=T) (F:=F') (F':=F)]
  ·refine Sim.bind (Sim.noView _) fun _=>Sim.shapeLow hr fun o=>?_
   exact Sim.go
def zaF (w:World) (a:Addr):Bool:=if w.frozen? a then true else match w.shape? a.block with | some (_,n)=>w.frozen? { block:=a.block,off:=n } | none=>false
def noneV (w:World) (a:Addr):Bool:=w.shape? a.block matches some (_,0)
theorem runT_stringish {P:Program} (a:Addr) (w:World) (es:Array Event):(Go.stringish a).runT P w es=(.ok (zaF w a) w,es):=by
 unfold Go.stringish zaF
 simp only [Bind.bind,Go.frozen,Sem.bind,Sem.runT]
 cases w.frozen? a with
 | true=>rfl
 | false=>
  simp only [Bool.false_eq_true,if_false,Go.shape,Sem.bind,Sem.runT]
  cases w.shape? a.block with
  | none=>rfl
  | some x=>rfl
theorem runT_mayBeOne {P:Program} (a b:Addr) (w:World) (es:Array Event):(Go.mayBeOne a b).runT P w es=(.ok ((zaF w a && zaF w b) || (zaF w a && noneV w a) || (zaF w b && noneV w b)) w,es):=by
 unfold Go.mayBeOne
 show (Sem.bind (Go.stringish a) _).runT P w es=_
 rw [zar,runT_stringish]
 show (Sem.bind (Go.stringish b) _).runT P w es=_
 rw [zar,runT_stringish]
 rfl
theorem Sim.mayBeOne (a b:Addr):Sim T F F' (Go.mayBeOne a b):=by
 intro _ S hT w w' es es' hR hA
 rw [runT_mayBeOne,runT_mayBeOne]
 have e1:∀ a:Addr,zaF w a=zaF w' a∧(zaF w a && noneV w a)=(zaF w' a && noneV w' a):=by
  intro a
  by_cases hS:S a.block
  ·obtain ⟨c,e,e',h1,h2⟩:=hR.spoilt _ hS
   have x1:zaF w a=false:=by simp [zaF,World.frozen?,World.shape?,h1]
   have x2:zaF w' a=false:=by simp [zaF,World.frozen?,World.shape?,h2]
   rw [x1,x2]
   exact ⟨rfl,rfl⟩
  ·have x:w'.shape? a.block=w.shape? a.block:=(hR.shape hS).symm
   have y:∀ n,w'.frozen? ⟨a.block,n,none⟩=w.frozen? ⟨a.block,n,none⟩:=fun n=>(hR.frozen _).symm
   have z:=hR.frozen a
   simp only [zaF,noneV,x,y,z,and_self]
 refine .inr ⟨?_,hR,no_ev,Nat.le_refl _,rfl,rfl,fun _ _ e=>by cases e⟩
 simp only [Result.with,Result.world]
 rw [(e1 a).1,(e1 a).2.symm.trans ((e1 a).2),(e1 b).2]
 rw [show (zaF w b)=zaF w' b from (e1 b).1]
 have:=(e1 a).2
 rw [(e1 a).1] at this
 rw [this]
theorem Sim.sameAddr (a b:Addr):Sim T F F' (Go.sameAddr a b):=by
 have h:=Sim.mayBeOne (T:=T) (F:=F) (F':=F') a b
 have h1:=Sim.frozen' (T:=T) (F:=F) (F':=F') a
 have h2:=Sim.frozen' (T:=T) (F:=F) (F':=F') b
 unfold Go.sameAddr
 exact Sim.go
theorem Sim.samePointer (a b:Option Addr):Sim T F F' (Go.samePointer a b):=by
 unfold Go.samePointer
 split
 ·exact Sim.sameAddr _ _
 ·exact Sim.pure _
end
section
open Go
variable {T:Tables} {F F':Array Func}
theorem alikeButTags_F:∀ (n:Nat) (t u:TypeId),Program.alikeButTags ⟨T,F⟩ n t u=Program.alikeButTags ⟨T,F'⟩ n t u:=by
 intro n
 induction n with
 | zero=>intro t u;rfl
 | succ n ih=>
  intro t u
  have ih':Program.alikeButTags ⟨T,F⟩ n=Program.alikeButTags ⟨T,F'⟩ n:=by funext t u;exact ih t u
  unfold Program.alikeButTags
  rw [ih']
theorem packedAs_F (t:TypeId):Program.packedAs ⟨T,F⟩ t=Program.packedAs ⟨T,F'⟩ t:=by
 have e:Program.alikeButTags ⟨T,F⟩=Program.alikeButTags ⟨T,F'⟩:=by funext n t u;exact alikeButTags_F n t u
 unfold Program.packedAs
 rw [e]
 rfl
theorem stoodInAs_F (t:TypeId):Program.stoodInAs ⟨T,F⟩ t=Program.stoodInAs ⟨T,F'⟩ t:=by
 have e:Program.alikeButTags ⟨T,F⟩=Program.alikeButTags ⟨T,F'⟩:=by funext n t u;exact alikeButTags_F n t u
 unfold Program.stoodInAs
 rw [e]
 rfl
theorem stoodInHeld_F (t:TypeId):Program.stoodInHeld ⟨T,F⟩ t=Program.stoodInHeld ⟨T,F'⟩ t:=by
 unfold Program.stoodInHeld
 rw [stoodInAs_F (F:=F) (F':=F')]
theorem packed_F (t:TypeId):Program.packed ⟨T,F⟩ t=Program.packed ⟨T,F'⟩ t:=by
 unfold Program.packed
 rw [packedAs_F (F:=F) (F':=F')]
theorem holdsPacked_F:∀ (d:Nat) (t:TypeId),Program.holdsPacked ⟨T,F⟩ d t=Program.holdsPacked ⟨T,F'⟩ d t:=by
 intro d
 induction d with
 | zero=>intro t;rfl
 | succ d ih=>
  intro t
  have ih':Program.holdsPacked ⟨T,F⟩ d=Program.holdsPacked ⟨T,F'⟩ d:=by funext t;exact ih t
  unfold Program.holdsPacked
  rw [ih',packed_F (F:=F) (F':=F')]
  rfl
theorem eqGuardType_F:∀ (d:Nat) (t:TypeId),Program.eqGuardType ⟨T,F⟩ d t=Program.eqGuardType ⟨T,F'⟩ d t:=by
 intro d
 induction d with
 | zero=>intro t;rfl
 | succ d ih=>
  intro t
  have ih':Program.eqGuardType ⟨T,F⟩ d=Program.eqGuardType ⟨T,F'⟩ d:=by funext t;exact ih t
  unfold Program.eqGuardType
  rw [ih']
  rfl
theorem Sim.progBool {α:Type} {c:Program→Program→Bool} {A B:Sem α} (hc:c ⟨T,F'⟩ ⟨T,F'⟩=c ⟨T,F⟩ ⟨T,F⟩) (hA:Sim T F F' A) (hB:Sim T F F' B):Sim T F F' (Go.program >>= fun p=>Go.program >>= fun q=>if c p q=true then A else B):=by
 intro _ S hT w w' es es' hR hAg
 have e1:∀ (P:Program) (w:World) (es:Array Event),(Go.program >>= fun p=>Go.program >>= fun q=>if c p q=true then A else B).runT P w es=(if c P P=true then A else B).runT P w es:=fun _ _ _=>rfl
 rw [e1] at hAg
 rw [e1,e1,hc]
 cases hcc:c ⟨T,F⟩ ⟨T,F⟩ with
 | true=>rw [hcc] at hAg;exact hA _ S hT w w' es es' hR hAg
 | false=>rw [hcc] at hAg;exact hB _ S hT w w' es es' hR hAg
theorem Sim.progBool1 {α:Type} {c:Program→Bool} {A B:Sem α} (hc:c ⟨T,F'⟩=c ⟨T,F⟩) (hA:Sim T F F' A) (hB:Sim T F F' B):Sim T F F' (Go.program >>= fun p=>if c p=true then A else B):=by
 intro _ S hT w w' es es' hR hAg
 have e1:∀ (P:Program) (w:World) (es:Array Event),(Go.program >>= fun p=>if c p=true then A else B).runT P w es=(if c P=true then A else B).runT P w es:=fun _ _ _=>rfl
 rw [e1] at hAg
 rw [e1,e1,hc]
 cases hcc:c ⟨T,F⟩ with
 | true=>rw [hcc] at hAg;exact hA _ S hT w w' es es' hR hAg
 | false=>rw [hcc] at hAg;exact hB _ S hT w w' es es' hR hAg
set_option maxHeartbeats 1000000 in
theorem Sim.equalIn:∀ (d:Nat) (t:TypeId) (x y:Value),Sim T F F' (Op.equalIn d t x y):=by
 intro d
 induction d with
 | zero=>intro t x y;unfold Op.equalIn;exact Sim.unsupported _
 | succ d ih=>
  intro t x y
  unfold Op.equalIn
  refine Sim.bind' (Sim.underlying _) fun u=>?_
  split
  case h_5=>
   refine Sim.bind' (Sim.behindNumber _) fun a=>Sim.bind' (Sim.behindNumber _) fun b=>?_
   dsimp only
   refine Sim.program' rfl ?_
   split
   ·rename_i hlt
    have hl:a.fst.block<T.globals.size:=by simp only [Bool.and_eq_true,decide_eq_true_eq] at hlt;exact hlt.2
    have hb:b.fst.block<T.globals.size:=by simp only [Bool.and_eq_true,decide_eq_true_eq,beq_iff_eq] at hlt;rw [← hlt.1];exact hl
    exact Sim.bind' (Sim.byteOf hl) fun _=>Sim.bind' (Sim.byteOf hb) fun _=>Sim.pure' _
   ·exact Sim.go
  all_goals exact Sim.go
end
section
open Go
variable {T:Tables} {F F':Array Func}
theorem Sim.equal (t:TypeId) (x y:Value):Sim T F F' (Op.equal t x y):=Sim.equalIn _ _ _ _
theorem Sim.eqGuardIn:∀ (d:Nat) (t:TypeId) (x y:Value),Sim T F F' (Op.eqGuardIn d t x y):=by
 intro d
 induction d with
 | zero=>intro t x y;unfold Op.eqGuardIn;exact Sim.unsupported _
 | succ d ih=>
  intro t x y
  unfold Op.eqGuardIn
  exact Sim.go
theorem Sim.checkKey (b:Bool):∀ (d:Nat) (t:TypeId) (x:Value),Sim T F F' (Instr.checkKey b d t x):=by
 intro d
 induction d with
 | zero=>intro t x;unfold Instr.checkKey;exact Sim.unsupported _
 | succ d ih=>
  intro t x
  unfold Instr.checkKey
  exact Sim.go
theorem Sim.findAsking (t:TypeId) (k:Value):∀ (l:List MapEntry) (i:Nat),Sim T F F' (Instr.findAsking t k l i)
 | [],_=>Sim.pure _
 | e :: es,i=>by
  unfold Instr.findAsking
  refine Sim.bind' (Sim.equal _ _ _) fun b=>?_
  split
  ·exact Sim.pure _
  ·exact Sim.findAsking t k es (i+1)
theorem Sim.findKey (t:TypeId) (k:Value) (l:List MapEntry):Sim T F F' (Instr.findKey t k l):=by unfold Instr.findKey;exact Sim.go
theorem Sim.keyThatStays (x y:Value):Sim T F F' (Instr.keyThatStays x y):=by unfold Instr.keyThatStays;exact Sim.go
theorem Sim.lookup (t:TypeId) (x y:Value) (b:Bool):Sim T F F' (Instr.lookup t x y b):=by unfold Instr.lookup;exact Sim.go
theorem Sim.mapUpdate (t:TypeId) (x y z:Value):Sim T F F' (Instr.mapUpdate t x y z):=by unfold Instr.mapUpdate;exact Sim.go
theorem Sim.mapEntry (t:TypeId) (x y:Value):Sim T F F' (Instr.mapEntry t x y):=by unfold Instr.mapEntry;exact Sim.go
theorem Sim.entryStore (t:TypeId) (x y z:Value):Sim T F F' (Instr.entryStore t x y z):=by unfold Instr.entryStore;exact Sim.go
theorem Sim.entry (x:Value):Sim T F F' (Instr.entry x):=by unfold Instr.entry;exact Sim.go
theorem Sim.delete_ (a:Array TypeId) (t:TypeId) (x:Array Value):Sim T F F' (Builtin.delete_ a t x):=by unfold Builtin.delete_;exact Sim.go
theorem Sim.unary (o:UnOp) (x:Value):Sim T F F' (Op.unary o x):=by unfold Op.unary;exact Sim.go
theorem Sim.eqGuard (o:BinOp) (t:TypeId) (x y:Operand) (a b:Value):Sim T F F' (Go.eqGuard o t x y a b):=by
 unfold Go.eqGuard
 exact Sim.go
end
section
open Go
variable {T:Tables} {F F':Array Func}
def EndsDead {α:Type} (s:Sem α):Prop:=∀ P w es,IsDead (s.runT P w es).1
def Safe {α:Type} (s:Sem α):Prop:=∀ P w es,match (s.runT P w es).1 with | .ok _ _=>True | .halt h _=>Dead h
theorem EndsDead.sim {α:Type} {s:Sem α} (h:EndsDead s):Sim T F F' s:=fun _ _ _ _ _ _ _ _ _=>.inl (h _ _ _)
theorem EndsDead.unsupported {α:Type} (u:Unsupported):EndsDead (Go.unsupported u:Sem α):=fun _ _ _=>trivial
theorem EndsDead.bind {α β:Type} {s:Sem α} {f:α→Sem β} (hs:Safe s) (hf:∀ a,EndsDead (f a)):EndsDead (s >>= f):=by
 intro P w es
 show IsDead ((Sem.bind s f).runT P w es).1
 rw [zar]
 have:=hs P w es
 revert this
 generalize s.runT P w es=x
 obtain ⟨r,es1⟩:=x
 cases r with
 | ok a w1=>intro _;exact hf a P w1 es1
 | halt h w1=>intro h';exact h'
theorem Safe.pure {α:Type} (a:α):Safe (Pure.pure a:Sem α):=fun _ _ _=>trivial
theorem Safe.bind {α β:Type} {s:Sem α} {f:α→Sem β} (hs:Safe s) (hf:∀ a,Safe (f a)):Safe (s >>= f):=by
 intro P w es
 show (match ((Sem.bind s f).runT P w es).1 with | .ok _ _=>True | .halt h _=>Dead h)
 rw [zar]
 have:=hs P w es
 revert this
 generalize s.runT P w es=x
 obtain ⟨r,es1⟩:=x
 cases r with
 | ok a w1=>intro _;exact hf a P w1 es1
 | halt h w1=>intro h';exact h'
theorem Safe.shape (r:Nat):Safe (Go.shape r):=fun _ _ _=>trivial
theorem Safe.frozen (r:Addr):Safe (Go.frozen r):=fun _ _ _=>trivial
theorem Safe.mark (m:Mark):Safe (Go.mark m):=fun _ _ _=>trivial
theorem Safe.holdsCells (a:Addr) (n:Nat):Safe (Builtin.holdsCells a n):=by
 unfold Builtin.holdsCells
 refine Safe.bind (Safe.shape _) fun o=>?_
 split <;> exact Safe.pure _
theorem Safe.mayShare (s l n:Nat) (b:Option Addr) (x:Value):Safe (Builtin.mayShare s l n b x):=by
 unfold Builtin.mayShare
 cases b with
 | none=>
  refine Safe.bind (Safe.pure _) fun t=>?_
  dsimp only
  split
  ·exact Safe.pure _
  ·split
   ·exact Safe.bind (Safe.holdsCells _ _) fun _=>Safe.pure _
   ·exact Safe.pure _
 | some a=>
  refine Safe.bind (Safe.holdsCells _ _) fun _=>Safe.bind (Safe.frozen _) fun _=>Safe.bind (Safe.pure _) fun t=>?_
  dsimp only
  split
  ·exact Safe.pure _
  ·split
   ·exact Safe.bind (Safe.holdsCells _ _) fun _=>Safe.pure _
   ·exact Safe.pure _
theorem Sim.noShare {α:Type} (s l n:Nat) (b:Option Addr) (x:Value) (f:Bool→Sem α) (hf:∀ r,EndsDead (f r)):Sim T F F' (Builtin.mayShare s l n b x >>= f):=
 EndsDead.sim (EndsDead.bind (Safe.mayShare _ _ _ _ _) hf)
set_option maxHeartbeats 4000000 in
theorem Sim.append_ (a:Array TypeId) (t:TypeId) (x:Array Value):Sim T F F' (Builtin.append_ a t x):=by
 unfold Builtin.append_
 dsimp only
 split
 ·refine Sim.bind' (Sim.underlying _) fun u=>?_
  split
  ·split
   ·refine Sim.bind' (Sim.sizeOf _) fun n=>?_
    split
    ·refine Sim.bind' (Sim.underlying _) fun u=>?_
     refine Sim.bind' (Sim.pure' _) fun z=>?_
     cases z <;> simp only [Bool.false_eq_true,Bool.not_false,Bool.not_true,false_or,true_or,and_true,reduceIte] <;> exact Sim.go
    ·refine Sim.bind' (Sim.pure' _) fun z=>?_
     cases z <;> simp only [Bool.false_eq_true,Bool.not_false,Bool.not_true,false_or,true_or,and_true,reduceIte] <;> exact Sim.go
   ·exact Sim.stuck _
  ·exact Sim.stuck _
 ·exact Sim.stuck _
end
section
open Go
variable {T:Tables} {F F':Array Func}
theorem runT_underlying {P:Program} (t:TypeId) (w:World) (es:Array Event):(Go.underlying t).runT P w es=match P.underlying t with
  | some d=>(.ok d w,es)
  | none=>(.halt (.stuck "no such type") w,es):=by
 unfold Go.underlying
 show (Sem.runT P (match P.underlying t with | some d=>Pure.pure d | none=>Go.stuck "no such type") w es)=_
 cases P.underlying t <;> rfl
theorem Sim.underlyingBind {α:Type} {t:TypeId} {f:TypeDesc→Sem α} (h:∀ d,Program.underlying ⟨T,F⟩ t=some d→Sim T F F' (f d)):Sim T F F' (Go.underlying t >>= f):=by
 have e:∀ (P:Program),(Go.underlying t >>= f)=Go.underlying t >>= f:=fun _=>rfl
 cases hu:Program.underlying ⟨T,F⟩ t with
 | none=>
  intro _ S hT w w' es es' hR hA
  left
  show IsDead ((Sem.bind (Go.underlying t) f).runT ⟨T,F'⟩ w' es').1
  rw [zar,runT_underlying,show Program.underlying ⟨T,F'⟩ t=none from hu]
  trivial
 | some d=>
  have hd:=h d hu
  intro _ S hT w w' es es' hR hA
  have e1:∀ (w:World) (es:Array Event),(Sem.bind (Go.underlying t) f).runT ⟨T,F⟩ w es=(f d).runT ⟨T,F⟩ w es:=by
   intro w es;rw [zar,runT_underlying,hu]
  have e2:∀ (w:World) (es:Array Event),(Sem.bind (Go.underlying t) f).runT ⟨T,F'⟩ w es=(f d).runT ⟨T,F'⟩ w es:=by
   intro w es;rw [zar,runT_underlying,show Program.underlying ⟨T,F'⟩ t=some d from hu]
  have e3:(Go.underlying t >>= f)=Sem.bind (Go.underlying t) f:=rfl
  rw [e3] at hA ⊢
  rw [e1] at hA
  rw [e1,e2]
  exact hd _ S hT w w' es es' hR hA
theorem Sim.convert (src dst:TypeId) (x:Value) (h1:intType T src=true) (h2:intType T dst=true):Sim T F F' (Go.convert src dst x):=by
 unfold Go.convert
 refine Sim.underlyingBind fun d1 hd1=>Sim.underlyingBind fun d2 hd2=>?_
 unfold intType at h1 h2
 rw [show Program.underlying ⟨T,#[]⟩ src=some d1 from hd1] at h1
 rw [show Program.underlying ⟨T,#[]⟩ dst=some d2 from hd2] at h2
 cases d1 <;> simp only [Bool.false_eq_true] at h1
 cases d2 <;> simp only [Bool.false_eq_true] at h2
 cases x
 case int k n=>exact Sim.pure _
 case float k n=>
  show Sim T F F' (Conv.floatToInt _ _ _)
  unfold Conv.floatToInt
  exact Sim.go
 case pointer o=>cases o <;> first | exact Sim.unsupported _ | exact Sim.halt trivial
 all_goals exact Sim.unsupported _
theorem Sim.floatArith (o:BinOp) (k:FloatKind) (x y:Nat):Sim T F F' (Op.floatArith o k x y):=by unfold Op.floatArith;exact Sim.go
theorem Sim.floatCmp (o:BinOp) (k:FloatKind) (x y:Nat):Sim T F F' (Op.floatCmp o k x y):=by unfold Op.floatCmp;exact Sim.go
end
section
open Go
variable {T:Tables} {F F':Array Func}
theorem Sim.floatToFloat (k:FloatKind) (b:Nat) (j:FloatKind):Sim T F F' (Conv.floatToFloat k b j):=by unfold Conv.floatToFloat;exact Sim.go
theorem Sim.arith (o:BinOp) (k:FloatKind) (x y:Nat):Sim T F F' (Op.Complex.arith o k x y):=by unfold Op.Complex.arith;exact Sim.go
theorem Sim.cmp (o:BinOp) (k:FloatKind) (x y:Nat):Sim T F F' (Op.Complex.cmp o k x y):=by unfold Op.Complex.cmp;exact Sim.go
theorem Sim.conv (k:FloatKind) (x:Nat) (j:FloatKind):Sim T F F' (Op.Complex.conv k x j):=by unfold Op.Complex.conv;exact Sim.go
theorem Sim.cadd (x y:Nat):Sim T F F' (Op.Complex.add x y):=Sim.arith _ _ _ _
theorem Sim.csub (x y:Nat):Sim T F F' (Op.Complex.sub x y):=Sim.arith _ _ _ _
theorem Sim.cmul (x y:Nat):Sim T F F' (Op.Complex.mul x y):=Sim.arith _ _ _ _
theorem Sim.cquo (x y:Nat):Sim T F F' (Op.Complex.quo x y):=Sim.arith _ _ _ _
theorem Sim.product (a b c d:Nat):Sim T F F' (Op.Complex.product a b c d):=by unfold Op.Complex.product;exact Sim.go
theorem Sim.corrected (s a b c d:Nat):Sim T F F' (Op.Complex.corrected s a b c d):=by unfold Op.Complex.corrected;exact Sim.go
theorem Sim.quotient (a b c d:Nat):Sim T F F' (Op.Complex.quotient a b c d):=by unfold Op.Complex.quotient;exact Sim.go
theorem Sim.complexOp (o:BinOp) (k:FloatKind) (a b c d:Nat):Sim T F F' (Op.complexOp o k a b c d):=by unfold Op.complexOp;exact Sim.go
end
section
open Go
variable {T:Tables} {F F':Array Func}
theorem Sim.shapeE' {α:Type} {r:Nat} {k:Option (TypeId×Nat)→Sem α} (he:∀ e x y,k (some (e,x))=k (some (e,y))) (hk:∀ v,Sim T F F' (k v)):Sim T F F' (Bind.bind (Go.shape r) k):=
 Sim.shapeE (k:=fun s=>Sem.bind (Sem.pure s) k) he hk
theorem Sim.byteOfAny (a:Addr):Sim T F F' (Go.byteOf a):=by
 unfold Go.byteOf
 have e:∀ (t:TypeId) (d off:Nat),byteOfCell (⟨T,F'⟩:Program) d t off=byteOfCell (⟨T,F⟩:Program) d t off:=fun t d off=>byteOfCell_F (T:=T) (F:=F') (F':=F) d t off
 split
 ·exact Sim.pure _
 ·refine Sim.program' ?_ ?_
  ·simp only [e,cellsOf_F (T:=T) (F:=F') (F':=F),bytesOf_F (T:=T) (F:=F') (F':=F),depth_F (T:=T) (F:=F') (F':=F)]
  ·refine Sim.bind (Sim.noView _) fun _=>Sim.shapeE' (fun _ _ _=>rfl) fun o=>?_
   exact Sim.go
theorem Sim.twoPlaces (a b:Addr):Sim T F F' (Op.twoPlaces a b):=by
 unfold Op.twoPlaces
 refine Sim.progBool1 (c:=fun p=>a.block != b.block || decide (a.block≥p.globals.size)) rfl (Sim.bind' (Sim.unsupported _) fun _=>?_) ?_
 ·exact Sim.bind' (Sim.byteOfAny _) fun _=>Sim.bind' (Sim.byteOfAny _) fun _=>Sim.pure' _
 ·exact Sim.bind' (Sim.byteOfAny _) fun _=>Sim.bind' (Sim.byteOfAny _) fun _=>Sim.pure' _
theorem Sim.addrSub (k:IntKind) (a b:Addr):Sim T F F' (Op.addrSub k a b):=by unfold Op.addrSub;exact Sim.go
theorem Sim.addrCmp (o:BinOp) (a b:Addr):Sim T F F' (Op.addrCmp o a b):=by unfold Op.addrCmp;exact Sim.go
theorem Sim.addrMod (k:IntKind) (a:Addr) (n:Int):Sim T F F' (Op.addrMod k a n):=by
 unfold Op.addrMod
 refine Sim.shapeE' (fun _ _ _=>rfl) fun o=>?_
 exact Sim.go
theorem cellAtBytes_F (d:Nat) (e:TypeId) (c o:Nat) (n:Int):cellAtBytes ⟨T,F⟩ d e c o n=cellAtBytes ⟨T,F'⟩ d e c o n:=by
 have e1:byteOfCell ⟨T,F⟩=byteOfCell ⟨T,F'⟩:=by funext d t off;exact byteOfCell_F d t off
 have e2:cellOfByte ⟨T,F⟩=cellOfByte ⟨T,F'⟩:=by
  funext d
  induction d with
  | zero=>rfl
  | succ d ih=>
   funext t off
   unfold cellOfByte
   rw [ih]
   rfl
 unfold cellAtBytes
 rw [e1,e2]
 rfl
theorem cellAtBytes_none {P:Program} (d:Nat) (e:TypeId) (o:Nat) (n:Int):cellAtBytes P d e 0 o n=none:=by
 unfold cellAtBytes
 simp only [Nat.zero_mul,Bind.bind,Option.bind]
 split
 ·rfl
 ·split
  ·rfl
  ·rename_i here _
   simp only
   rw [if_pos]
   simp only [Bool.or_eq_true,decide_eq_true_eq]
   by_cases h:Int.ofNat (o / P.cellsOf e*P.bytesOf e+here)+n<0
   ·exact .inl h
   ·right
    show _≥((0:Nat):Int)
    omega
theorem Sim.shapeD {α:Type} {r:Nat} {k:Option (TypeId×Nat)→Sem α} (hd:∀ e w es,IsDead ((k (some (e,0))).runT ⟨T,F'⟩ w es).1) (hk:∀ v,Sim T F F' (k v)):Sim T F F' (Bind.bind (Go.shape r) k):=by
 intro _ S hT w w' es es' hR hA
 have e1:∀ (P:Program) (w:World) (es:Array Event),(Bind.bind (Go.shape r) k).runT P w es=(k (w.shape? r)).runT P w es:=fun _ _ _=>rfl
 rw [e1] at hA
 rw [e1,e1]
 by_cases hS:S r
 ·left
  obtain ⟨c,e,e',h1,h2⟩:=hR.spoilt _ hS
  have:w'.shape? r=some (e',0):=by simp only [World.shape?,h2];rfl
  rw [this]
  exact hd _ _ _
 ·have:w'.shape? r=w.shape? r:=(hR.shape hS).symm
  rw [this]
  exact hk _ _ S hT w w' es es' hR hA
theorem Sim.unsafeAdd_ (a:Array TypeId) (t:TypeId) (x:Array Value):Sim T F F' (Builtin.unsafeAdd_ a t x):=by
 have main:∀ (n:Int) (a:Addr),Sim T F F' (do
   let some (e,cells) ← Go.shape a.block | Go.unsupported (.unsafePointer "Add")
   let p ← Go.program
   match cellAtBytes p p.depth e (cells / p.cellsOf e) a.off n with
   | some off=>Pure.pure (Value.pointer (some { a with off }))
   | none=>Go.unsupported (.unsafePointer "Add"):Sem Value):=by
  intro n a
  refine Sim.shapeD (fun e w es=>?_) fun o=>?_
  ·show IsDead ((match cellAtBytes ⟨T,F'⟩ _ e (0 / Program.cellsOf ⟨T,F'⟩ e) a.off n with
    | some off=>(Pure.pure (Value.pointer (some { a with off })):Sem Value)
    | none=>Go.unsupported (.unsafePointer "Add")).runT ⟨T,F'⟩ w es).1
   rw [Nat.zero_div,cellAtBytes_none]
   trivial
  ·cases o with
   | none=>exact Sim.unsupported _
   | some x=>
    refine Sim.program' ?_ ?_
    ·simp only [cellAtBytes_F (T:=T) (F:=F') (F':=F),cellsOf_F (T:=T) (F:=F') (F':=F),depth_F (T:=T) (F:=F') (F':=F)]
    ·split
     ·exact Sim.pure _
     ·exact Sim.unsupported _
 have two:∀ (ptr:Option Addr) (len_:Value),Sim T F F' (Builtin.unsafeAdd_ a t #[.pointer ptr,len_]):=by
  intro ptr len_
  unfold Builtin.unsafeAdd_
  dsimp only
  refine Sim.bind' (Sim.asInt _) fun n=>?_
  split
  ·split
   ·exact Sim.go
   ·exact Sim.bind' (Sim.unsupported _) fun _=>by
     split
     ·refine Sim.bind' (Sim.unsupported _) fun _=>?_
      split
      ·exact main _ _
      ·exact Sim.unsupported _
     ·split
      ·exact main _ _
      ·exact Sim.unsupported _
  ·split
   ·refine Sim.bind' (Sim.unsupported _) fun _=>?_
    split
    ·exact main _ _
    ·exact Sim.unsupported _
   ·split
    ·exact main _ _
    ·exact Sim.unsupported _
 obtain ⟨l⟩:=x
 rcases l with _ | ⟨v,_ | ⟨u,_ | ⟨z,l⟩⟩⟩
 ·exact Sim.stuck _
 ·cases v <;> exact Sim.stuck _
 ·cases v
  case pointer o=>exact two o u
  all_goals exact Sim.stuck _
 ·cases v <;> exact Sim.stuck _
theorem Sim.asNumber (a:Addr) (b:Bool):Sim T F F' (Go.asNumber a b):=by unfold Go.asNumber;exact Sim.go
theorem Sim.movedNumber (t:TypeId) (x y:Value):Sim T F F' (Go.movedNumber t x y):=by unfold Go.movedNumber;exact Sim.go
theorem Sim.movedPointer (t:TypeId) (x y:Value):Sim T F F' (Go.movedPointer t x y):=by unfold Go.movedPointer;exact Sim.go
set_option maxHeartbeats 1000000 in
theorem Sim.binOp (o:BinOp) (t:TypeId) (x y:Value):Sim T F F' (Go.binOp o t x y):=by unfold Go.binOp;exact Sim.go
end
section
open Go
variable {T:Tables} {F F':Array Func}
theorem Sim.fieldPlaceAny (a:Addr) (f:Field):Sim T F F' (Go.fieldPlace a f):=by
 have h1:=Sim.byteOfAny (T:=T) (F:=F) (F':=F') a
 have h2:=fun x=>Sim.byteOfAny (T:=T) (F:=F) (F':=F') x
 have h3:∀ c b,Sim T F F' (Go.partAt a c b):=by
  intro c b
  unfold Go.partAt
  exact Sim.bind' (h2 _) fun _=>Sim.bind' (h2 _) fun _=>Sim.pure' _
 unfold Go.fieldPlace
 refine Sim.bind' (Sim.sizeOf _) fun n=>?_
 split
 ·exact h3 _ _
 ·exact Sim.pure' _
theorem Sim.fieldAtAny (s:TypeId) (x:Value) (i:Nat):Sim T F F' (Instr.fieldAt s x i):=by
 have h:=fun a f=>Sim.fieldPlaceAny (T:=T) (F:=F) (F':=F') a f
 unfold Instr.fieldAt
 refine Sim.bind' (Sim.underlying _) fun d=>?_
 split
 ·split
  ·exact Sim.bind' (Sim.sureAddr _) fun a=>Sim.bind' (h _ _) fun _=>Sim.pure' _
  ·exact Sim.stuck _
 ·exact Sim.stuck _
theorem Sim.placeGet (t:TypeId) (p:Place):Sim T F F' (p.get t):=by
 cases p
 ·exact Sim.pure _
 ·exact Sim.loadVar _ _
theorem Sim.follow:∀ (l:List FieldStep) (t:TypeId) (p:Place),Sim T F F' (Go.follow l t p):=by
 intro l
 induction l with
 | nil=>intro t p;unfold Go.follow;exact Sim.pure _
 | cons s l ih=>intro t p;unfold Go.follow;exact Sim.go
theorem Sim.followBlind:∀ (l:List FieldStep) (t:TypeId) (p:Option Value),Sim T F F' (Go.followBlind l t p):=by
 intro l
 induction l with
 | nil=>intro t p;unfold Go.followBlind;exact Sim.pure _
 | cons s l ih=>intro t p;unfold Go.followBlind;exact Sim.go
theorem Sim.ssaWrap (a:Array TypeId) (t:TypeId) (p:Value) (x y:ByteArray):Sim T F F' (Builtin.ssaWrapNilChk_ a t #[p,.string x,.string y]):=by
 cases p
 case pointer o=>
  cases o with
  | some _=>exact Sim.pure _
  | none=>
   refine Sim.bind (Sim.choose' _) fun n=>?_
   dsimp only
   exact Sim.go
 all_goals exact Sim.stuck "ssa:wrapnilchk: pointer expected"
theorem Sim.ssaWrap2 (a:Array TypeId) (t:TypeId) (p:Value) (x y:String):Sim T F F' (Builtin.ssaWrapNilChk_ a t #[p,strVal x,strVal y]):=Sim.ssaWrap a t p x.toUTF8 y.toUTF8
theorem Sim.receiverAt (t:TypeId) (p:Place) (b:Bool) (w:Option String):Sim T F F' (Go.receiverAt t p b w):=by unfold Go.receiverAt;exact Sim.go
theorem Sim.receiverVia (t:TypeId) (v:Value) (p:Array FieldStep) (b:Bool):Sim T F F' (Go.receiverVia t v p b):=by unfold Go.receiverVia;exact Sim.go
theorem Sim.method:∀ (n:Nat) (t:TypeId) (v:Value) (s:String),Sim T F F' (Go.method n t v s):=by
 intro n
 induction n with
 | zero=>intro t v s;unfold Go.method;exact Sim.unsupported _
 | succ n ih=>intro t v s;unfold Go.method;exact Sim.go
theorem Sim.nilAhead:∀ (n:Nat) (t:TypeId) (v:Value) (s:String),Sim T F F' (Go.nilAhead n t v s):=by
 intro n
 induction n with
 | zero=>intro t v s;unfold Go.nilAhead;exact Sim.pure _
 | succ n ih=>intro t v s;unfold Go.nilAhead;exact Sim.go
structure Mute (fn:Func):Prop where
 body:fn.body.isNone=true
 num:(fn.name == "runtime.NumGoroutine")=false
 next:Extern.findNext fn=none
 find:Extern.find fn=none
 init:(fn.name.endsWith ".init" && !fn.name.startsWith "(" && !fn.name.startsWith "gosem.")=false
structure Funs (T:Tables) (F F':Array Func):Prop where
 nofn:∀ f:Nat,F[f]? = none↔F'[f]? = none
 alike:∀ (f:Nat) (fn fn':Func),F[f]? = some fn→F'[f]? = some fn'→(fn.name=fn'.name∧fn.body.isNone=fn'.body.isNone∧(fn.body.isNone=true→fn=fn'))∨Mute fn'
 next:∀ (f:Nat) (fn:Func),F'[f]? = some fn→fn.body.isNone=true→∀ e,Extern.findNext fn=some e→∀ args,Sim T F F' (e args)
 find:∀ (f:Nat) (fn:Func),F'[f]? = some fn→fn.body.isNone=true→∀ e,Extern.find fn=some e→∀ args,Sim T F F' (e args)
theorem mute_dead {P:Program} {f:FuncId} {fn:Func} (hf:P.funcs[f]? = some fn) (h:Mute fn) (args:Array Value) (w:World) (es:Array Event):IsDead ((Go.callFunc f args).runT P w es).1:=by
 show IsDead ((match P.funcs[f]? with | none=>_ | some fn=>_:Sem Next).runT P w es).1
 rw [hf]
 dsimp only
 rw [h.num,h.body,h.next,h.find]
 dsimp only
 rw [h.init]
 exact trivial
theorem Sim.callFunc (h:Funs T F F') (f:FuncId) (args:Array Value):Sim T F F' (Go.callFunc f args):=by
 cases hf:F[f]? with
 | none=>
  unfold Go.callFunc
  refine Sim.program' ?_ ?_
  ·show (match F'[f]? with | none=>_ | some fn=>_)=(match F[f]? with | none=>_ | some fn=>_)
   rw [(h.nofn f).1 hf,hf]
  ·show Sim T F F' (match F[f]? with | none=>_ | some fn=>_)
   rw [hf]
   exact Sim.stuck _
 | some fn=>
  cases hf':F'[f]? with
  | none=>rw [(h.nofn f).2 hf'] at hf;cases hf
  | some fn'=>
   rcases h.alike f fn fn' hf hf' with ⟨hn,hb,hs⟩ | hm
   rotate_left
   ·intro _ S hS w w' es es' hR hA
    exact .inl (mute_dead (P:=⟨T,F'⟩) hf' hm args w' es')
   unfold Go.callFunc
   refine Sim.program' ?_ ?_
   ·show (match F'[f]? with | none=>_ | some fn=>_)=(match F[f]? with | none=>_ | some fn=>_)
    rw [hf,hf']
    dsimp only
    by_cases hbb:fn.body.isNone=true
    ·have e:=hs hbb
     subst e
     rfl
    ·have hbf:fn.body.isNone=false:=Bool.eq_false_iff.2 hbb
     rw [← hn,← hb,hbf]
     simp only [Bool.false_eq_true,if_false]
   ·show Sim T F F' (match F[f]? with | none=>_ | some fn=>_)
    rw [hf]
    dsimp only
    split
    ·exact Sim.pure _
    ·split
     ·rename_i hbn
      have hf2:F'[f]? = some fn:=by rw [hf',hs hbn]
      refine Sim.bind' (Sim.mark' _ trivial) fun _=>?_
      split
      ·rename_i e he
       exact h.next f fn hf2 hbn e he args
      ·split
       ·rename_i e he
        exact Sim.bind' (h.find f fn hf2 hbn e he args) fun _=>Sim.pure' _
       ·split
        ·exact Sim.pure' _
        ·exact Sim.unsupported _
     ·exact Sim.pure _
theorem Sim.callMethod (h:Funs T F F') (r:Value) (s:String) (args:Array Value):Sim T F F' (Go.callMethod r s args):=by
 unfold Go.callMethod
 split
 ·refine Sim.program' rfl ?_
  exact Sim.bind' (Sim.method _ _ _ _) fun _=>Sim.callFunc h _ _
 ·exact Sim.runtimePanic _
 ·exact Sim.stuck _
theorem Sim.builtin (b:Builtin) (a:Array TypeId) (t:TypeId) (c:Array Bool) (x:Array Value) (h:builtinOk b=true):Sim T F F' (Go.builtin b a t c x):=by
 unfold Go.builtin
 cases b <;> first | (cases h;done) | skip
 all_goals dsimp only
 ·exact Sim.bind' (Sim.append_ _ _ _) fun _=>Sim.pure' _
 ·exact Sim.bind' (Sim.cap_ _ _ _) fun _=>Sim.pure' _
 ·exact Sim.bind' (Sim.close_ _ _ _) fun _=>Sim.pure' _
 ·exact Sim.bind' (Sim.copy_ _ _ _) fun _=>Sim.pure' _
 ·exact Sim.bind' (Sim.delete_ _ _ _) fun _=>Sim.pure' _
 ·exact Sim.bind' (Sim.len_ _ _ _) fun _=>Sim.pure' _
theorem Sim.invoke (h:Funs T F F') (t:Target) (args:Array Value) (ht:targetOk t=true):Sim T F F' (Go.invoke t args):=by
 cases t with
 | nil=>exact Sim.runtimePanic .nilDeref
 | builtin b _ _ _=>exact Sim.builtin _ _ _ _ _ ht
 | collected _=>exact Sim.stuck "invoke: a mark among the deferred calls is no call"
 | coroexit _=>cases ht
 | fn fn captured=>
  cases fn with
  | func f=>exact Sim.callFunc h _ _
  | yield l=>exact Sim.yield _ _
  | method name=>
   unfold Go.invoke
   dsimp only
   cases args[0]? with
   | none=>exact Sim.stuck _
   | some r=>exact Sim.callMethod h _ _ _
  | methodOf t name=>
   unfold Go.invoke
   dsimp only
   cases args[0]? with
   | none=>exact Sim.stuck _
   | some r=>
    dsimp only
    exact Sim.bind' (Sim.underlying _) fun d=>Sim.callMethod h _ _ _
  | via t path f pointer=>
   unfold Go.invoke
   dsimp only
   cases args[0]? with
   | none=>exact Sim.stuck _
   | some r=>exact Sim.bind' (Sim.receiverVia _ _ _ _) fun _=>Sim.callFunc h _ _
end
section
open Go
variable {T:Tables} {F F':Array Func}
theorem Sim.resolveInvoke (h:Funs T F F') (ρ:Operand→Value) (c:Call) (t:TypeId) (ho:∀ b,c.callee = .builtin b→builtinOk b=true):Sim T F F' (do let d ← Go.resolve ρ c t;Go.invoke d.target d.args):=by
 unfold Go.resolve
 dsimp only
 cases hc:c.callee with
 | builtin b=>exact Sim.invoke h (.builtin b _ _ _) _ (ho b hc)
 | invoke r n=>exact Sim.invoke h (.fn (.method n) #[]) _ rfl
 | value f=>
  dsimp only
  cases ρ f
  case func fn first captured=>exact Sim.invoke h (.fn fn captured) (first++c.args.map ρ) rfl
  case nilFunc=>exact Sim.invoke h .nil (c.args.map ρ) rfl
  all_goals exact Sim.stuck "call: function value expected"
theorem Sim.execOp (h:Funs T F F') (ρ:Operand→Value) (o:Oper) (ho:opOk T o.op=true):Sim T F F' (Go.execOp ρ o):=by
 unfold Go.execOp
 cases hop:o.op
 case convert src dst x=>
  rw [hop] at ho
  simp only [opOk,Bool.and_eq_true] at ho
  exact Sim.bind' (Sim.convert _ _ _ ho.1 ho.2) fun _=>Sim.pure' _
 case call c=>
  rw [hop] at ho
  simp only [opOk] at ho
  exact Sim.resolveInvoke h ρ c o.type fun b hb=>by rw [hb] at ho;exact ho
 case move x=>exact Sim.pure _
 case assign x=>exact Sim.pure _
 case pick c a b=>dsimp only;exact Sim.go
 case alloc e=>exact Sim.bind' (Sim.alloc _ _ _) fun _=>Sim.pure' _
 case box e x=>exact Sim.bind' (Sim.box _ _) fun _=>Sim.pure' _
 case build t p=>exact Sim.bind' (Sim.build _ _) fun _=>Sim.pure' _
 case buildSlice t n p=>exact Sim.bind' (Sim.buildSlice _ _ _) fun _=>Sim.pure' _
 case load t a=>exact Sim.bind' (Sim.loadAt _ _) fun _=>Sim.pure' _
 case store t a x=>exact Sim.bind' (Sim.storeAt _ _ _) fun _=>Sim.pure' _
 case nilCheck x=>dsimp only;exact Sim.go
 case binOp op t x y u=>exact Sim.bind' (Sim.bind' (Sim.eqGuard _ _ _ _ _ _) fun _=>Sim.binOp _ _ _ _) fun _=>Sim.pure' _
 case unOp op t x=>exact Sim.bind' (Sim.unary _ _) fun _=>Sim.pure' _
 case sliceToArrayPointer t x=>exact Sim.bind' (Sim.arrayAt _ _) fun _=>Sim.pure' _
 case makeInterface t x=>exact Sim.bind' (Sim.makeInterface _ _) fun _=>Sim.pure' _
 case makeFunc f x y=>exact Sim.bind' (Sim.makeFunc _ _ _) fun _=>Sim.pure' _
 case makeMap t r=>exact Sim.bind' (Sim.makeMap _ _) fun _=>Sim.pure' _
 case makeChan t s=>exact Sim.bind' (Sim.makeChan _ _) fun _=>Sim.pure' _
 case makeSlice t l c=>exact Sim.bind' (Sim.makeSlice _ _ _) fun _=>Sim.pure' _
 case slice t x lo hi mx=>exact Sim.bind' (Sim.sliceAt _ _ _ _ _) fun _=>Sim.pure' _
 case fieldAddr s x f=>exact Sim.bind' (Sim.fieldAtAny _ _ _) fun _=>Sim.pure' _
 case field t x f=>exact Sim.bind' (Sim.field _ _ _) fun _=>Sim.pure' _
 case indexAddr t x i=>exact Sim.bind' (Sim.indexAt _ _ _) fun _=>Sim.pure' _
 case index t x i=>exact Sim.bind' (Sim.index _ _ _) fun _=>Sim.pure' _
 case lookup t x i ok=>exact Sim.bind' (Sim.lookup _ _ _ _) fun _=>Sim.pure' _
 case insert t m k x=>exact Sim.bind' (Sim.mapUpdate _ _ _ _) fun _=>Sim.pure' _
 case mapUpdate t m k x=>exact Sim.bind' (Sim.mapUpdate _ _ _ _) fun _=>Sim.pure' _
 case mapEntry t m k=>exact Sim.bind' (Sim.mapEntry _ _ _) fun _=>Sim.pure' _
 case entryStore t m s x=>exact Sim.bind' (Sim.entryStore _ _ _ _) fun _=>Sim.pure' _
 case range t x=>exact Sim.bind' (Sim.range _ _) fun _=>Sim.pure' _
 case next it b=>exact Sim.bind' (Sim.next _ _ _) fun _=>Sim.pure' _
 case entry it=>exact Sim.bind' (Sim.entry _) fun _=>Sim.pure' _
 case typeAssert x t a ok=>exact Sim.bind' (Sim.typeAssert _ _ _ _) fun _=>Sim.pure' _
 case extract t i=>exact Sim.bind' (Sim.extract _ _) fun _=>Sim.pure' _
 all_goals (rw [hop] at ho;cases ho)
end
section
open Go
variable {T:Tables} {F F':Array Func}
def HeapOk (T:Tables) (w:World):Prop:=∀ (b:Nat) (o:Obj),w.heap[b]? = some o→objOk T o
def nextOk (T:Tables):Next→Prop
 | .value _ | .skip | .enter _ _=>True
 | .round _ _ _ a b=>zaD T a=true∧zaD T b=true
 | .defer d=>deferOk d.target=true
 | _=>False
def Always (P:Program) {α:Type} (Φ:α→Prop) (s:Sem α):Prop:=∀ w es v w1 es1,s.runT P w es=(.ok v w1,es1)→Φ v
theorem Always.pure {P:Program} {α:Type} {Φ:α→Prop} {a:α} (h:Φ a):Always P Φ (Pure.pure a:Sem α):=by
 intro w es v w1 es1 e;cases e;exact h
theorem Always.halt {P:Program} {α:Type} {Φ:α→Prop} {a:Halt}:Always P Φ (Sem.halt a:Sem α):=by
 intro w es v w1 es1 e;cases e
theorem Always.bind {P:Program} {α β:Type} {Φ:β→Prop} {s:Sem α} {f:α→Sem β} (h:∀ a,Always P Φ (f a)):Always P Φ (s >>= f):=by
 intro w es v w1 es1 e
 have e:(Sem.bind s f).runT P w es=_:=e
 rw [zar] at e
 revert e
 generalize s.runT P w es=x
 obtain ⟨r,es2⟩:=x
 cases r with
 | ok a w2=>intro e;exact h a _ _ _ _ _ e
 | halt h w2=>intro e;cases e
theorem Always.bindP {P:Program} {α β:Type} {Φ:β→Prop} {Ψ:α→Prop} {s:Sem α} {f:α→Sem β} (hs:Always P Ψ s) (h:∀ a,Ψ a→Always P Φ (f a)):Always P Φ (s >>= f):=by
 intro w es v w1 es1 e
 have e:(Sem.bind s f).runT P w es=_:=e
 rw [zar] at e
 have:=hs w es
 revert e this
 generalize s.runT P w es=x
 obtain ⟨r,es2⟩:=x
 cases r with
 | ok a w2=>intro e h2;exact h a (h2 _ _ _ rfl) _ _ _ _ _ e
 | halt h w2=>intro e;cases e
theorem Always.val {P:Program} {s:Sem Value}:Always P (nextOk T) (do Pure.pure (Next.value (← s)):Sem Next):=Always.bind fun _=>Always.pure trivial
theorem Always.unit {P:Program} {s:Sem Unit}:Always P (nextOk T) (do s;Pure.pure Next.skip:Sem Next):=Always.bind fun _=>Always.pure trivial
theorem Always.runtimePanic {P:Program} {α:Type} {Φ:α→Prop} (e:RuntimeError):Always P Φ (Go.runtimePanic e:Sem α):=by
 unfold Go.runtimePanic
 refine Always.bind fun p=>?_
 dsimp only
 cases e
 all_goals first
  | exact Always.halt
  | exact Always.bind fun _=>Always.bind fun _=>Always.halt
structure Calm (P:Program):Prop where
 next:∀ (f:Nat) (fn:Func),P.funcs[f]? = some fn→fn.body.isNone=true→Extern.findNext fn=none
 num:∀ (f:Nat) (fn:Func),P.funcs[f]? = some fn→(fn.name == "runtime.NumGoroutine")=false
theorem Always.callFunc {P:Program} (h:Calm P) (f:FuncId) (args:Array Value):Always P (nextOk T) (Go.callFunc f args):=by
 intro w es v w1 es1 e
 have e:(match P.funcs[f]? with | none=>_ | some fn=>_:Sem Next).runT P w es=_:=e
 revert e
 cases hf:P.funcs[f]? with
 | none=>intro e;cases e
 | some fn=>
  dsimp only
  rw [if_neg (by rw [h.num f fn hf];exact Bool.false_ne_true)]
  split
  ·rename_i hb
   intro e
   refine Always.bind (P:=P) (Φ:=nextOk T) (fun _=>?_) w es v w1 es1 e
   rw [h.next f fn hf hb]
   dsimp only
   split
   ·exact Always.val
   ·split
    ·exact Always.pure trivial
    ·exact Always.halt
  ·intro e;cases e;trivial
theorem Always.callMethod {P:Program} (h:Calm P) (r:Value) (s:String) (args:Array Value):Always P (nextOk T) (Go.callMethod r s args):=by
 unfold Go.callMethod
 split
 ·exact Always.bind fun _=>Always.bind fun x=>Always.callFunc h _ _
 ·exact Always.runtimePanic _
 ·exact Always.halt
theorem Always.builtin {P:Program} (b:Builtin) (a:Array TypeId) (t:TypeId) (c:Array Bool) (x:Array Value) (h:builtinOk b=true):Always P (nextOk T) (Go.builtin b a t c x):=by
 unfold Go.builtin
 cases b <;> first | (cases h;done) | exact Always.val
theorem nextOk_yield {P:Program} (l:Nat) (args:Array Value) {w w1:World} {es es1:Array Event} {v:Next} (hw:HeapOk T w) (e:(Instr.yield l args).runT P w es=(.ok v w1,es1)):nextOk T v:=by
 unfold Instr.yield Instr.getLoop at e
 have e:(Sem.bind (Sem.bind (Go.getObj l) _) _).runT P w es=_:=e
 rw [zau,zar] at e
 simp only [Go.getObj,Sem.runT] at e
 cases ho:w.heap[l]? with
 | none=>rw [ho] at e;cases e
 | some o=>
  rw [ho] at e
  have hok:=hw l o ho
  cases o
  case loop L=>
   have e:(Sem.runT P (if args.size≠L.params.size then _ else _) w _)=_:=e
   split at e
   ·cases e
   ·cases e;exact ⟨hok.1,hok.2.1⟩
  all_goals cases e
theorem nextOk_invoke {P:Program} (h:Calm P) (t:Target) (args:Array Value) (ht:targetOk t=true) {w w1:World} {es es1:Array Event} {v:Next} (hw:HeapOk T w) (e:(Go.invoke t args).runT P w es=(.ok v w1,es1)):nextOk T v:=by
 cases t with
 | nil=>exact Always.runtimePanic (P:=P) (Φ:=nextOk T) .nilDeref _ _ _ _ _ e
 | builtin b a t c=>exact Always.builtin (P:=P) _ _ _ _ _ ht _ _ _ _ _ e
 | collected _=>cases e
 | coroexit _=>cases ht
 | fn fn captured=>
  cases fn with
  | func f=>exact Always.callFunc h _ _ _ _ _ _ _ e
  | yield l=>exact nextOk_yield _ _ hw e
  | method name=>
   unfold Go.invoke at e
   dsimp only at e
   revert e
   cases args[0]? with
   | none=>intro e;cases e
   | some r=>intro e;exact Always.callMethod h _ _ _ _ _ _ _ _ e
  | methodOf t name=>
   unfold Go.invoke at e
   dsimp only at e
   revert e
   cases args[0]? with
   | none=>intro e;cases e
   | some r=>intro e;exact Always.bind (P:=P) (fun d=>Always.callMethod h _ _ _) _ _ _ _ _ e
  | via t path f pointer=>
   unfold Go.invoke at e
   dsimp only at e
   revert e
   cases args[0]? with
   | none=>intro e;cases e
   | some r=>intro e;exact Always.bind (P:=P) (fun d=>Always.callFunc h _ _) _ _ _ _ _ e
theorem nextOk_resolveInvoke {P:Program} (h:Calm P) (ρ:Operand→Value) (c:Call) (t:TypeId) (ho:∀ b,c.callee = .builtin b→builtinOk b=true) {w w1:World} {es es1:Array Event} {v:Next} (hw:HeapOk T w)
  (e:(do let d ← Go.resolve ρ c t;Go.invoke d.target d.args:Sem Next).runT P w es=(.ok v w1,es1)):nextOk T v:=by
 have e:(Sem.bind (Go.resolve ρ c t) fun d=>Go.invoke d.target d.args).runT P w es=_:=e
 unfold Go.resolve at e
 dsimp only at e
 cases hc:c.callee with
 | builtin b=>
  rw [hc] at e
  exact nextOk_invoke h _ _ (show targetOk (.builtin b _ _ _)=true from ho b hc) hw e
 | invoke r n=>
  rw [hc] at e
  exact nextOk_invoke h (.fn (.method n) #[]) (#[ρ r]++c.args.map ρ) rfl hw e
 | value f=>
  rw [hc] at e
  dsimp only at e
  revert e
  cases ρ f
  case func fn first captured=>intro e;exact nextOk_invoke h (.fn fn captured) (first++c.args.map ρ) rfl hw e
  case nilFunc=>intro e;exact nextOk_invoke h .nil (c.args.map ρ) rfl hw e
  all_goals (intro e;cases e)
theorem nextOk_execOp {P:Program} (h:Calm P) (ρ:Operand→Value) (o:Oper) (ho:opOk T o.op=true) {w w1:World} {es es1:Array Event} {v:Next} (hw:HeapOk T w) (e:(Go.execOp ρ o).runT P w es=(.ok v w1,es1)):nextOk T v:=by
 unfold Go.execOp at e
 cases hop:o.op
 all_goals (rw [hop] at e ho;dsimp only at e)
 all_goals first
  | (cases ho;done)
  | exact Always.val (P:=P) _ _ _ _ _ e
  | exact Always.unit (P:=P) _ _ _ _ _ e
  | (cases e;exact True.intro)
  | exact Always.bind (P:=P) (Φ:=nextOk T) (fun _=>Always.pure True.intro) _ _ _ _ _ e
  | skip
 case nilCheck x=>
  revert e
  have hv:∀ x:Value,Always P (nextOk T) (Pure.pure (Next.value x):Sem Next):=fun x=>Always.pure trivial
  cases ρ x
  case pointer o=>
   cases o with
   | none=>exact Always.runtimePanic (P:=P) (Φ:=nextOk T) _ _ _ _ _ _
   | some a=>intro e;cases e;trivial
  case nilIface=>exact Always.runtimePanic (P:=P) (Φ:=nextOk T) _ _ _ _ _ _
  case nilFunc=>exact Always.runtimePanic (P:=P) (Φ:=nextOk T) _ _ _ _ _ _
  case func fn first captured=>
   cases fn
   case method name=>
    dsimp only
    split
    ·exact Always.runtimePanic (P:=P) (Φ:=nextOk T) _ _ _ _ _ _
    ·rename_i t1 w1' _
     have hA:Always P (nextOk T) (do
       if (← Go.nilAhead ((← Go.program).types.size+Made.depth) t1 w1' name) != some false then
        Go.unsupported (.noEntry "op/nilCheck.the method's receiver behind this interface value is a nil pointer, or cannot be seen to be none, and the arguments act or may panic (ledger 612)")
       Pure.pure (Next.value (Value.func (.method name) first captured)):Sem Next):=by
      refine Always.bind fun _=>Always.bind fun _=>?_
      split
      ·exact Always.bind fun _=>hv _
      ·exact hv _
     exact hA _ _ _ _ _
    ·intro e;cases e;trivial
   all_goals (intro e;cases e;trivial)
  all_goals (intro e;cases e;trivial)
 case call c=>exact nextOk_resolveInvoke h ρ c o.type (fun b hb=>by simp only [opOk] at ho;rw [hb] at ho;exact ho) hw e
 case pick c a b=>exact Always.bind (P:=P) (Φ:=nextOk T) (s:=asBool (ρ c)) (f:=fun x=>Pure.pure (Next.value (if x=true then ρ a else ρ b))) (fun _=>Always.pure trivial) _ _ _ _ _ e
end
section
open Go
variable {T:Tables} {F F':Array Func}
def itemOk (T:Tables):Item→Bool
 | .code c | .inLoop c | .inScope c=>zaD T c
 | .inRegion ops _=>ops.all fun o=>opOk T o.op
 | .inBlock _ | .inRangeFunc _ | .endRangeFunc _ | .beginRound=>true
 | _=>false
structure FrameOk (T:Tables) (fr:Frame):Prop where
 items:∀ it ∈ fr.todo,itemOk T it=true
 defers:∀ d ∈ fr.defers,deferOk d.target=true
structure GOk (T:Tables) (g:Goroutine):Prop where
 dying:g.dying=none
 run:g.status = .running
 offers:g.offers=none
 frame:FrameOk T g.frame
 callers:∀ fr ∈ g.callers,FrameOk T fr
def bot (n:Nat):Frame:={ fn:=n,tmps:=#[],todo:=[.call { target:=.collected 0,args:=#[] } false "fmt's door" #[]],defers:=[],mode:=.run,kind:=.normal }
def ups (cs:List Frame) (g:Goroutine):Goroutine:={ g with callers:=g.callers++cs }
theorem ups_nil (g:Goroutine):ups [] g=g:=by unfold ups;rw [List.append_nil]
def plus (c0:Frame) (g:Goroutine):Goroutine:={ g with callers:=g.callers++[c0] }
structure Draws (w w' w1 w1':World):Prop where
 grow:w.heap.size≤w1.heap.size
 le:w.drawn≤w1.drawn
 eq:w1'.drawn+w.drawn=w'.drawn+w1.drawn
 tp:w1.tape=w.tape
 tp':w1'.tape=w'.tape
theorem Draws.refl (w w':World):Draws w w' w w':=⟨Nat.le_refl _,Nat.le_refl _,by omega,rfl,rfl⟩
def Popped (c0:Frame) (g0:Goroutine):Prop:=g0.callers=[]∧g0.dying=none∧g0.status = .running∧g0.offers=none∧((∃ v,g0.frame=c0.finish v)∨g0.frame=c0∨∃ ch,g0.frame=c0.raise ch)
inductive StepRel [Start] (T:Tables) (F F':Array Func) (base:List Frame) (c0:Frame) (S:Nat→Prop) (w w':World) (g:Goroutine):GStep→GStep→Prop
 | dead (x:GStep) (o:Outcome) (w1:World) (es:Array Event) (ho:∀ v,o≠.done v):StepRel T F F' base c0 S w w' g x (.ended o w1 es)
 | go (g1:Goroutine) (w1 w1':World) (es es':Array Event) (hg:GOk T g1) (hR:Rel T S w1 w1') (hd:Draws w w' w1 w1') (he:∀ e ∈ es,Clear S w1.heap.size e):StepRel T F F' base c0 S w w' g (.go (ups base g1) w1 es) (.go (plus c0 g1) w1' es')
 | enter (f:FuncId) (args:Array Value) (kind:CallKind) (cs:List Frame) (w1 w1':World) (es es':Array Event) (hf:F[f]?≠F'[f]?) (hkn:kind = .normal) (hc:∀ fr ∈ cs,FrameOk T fr) (hn:cs≠[]) (hR:Rel T S w1 w1') (hd:Draws w w' w1 w1') (he:∀ e ∈ es,Clear S w1.heap.size e) :
   StepRel T F F' base c0 S w w' g (.go { frame:=Frame.enter ⟨T,F⟩ f args kind,callers:=cs++base,status:=.running,dying:=none } w1 es) (.go { frame:=Frame.enter ⟨T,F'⟩ f args kind,callers:=cs++[c0],status:=.running,dying:=none } w1' es')
 | pop (x:GStep) (g0:Goroutine) (w1:World) (es:Array Event) (hc:g.callers=[]) (hp:Popped c0 g0):StepRel T F F' base c0 S w w' g x (.go g0 w1 es)
theorem pair [Start] {α:Type} {s:Sem α} (hs:Sim T F F' s) {S:Nat→Prop} (hT:∀ b,S b→T.globals.size≤b) {w w':World} (hR:Rel T S w w') (hA:∀ n,Agree w w' n) :
  (∃ h w1 e,s.runT ⟨T,F'⟩ w' #[]=(.halt h w1,e)∧Dead h)∨
  (∃ a w1 w1' e e',s.runT ⟨T,F⟩ w #[]=(.ok a w1,e)∧s.runT ⟨T,F'⟩ w' #[]=(.ok a w1',e')∧Rel T S w1 w1'∧(∀ x ∈ e,Clear S w1.heap.size x)∧Draws w w' w1 w1')∨
  (∃ v w1 w1' e e',s.runT ⟨T,F⟩ w #[]=(.halt (.panic v) w1,e)∧s.runT ⟨T,F'⟩ w' #[]=(.halt (.panic v) w1',e')∧Rel T S w1 w1'∧(∀ x ∈ e,Clear S w1.heap.size x)∧Draws w w' w1 w1'):=by
 have h:=hs _ S hT w w' #[] #[] hR (hA _)
 have hd:=runT_drawn (P:=⟨T,F⟩) s w #[]
 revert h hd
 generalize s.runT ⟨T,F⟩ w #[]=x
 generalize s.runT ⟨T,F'⟩ w' #[]=x'
 obtain ⟨r,e⟩:=x
 obtain ⟨r',e'⟩:=x'
 intro h hd
 rcases h with h | h
 ·cases r' with
  | ok a w1=>exact h.elim
  | halt hh w1=>exact .inl ⟨_,_,_,rfl,h⟩
 ·have heq:=h.eq
  have hrel:=h.rel
  obtain ⟨e2,he2,hc⟩:=h.ev
  have hd1:=h.dr'
  have hgr:=h.grow
  have ht1:=h.tp'
  have hh:=h.halts
  simp only [Array.empty_append] at he2
  subst he2
  cases r with
  | ok a w1=>
   cases r' with
   | halt hh w1'=>cases heq
   | ok a' w1'=>
    cases heq
    exact .inr (.inl ⟨a,w1,w1',e,e',rfl,rfl,hrel,hc,⟨hgr,hd.1,hd1,hd.2,ht1⟩⟩)
  | halt hh2 w1=>
   obtain ⟨v,rfl⟩:=hh _ _ rfl
   cases r' with
   | ok a' w1'=>cases heq
   | halt hh3 w1'=>
    cases heq
    exact .inr (.inr ⟨v,w1,w1',e,e',rfl,rfl,hrel,hc,⟨hgr,hd.1,hd1,hd.2,ht1⟩⟩)
structure Duo (T:Tables) (F F':Array Func):Prop extends Funs T F F' where
 calm:Calm ⟨T,F'⟩
 size:F.size=F'.size
 bodies:∀ (f:Nat) (fn:Func) (c:Code),F'[f]? = some fn→fn.body=some c→zaD T c=true
 res:∀ (f:Nat) (fn fn':Func),F[f]? = some fn→F'[f]? = some fn'→fn.results=fn'.results
 ahead:(⟨T,F'⟩:Program).follows .staticDataAhead=true
theorem readies_nil:∀ {c:Code},zaD T c=true→readies c=[]:=by
 intro c
 induction c with
 | region id ops d=>
  intro h
  simp only [zaD] at h
  simp only [readies,List.filterMap_eq_nil_iff]
  intro o ho
  have:=Array.all_eq_true_iff_forall_mem.1 h o (by simpa using ho)
  cases hop:o.op <;> first | rfl | skip
  rw [hop] at this
  cases this
 | seq a b iha ihb=>intro h;simp only [zaD,Bool.and_eq_true] at h;simp only [readies,iha h.1,ihb h.2,List.append_nil]
 | cond c a b iha ihb=>intro h;simp only [zaD,Bool.and_eq_true] at h;simp only [readies,iha h.1,ihb h.2,List.append_nil]
 | rangeFunc f p a b iha ihb=>intro h;simp only [zaD,Bool.and_eq_true] at h;simp only [readies,iha h.1,ihb h.2,List.append_nil]
 | block id c ih=>intro h;simp only [zaD] at h;simp only [readies,ih h]
 | loop c ih=>intro h;simp only [zaD] at h;simp only [readies,ih h]
 | scope c ih=>intro h;simp only [zaD] at h;simp only [readies,ih h]
 | _=>intro _;rfl
theorem Duo.early (h:Duo T F F') (fr:Frame) (cs:List Frame) (d:Option Dying) (g:Nat) (w:World):∃ o,Go.early ⟨T,F'⟩ fr cs d g w = .ended o w #[]∧∀ v,o≠.done v:=by
 have hs:Program.stepOf ⟨T,F'⟩ g=none:=by
  unfold Program.stepOf
  rw [Array.findIdx?_eq_none_iff]
  intro fn hfn
  obtain ⟨f,hf,rfl⟩:=Array.mem_iff_getElem.1 hfn
  cases hb:F'[f].body with
  | none=>rfl
  | some c=>
   have:=h.bodies f F'[f] c (Array.getElem?_eq_getElem hf) hb
   simp [readies_nil this]
 unfold Go.early
 dsimp only
 rw [h.ahead,hs]
 exact ⟨_,rfl,fun v e=>by cases e⟩
end
section
open Go
variable {T:Tables} {F F':Array Func}
theorem finish_ok {fr:Frame} (h:FrameOk T fr) (v:Value):FrameOk T (fr.finish v):=by
 obtain ⟨fn,tmps,todo,defers,mode,kind,ro⟩:=fr
 unfold Frame.finish
 have h1:=h.items
 have h2:=h.defers
 simp only at h1 h2
 split
 ·rename_i ops i rest k hk
  cases hk
  exact ⟨fun it hit=>by
   rcases List.mem_cons.1 hit with rfl | hit
   ·exact h1 (.inRegion ops (i :: rest)) (by simp)
   ·exact h1 it (by simp [hit]),h2⟩
 ·rename_i l k hk
  cases hk
  exact ⟨fun it hit=>by
   rcases List.mem_cons.1 hit with rfl | hit
   ·rfl
   ·exact h1 it (by simp [hit]),h2⟩
 ·rename_i k hk
  cases hk
  exact ⟨fun it hit=>h1 it (by simp [hit]),h2⟩
 ·rename_i hk
  cases hk
  have:=h1 _ (List.mem_cons_self)
  cases this
 ·rename_i hk
  cases hk
  have:=h1 _ (List.mem_cons_self)
  cases this
 ·exact h
theorem raise_ok {fr:Frame} (h:FrameOk T fr) (c:List PanicEntry):FrameOk T (fr.raise c):=by
 unfold Frame.raise
 split <;> exact ⟨h.items,h.defers⟩
theorem exitTo_ok {id:Nat}:∀ {k k':List Item},exitTo id k=some k'→∀ it ∈ k',it ∈ k:=by
 intro k
 induction k with
 | nil=>intro k' h;cases h
 | cons i k ih=>
  intro k' h it hit
  unfold exitTo at h
  split at h
  ·rename_i id' k2 hk
   cases hk
   split at h
   ·cases h;exact List.mem_cons_of_mem _ hit
   ·exact List.mem_cons_of_mem _ (ih h it hit)
  ·rename_i hk
   cases hk
   exact List.mem_cons_of_mem _ (ih h it hit)
  ·rename_i hk;cases hk
theorem findLabel_ok {l:Nat}:∀ {c r:Code},findLabel c l=some r→zaD T c=true→zaD T r=true:=by
 intro c
 induction c with
 | seq a b iha ihb=>
  intro r h hc
  simp only [zaD,Bool.and_eq_true] at hc
  unfold findLabel at h
  cases ha:findLabel a l with
  | some x=>
   rw [ha] at h
   cases h
   simp only [zaD,Bool.and_eq_true]
   exact ⟨iha ha hc.1,hc.2⟩
  | none=>rw [ha] at h;exact ihb h hc.2
 | label l'=>
  intro r h hc
  unfold findLabel at h
  split at h
  ·cases h;rfl
  ·cases h
 | _=>intro r h;cases h
theorem gotoIn_ok {l:Nat}:∀ {k k':List Item},gotoIn l k=some k'→(∀ it ∈ k,itemOk T it=true)→∀ it ∈ k',itemOk T it=true:=by
 intro k
 induction k with
 | nil=>intro k' h;cases h
 | cons i k ih=>
  intro k' h hk it hit
  unfold gotoIn at h
  split at h
  ·rename_i body k2 hk2
   cases hk2
   split at h
   ·rename_i rest hr
    cases h
    rcases List.mem_cons.1 hit with rfl | hit
    ·exact findLabel_ok hr (hk (.inScope body) (by simp))
    ·exact hk it (by simpa using hit)
   ·exact ih h (fun x hx=>hk x (by simp [hx])) it hit
  ·rename_i hk2
   cases hk2
   exact ih h (fun x hx=>hk x (by simp [hx])) it hit
  ·rename_i hk2;cases hk2
theorem enter_ok (h:Duo T F F') (f:FuncId) (args:Array Value) (k:CallKind):FrameOk T (Frame.enter ⟨T,F'⟩ f args k):=by
 refine ⟨fun it hit=>?_,fun d hd=>by cases hd⟩
 simp only [Frame.enter,List.mem_singleton] at hit
 subst hit
 cases hf:F'[f]? with
 | none=>rfl
 | some fn=>
  cases hb:fn.body with
  | none=>simp only [itemOk,Option.bind,hb];rfl
  | some c=>simp only [itemOk,Option.bind,hb];exact h.bodies f fn c hf hb
theorem enter_eq {f:FuncId} (args:Array Value) (k:CallKind) (h:F[f]? = F'[f]?):Frame.enter ⟨T,F⟩ f args k=Frame.enter ⟨T,F'⟩ f args k:=by
 unfold Frame.enter
 simp only [h]
theorem round_ok {l:Nat} {f:FuncId} {ts:Array Value} {a b:Code} {k:CallKind} (ha:zaD T a=true) (hb:zaD T b=true):FrameOk T (Frame.round l f ts a b k):=by
 refine ⟨fun it hit=>?_,fun d hd=>by cases hd⟩
 simp only [Frame.round,List.mem_cons,List.not_mem_nil,or_false] at hit
 rcases hit with rfl | rfl | rfl
 ·exact ha
 ·rfl
 ·exact hb
theorem zaB {S:Nat→Prop} {n:Nat}:∀ e ∈ (#[]:Array Event),Clear S n e:=by simp
theorem seen_clear {P:Program} {S:Nat→Prop} {n:Nat} {fn:FuncId} {es:Array Event} (h:∀ e ∈ es,Clear S n e):∀ e ∈ seen P fn es,Clear S n e:=fun e he=>h e (Go.Conc.mem_seen he)
section
variable {base:List Frame} {c0:Frame} {S:Nat→Prop} {w w':World} {g:Goroutine}
theorem StepRel.after [Start] {x x':GStep} {es es':Array Event} (h:StepRel T F F' base c0 S w w' g x x') (he:∀ e ∈ es,Clear S w.heap.size e):StepRel T F F' base c0 S w w' g (x.after es) (x'.after es'):=by
 have hm:∀ (n:Nat) (es1:Array Event),w.heap.size≤n→(∀ e ∈ es1,Clear S n e)→∀ e ∈ es++es1,Clear S n e:=fun n es1 hn h1 e hh=>by
  rcases Array.mem_append.1 hh with hh | hh
  ·exact (he e hh).mono hn
  ·exact h1 e hh
 cases h with
 | dead _ o w1 es1 ho=>exact .dead _ _ _ _ ho
 | go g1 w1 w1' es1 es1' hg hR hd h1=>exact .go _ _ _ _ _ hg hR hd (hm _ _ hd.grow h1)
 | enter f args kind cs w1 w1' es1 es1' hf hkn hc hn hR hd h1=>exact .enter _ _ _ _ _ _ _ _ hf hkn hc hn hR hd (hm _ _ hd.grow h1)
 | pop _ g0 w1 es1 hc hp=>exact .pop _ _ _ _ hc hp
theorem StepRel.from [Start] {w1 w1':World} {x x':GStep} (h:StepRel T F F' base c0 S w1 w1' g x x') (hd:Draws w w' w1 w1'):StepRel T F F' base c0 S w w' g x x':=by
 have hm:∀ {w2 w2':World},Draws w1 w1' w2 w2'→Draws w w' w2 w2':=fun h2=>⟨Nat.le_trans hd.grow h2.grow,Nat.le_trans hd.le h2.le,by have:=hd.eq;have:=h2.eq;omega,h2.tp.trans hd.tp,h2.tp'.trans hd.tp'⟩
 cases h with
 | dead _ o w1 es1 ho=>exact .dead _ _ _ _ ho
 | go g1 w1 w1' es1 es1' hg hR hd h1=>exact .go _ _ _ _ _ hg hR (hm hd) h1
 | enter f args kind cs w1 w1' es1 es1' hf hkn hc hn hR hd h1=>exact .enter _ _ _ _ _ _ _ _ hf hkn hc hn hR (hm hd) h1
 | pop _ g0 w1 es1 hc hp=>exact .pop _ _ _ _ hc hp
theorem apply_rel [Start] (h:Duo T F F') {fr:Frame} {callers:List Frame} (hfr:FrameOk T fr) (hcs:∀ f ∈ callers,FrameOk T f) {s:Sem Next} (hs:Sim T F F' s)
  (hn:∀ v w1 e,s.runT ⟨T,F'⟩ w' #[]=(.ok v w1,e)→nextOk T v) (hT:∀ b,S b→T.globals.size≤b) (hR:Rel T S w w') (hA:∀ n,Agree w w' n) :
  StepRel T F F' base c0 S w w' g (stepG.apply ⟨T,F⟩ true fr (callers++base) none s w) (stepG.apply ⟨T,F'⟩ true fr (callers++[c0]) none s w'):=by
 have hcall:∀ d b r sv k,fr.todo≠.call d b r sv :: k:=fun d b r sv k hx=>by
  have:=hfr.items _ (by rw [hx];exact List.mem_cons_self)
  cases this
 unfold stepG.apply
 dsimp only
 rcases pair hs hT hR hA with ⟨hh,w1,e,he,hd⟩ | ⟨v,w1,w1',e,e',he,he',hR1,hc,hd⟩ | ⟨v,w1,w1',e,e',he,he',hR1,hc,hd⟩
 ·rw [he]
  cases hh
  case stuck m=>exact .dead _ _ _ _ (fun v e=>by cases e)
  case unsupported u=>
   cases u
   case initOrder gg=>
    simp only [if_true]
    obtain ⟨o,ho,hne⟩:=h.early fr (callers++[c0]) none gg w1
    rw [ho]
    exact .dead _ _ _ _ hne
   all_goals exact .dead _ _ _ _ (fun v e=>by cases e)
  all_goals exact hd.elim
 ·rw [he,he']
  have hnx:=hn _ _ _ he'
  simp only [if_true]
  refine StepRel.from (StepRel.after ?_ (seen_clear (by split;exact zaB;exact hc))) hd
  cases v
  case value v=>exact .go { frame:=fr.finish v,callers,status:=.running,dying:=none } _ _ _ _ ⟨rfl,rfl,rfl,finish_ok hfr _,hcs⟩ hR1 (Draws.refl _ _) zaB
  case skip=>exact .go { frame:=fr.finish undef,callers,status:=.running,dying:=none } _ _ _ _ ⟨rfl,rfl,rfl,finish_ok hfr _,hcs⟩ hR1 (Draws.refl _ _) zaB
  case enter f args=>
   have hcs':∀ x ∈ fr :: callers,FrameOk T x:=fun x hx=>by
    rcases List.mem_cons.1 hx with rfl | hx
    ·exact hfr
    ·exact hcs x hx
   dsimp only
   split
   ·rename_i hx;exact absurd hx (hcall _ _ _ _ _)
   by_cases hf:F[f]? = F'[f]?
   ·rw [enter_eq (T:=T) args .normal hf]
    exact .go { frame:=Frame.enter ⟨T,F'⟩ f args .normal,callers:=fr :: callers,status:=.running,dying:=none } _ _ _ _ ⟨rfl,rfl,rfl,enter_ok h _ _ _,hcs'⟩ hR1 (Draws.refl _ _) zaB
   ·exact .enter f args .normal (fr :: callers) _ _ _ _ hf rfl hcs' (by simp) hR1 (Draws.refl _ _) zaB
  case round l f ts a b=>
   exact .go { frame:=Frame.round l f ts a b .normal,callers:=fr :: callers,status:=.running,dying:=none } _ _ _ _ ⟨rfl,rfl,rfl,round_ok hnx.1 hnx.2,fun x hx=>by
    rcases List.mem_cons.1 hx with rfl | hx
    ·exact hfr
    ·exact hcs x hx⟩ hR1 (Draws.refl _ _) zaB
  case defer d=>
   have hfd:FrameOk T { fr with defers:=d :: fr.defers }:=⟨hfr.items,fun x hx=>by
    rcases List.mem_cons.1 hx with rfl | hx
    ·exact hnx
    ·exact hfr.defers x hx⟩
   exact .go { frame:=({ fr with defers:=d :: fr.defers }:Frame).finish undef,callers,status:=.running,dying:=none } _ _ _ _ ⟨rfl,rfl,rfl,finish_ok hfd _,hcs⟩ hR1 (Draws.refl _ _) zaB
  all_goals exact hnx.elim
 ·rw [he,he']
  simp only [if_true]
  refine StepRel.from (StepRel.after ?_ (seen_clear (by split;exact zaB;exact hc))) hd
  exact .go { frame:=fr.raise [{ v,recovered:=false }],callers,status:=.running,dying:=none } _ _ _ _ ⟨rfl,rfl,rfl,raise_ok hfr _,hcs⟩ hR1 (Draws.refl _ _) zaB
end
end
section
open Go
variable {T:Tables} {F F':Array Func}
section
variable {base:List Frame} {n0:Nat} {S:Nat→Prop} {w w':World} {g:Goroutine}
theorem agree_next {w1 w1':World} (hA:∀ n,Agree w w' n) (hd:Draws w w' w1 w1'):∀ n,Agree w1 w1' n:=by
 intro n j hj q
 have:=hA (w1.drawn - w.drawn+j+1) (w1.drawn - w.drawn+j) (by omega) q
 have h1:=hd.le
 have h2:=hd.eq
 rw [hd.tp,hd.tp']
 rw [show w.drawn+(w1.drawn - w.drawn+j)=w1.drawn+j by omega,show w'.drawn+(w1.drawn - w.drawn+j)=w1'.drawn+j by omega] at this
 exact this
theorem doReturn_rel [Start] {fr:Frame} {callers:List Frame} (hg:g.callers=callers) (hcs:∀ f ∈ callers,FrameOk T f) (v:Value) (hR:Rel T S w w') :
  StepRel T F F' base (bot n0) S w w' g (doReturn ⟨T,F⟩ true fr (callers++base) none v w) (doReturn ⟨T,F'⟩ true fr (callers++[bot n0]) none v w'):=by
 cases callers with
 | nil=>
  simp only [List.nil_append,doReturn]
  cases fr.kind
  case early=>exact .pop _ _ _ _ hg ⟨rfl,rfl,rfl,rfl,.inr (.inl rfl)⟩
  case normal=>exact .pop _ _ _ _ hg ⟨rfl,rfl,rfl,rfl,.inl ⟨v,rfl⟩⟩
  case wrapped=>exact .pop _ _ _ _ hg ⟨rfl,rfl,rfl,rfl,.inl ⟨v,rfl⟩⟩
  all_goals exact .pop _ _ _ _ hg ⟨rfl,rfl,rfl,rfl,.inr (.inl rfl)⟩
 | cons c cs=>
  have hc:=hcs c (by simp)
  have hcs':∀ f ∈ cs,FrameOk T f:=fun f hf=>hcs f (by simp [hf])
  simp only [List.cons_append,doReturn]
  cases fr.kind
  case early=>exact .go { frame:=c,callers:=cs,status:=.running,dying:=none } _ _ _ _ ⟨rfl,rfl,rfl,hc,hcs'⟩ hR (Draws.refl _ _) zaB
  case normal=>exact .go { frame:=c.finish v,callers:=cs,status:=.running,dying:=none } _ _ _ _ ⟨rfl,rfl,rfl,finish_ok hc _,hcs'⟩ hR (Draws.refl _ _) zaB
  case wrapped=>exact .go { frame:=c.finish v,callers:=cs,status:=.running,dying:=none } _ _ _ _ ⟨rfl,rfl,rfl,finish_ok hc _,hcs'⟩ hR (Draws.refl _ _) zaB
  all_goals
   have:∀ c':Frame,FrameOk T c'→StepRel T F F' base (bot n0) S w w' g (.go { frame:=c',callers:=cs++base,status:=.running,dying:=none } w) (.go { frame:=c',callers:=cs++[bot n0],status:=.running,dying:=none } w'):=fun c' hc'=>
    .go { frame:=c',callers:=cs,status:=.running,dying:=none } _ _ _ _ ⟨rfl,rfl,rfl,hc',hcs'⟩ hR (Draws.refl _ _) zaB
   dsimp only
   refine this _ ?_
   split
   ·split
    ·exact ⟨hc.items,hc.defers⟩
    ·exact ⟨hc.items,hc.defers⟩
   ·exact hc
theorem enterLoop_ok {P:Program} (f:FuncId) (ts:Array Value) (ps:Array Tmp) (a b:Code) (r:Option Nat):Always P (fun x=>∀ d ∈ x.2,deferOk d.target=true) (Instr.enterLoop f ts ps a b r):=by
 unfold Instr.enterLoop
 cases r with
 | some l=>
  refine Always.bind fun L=>?_
  dsimp only
  refine Always.bindP (Ψ:=fun x=>∀ d ∈ x.2,deferOk d.target=true) (Always.pure fun d hd=>by cases hd) fun x hx=>?_
  exact Always.bind fun _=>Always.pure hx
 | none=>
  refine Always.bind fun L=>?_
  dsimp only
  refine Always.bindP (Ψ:=fun x=>∀ d ∈ x.2,deferOk d.target=true) (Always.pure fun d hd=>by simp only [List.mem_singleton] at hd;subst hd;rfl) fun x hx=>?_
  exact Always.bind fun _=>Always.pure hx
theorem endLoop_ok {P:Program} (l:Nat) {w w1:World} {es es1:Array Event} {v:Option Code} (hw:HeapOk T w) (e:(Instr.endLoop l).runT P w es=(.ok v w1,es1)):∀ c,v=some c→zaD T c=true:=by
 unfold Instr.endLoop Instr.getLoop at e
 have e:(Sem.bind (Sem.bind (Go.getObj l) _) _).runT P w es=_:=e
 rw [zau,zar] at e
 simp only [Go.getObj,Sem.runT] at e
 cases ho:w.heap[l]? with
 | none=>rw [ho] at e;cases e
 | some o=>
  rw [ho] at e
  have hok:=hw l o ho
  cases o
  case loop L=>
   have hA:Always P (fun v:Option Code=>∀ c,v=some c→zaD T c=true) (do
    if L.state == .busy then Go.runtimePanic (.error "range function recovered a loop body panic and did not resume panicking")
    Go.setObj l (.loop { L with state:=.exhausted })
    Pure.pure L.pending):=by
    dsimp only
    split
    ·exact Always.bindP (Ψ:=fun _=>False) (Always.runtimePanic _) fun _ h=>h.elim
    ·exact Always.bind fun _=>Always.pure hok.2.2
   exact hA _ _ _ _ _ e
  all_goals cases e
theorem takeDeferred_ok {P:Program} (l:Nat) {w w1:World} {es es1:Array Event} {v:List Deferred} (hw:HeapOk T w) (e:(Instr.takeDeferred l).runT P w es=(.ok v w1,es1)):∀ d ∈ v,deferOk d.target=true:=by
 unfold Instr.takeDeferred at e
 have e:(Sem.bind (Go.getObj l) _).runT P w es=_:=e
 rw [zar] at e
 simp only [Go.getObj,Sem.runT] at e
 cases ho:w.heap[l]? with
 | none=>rw [ho] at e;cases e
 | some o=>
  rw [ho] at e
  have hok:=hw l o ho
  cases o
  case deferred ds=>
   cases ds with
   | none=>cases e
   | some ds=>
    have hA:Always P (fun v:List Deferred=>∀ d ∈ v,deferOk d.target=true) (do
     Go.setObj l (.deferred none)
     Pure.pure ds):=Always.bind fun _=>Always.pure hok
    exact hA _ _ _ _ _ e
  all_goals cases e
end
end
end Go.Proofs.Ytjkikkgpenhbgaa.Sim
