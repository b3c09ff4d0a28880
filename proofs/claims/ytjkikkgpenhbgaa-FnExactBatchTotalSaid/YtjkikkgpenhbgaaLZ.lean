import Derived.Test.YtjkikkgpenhbgaaLWLast
import Derived.Test.YtjkikkgpenhbgaaLWMore
import Derived.Test.YtjkikkgpenhbgaaLWTab
import Derived.KernelRfl
namespace Go.Proofs.Ytjkikkgpenhbgaa.Z
open Go Go.RowKit Go.Proofs.YtjkikkgpenhbgaaW.PrintWords Go.Proofs.YtjkikkgpenhbgaaW.PrintLast Go.Proofs.YtjkikkgpenhbgaaW.PrintMore
theorem bnd {α β:Type} {o:Option α} {f:α→Option β} {r:β} (h:o.bind f=some r):∃ x,Aside0 (o=some x)∧f x=some r:=by
 cases o with
 | none=>exact absurd h (by simp)
 | some x=>exact ⟨x,⟨rfl⟩,h⟩
def Ent (P:Program) (f:FuncId):Prop:=∃ fn,P.funcs[f]? = some fn∧(fn.name == "runtime.NumGoroutine")=false∧fn.body.isSome=true
theorem ent {P:Program} {f:FuncId} {fn:Func} (h:P.funcs[f]? = some fn) (hn:(fn.name == "runtime.NumGoroutine")=false) (hb:fn.body.isSome=true):Ent P f:=⟨fn,h,hn,hb⟩
section
variable {P:Program} {ops:Array Oper} {rest:List Oper} {o:Oper} {a:Act} {Q:Exit→Act→World→Prop} {W:World}
theorem gsC {f:FuncId} {xs:Array Operand} {ts:Array TypeId} {args:Array Value} {R:Ending→World→Prop} (c:Ent P f) (hc:Calls P f args W R) (h:∀ e w',R e w'→∃ v,e = .returned v∧wpList P ops Q rest (a.put o.dst v) w')
  (hg:o.guard=none:=by rfl) (hop:o.op = .call { callee:=.value (.func f),args:=xs,argTypes:=ts }:=by rfl) (hargs:xs.toList.map a.eval=args.toList:=by rfl):wpList P ops Q (o :: rest) a W:=by
 obtain ⟨fn,hf,hn,hb⟩:=c
 have ha:xs.map a.eval=args:=by
  rw [← Array.toList_inj,Array.toList_map]
  exact hargs
 exact goesL_ _ rfl hg hf hn hb args hop ha (hc.mono h)
theorem gsD {f:FuncId} {xs:Array Operand} {ts:Array TypeId} {args:Array Value} {v:Value} (c:Ent P f) (hc:Calls P f args W fun e w'=>e = .returned v∧Drawn0 W w') (h:∀ n,wpList P ops Q rest (a.put o.dst v) (W.drewN n))
  (hg:o.guard=none:=by rfl) (hop:o.op = .call { callee:=.value (.func f),args:=xs,argTypes:=ts }:=by rfl) (hargs:xs.toList.map a.eval=args.toList:=by rfl):wpList P ops Q (o :: rest) a W:=
 gsC c hc (by rintro e w' ⟨rfl,⟨n,rfl⟩⟩;exact ⟨_,rfl,h n⟩) hg hop hargs
end
theorem pS:(∀ (a:Act) (d:Tmp) (v:Value),a.put (some d) v = { a with tmps:=a.tmps.setIfInBounds d v })∧(∀ (a:Act) (v:Value),a.put none v=a)∧
  (∀ (l:List Value) (i:Nat) (v:Value),l.toArray.setIfInBounds i v=(l.set i v).toArray)∧(∀ (x:Value) (l:List Value) (v:Value),(x :: l).set 0 v=v :: l)∧
  (∀ (x:Value) (l:List Value) (n:Nat) (v:Value),(x :: l).set (n+1) v=x :: l.set n v)∧(∀ n:Int,IntKind.i64.wrap n=Go.RowKit.wrap64 n)∧(∀ n:Int,IntKind.i32.wrap n=Go.RowKit.wrap32 n):=
 ⟨fun _ _ _=>rfl,fun _ _=>rfl,fun l i v=>by simp,fun _ _ _=>rfl,fun _ _ _ _=>rfl,i64_w,i32_w⟩
section
variable {P:Program} {ops:Array Oper} {Q:Exit→Act→World→Prop} {md:Region.Mode} {S:World→Prop} {ds:List Nat}
theorem pZ {oi:Oper} {v:Value} {fuel:Nat} {l:Array Bool} {a a':Act} {w:World} (i:Nat) (N:Option Tmp) (l':Array Bool) (hi:ops[i]? = some oi) (hN:oi.dst=N) (hc:anyB md ops l l' i=true) (h:zat P md ops Q S ds fuel l' a' w)
  (hQ:∀ c a w,Q (.panic c) (a.put oi.dst v) w→Q (.panic c) a w:=by exact fun _ _ _ h=>h) (hw:Region.wanted oi (yielded ops a.tmps)=true:=by rfl) (hr:∀ w',(execOp a.eval oi).run P w' = .ok (.value v) w':=by (intro w';go_simp;with_reducible rfl))
  (ha:a.put N v=a':=by (simp only [pS];rfl)):zat P md ops Q S ds (fuel+1) l a w:=pure_ l' hi hN hc hQ (Or.inl ⟨hw,hr⟩) ha h
theorem tZ {oi:Oper} {v:Value} {fuel:Nat} {l:Array Bool} {a a':Act} {w:World} (i:Nat) (N:Option Tmp) (l':Array Bool) (hi:ops[i]? = some oi) (hN:oi.dst=N) (hc:takeB md ops ds l l' i=true) (hS:S w) (hr:∀ w',S w'→(execOp a.eval oi).run P w' = .ok (.value v) w') (h:zat P md ops Q S ds fuel l' a' w)
  (hQ:∀ c a w,Q (.panic c) (a.put oi.dst v) w→Q (.panic c) a w:=by exact fun _ _ _ h=>h) (hw:Region.wanted oi (yielded ops a.tmps)=true:=by rfl)
  (ha:a.put N v=a':=by (simp only [pS];rfl)):zat P md ops Q S ds (fuel+1) l a w:=take_ l' hi hN hc hQ (Or.inl ⟨hw,hr⟩) hS ha h
end
section
variable {w W w1 w2:World} {g g':Nat} {o:Obj} {row:Option Nat}
theorem bZ (h:Below w.heap.size w W:=by repeat (with_reducible first | exact HB.out | apply zae | apply zac | apply zaf | refine zag ?_ (Aside0.out (by assumption)))):Below w.heap.size w W:=h
theorem bsZ (h:Below w.heap.size w W:=by repeat (with_reducible first | exact HB.out | apply zae | apply zac | apply zaf | refine zag ?_ (Aside0.out (by assumption)))):w.heap.size≤W.heap.size:=h.size
theorem bnZ (k:Below W.heap.size W w2) (h:Below w.heap.size w W:=by repeat (with_reducible first | exact HB.out | apply zae | apply zac | apply zaf | refine zag ?_ (Aside0.out (by assumption)))):Aside0 (Below w.heap.size w w2):=⟨zao h k⟩
theorem gwZ (hg:g=W.heap.size) (h:Below w.heap.size w W:=by repeat (with_reducible first | exact HB.out | apply zae | apply zac | apply zaf | refine zag ?_ (Aside0.out (by assumption)))):Aside0 (w.heap.size≤g):=⟨hg ▸ h.size⟩
theorem nbZ (h:W.heap[g]? = some o) (hg:g'=W.heap.size):Aside0 (g≠g'):=⟨fun e=>absurd (blk_lt h) (by omega)⟩
theorem nbY (h:W.heap[g]? = some o) (hg:g'=W.heap.size):Aside0 (g'≠g):=⟨fun e=>absurd (blk_lt h) (by omega)⟩
theorem bkZ (hb:Below w.heap.size w w1) (h:w.heap[g]? = some o):Aside0 (w1.heap[g]? = some o):=⟨zaq h hb⟩
end
section
variable {P:Program} {ops:Array Oper} {rest:List Oper} {o:Oper} {a:Act} {Q:Exit→Act→World→Prop} {W:World}
theorem boxZ {N:Tmp} {cs:Array Value} {t:TypeId} (h:∀ g,g=W.heap.size→∀ w1,w1.heap[g]? = some (.cells cs t (0,0))→Below W.heap.size W w1→wpList P ops Q rest (a.put o.dst (.pointer (some ⟨g,0,none⟩))) w1)
  (_hd:o.dst=some N:=by rfl) (hgd:o.guard=none:=by rfl)
  (hrun:(execOp a.eval o).run P W = .ok (.value (.pointer (some ⟨W.heap.size,0,none⟩))) (W.alloc (.cells cs t (0,0))):=by first | (go_simp;done) | (go_simp;rfl)):wpList P ops Q (o :: rest) a W:=box_event hgd _hd hrun h
theorem goesZ (N:Option Tmp) {f:FuncId} {fn:Func} {as:Array Operand} {ts:Array TypeId} (hf:P.funcs[f]? = some fn) (args:Array Value) (h:Calls P f args W fun e w'=>∃ v,e = .returned v∧wpList P ops Q rest (a.put N v) w')
  (hd:o.dst=N:=by rfl) (hg:o.guard=none:=by rfl) (hname:(fn.name == "runtime.NumGoroutine")=false:=by kernel_rfl) (hb:fn.body.isSome=true:=by rfl)
  (hop:o.op = .call { callee:=.value (.func f),args:=as,argTypes:=ts }:=by rfl) (hargs:as.map a.eval=args:=by (try simp only [List.map_toArray,List.map_cons,List.map_nil]);first | done | rfl | (simp only [List.length_drop,List.length_take];rfl)):wpList P ops Q (o :: rest) a W:=
 goesL_ N hd hg hf hname hb args hop hargs h
end
def bs (n m:Nat):Array Bool:=((List.range n).map m.testBit).toArray
end Go.Proofs.Ytjkikkgpenhbgaa.Z
