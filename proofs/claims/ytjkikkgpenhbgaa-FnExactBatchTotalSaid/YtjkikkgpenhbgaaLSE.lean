import Derived.Test.YtjkikkgpenhbgaaLSD
import Derived.Tactics
import Derived.Below
import Derived.Deep.LoopGhost
import Derived.KernelRfl
import Derived.RowKit3
import Derived.Laws.MakeOwn
import Derived.Conc.CompanyDraw
import Derived.Conc.CompanyCalls
set_option linter.unusedVariables false
set_option linter.unusedSimpArgs false
set_option linter.unusedSectionVars false
set_option linter.unusedSimpArgs false
namespace Go.Proofs.Ytjkikkgpenhbgaa.Sim
section
open Go Go.Conc
section
variable {P:Program} {w:World} {tS tI tP tE t:TypeId} {d:TypeDesc} {i:TypeInfo}
theorem r_und (h:P.underlying t=some d):(Go.underlying t).run P w = .ok d w:=by
 show (Go.program.bind fun p=>_).run P w=_
 simp [Go.program,Sem.bind,Sem.run,h] <;> rfl
theorem r_info (h:P.info? t=some i):(Go.typeInfo t).run P w = .ok i w:=by
 show (Go.program.bind fun p=>_).run P w=_
 simp [Go.program,Sem.bind,Sem.run,h] <;> rfl
theorem r_size (h:P.info? t=some i):(Go.sizeOf t).run P w = .ok i.size w:=by
 simp [Go.sizeOf,go_sem,r_info h]
theorem inv_len {v:Value} (hS:P.underlying tS=some (.slice tI)):(∃ A n c,v = .slice A n c∧(Builtin.len_ #[tS] t #[v]).run P w = .ok (.int .i64 (n:Int)) w)∨∃ s,(Builtin.len_ #[tS] t #[v]).run P w = .halt (.stuck s) w:=by
 cases v with
 | slice A n c=>exact .inl ⟨A,n,c,rfl,by simp [Builtin.len_,go_sem,r_und hS,goInt]⟩
 | _=>exact .inr ⟨_,by simp [Builtin.len_,go_sem,r_und hS];rfl⟩
theorem inv_eqnil {A:Option Addr} {n c:Nat} (hS:P.underlying tS=some (.slice tI)):(Go.binOp .eql tS (.slice A n c) (.slice none 0 0)).run P w = .ok (.bool A.isNone) w:=by
 have h1:∀ x,(Op.equalIn (x+1) tS (.slice A n c) (.slice none 0 0)).run P w = .ok A.isNone w:=fun x=>by
  unfold Op.equalIn
  cases A <;> simp [go_sem,r_und hS]
 have h2:(Op.equal tS (.slice A n c) (.slice none 0 0)).run P w = .ok A.isNone w:=h1 9999
 show ((Op.equal tS (.slice A n c) (.slice none 0 0)).bind fun b=>Sem.pure (Value.bool b)).run P w=_
 rw [Sem.run_bind',h2]
 rfl
theorem inv_index {a:Addr} {n c:Nat} {j:Nat} (hS:P.underlying tS=some (.slice tI)) (hi:P.info? tI=some i) (h1:i.size=1) (hj:j<n) :
  (Instr.indexAt tS (.slice (some a) n c) (.int .i64 (j:Int))).run P w = .ok (.pointer (some (a.add j))) w:=by
 have h3:¬ n≤j:=by omega
 simp [Instr.indexAt,go_sem,r_und hS,r_size hi,h1,asIntOf]
 omega
theorem inv_xor {v:Value}:(∃ n,v = .int .i64 n∧∃ m,(Go.binOp .xor tI v (.int .i64 0)).run P w = .ok (.int .i64 m) w)∨∃ h,Dead h∧(Go.binOp .xor tI v (.int .i64 0)).run P w = .halt h w:=by
 cases v with
 | int k n=>
  by_cases hk:k = .i64
  ·subst hk
   exact .inl ⟨n,rfl,_,rfl⟩
  ·refine .inr ⟨.stuck "BinOp: operands of different kinds",trivial,?_⟩
   simp [Go.binOp,hk,go_sem]
 | pointer a=>exact .inr ⟨.unsupported .addressObserved,trivial,by cases a <;> simp [Go.binOp,go_sem]⟩
 | _=>exact .inr ⟨.stuck "BinOp: no such operator on these operands",trivial,by simp [Go.binOp,go_sem]⟩
theorem r_frozen (a:Addr):(Go.frozen a).run P w = .ok (w.frozen? a) w:=rfl
theorem r_shape (r:Nat):(Go.shape r).run P w = .ok (w.shape? r) w:=rfl
theorem inv_noView (a:Addr):((Go.noView a).run P w = .ok () w∧∀ at_ u,w.heap[a.block]?≠some (.view at_ u))∨∃ h,Dead h∧(Go.noView a).run P w = .halt h w:=by
 cases h:w.heap[a.block]? with
 | none=>exact .inr ⟨.stuck "getObj: no such block",trivial,by simp [Go.noView,Go.viewAt,go_sem,r_shape,World.shape?,h,Go.getObj,Sem.run]⟩
 | some o=>
  cases o with
  | cells c e f=>exact .inl ⟨by simp [Go.noView,Go.viewAt,go_sem,r_shape,World.shape?,h],by simp⟩
  | view x u=>exact .inr ⟨.unsupported (.unsafePointer "memory seen as another type"),trivial,by simp [Go.noView,Go.viewAt,go_sem,r_shape,World.shape?,h,Go.getObj,Sem.run]⟩
  | _=>exact .inl ⟨by simp [Go.noView,Go.viewAt,go_sem,r_shape,World.shape?,h,Go.getObj,Sem.run],by simp⟩
theorem r_stringish (a:Addr):∃ b,(Go.stringish a).run P w = .ok b w:=by
 by_cases h:w.frozen? a=true
 ·exact ⟨true,by simp [Go.stringish,go_sem,r_frozen,h]⟩
 ·cases hs:w.shape? a.block with
  | none=>exact ⟨false,by simp [Go.stringish,go_sem,r_frozen,r_shape,h,hs]⟩
  | some x=>exact ⟨_,by simp [Go.stringish,go_sem,r_frozen,r_shape,h,hs];rfl⟩
theorem r_mayBeOne (a b:Addr):∃ x,(Go.mayBeOne a b).run P w = .ok x w:=by
 obtain ⟨x,hx⟩:=r_stringish (P:=P) (w:=w) a
 obtain ⟨y,hy⟩:=r_stringish (P:=P) (w:=w) b
 cases x <;> cases y <;> exact ⟨_,by simp [Go.mayBeOne,go_sem,hx,hy,r_shape];rfl⟩
theorem inv_sameAddr {a b:Addr} {c:Array Value} {e:TypeId} {f:Nat×Nat} (hQ:w.heap[b.block]? = some (.cells c e f)) :
  (∃ x w1,(Go.sameAddr a b).run P w = .ok x w1∧blind w1=blind w∧∀ at_ u,w.heap[a.block]?≠some (.view at_ u))∨∃ h w1,Dead h∧(Go.sameAddr a b).run P w = .halt h w1:=by
 by_cases hb:a.block=b.block
 ·refine .inl ⟨a == b,w,by simp [Go.sameAddr,go_sem,hb],rfl,?_⟩
  rw [hb,hQ]
  simp
 ·by_cases hf:w.frozen? a=true∧w.frozen? b=true
  ·refine .inr ⟨.unsupported .addressObserved,w,trivial,?_⟩
   simp [Go.sameAddr,go_sem,hb,r_frozen,hf.1,hf.2]
  ·have hf:∀ x:Prop,(w.frozen? a=true→w.frozen? b=true→x)↔True:=fun x=>⟨fun _=>trivial,fun _ h1 h2=>(hf ⟨h1,h2⟩).elim⟩
   have hf2:w.frozen? a=true→w.frozen? b=false:=fun h=>by
    cases h2:w.frozen? b
    ·rfl
    ·exact ((hf False).2 trivial h h2).elim
   rcases inv_noView (P:=P) (w:=w) a with ⟨h1,h2⟩ | ⟨h,hd,h1⟩
   ·rcases inv_noView (P:=P) (w:=w) b with ⟨h3,_⟩ | ⟨h,hd,h3⟩
    ·obtain ⟨x,hx⟩:=r_mayBeOne (P:=P) (w:=w) a b
     cases x
     ·exact .inl ⟨false,w,by simp [Go.sameAddr,go_sem,hb,r_frozen,h1,h3,hx];exact hf2,rfl,h2⟩
     ·exact .inl ⟨(Question.extern "sameAddr.stringBytes" 2).cut (w.tape w.drawn (Question.extern "sameAddr.stringBytes" 2)) == 1,w.drew,by simp [Go.sameAddr,go_sem,hb,r_frozen,h1,h3,hx,Go.choose,Sem.run,Question.forced];exact hf2,rfl,h2⟩
    ·exact .inr ⟨h,w,hd,by simp [Go.sameAddr,go_sem,hb,r_frozen,h1,h3];exact fun h1 h2=>((hf False).2 trivial h1 h2).elim⟩
   ·exact .inr ⟨h,w,hd,by simp [Go.sameAddr,go_sem,hb,r_frozen,h1];exact fun h1 h2=>((hf False).2 trivial h1 h2).elim⟩
theorem inv_ptreq {a b:Addr} {c:Array Value} {e:TypeId} {f:Nat×Nat} (hP:P.underlying tP=some (.pointer tE)) (hi:P.info? tE=some i) (h1:i.size≠0) (hQ:w.heap[b.block]? = some (.cells c e f)) :
  (∃ x w1,(Go.binOp .eql tP (.pointer (some a)) (.pointer (some b))).run P w = .ok (.bool x) w1∧blind w1=blind w∧∀ at_ u,w.heap[a.block]?≠some (.view at_ u))∨∃ h w1,Dead h∧(Go.binOp .eql tP (.pointer (some a)) (.pointer (some b))).run P w = .halt h w1:=by
 have h2:(Op.equal tP (.pointer (some a)) (.pointer (some b))).run P w=(Go.sameAddr a b).run P w:=by
  show (Op.equalIn (9999+1) tP _ _).run P w=_
  unfold Op.equalIn
  simp [go_sem,r_und hP,r_size hi,h1]
 have h3:(Go.binOp .eql tP (.pointer (some a)) (.pointer (some b))).run P w=((Go.sameAddr a b).run P w).andThen fun b w'=>.ok (.bool b) w':=by
  show ((Op.equal tP (.pointer (some a)) (.pointer (some b))).bind fun b=>Sem.pure (Value.bool b)).run P w=_
  rw [Sem.run_bind',h2]
  rfl
 rw [h3]
 rcases inv_sameAddr (P:=P) (a:=a) hQ with ⟨x,w1,h4,h5⟩ | ⟨h,w1,hd,h4⟩
 ·exact .inl ⟨x,w1,by rw [h4];rfl,h5⟩
 ·exact .inr ⟨h,w1,hd,by rw [h4];rfl⟩
theorem inv_load {a:Addr} (hI:P.underlying tI=some (.int .i64)) (hv:∀ at_ u,w.heap[a.block]?≠some (.view at_ u)) :
  (∃ v,w.cell? a=some v∧(Instr.loadAt tI (.pointer (some a))).run P w = .ok v w)∨∃ h,Dead h∧(Instr.loadAt tI (.pointer (some a))).run P w = .halt h w:=by
 have h1:(Instr.loadAt tI (.pointer (some a))).run P w=(Go.load a).run P w:=by
  simp [Instr.loadAt,Instr.sureAddr,Go.loadVar,Go.isAgg,go_sem,r_und hI]
 rw [h1]
 cases hc:w.cell? a with
 | some v=>exact .inl ⟨v,rfl,by simp [Go.load,Sem.run,hc]⟩
 | none=>
  refine .inr ?_
  have hf:w.farLoad P a (Mode.plain == .atomic) = .error (w.noCell a "load: no such cell"):=by
   unfold World.farLoad
   split
   ·rename_i at_ u hw
    exact absurd hw (hv at_ u)
   ·rfl
  refine ⟨w.noCell a "load: no such cell",?_,by simp only [Go.load,Sem.run,hc,hf]⟩
  unfold World.noCell
  split <;> trivial
end
end
section
open Go Go.Conc
def opr (dst:Nat) (op:Op):Oper:={ dst:=some dst,op,type:=0,pos:= "",after:=#[],guard:=none }
def lenOp (tS s:Nat):Op:=.call { callee:=.builtin .len,args:=#[.tmp s],argTypes:=#[tS] }
section
variable (tS tI tP s q k:Nat)
noncomputable def scanHead:Array Oper:=#[opr (k+1) (lenOp tS s),opr (k+2) (.binOp .xor tI (.tmp (k+1)) (.const (.int .i64 0)) tI),opr (k+3) (.binOp .eql tI (.tmp (k+2)) (.tmp (k+1)) tI),opr k (.move (.const (.int .i64 0)))]
noncomputable def scanTest:Array Oper:=#[opr (k+1) (lenOp tS s),opr (k+2) (.binOp .lss tI (.tmp k) (.tmp (k+1)) tI),opr (k+3) (.binOp .eql tS (.tmp s) (.const (.slice none 0 0)) tS)]
noncomputable def scanLook:Array Oper:=#[opr (k+4) (.indexAddr tS (.tmp s) (.tmp k)),opr (k+5) (.binOp .eql tP (.tmp (k+4)) (.tmp q) tP),opr (k+6) (.load tI (.tmp (k+4))),opr (k+5) (.binOp .xor tI (.tmp (k+6)) (.const (.int .i64 0)) tI),opr k (.binOp .add tI (.tmp k) (.const (.int .i64 1)) tI)]
noncomputable def scanBody:Code:=.seq (.region 101 (scanTest tS tI s k) false) (.seq (.cond (.tmp (k+2)) .skip (.exit 90)) (.seq (.cond (.tmp (k+3)) (.refuse "") .skip) (.region 102 (scanLook tS tI tP s q k) false)))
noncomputable def scan:Code:=.seq (.region 100 (scanHead tS tI s k) false) (.seq (.cond (.tmp (k+3)) .skip (.refuse "")) (.block 90 (.loop (scanBody tS tI tP s q k))))
end
variable {T:Tables} {F':Array Func}
section
variable {n0 f0:Nat} {R:Value→World→Prop} {c0:Cfg} {b:Frame} {a a':Act} {todo todo' k:List Item} {cs:List Frame} {w w1:World} {ops:Array Oper} {i:Nat} {rest:List Nat} {o:Oper} {x y:Code}
theorem At.ctl (h:At T F' n0 f0 R c0 (b.at a todo) cs w) (h':Duo T F' F') (hn0:F'[n0]? = none) (hcs:cs≠[]) (hs:stepG ⟨T,F'⟩ true (G (b.at a todo) cs) w = .go (G (b.at a' todo') cs) w):At T F' n0 f0 R c0 (b.at a' todo') cs w:=by
 have:=h.go h' hn0 hs hcs
 rwa [h.bl] at this
theorem At.val (h:At T F' n0 f0 R c0 (b.at a (.inRegion ops (i :: rest) :: k)) cs w) (h':Duo T F' F') (hn0:F'[n0]? = none) (hcs:cs≠[]) (hk:b.kind = .normal) (ho:ops[i]? = some o) (hg:o.guard=none) {v:Value}
  (hr:(execOp a.eval o).run ⟨T,F'⟩ w = .ok (.value v) w1) (hb:blind w1=blind w):At T F' n0 f0 R c0 (b.at (a.put o.dst v) (.inRegion ops rest :: k)) cs w:=by
 have:=h.value h' hn0 hcs ho (by unfold Region.wanted;rw [hg]) (by rw [hk];exact fun e=>by cases e) hr
 rwa [hb,h.bl] at this
theorem At.stop (h:At T F' n0 f0 R c0 (b.at a (.inRegion ops (i :: rest) :: k)) cs w) (h':Duo T F' F') (ho:ops[i]? = some o) (hg:o.guard=none) {hh:Halt} (hr:(execOp a.eval o).run ⟨T,F'⟩ w = .halt hh w1) (hd:Dead hh):False:=
 h.halt h' ho (by unfold Region.wanted;rw [hg]) hr hd
theorem getD_same {t:Array Value} {i:Nat} (v:Value) (h:i<t.size):(t.setIfInBounds i v).getD i undef=v:=by simp [Array.getD,h]
theorem zap {t:Array Value} {i j:Nat} (v:Value) (h:i≠j):(t.setIfInBounds i v).getD j undef=t.getD j undef:=by
 simp only [Array.getD_eq_getD_getElem?,Array.getElem?_setIfInBounds_ne h]
theorem stepG_refuse {P:Program} {s:String}:∃ o w1 es,stepG P true (G (b.at a (.code (.refuse s) :: k)) cs) w = .ended o w1 es:=⟨_,_,_,by simp [G,stepG,stepG.exec,Frame.at];exact ⟨rfl,rfl,rfl⟩⟩
end
section
variable {P:Program} {a:Act} {w:World} {d tS tI s:Nat} {x y:Operand} {op:BinOp}
theorem run_lenOp:(execOp a.eval (opr d (lenOp tS s))).run P w=((Builtin.len_ #[tS] 0 #[a.eval (.tmp s)]).run P w).andThen fun v w=>.ok (.value v) w:=by
 simp [execOp,opr,lenOp,Go.resolve,Go.invoke,Go.builtin,go_sem]
theorem run_bin (hg:(Go.eqGuard op tI x y (a.eval x) (a.eval y)).run P w = .ok () w):(execOp a.eval (opr d (.binOp op tI x y tI))).run P w=((Go.binOp op tI (a.eval x) (a.eval y)).run P w).andThen fun v w=>.ok (.value v) w:=by
 revert hg
 generalize a.eval=ρ
 intro hg
 simp [execOp,opr,go_sem,hg]
theorem guard_plain (h:op≠.eql) (h2:op≠.neq) (u v:Value):(Go.eqGuard op tI x y u v).run P w = .ok () w:=by
 cases op <;> first | exact absurd rfl h | exact absurd rfl h2 | simp [Go.eqGuard,go_sem]
theorem guard_int (k k':IntKind) (u v:Int):(Go.eqGuard op tI x y (.int k u) (.int k' v)).run P w = .ok () w:=by
 cases op <;> simp [Go.eqGuard,go_sem]
theorem guard_slice (A B:Option Addr) (m n c e:Nat):(Go.eqGuard op tI x y (.slice A m c) (.slice B n e)).run P w = .ok () w:=by
 cases op <;> simp [Go.eqGuard,go_sem]
theorem guard_ptr (A B:Option Addr):(Go.eqGuard op tI x y (.pointer A) (.pointer B)).run P w = .ok () w:=by
 cases op <;> simp [Go.eqGuard,go_sem]
theorem run_index:(execOp a.eval (opr d (.indexAddr tS x y))).run P w=((Instr.indexAt tS (a.eval x) (a.eval y)).run P w).andThen fun v w=>.ok (.value v) w:=by
 generalize a.eval=ρ
 simp [execOp,opr,go_sem]
theorem run_load:(execOp a.eval (opr d (.load tI x))).run P w=((Instr.loadAt tI (a.eval x)).run P w).andThen fun v w=>.ok (.value v) w:=by
 show ((Instr.loadAt tI (a.eval x)).bind fun v=>Sem.pure (Next.value v)).run P w=_
 rw [Sem.run_bind']
 rfl
theorem run_move:(execOp a.eval (opr d (.move x))).run P w = .ok (.value (a.eval x)) w:=by
 generalize a.eval=ρ
 simp [execOp,opr,go_sem]
end
section
variable {n0 f0:Nat} {R:Value→World→Prop} {c0:Cfg} {b:Frame} {ds:List Deferred} {rest:List Item} {cs:List Frame} {w:World} {tS tI tP tE s q k:Nat} {iI iE:TypeInfo} {Q:Addr} {cQ:Array Value} {eQ:TypeId} {fQ:Nat×Nat}
structure Kinds (P:Program) (tS tI tP tE:Nat) (iI iE:TypeInfo):Prop where
 s:P.underlying tS=some (.slice tI)
 i:P.underlying tI=some (.int .i64)
 p:P.underlying tP=some (.pointer tE)
 ii:P.info? tI=some iI
 i1:iI.size=1
 ie:P.info? tE=some iE
 e1:iE.size≠0
def NumAt (w:World) (A:Option Addr) (j:Nat):Prop:=∃ a x,A=some a∧w.cell? (a.add j)=some (.int .i64 x)
theorem put_opr {a:Act} {d:Nat} {op:Op} {v:Value}:a.put (opr d op).dst v = { a with tmps:=a.tmps.setIfInBounds d v }:=rfl
theorem scan_round (K:Kinds ⟨T,F'⟩ tS tI tP tE iI iE) (h':Duo T F' F') (hn0:F'[n0]? = none) (hcs:cs≠[]) (hbk:b.kind = .normal) (hQ:w.heap[Q.block]? = some (.cells cQ eQ fQ)) {A:Option Addr} {n c:Nat} (hn:(n:Int)<9223372036854775808)
  {t:Array Value} {j:Nat} (hsk:s<k) (hqk:q<k) (hsz:k+6<t.size) (hs:t.getD s undef = .slice A n c) (hq:t.getD q undef = .pointer (some Q)) (hj:t.getD k undef = .int .i64 (j:Int))
  (h:At T F' n0 f0 R c0 (b.at ⟨t,ds⟩ (.code (scanBody tS tI tP s q k) :: .inLoop (scanBody tS tI tP s q k) :: .inBlock 90 :: rest)) cs w) :
  (n≤j∧∃ t',t'.size=t.size∧(∀ i,i<k→t'.getD i undef=t.getD i undef)∧At T F' n0 f0 R c0 (b.at ⟨t',ds⟩ rest) cs w)∨
  (j<n∧NumAt w A j∧∃ t',t'.size=t.size∧(∀ i,i<k→t'.getD i undef=t.getD i undef)∧t'.getD k undef = .int .i64 ((j+1:Nat):Int)∧
   At T F' n0 f0 R c0 (b.at ⟨t',ds⟩ (.code (scanBody tS tI tP s q k) :: .inLoop (scanBody tS tI tP s q k) :: .inBlock 90 :: rest)) cs w):=by
 have h1:=h.ctl h' hn0 hcs stepG_seq
 have h2:At T F' n0 f0 R c0 (b.at ⟨t,ds⟩ (.inRegion (scanTest tS tI s k) [0,1,2] :: _)) cs w:=h1.ctl h' hn0 hcs stepG_region
 have e1:(Builtin.len_ #[tS] 0 #[.slice A n c]).run ⟨T,F'⟩ w = .ok (.int .i64 (n:Int)) w:=by
  rcases inv_len (v:=.slice A n c) (t:=0) (w:=w) K.s with ⟨A',n',c',e,h⟩ | ⟨x,h⟩
  ·cases e;exact h
  ·simp [Builtin.len_,go_sem,r_und K.s] at h
 have h3:=h2.val h' hn0 hcs hbk (o:=opr (k+1) (lenOp tS s)) rfl rfl (by rw [run_lenOp,show (Act.eval ⟨t,ds⟩ (.tmp s)) = .slice A n c from hs,e1];rfl) rfl
 rw [put_opr] at h3
 have v1:(t.setIfInBounds (k+1) (.int .i64 (n:Int))).getD (k+1) undef = .int .i64 (n:Int):=getD_same _ (by omega)
 have v2:(t.setIfInBounds (k+1) (.int .i64 (n:Int))).getD k undef = .int .i64 (j:Int):=(zap _ (by omega)).trans hj
 have v3:(t.setIfInBounds (k+1) (.int .i64 (n:Int))).getD s undef = .slice A n c:=(zap _ (by omega)).trans hs
 have v4:(t.setIfInBounds (k+1) (.int .i64 (n:Int))).getD q undef = .pointer (some Q):=(zap _ (by omega)).trans hq
 have v5:∀ i,i<k→(t.setIfInBounds (k+1) (.int .i64 (n:Int))).getD i undef=t.getD i undef:=fun i hi=>zap _ (by omega)
 have v6:(t.setIfInBounds (k+1) (.int .i64 (n:Int))).size=t.size:=Array.size_setIfInBounds
 simp only at h3
 generalize t.setIfInBounds (k+1) (.int .i64 (n:Int))=t1 at *
 have h4:=h3.val h' hn0 hcs hbk (o:=opr (k+2) (.binOp .lss tI (.tmp k) (.tmp (k+1)) tI)) (v:=.bool (decide ((j:Int)<n))) (w1:=w) rfl rfl (by
  rw [run_bin (guard_plain (by decide) (by decide) _ _)]
  show ((Go.binOp .lss tI (t1.getD k undef) (t1.getD (k+1) undef)).run _ w).andThen _=_
  rw [v1,v2]
  rfl) rfl
 rw [put_opr] at h4
 simp only at h4
 have u1:(t1.setIfInBounds (k+2) (.bool (decide ((j:Int)<n)))).getD (k+2) undef = .bool (decide ((j:Int)<n)):=getD_same _ (by omega)
 have u2:(t1.setIfInBounds (k+2) (.bool (decide ((j:Int)<n)))).getD k undef = .int .i64 (j:Int):=(zap _ (by omega)).trans v2
 have u3:(t1.setIfInBounds (k+2) (.bool (decide ((j:Int)<n)))).getD s undef = .slice A n c:=(zap _ (by omega)).trans v3
 have u4:(t1.setIfInBounds (k+2) (.bool (decide ((j:Int)<n)))).getD q undef = .pointer (some Q):=(zap _ (by omega)).trans v4
 have u5:∀ i,i<k→(t1.setIfInBounds (k+2) (.bool (decide ((j:Int)<n)))).getD i undef=t.getD i undef:=fun i hi=>(zap _ (by omega)).trans (v5 i hi)
 have u6:(t1.setIfInBounds (k+2) (.bool (decide ((j:Int)<n)))).size=t.size:=Array.size_setIfInBounds.trans v6
 generalize t1.setIfInBounds (k+2) (.bool (decide ((j:Int)<n)))=t2 at *
 have h5:=h4.val h' hn0 hcs hbk (o:=opr (k+3) (.binOp .eql tS (.tmp s) (.const (.slice none 0 0)) tS)) (v:=.bool A.isNone) (w1:=w) rfl rfl (by
  have e:Act.eval ⟨t2,ds⟩ (.tmp s) = .slice A n c:=u3
  rw [run_bin (by rw [e];exact guard_slice _ _ _ _ _ _),e]
  show ((Go.binOp .eql tS (.slice A n c) (.slice none 0 0)).run _ w).andThen _=_
  rw [inv_eqnil K.s]
  rfl) rfl
 rw [put_opr] at h5
 simp only at h5
 have y1:(t2.setIfInBounds (k+3) (.bool A.isNone)).getD (k+3) undef = .bool A.isNone:=getD_same _ (by omega)
 have y0:(t2.setIfInBounds (k+3) (.bool A.isNone)).getD (k+2) undef = .bool (decide ((j:Int)<n)):=(zap _ (by omega)).trans u1
 have y2:(t2.setIfInBounds (k+3) (.bool A.isNone)).getD k undef = .int .i64 (j:Int):=(zap _ (by omega)).trans u2
 have y3:(t2.setIfInBounds (k+3) (.bool A.isNone)).getD s undef = .slice A n c:=(zap _ (by omega)).trans u3
 have y4:(t2.setIfInBounds (k+3) (.bool A.isNone)).getD q undef = .pointer (some Q):=(zap _ (by omega)).trans u4
 have y5:∀ i,i<k→(t2.setIfInBounds (k+3) (.bool A.isNone)).getD i undef=t.getD i undef:=fun i hi=>(zap _ (by omega)).trans (u5 i hi)
 have y6:(t2.setIfInBounds (k+3) (.bool A.isNone)).size=t.size:=Array.size_setIfInBounds.trans u6
 generalize t2.setIfInBounds (k+3) (.bool A.isNone)=t3 at *
 have h6:=(h5.ctl h' hn0 hcs stepG_region_end).ctl h' hn0 hcs stepG_seq
 have h7:=h6.ctl h' hn0 hcs (stepG_cond (t:=decide ((j:Int)<n)) y0)
 by_cases hjn:j<n
 ·have hd:decide ((j:Int)<n)=true:=by simp;omega
  rw [hd] at h7
  simp only [if_true] at h7
  have h8:=((h7.ctl h' hn0 hcs stepG_skip).ctl h' hn0 hcs stepG_seq).ctl h' hn0 hcs (stepG_cond (t:=A.isNone) y1)
  cases A with
  | none=>
   exfalso
   simp only [Option.isNone,if_true] at h8
   obtain ⟨o,w1,es,hh⟩:=stepG_refuse (P:=⟨T,F'⟩) (b:=b) (a:=⟨t3,ds⟩) (k:=.code (.region 102 (scanLook tS tI tP s q k) false) :: .inLoop (scanBody tS tI tP s q k) :: .inBlock 90 :: rest) (cs:=cs) (w:=w) (s:= "")
   exact h8.dead hh
  | some ad=>
   simp only [Option.isNone,Bool.false_eq_true,if_false] at h8
   have h9:At T F' n0 f0 R c0 (b.at ⟨t3,ds⟩ (.inRegion (scanLook tS tI tP s q k) [0,1,2,3,4] :: _)) cs w:=(h8.ctl h' hn0 hcs stepG_skip).ctl h' hn0 hcs stepG_region
   have h10:=h9.val h' hn0 hcs hbk (o:=opr (k+4) (.indexAddr tS (.tmp s) (.tmp k))) (v:=.pointer (some (ad.add j))) (w1:=w) rfl rfl (by
    rw [run_index]
    show ((Instr.indexAt tS (t3.getD s undef) (t3.getD k undef)).run _ w).andThen _=_
    rw [y3,y2,inv_index K.s K.ii K.i1 hjn]
    rfl) rfl
   rw [put_opr] at h10
   simp only at h10
   have z0:(t3.setIfInBounds (k+4) (.pointer (some (ad.add j)))).getD (k+4) undef = .pointer (some (ad.add j)):=getD_same _ (by omega)
   have z2:(t3.setIfInBounds (k+4) (.pointer (some (ad.add j)))).getD k undef = .int .i64 (j:Int):=(zap _ (by omega)).trans y2
   have z4:(t3.setIfInBounds (k+4) (.pointer (some (ad.add j)))).getD q undef = .pointer (some Q):=(zap _ (by omega)).trans y4
   have z5:∀ i,i<k→(t3.setIfInBounds (k+4) (.pointer (some (ad.add j)))).getD i undef=t.getD i undef:=fun i hi=>(zap _ (by omega)).trans (y5 i hi)
   have z6:(t3.setIfInBounds (k+4) (.pointer (some (ad.add j)))).size=t.size:=Array.size_setIfInBounds.trans y6
   generalize t3.setIfInBounds (k+4) (.pointer (some (ad.add j)))=t4 at *
   have eq1:∀ w,(execOp (Act.eval ⟨t4,ds⟩) (opr (k+5) (.binOp .eql tP (.tmp (k+4)) (.tmp q) tP))).run ⟨T,F'⟩ w=((Go.binOp .eql tP (.pointer (some (ad.add j))) (.pointer (some Q))).run ⟨T,F'⟩ w).andThen fun v w=>.ok (.value v) w:=fun w=>by
    have e1:Act.eval ⟨t4,ds⟩ (.tmp (k+4)) = .pointer (some (ad.add j)):=z0
    have e2:Act.eval ⟨t4,ds⟩ (.tmp q) = .pointer (some Q):=z4
    rw [run_bin (by rw [e1,e2];exact guard_ptr _ _),e1,e2]
   rcases inv_ptreq (a:=ad.add j) (b:=Q) (P:=⟨T,F'⟩) (w:=w) K.p K.ie K.e1 hQ with ⟨x,w1,hr,hb,hv⟩ | ⟨hh,w1,hd1,hr⟩
   rotate_left
   ·exact (h10.stop h' (o:=opr (k+5) (.binOp .eql tP (.tmp (k+4)) (.tmp q) tP)) rfl rfl (hh:=hh) (w1:=w1) (by rw [eq1,hr];rfl) hd1).elim
   have h11:=h10.val h' hn0 hcs hbk (o:=opr (k+5) (.binOp .eql tP (.tmp (k+4)) (.tmp q) tP)) (v:=.bool x) (w1:=w1) rfl rfl (by rw [eq1,hr];rfl) hb
   rw [put_opr] at h11
   simp only at h11
   have a0:(t4.setIfInBounds (k+5) (.bool x)).getD (k+4) undef = .pointer (some (ad.add j)):=(zap _ (by omega)).trans z0
   have a2:(t4.setIfInBounds (k+5) (.bool x)).getD k undef = .int .i64 (j:Int):=(zap _ (by omega)).trans z2
   have a5:∀ i,i<k→(t4.setIfInBounds (k+5) (.bool x)).getD i undef=t.getD i undef:=fun i hi=>(zap _ (by omega)).trans (z5 i hi)
   have a6:(t4.setIfInBounds (k+5) (.bool x)).size=t.size:=Array.size_setIfInBounds.trans z6
   generalize t4.setIfInBounds (k+5) (.bool x)=t5 at *
   have eq2:(execOp (Act.eval ⟨t5,ds⟩) (opr (k+6) (.load tI (.tmp (k+4))))).run ⟨T,F'⟩ w=((Instr.loadAt tI (.pointer (some (ad.add j)))).run ⟨T,F'⟩ w).andThen fun v w=>.ok (.value v) w:=by
    rw [run_load,show Act.eval ⟨t5,ds⟩ (.tmp (k+4)) = .pointer (some (ad.add j)) from a0]
   rcases inv_load (P:=⟨T,F'⟩) K.i hv with ⟨v,hc,hr2⟩ | ⟨hh,hd1,hr2⟩
   rotate_left
   ·exact (h11.stop h' (o:=opr (k+6) (.load tI (.tmp (k+4)))) rfl rfl (hh:=hh) (w1:=w) (by rw [eq2,hr2];rfl) hd1).elim
   have h12:=h11.val h' hn0 hcs hbk (o:=opr (k+6) (.load tI (.tmp (k+4)))) (v:=v) (w1:=w) rfl rfl (by rw [eq2,hr2];rfl) rfl
   rw [put_opr] at h12
   simp only at h12
   have b0:(t5.setIfInBounds (k+6) v).getD (k+6) undef=v:=getD_same _ (by omega)
   have b2:(t5.setIfInBounds (k+6) v).getD k undef = .int .i64 (j:Int):=(zap _ (by omega)).trans a2
   have b5:∀ i,i<k→(t5.setIfInBounds (k+6) v).getD i undef=t.getD i undef:=fun i hi=>(zap _ (by omega)).trans (a5 i hi)
   have b6:(t5.setIfInBounds (k+6) v).size=t.size:=Array.size_setIfInBounds.trans a6
   generalize t5.setIfInBounds (k+6) v=t6 at *
   have eq3:(execOp (Act.eval ⟨t6,ds⟩) (opr (k+5) (.binOp .xor tI (.tmp (k+6)) (.const (.int .i64 0)) tI))).run ⟨T,F'⟩ w=((Go.binOp .xor tI v (.int .i64 0)).run ⟨T,F'⟩ w).andThen fun v w=>.ok (.value v) w:=by
    rw [run_bin (guard_plain (by decide) (by decide) _ _),show Act.eval ⟨t6,ds⟩ (.tmp (k+6))=v from b0]
    rfl
   rcases inv_xor (P:=⟨T,F'⟩) (w:=w) (tI:=tI) (v:=v) with ⟨x2,rfl,m,hr3⟩ | ⟨hh,hd1,hr3⟩
   rotate_left
   ·exact (h12.stop h' (o:=opr (k+5) (.binOp .xor tI (.tmp (k+6)) (.const (.int .i64 0)) tI)) rfl rfl (hh:=hh) (w1:=w) (by rw [eq3,hr3];rfl) hd1).elim
   have h13:=h12.val h' hn0 hcs hbk (o:=opr (k+5) (.binOp .xor tI (.tmp (k+6)) (.const (.int .i64 0)) tI)) (v:=.int .i64 m) (w1:=w) rfl rfl (by rw [eq3,hr3];rfl) rfl
   rw [put_opr] at h13
   simp only at h13
   have d2:(t6.setIfInBounds (k+5) (.int .i64 m)).getD k undef = .int .i64 (j:Int):=(zap _ (by omega)).trans b2
   have d5:∀ i,i<k→(t6.setIfInBounds (k+5) (.int .i64 m)).getD i undef=t.getD i undef:=fun i hi=>(zap _ (by omega)).trans (b5 i hi)
   have d6:(t6.setIfInBounds (k+5) (.int .i64 m)).size=t.size:=Array.size_setIfInBounds.trans b6
   generalize t6.setIfInBounds (k+5) (.int .i64 m)=t7 at *
   have hwr:IntKind.i64.wrap ((j:Int)+1)=((j+1:Nat):Int):=by rw [IntKind.wrap_i64];omega
   have h14:=h13.val h' hn0 hcs hbk (o:=opr k (.binOp .add tI (.tmp k) (.const (.int .i64 1)) tI)) (v:=.int .i64 ((j+1:Nat):Int)) (w1:=w) rfl rfl (by
    rw [run_bin (guard_plain (by decide) (by decide) _ _),show Act.eval ⟨t7,ds⟩ (.tmp k) = .int .i64 (j:Int) from d2,← hwr]
    rfl) rfl
   rw [put_opr] at h14
   simp only at h14
   exact .inr ⟨hjn,⟨ad,x2,rfl,hc⟩,_,Array.size_setIfInBounds.trans d6,fun i hi=>(zap _ (by omega)).trans (d5 i hi),getD_same _ (by omega),(h14.ctl h' hn0 hcs stepG_region_end).ctl h' hn0 hcs stepG_inLoop⟩
 ·have hd:decide ((j:Int)<n)=false:=by simp;omega
  rw [hd] at h7
  simp only [Bool.false_eq_true,if_false] at h7
  have h8:=h7.ctl h' hn0 hcs (stepG_exit (k':=rest) rfl)
  exact .inl ⟨by omega,t3,y6,y5,h8⟩
theorem scan_loop (K:Kinds ⟨T,F'⟩ tS tI tP tE iI iE) (h':Duo T F' F') (hn0:F'[n0]? = none) (hcs:cs≠[]) (hbk:b.kind = .normal) (hQ:w.heap[Q.block]? = some (.cells cQ eQ fQ)) {A:Option Addr} {n c:Nat} (hn:(n:Int)<9223372036854775808) (hsk:s<k) (hqk:q<k) :
  ∀ (m:Nat) {t:Array Value} {j:Nat},n - j=m→j≤n→k+6<t.size→t.getD s undef = .slice A n c→t.getD q undef = .pointer (some Q)→t.getD k undef = .int .i64 (j:Int)→(∀ i,i<j→NumAt w A i)→
   At T F' n0 f0 R c0 (b.at ⟨t,ds⟩ (.code (scanBody tS tI tP s q k) :: .inLoop (scanBody tS tI tP s q k) :: .inBlock 90 :: rest)) cs w→
   (∀ i,i<n→NumAt w A i)∧∃ t',t'.size=t.size∧(∀ i,i<k→t'.getD i undef=t.getD i undef)∧At T F' n0 f0 R c0 (b.at ⟨t',ds⟩ rest) cs w:=by
 intro m
 induction m with
 | zero=>
  intro t j hm hjn hsz hs hq hj hnum h
  rcases scan_round K h' hn0 hcs hbk hQ hn hsk hqk hsz hs hq hj h with ⟨h1,h2⟩ | ⟨h1,_⟩
  ·exact ⟨fun i hi=>hnum i (by omega),h2⟩
  ·omega
 | succ m ih=>
  intro t j hm hjn hsz hs hq hj hnum h
  rcases scan_round K h' hn0 hcs hbk hQ hn hsk hqk hsz hs hq hj h with ⟨h1,_⟩ | ⟨h1,h2,t',h3,h4,h5,h6⟩
  ·omega
  ·obtain ⟨h7,t2,h8,h9,h10⟩:=ih (t:=t') (j:=j+1) (by omega) (by omega) (by omega) ((h4 s hsk).trans hs) ((h4 q hqk).trans hq) h5 (fun i hi=>by
    rcases Nat.lt_or_ge i j with h | h
    ·exact hnum i h
    ·obtain rfl:i=j:=by omega
     exact h2) h6
   exact ⟨h7,t2,h8.trans h3,fun i hi=>(h9 i hi).trans (h4 i hi),h10⟩
theorem scan_inv (K : Kinds ⟨T, F'⟩ tS tI tP tE iI iE) (h' : Duo T F' F') (hn0 : F'[n0]? = none) (hcs : cs ≠ []) (hbk : b.kind = .normal) (hQ : w.heap[Q.block]? = some (.cells cQ eQ fQ)) (hsk : s < k) (hqk : q < k) {t : Array Value} (hsz : k + 6 < t.size) (hq : t.getD q undef = .pointer (some Q))
    (h : At T F' n0 f0 R c0 (b.at ⟨t, ds⟩ (.code (scan tS tI tP s q k) :: rest)) cs w) :
    ∃ A n c, t.getD s undef = .slice A n c ∧ (n : Int) < 9223372036854775808 ∧ (∀ i, i < n → NumAt w A i) ∧ ∃ t', t'.size = t.size ∧ (∀ i, i < k → t'.getD i undef = t.getD i undef) ∧ At T F' n0 f0 R c0 (b.at ⟨t', ds⟩ rest) cs w := by
  have h1 := h.ctl h' hn0 hcs stepG_seq
  have h2 : At T F' n0 f0 R c0 (b.at ⟨t, ds⟩ (.inRegion (scanHead tS tI s k) [0, 1, 2, 3] :: _)) cs w := h1.ctl h' hn0 hcs stepG_region
  have eq0 : (execOp (Act.eval ⟨t, ds⟩) (opr (k + 1) (lenOp tS s))).run ⟨T, F'⟩ w = ((Builtin.len_ #[tS] 0 #[t.getD s undef]).run ⟨T, F'⟩ w).andThen fun v w => .ok (.value v) w := by
    rw [run_lenOp]
    rfl
  rcases inv_len (v := t.getD s undef) (t := 0) (w := w) K.s with ⟨A, n, c, hs, hr⟩ | ⟨x, hr⟩
  rotate_left
  · exact (h2.stop h' (o := opr (k + 1) (lenOp tS s)) rfl rfl (hh := .stuck x) (w1 := w) (by rw [eq0, hr]; rfl) trivial).elim
  have h3 := h2.val h' hn0 hcs hbk (o := opr (k + 1) (lenOp tS s)) (v := .int .i64 (n : Int)) (w1 := w) rfl rfl (by rw [eq0, hr]; rfl) rfl
  rw [put_opr] at h3
  simp only at h3
  have v1 : (t.setIfInBounds (k + 1) (.int .i64 (n : Int))).getD (k + 1) undef = .int .i64 (n : Int) := getD_same _ (by omega)
  have v5 : ∀ i, i < k → (t.setIfInBounds (k + 1) (.int .i64 (n : Int))).getD i undef = t.getD i undef := fun i hi => zap _ (by omega)
  have v6 : (t.setIfInBounds (k + 1) (.int .i64 (n : Int))).size = t.size := Array.size_setIfInBounds
  generalize t.setIfInBounds (k + 1) (.int .i64 (n : Int)) = t1 at *
  obtain ⟨m, hm, hmb⟩ : ∃ m, (Go.binOp .xor tI (.int .i64 (n : Int)) (.int .i64 0)).run ⟨T, F'⟩ w = .ok (.int .i64 m) w ∧ m < 9223372036854775808 := ⟨_, rfl, by
    show IntKind.i64.wrap _ < _
    rw [IntKind.wrap_i64]
    omega⟩
  have h4 := h3.val h' hn0 hcs hbk (o := opr (k + 2) (.binOp .xor tI (.tmp (k + 1)) (.const (.int .i64 0)) tI)) (v := .int .i64 m) (w1 := w) rfl rfl (by
    rw [run_bin (guard_plain (by decide) (by decide) _ _), show Act.eval ⟨t1, ds⟩ (.tmp (k + 1)) = .int .i64 (n : Int) from v1]
    show ((Go.binOp .xor tI (.int .i64 (n : Int)) (.int .i64 0)).run _ w).andThen _ = _
    rw [hm]
    rfl) rfl
  rw [put_opr] at h4
  simp only at h4
  have u0 : (t1.setIfInBounds (k + 2) (.int .i64 m)).getD (k + 2) undef = .int .i64 m := getD_same _ (by omega)
  have u1 : (t1.setIfInBounds (k + 2) (.int .i64 m)).getD (k + 1) undef = .int .i64 (n : Int) := (zap _ (by omega)).trans v1
  have u5 : ∀ i, i < k → (t1.setIfInBounds (k + 2) (.int .i64 m)).getD i undef = t.getD i undef := fun i hi => (zap _ (by omega)).trans (v5 i hi)
  have u6 : (t1.setIfInBounds (k + 2) (.int .i64 m)).size = t.size := Array.size_setIfInBounds.trans v6
  generalize t1.setIfInBounds (k + 2) (.int .i64 m) = t2 at *
  have h5 := h4.val h' hn0 hcs hbk (o := opr (k + 3) (.binOp .eql tI (.tmp (k + 2)) (.tmp (k + 1)) tI)) (v := .bool (m == (n : Int))) (w1 := w) rfl rfl (by
    rw [run_bin (by rw [show Act.eval ⟨t2, ds⟩ (.tmp (k + 2)) = .int .i64 m from u0, show Act.eval ⟨t2, ds⟩ (.tmp (k + 1)) = .int .i64 (n : Int) from u1]; exact guard_int _ _ _ _), show Act.eval ⟨t2, ds⟩ (.tmp (k + 2)) = .int .i64 m from u0, show Act.eval ⟨t2, ds⟩ (.tmp (k + 1)) = .int .i64 (n : Int) from u1]
    rfl) rfl
  rw [put_opr] at h5
  simp only at h5
  have y0 : (t2.setIfInBounds (k + 3) (.bool (m == (n : Int)))).getD (k + 3) undef = .bool (m == (n : Int)) := getD_same _ (by omega)
  have y5 : ∀ i, i < k → (t2.setIfInBounds (k + 3) (.bool (m == (n : Int)))).getD i undef = t.getD i undef := fun i hi => (zap _ (by omega)).trans (u5 i hi)
  have y6 : (t2.setIfInBounds (k + 3) (.bool (m == (n : Int)))).size = t.size := Array.size_setIfInBounds.trans u6
  generalize t2.setIfInBounds (k + 3) (.bool (m == (n : Int))) = t3 at *
  have h6 := h5.val h' hn0 hcs hbk (o := opr k (.move (.const (.int .i64 0)))) (v := .int .i64 ((0 : Nat) : Int)) (w1 := w) rfl rfl (by rw [run_move]; rfl) rfl
  rw [put_opr] at h6
  simp only at h6
  have x0 : (t3.setIfInBounds k (.int .i64 ((0 : Nat) : Int))).getD k undef = .int .i64 ((0 : Nat) : Int) := getD_same _ (by omega)
  have x1 : (t3.setIfInBounds k (.int .i64 ((0 : Nat) : Int))).getD (k + 3) undef = .bool (m == (n : Int)) := (zap _ (by omega)).trans y0
  have x5 : ∀ i, i < k → (t3.setIfInBounds k (.int .i64 ((0 : Nat) : Int))).getD i undef = t.getD i undef := fun i hi => (zap _ (by omega)).trans (y5 i hi)
  have x6 : (t3.setIfInBounds k (.int .i64 ((0 : Nat) : Int))).size = t.size := Array.size_setIfInBounds.trans y6
  generalize t3.setIfInBounds k (.int .i64 ((0 : Nat) : Int)) = t4 at *
  have h7 := ((h6.ctl h' hn0 hcs stepG_region_end).ctl h' hn0 hcs stepG_seq).ctl h' hn0 hcs (stepG_cond (t := (m == (n : Int))) x1)
  cases hmn : (m == (n : Int)) with
  | false =>
    exfalso
    rw [hmn] at h7
    simp only [Bool.false_eq_true, if_false] at h7
    obtain ⟨o, w1, es, hh⟩ := stepG_refuse (P := ⟨T, F'⟩) (b := b) (a := ⟨t4, ds⟩) (k := .code (.block 90 (.loop (scanBody tS tI tP s q k))) :: rest) (cs := cs) (w := w) (s := "")
    exact h7.dead hh
  | true =>
    rw [hmn] at h7
    simp only [if_true] at h7
    have hn : (n : Int) < 9223372036854775808 := by have : m = (n : Int) := by simpa using hmn
                                                    omega
    have h8 := ((h7.ctl h' hn0 hcs stepG_skip).ctl h' hn0 hcs stepG_block).ctl h' hn0 hcs stepG_loop
    obtain ⟨h9, t', h10, h11, h12⟩ := scan_loop K h' hn0 hcs hbk hQ hn hsk hqk n (j := 0) (by omega) (by omega) (by omega) ((x5 s hsk).trans hs) ((x5 q hqk).trans hq) x0 (fun i hi => by omega) h8
    exact ⟨A, n, c, hs, hn, h9, t', h10.trans x6, fun i hi => (h11 i hi).trans (x5 i hi), h12⟩
end
end
section
open Go Go.Conc Go.RowKit
structure ShIds where
 tS:Nat
 tI:Nat
 tF:Nat
 tW:Nat
 tP:Nat
 ok:Nat
inductive Mk where
 | plus
 | minus
 | snd
def Mk.ops (m:Mk) (tI x y z:Nat):List Oper:=match m with
 | .plus=>[opr z (.binOp .add tI (.tmp x) (.tmp y) tI),opr z (.move (.tmp z)),opr z (.binOp .rem tI (.tmp z) (.const (.int .i64 31)) tI)]
 | .minus=>[opr z (.binOp .sub tI (.tmp x) (.tmp y) tI),opr z (.binOp .add tI (.tmp z) (.const (.int .i64 31)) tI),opr z (.binOp .rem tI (.tmp z) (.const (.int .i64 31)) tI)]
 | .snd=>[opr z (.move (.tmp y)),opr z (.move (.tmp z)),opr z (.move (.tmp z))]
def Mk.val (m:Mk) (x y:Int):Int:=match m with
 | .plus=>(x+y) % 31
 | .minus=>(x - y+31) % 31
 | .snd=>y
def opn (op:Op):Oper:={ dst:=none,op,type:=0,pos:= "",after:=#[],guard:=none }
section
variable (I:ShIds) (mk:Value) (m:Mk) (o r k:Nat)
noncomputable def eachBoxes:Code:=.region 0 #[opr k (.box I.tS (.tmp 0)),opr (k+1) (.box I.tS (.tmp 1)),opr (k+2) (.box I.tF (.const mk)),opr o (.move (.const (.slice none 0 0))),opr r (.move (.const (.bool false)))] false
noncomputable def eachOps:Array Oper:=([opr (k+13) (.indexAddr I.tS (.tmp 0) (.tmp (k+10))),opr (k+14) (.load I.tI (.tmp (k+13))),opr (k+15) (.indexAddr I.tS (.tmp 1) (.tmp (k+10))),opr (k+16) (.load I.tI (.tmp (k+15)))]++m.ops I.tI (k+14) (k+16) (k+17)++[opr (k+18) (.indexAddr I.tS (.tmp (k+7)) (.tmp (k+10))),opn (.store I.tI (.tmp (k+18)) (.tmp (k+17))),opr (k+12) (.box I.tI (.tmp (k+10))),opr (k+10) (.binOp .add I.tI (.tmp (k+10)) (.const (.int .i64 1)) I.tI)]).toArray
noncomputable def eachRound:Code:=.region 7 (eachOps I m k) false
noncomputable def eachTest:Array Oper:=#[opr (k+11) (.binOp .lss I.tI (.tmp (k+10)) (.tmp (k+4)) I.tI)]
noncomputable def eachLoopBody:Code:=.seq (.region 6 (eachTest I k) false) (.seq (.cond (.tmp (k+11)) .skip (.exit 81)) (eachRound I m k))
noncomputable def eachLoop:Code:=.block 81 (.loop (eachLoopBody I m k))
noncomputable def eachRest:Code:=
 .block 80 (.seq (.region 1 #[opr (k+3) (.call { callee:=.value (.func I.ok),args:=#[.tmp 0],argTypes:=#[I.tS] })] false)
 (.seq (.cond (.tmp (k+3)) .skip (.exit 80))
 (.seq (.region 2 #[opr (k+3) (.call { callee:=.value (.func I.ok),args:=#[.tmp 1],argTypes:=#[I.tS] })] false)
 (.seq (.cond (.tmp (k+3)) .skip (.exit 80))
 (.seq (.region 3 #[opr (k+4) (lenOp I.tS 0),opr (k+5) (lenOp I.tS 1),opr (k+6) (.binOp .neq I.tI (.tmp (k+4)) (.tmp (k+5)) I.tI)] false)
 (.seq (.cond (.tmp (k+6)) (.exit 80) .skip)
 (.seq (.region 4 #[opr (k+7) (.makeSlice I.tS (.tmp (k+4)) (.tmp (k+4))),opr (k+8) (.box I.tS (.tmp (k+7))),opr (k+9) (.box I.tW (.const (.agg #[]))),opr (k+10) (.move (.const (.int .i64 0)))] false)
 (.seq (eachLoop I m k)
 (.region 5 #[opr o (.move (.tmp (k+7))),opr r (.move (.const (.bool true)))] false)))))))))
noncomputable def eachCode (look:Bool):Code:=.seq (eachBoxes I mk o r k) (if look then .seq (scan I.tS I.tI I.tP 0 k (k+19)) (.seq (scan I.tS I.tI I.tP 1 k (k+19)) (eachRest I m o r k)) else eachRest I m o r k)
end
end
section
open Go Go.Conc Go.RowKit
def Row (W:World) (A:Option Addr) (l:List Int):Prop:=∀ j,j<l.length→∃ ad,A=some ad∧W.cell? (ad.add j)=some (.int .i64 (l.getD j 0))
def Ru (P:Program) (Goal:Frame→List Frame→World→Prop) (fr:Frame) (cs:List Frame) (w:World):Prop:=∃ n fr' cs' w',runN P n (lone fr cs w) = .next (lone fr' cs' w')∧Goal fr' cs' w'
section
variable {P:Program} {Goal:Frame→List Frame→World→Prop} {b:Frame} {cs:List Frame} {w:World}
theorem Ru.step {fr fr1:Frame} {cs1:List Frame} {w1:World} {es:Array Event} (hs:stepG P true (G fr cs) w = .go (G fr1 cs1) w1 es) (h:Ru P Goal fr1 cs1 w1):Ru P Goal fr cs w:=by
 obtain ⟨n,fr',cs',w',hn,hg⟩:=h
 have:=step_of_go hs rfl rfl rfl
 exact ⟨n+1,fr',cs',w',by simp only [runN,this];exact hn,hg⟩
theorem Ru.stop {fr:Frame} (h:Goal fr cs w):Ru P Goal fr cs w:=⟨0,fr,cs,w,rfl,h⟩
structure Tm (n:Nat) (t:Array Value) (f:Nat→Value):Prop where
 size:t.size=n
 get:∀ i,t.getD i undef=f i
def putF (f:Nat→Value) (d:Nat) (v:Value):Nat→Value:=fun i=>if i=d then v else f i
theorem putF_same {f:Nat→Value} {d:Nat} {v:Value}:putF f d v d=v:=if_pos rfl
theorem zad {f:Nat→Value} {d i:Nat} {v:Value} (h:i≠d):putF f d v i=f i:=if_neg h
theorem Tm.put {n:Nat} {t:Array Value} {f:Nat→Value} (h:Tm n t f) {d:Nat} (hd:d<n) (v:Value):Tm n (t.setIfInBounds d v) (putF f d v):=by
 refine ⟨Array.size_setIfInBounds.trans h.size,fun i=>?_⟩
 by_cases e:i=d
 ·subst e
  rw [getD_same _ (by rw [h.size];exact hd),putF_same]
 ·rw [zap _ (Ne.symm e),zad e]
  exact h.get i
variable {n:Nat} {t:Array Value} {f:Nat→Value} {ds:List Deferred} {k:List Item} {ops:Array Oper} {i:Nat} {rest:List Nat} {d:Nat} {op:Op} {v:Value} {w1:World}
theorem Ru.opv (hT:Tm n t f) (hbk:b.kind = .normal) (ho:ops[i]? = some (opr d op)) (hd:d<n) (hr:(execOp (Act.eval ⟨t,ds⟩) (opr d op)).run P w = .ok (.value v) w1)
  (h:∀ t',Tm n t' (putF f d v)→Ru P Goal (b.at ⟨t',ds⟩ (.inRegion ops rest :: k)) cs w1):Ru P Goal (b.at ⟨t,ds⟩ (.inRegion ops (i :: rest) :: k)) cs w:=
 Ru.step (stepG_value ho rfl (by rw [hbk];exact fun e=>by cases e) hr) (h _ (hT.put hd v))
theorem zay (hT:Tm n t f) (s:Nat):Act.eval ⟨t,ds⟩ (.tmp s)=f s:=hT.get s
variable {tS tI s x y:Nat} {A:Option Addr} {m c:Nat}
theorem Ru.len (hT:Tm n t f) (hbk:b.kind = .normal) (hS:P.underlying tS=some (.slice tI)) (ho:ops[i]? = some (opr d (lenOp tS s))) (hd:d<n) (hs:f s = .slice A m c)
  (h:∀ t',Tm n t' (putF f d (.int .i64 (m:Int)))→Ru P Goal (b.at ⟨t',ds⟩ (.inRegion ops rest :: k)) cs w):Ru P Goal (b.at ⟨t,ds⟩ (.inRegion ops (i :: rest) :: k)) cs w:=by
 refine Ru.opv hT hbk ho hd ?_ h
 rw [run_lenOp,zay hT,hs]
 rcases inv_len (v:=.slice A m c) (t:=0) (w:=w) hS with ⟨A',n',c',e,h⟩ | ⟨x,h⟩
 ·cases e
  rw [h]
  rfl
 ·simp [Builtin.len_,go_sem,r_und hS] at h
theorem Ru.bin {op:BinOp} {a0 b0:Int} {X Y:Operand} (hT:Tm n t f) (hbk:b.kind = .normal) (ho:ops[i]? = some (opr d (.binOp op tI X Y tI))) (hd:d<n) (hx:Act.eval ⟨t,ds⟩ X = .int .i64 a0) (hy:Act.eval ⟨t,ds⟩ Y = .int .i64 b0)
  (hr:(Go.binOp op tI (.int .i64 a0) (.int .i64 b0)).run P w = .ok v w) (h:∀ t',Tm n t' (putF f d v)→Ru P Goal (b.at ⟨t',ds⟩ (.inRegion ops rest :: k)) cs w):Ru P Goal (b.at ⟨t,ds⟩ (.inRegion ops (i :: rest) :: k)) cs w:=by
 refine Ru.opv hT hbk ho hd ?_ h
 rw [run_bin (by rw [hx,hy];exact guard_int _ _ _ _),hx,hy,hr]
 rfl
theorem Ru.move {X:Operand} (hT:Tm n t f) (hbk:b.kind = .normal) (ho:ops[i]? = some (opr d (.move X))) (hd:d<n) (hx:Act.eval ⟨t,ds⟩ X=v)
  (h:∀ t',Tm n t' (putF f d v)→Ru P Goal (b.at ⟨t',ds⟩ (.inRegion ops rest :: k)) cs w):Ru P Goal (b.at ⟨t,ds⟩ (.inRegion ops (i :: rest) :: k)) cs w:=
 Ru.opv hT hbk ho hd (by rw [run_move,hx]) h
theorem run_box {ρ:Operand→Value} {e:Nat} {X:Operand}:(execOp ρ (opr d (.box e X))).run P w = .ok (.value (.pointer (some ⟨w.heap.size,0,none⟩))) (w.alloc (.cells (ρ X).cells e)):=by
 show ((Instr.box e (ρ X)).bind fun v=>Sem.pure (Next.value v)).run P w=_
 rw [Sem.run_bind']
 rfl
theorem Ru.box {e:Nat} {X:Operand} (hT:Tm n t f) (hbk:b.kind = .normal) (ho:ops[i]? = some (opr d (.box e X))) (hd:d<n) (hx:Act.eval ⟨t,ds⟩ X=v)
  (h:∀ t',Tm n t' (putF f d (.pointer (some ⟨w.heap.size,0,none⟩)))→Ru P Goal (b.at ⟨t',ds⟩ (.inRegion ops rest :: k)) cs (w.alloc (.cells v.cells e))):Ru P Goal (b.at ⟨t,ds⟩ (.inRegion ops (i :: rest) :: k)) cs w:=
 Ru.opv hT hbk ho hd (by rw [run_box,hx]) h
theorem Ru.index {iI:TypeInfo} {ad:Addr} {j:Nat} (hT:Tm n t f) (hbk:b.kind = .normal) (hS:P.underlying tS=some (.slice tI)) (hi:P.info? tI=some iI) (h1:iI.size=1) (ho:ops[i]? = some (opr d (.indexAddr tS (.tmp x) (.tmp y)))) (hd:d<n) (hx:f x = .slice (some ad) m c) (hy:f y = .int .i64 (j:Int)) (hj:j<m)
  (h:∀ t',Tm n t' (putF f d (.pointer (some (ad.add j))))→Ru P Goal (b.at ⟨t',ds⟩ (.inRegion ops rest :: k)) cs w):Ru P Goal (b.at ⟨t,ds⟩ (.inRegion ops (i :: rest) :: k)) cs w:=
 Ru.opv hT hbk ho hd (by rw [run_index,zay hT,zay hT,hx,hy,inv_index hS hi h1 hj];rfl) h
theorem Ru.load {ad:Addr} (hT:Tm n t f) (hbk:b.kind = .normal) (hI:P.underlying tI=some (.int .i64)) (ho:ops[i]? = some (opr d (.load tI (.tmp x)))) (hd:d<n) (hx:f x = .pointer (some ad)) (hc:w.cell? ad=some v)
  (h:∀ t',Tm n t' (putF f d v)→Ru P Goal (b.at ⟨t',ds⟩ (.inRegion ops rest :: k)) cs w):Ru P Goal (b.at ⟨t,ds⟩ (.inRegion ops (i :: rest) :: k)) cs w:=by
 refine Ru.opv hT hbk ho hd ?_ h
 rw [run_load,zay hT,hx]
 have h1:(Instr.loadAt tI (.pointer (some ad))).run P w=(Go.load ad).run P w:=by
  simp [Instr.loadAt,Instr.sureAddr,Go.loadVar,Go.isAgg,go_sem,r_und hI]
 rw [h1]
 simp [Go.load,Sem.run,hc]
theorem Ru.make {iI:TypeInfo} (hT:Tm n t f) (hbk:b.kind = .normal) (hS:P.underlying tS=some (.slice tI)) (hi:P.info? tI=some iI) (h1:iI.size=1) (h8:iI.bytes=8) (hz:iI.zero=some (.int .i64 0)) (ho:ops[i]? = some (opr d (.makeSlice tS (.tmp x) (.tmp x)))) (hd:d<n) (hx:f x = .int .i64 (m:Int)) (hm:m≤20)
  (h:∀ t',Tm n t' (putF f d (.slice (some ⟨w.heap.size,0,none⟩) m m))→Ru P Goal (b.at ⟨t',ds⟩ (.inRegion ops rest :: k)) cs (w.alloc (.cells (madeCells #[.int .i64 0] m) tI))):Ru P Goal (b.at ⟨t,ds⟩ (.inRegion ops (i :: rest) :: k)) cs w:=by
 refine Ru.opv hT hbk ho hd ?_ h
 show ((Instr.makeSlice tS (Act.eval ⟨t,ds⟩ (.tmp x)) (Act.eval ⟨t,ds⟩ (.tmp x))).bind fun v=>Sem.pure (Next.value v)).run P w=_
 rw [Sem.run_bind',zay hT,hx,run_make (P:=P) w tS tI iI (.int .i64 0) hS hi hz .i64 .i64 m m (by omega) (by omega) (by rw [h8];omega) (by omega),h1]
 simp only [Int.toNat_natCast,Nat.mul_one]
 rfl
theorem Ru.store {a0:Int} {ad:Addr} {u:Value} (hT:Tm n t f) (hbk:b.kind = .normal) {iI:TypeInfo} (hi:P.info? tI=some iI) (h1:iI.size=1) (ho:ops[i]? = some (opn (.store tI (.tmp x) (.tmp y)))) (hx:f x = .pointer (some ad)) (hy:f y = .int .i64 a0) (hc:w.cell? ad=some u) (hf:w.frozen? ad=false)
  (h:Ru P Goal (b.at ⟨t,ds⟩ (.inRegion ops rest :: k)) cs (w.setCell ad (.int .i64 a0))):Ru P Goal (b.at ⟨t,ds⟩ (.inRegion ops (i :: rest) :: k)) cs w:=by
 have hr:(execOp (Act.eval ⟨t,ds⟩) (opn (.store tI (.tmp x) (.tmp y)))).run P w = .ok .skip (w.setCell ad (.int .i64 a0)):=by
  show ((Instr.storeAt tI (Act.eval ⟨t,ds⟩ (.tmp x)) (Act.eval ⟨t,ds⟩ (.tmp y))).bind fun _=>Sem.pure Next.skip).run P w=_
  rw [Sem.run_bind',zay hT,zay hT,hx,hy]
  simp [Instr.storeAt,Instr.sureAddr,Go.storeVar,Go.storeCells,Value.cells,go_sem,r_size hi,h1,Go.store,Sem.run,hc,hf]
 exact Ru.step (stepG_none ho rfl (by rw [hbk];exact fun e=>by cases e) hr) h
theorem Ru.call {g:Nat} {args:Array Operand} {ats:Array TypeId} {fn:Func} {Rr:Ending→World→Prop} (hT:Tm n t f) (hbk:b.kind = .normal) (ho:ops[i]? = some (opr d (.call { callee:=.value (.func g),args,argTypes:=ats }))) (hd:d<n) (hg:P.funcs[g]? = some fn) (hnm:(fn.name == "runtime.NumGoroutine")=false) (hbd:fn.body.isNone=false)
  (hC:Calls P g (args.map (Act.eval ⟨t,ds⟩)) w Rr) (h:∀ e w1,Rr e w1→∃ v,e = .returned v∧∀ t',Tm n t' (putF f d v)→Ru P Goal (b.at ⟨t',ds⟩ (.inRegion ops rest :: k)) cs w1):Ru P Goal (b.at ⟨t,ds⟩ (.inRegion ops (i :: rest) :: k)) cs w:=by
 obtain ⟨e,w',fr,hR,hcm,hfn,hlv⟩:=hC (b.at ⟨t,ds⟩ (.inRegion ops (i :: rest) :: k) :: cs)
 obtain ⟨v,rfl,hv⟩:=h e w' hR
 obtain ⟨n1,hn1⟩:=hcm
 obtain ⟨n2,fr',cs',w2,hn2,hG⟩:=hv _ (hT.put hd v)
 obtain ⟨c0,hc0⟩:∃ c0,fn.body=some c0:=by cases hb:fn.body with
  | none=>rw [hb] at hbd;cases hbd
  | some c0=>exact ⟨c0,rfl⟩
 have hst:=stepG_enter (P:=P) (main:=true) (b:=b) (k:=k) (cs:=cs) (rest:=rest) ho (rfl:Region.wanted _ (yielded ops (Act.tmps ⟨t,ds⟩))=true) (by rw [hbk];exact fun e=>by cases e) (run_call_body (w:=w) (a:=⟨t,ds⟩) (o:=opr d (.call { callee:=.value (.func g),args,argTypes:=ats })) rfl hg hnm hbd)
 have he:Go.step P (lone (b.at ⟨t,ds⟩ (.inRegion ops (i :: rest) :: k)) cs w) = .next (lone (Frame.enter P g (args.map (Act.eval ⟨t,ds⟩)) .normal) (b.at ⟨t,ds⟩ (.inRegion ops (i :: rest) :: k) :: cs) w):=step_of_go hst rfl rfl rfl
 have hret:=step_leave_returned (c:=b.at ⟨t,ds⟩ (.inRegion ops (i :: rest) :: k)) (cs:=cs) hlv
 have hfin:(b.at ⟨t,ds⟩ (.inRegion ops (i :: rest) :: k)).finish v=b.at ⟨t.setIfInBounds d v,ds⟩ (.inRegion ops rest :: k):=by
  rw [Frame.finish_at,ho]
  rfl
 rw [hfin] at hret
 refine ⟨1+(n1+(1+n2)),fr',cs',w2,?_,hG⟩
 rw [runN_add]
 simp only [runN,he]
 rw [runN_add,hn1]
 simp only
 rw [runN_add]
 simp only [runN,hret]
 exact hn2
end
theorem Row.at {w:World} {A:Option Addr} {l:List Int} (h:Row w A l) (d:Nat):Row (w.at d) A l:=h
theorem cells_of_cell {w:World} {a:Addr} {v:Value} (h:w.cell? a=some v):∃ c e f,w.heap[a.block]? = some (.cells c e f):=by
 unfold World.cell? at h
 split at h
 ·rename_i c e f hc
  exact ⟨c,e,f,hc⟩
 ·cases h
theorem fwd_noView {P:Program} {w:World} {a:Addr} {c:Array Value} {e:TypeId} {f:Nat×Nat} (h:w.heap[a.block]? = some (.cells c e f)):(Go.noView a).run P w = .ok () w:=by
 simp [Go.noView,Go.viewAt,go_sem,r_shape,World.shape?,h]
theorem fwd_same {P:Program} {w:World} {a q:Addr} {c cq:Array Value} {e eq:TypeId} {f fq:Nat×Nat} (ha:w.heap[a.block]? = some (.cells c e f)) (hq:w.heap[q.block]? = some (.cells cq eq fq)) (hf:w.frozen? q=false):∃ x d,(Go.sameAddr a q).run P w = .ok x (w.at d):=by
 by_cases hb:a.block=q.block
 ·exact ⟨a == q,w.drawn,by simp [Go.sameAddr,go_sem,hb];rfl⟩
 ·obtain ⟨x,hx⟩:=r_mayBeOne (P:=P) (w:=w) a q
  cases x
  ·exact ⟨false,w.drawn,by simp [Go.sameAddr,go_sem,hb,r_frozen,hf,fwd_noView ha,fwd_noView hq,hx];rfl⟩
  ·exact ⟨(Question.extern "sameAddr.stringBytes" 2).cut (w.tape w.drawn (Question.extern "sameAddr.stringBytes" 2)) == 1,w.drawn+1,by simp [Go.sameAddr,go_sem,hb,r_frozen,hf,fwd_noView ha,fwd_noView hq,hx,Go.choose,Sem.run,Question.forced];rfl⟩
section
variable {P:Program} {Goal:Frame→List Frame→World→Prop} {b:Frame} {cs:List Frame} {w:World} {n:Nat} {t:Array Value} {f:Nat→Value} {ds:List Deferred} {k:List Item} {ops:Array Oper} {i:Nat} {rest:List Nat} {d:Nat} {tS tI tP tE s q x y:Nat} {iI iE:TypeInfo}
theorem Ru.ptreq {a Q:Addr} {c cq:Array Value} {e eq:TypeId} {fc fq:Nat×Nat} (hT:Tm n t f) (hbk:b.kind = .normal) (K:Kinds P tS tI tP tE iI iE) (ho:ops[i]? = some (opr d (.binOp .eql tP (.tmp x) (.tmp y) tP))) (hd:d<n) (hx:f x = .pointer (some a)) (hy:f y = .pointer (some Q))
  (ha:w.heap[a.block]? = some (.cells c e fc)) (hq:w.heap[Q.block]? = some (.cells cq eq fq)) (hf:w.frozen? Q=false)
  (h:∀ t' v d',Tm n t' (putF f d v)→Ru P Goal (b.at ⟨t',ds⟩ (.inRegion ops rest :: k)) cs (w.at d')):Ru P Goal (b.at ⟨t,ds⟩ (.inRegion ops (i :: rest) :: k)) cs w:=by
 obtain ⟨z,d',hz⟩:=fwd_same (P:=P) ha hq hf
 have h2:(Op.equal tP (.pointer (some a)) (.pointer (some Q))).run P w=(Go.sameAddr a Q).run P w:=by
  show (Op.equalIn (9999+1) tP _ _).run P w=_
  unfold Op.equalIn
  simp [go_sem,r_und K.p,r_size K.ie,K.e1]
 have h3:(Go.binOp .eql tP (.pointer (some a)) (.pointer (some Q))).run P w = .ok (.bool z) (w.at d'):=by
  show ((Op.equal tP (.pointer (some a)) (.pointer (some Q))).bind fun b=>Sem.pure (Value.bool b)).run P w=_
  rw [Sem.run_bind',h2,hz]
  rfl
 refine Ru.opv hT hbk ho hd ?_ (fun t' hT'=>h t' (.bool z) d' hT')
 rw [run_bin (by rw [zay hT,zay hT,hx,hy];exact guard_ptr _ _),zay hT,zay hT,hx,hy,h3]
 rfl
theorem Ru.eqnil {A:Option Addr} {m c:Nat} (hT:Tm n t f) (hbk:b.kind = .normal) (hS:P.underlying tS=some (.slice tI)) (ho:ops[i]? = some (opr d (.binOp .eql tS (.tmp x) (.const (.slice none 0 0)) tS))) (hd:d<n) (hx:f x = .slice A m c)
  (h:∀ t',Tm n t' (putF f d (.bool A.isNone))→Ru P Goal (b.at ⟨t',ds⟩ (.inRegion ops rest :: k)) cs w):Ru P Goal (b.at ⟨t,ds⟩ (.inRegion ops (i :: rest) :: k)) cs w:=by
 refine Ru.opv hT hbk ho hd ?_ h
 rw [run_bin (by rw [zay hT,hx];exact guard_slice _ _ _ _ _ _),zay hT,hx]
 show ((Go.binOp .eql tS (.slice A m c) (.slice none 0 0)).run _ w).andThen _=_
 rw [inv_eqnil hS]
 rfl
end
end
section
open Go Go.Conc Go.RowKit
section
variable {P:Program} {Goal:Frame→List Frame→World→Prop} {b:Frame} {cs:List Frame} {w:World} {n:Nat} {ds:List Deferred} {rest:List Item} {tS tI tP tE s q k:Nat} {iI iE:TypeInfo} {A:Option Addr} {c:Nat} {l:List Int} {Q:Addr} {cq:Array Value} {eq:TypeId} {fq:Nat×Nat}
theorem xor_zero {m:Nat} (hm:(m:Int)<9223372036854775808):(Go.binOp .xor tI (.int .i64 (m:Int)) (.int .i64 0)).run P w = .ok (.int .i64 (m:Int)) w:=by
 have e:(BitVec.ofInt 64 (m:Int) ^^^ 0#64).toNat=m:=by
  rw [BitVec.xor_zero,BitVec.toNat_ofInt]
  omega
 have e2:IntKind.i64.wrap ((m:Nat):Int)=(m:Int):=by rw [IntKind.wrap_i64];omega
 show Result.ok (Value.int .i64 (IntKind.i64.wrap ((BitVec.ofInt 64 (m:Int) ^^^ BitVec.ofInt 64 0).toNat:Nat))) w=_
 have e3:BitVec.ofInt 64 0=0#64:=rfl
 rw [e3,e,e2]
theorem ru_scan_round (hbk:b.kind = .normal) (K:Kinds P tS tI tP tE iI iE) (hr:Row w A l) (hq:w.heap[Q.block]? = some (.cells cq eq fq)) (hf:w.frozen? Q=false) (hl:(l.length:Int)<9223372036854775808) (hsk:s<k) (hqk:q<k) (hkn:k+6<n)
  {t:Array Value} {f:Nat→Value} {j:Nat} (hT:Tm n t f) (hs:f s = .slice A l.length c) (hqq:f q = .pointer (some Q)) (hj:f k = .int .i64 (j:Int))
  (hend:l.length≤j→∀ t' f',Tm n t' f'→(∀ i,i<k→f' i=f i)→Ru P Goal (b.at ⟨t',ds⟩ rest) cs w)
  (hgo:j<l.length→∀ t' f' d,Tm n t' f'→(∀ i,i<k→f' i=f i)→f' k = .int .i64 ((j+1:Nat):Int)→Ru P Goal (b.at ⟨t',ds⟩ (.code (scanBody tS tI tP s q k) :: .inLoop (scanBody tS tI tP s q k) :: .inBlock 90 :: rest)) cs (w.at d)) :
  Ru P Goal (b.at ⟨t,ds⟩ (.code (scanBody tS tI tP s q k) :: .inLoop (scanBody tS tI tP s q k) :: .inBlock 90 :: rest)) cs w:=by
 refine Ru.step stepG_seq (Ru.step stepG_region ?_)
 refine Ru.len (ops:=scanTest tS tI s k) (i:=0) (rest:=[1,2]) hT hbk K.s rfl (by omega) hs (fun t hT=>?_)
 refine Ru.bin (op:=.lss) (a0:=(j:Int)) (b0:=(l.length:Int)) (v:=.bool (decide ((j:Int)<l.length))) (ops:=scanTest tS tI s k) (i:=1) (rest:=[2]) hT hbk rfl (by omega) (by rw [zay hT,zad (by omega)];exact hj) (by rw [zay hT,putF_same]) rfl (fun t hT=>?_)
 refine Ru.eqnil (ops:=scanTest tS tI s k) (i:=2) (rest:=[]) (A:=A) (m:=l.length) (c:=c) hT hbk K.s rfl (by omega) (by rw [zad (by omega),zad (by omega)];exact hs) (fun t hT=>?_)
 refine Ru.step stepG_region_end (Ru.step stepG_seq (Ru.step (stepG_cond (t:=decide ((j:Int)<l.length)) (by rw [zay hT,zad (by omega),putF_same])) ?_))
 by_cases hjl:j<l.length
 ·obtain ⟨ad,rfl,hc⟩:=hr j hjl
  obtain ⟨ca,ea,fa,ha⟩:=cells_of_cell hc
  rw [show decide ((j:Int)<l.length)=true by simp;omega,if_pos rfl]
  refine Ru.step stepG_skip (Ru.step stepG_seq (Ru.step (stepG_cond (t:=false) (by rw [zay hT,putF_same];rfl)) ?_))
  rw [if_neg (by simp)]
  refine Ru.step stepG_skip (Ru.step stepG_region ?_)
  refine Ru.index (ops:=scanLook tS tI tP s q k) (i:=0) (rest:=[1,2,3,4]) (ad:=ad) (m:=l.length) (c:=c) (j:=j) hT hbk K.s K.ii K.i1 rfl (by omega) (by rw [zad (by omega),zad (by omega),zad (by omega)];exact hs) (by rw [zad (by omega),zad (by omega),zad (by omega)];exact hj) hjl (fun t hT=>?_)
  refine Ru.ptreq (ops:=scanLook tS tI tP s q k) (i:=1) (rest:=[2,3,4]) (a:=ad.add j) (Q:=Q) hT hbk K rfl (by omega) (by rw [putF_same]) (by rw [zad (by omega),zad (by omega),zad (by omega),zad (by omega)];exact hqq) ha hq hf (fun t v d hT=>?_)
  refine Ru.load (ops:=scanLook tS tI tP s q k) (i:=2) (rest:=[3,4]) (ad:=ad.add j) hT hbk K.i rfl (by omega) (by rw [zad (by omega),putF_same]) hc (fun t hT=>?_)
  refine Ru.bin (op:=.xor) (a0:=l.getD j 0) (b0:=0) (ops:=scanLook tS tI tP s q k) (i:=3) (rest:=[4]) hT hbk rfl (by omega) (by rw [zay hT,putF_same]) rfl rfl (fun t hT=>?_)
  refine Ru.bin (op:=.add) (a0:=(j:Int)) (b0:=1) (v:=.int .i64 ((j+1:Nat):Int)) (ops:=scanLook tS tI tP s q k) (i:=4) (rest:=[]) hT hbk rfl (by omega) (by rw [zay hT,zad (by omega),zad (by omega),zad (by omega),zad (by omega),zad (by omega),zad (by omega),zad (by omega)];exact hj) rfl (by
   have hwr:IntKind.i64.wrap ((j:Int)+1)=((j+1:Nat):Int):=by rw [IntKind.wrap_i64];omega
   rw [← hwr]
   rfl) (fun t hT=>?_)
  refine Ru.step stepG_region_end (Ru.step stepG_inLoop (hgo hjl _ _ d hT (fun i hi=>?_) putF_same))
  rw [zad (by omega),zad (by omega),zad (by omega),zad (by omega),zad (by omega),zad (by omega),zad (by omega),zad (by omega)]
 ·rw [show decide ((j:Int)<l.length)=false by simp;omega,if_neg (by simp)]
  refine Ru.step (stepG_exit (k':=rest) rfl) (hend (by omega) _ _ hT (fun i hi=>?_))
  rw [zad (by omega),zad (by omega),zad (by omega)]
theorem ru_scan_loop (hbk:b.kind = .normal) (K:Kinds P tS tI tP tE iI iE) (hr:Row w A l) (hq:w.heap[Q.block]? = some (.cells cq eq fq)) (hf:w.frozen? Q=false) (hl:(l.length:Int)<9223372036854775808) (hsk:s<k) (hqk:q<k) (hkn:k+6<n)
  {f0:Nat→Value} (hs:f0 s = .slice A l.length c) (hqq:f0 q = .pointer (some Q)) (h:∀ t' f' d',Tm n t' f'→(∀ i,i<k→f' i=f0 i)→Ru P Goal (b.at ⟨t',ds⟩ rest) cs (w.at d')) :
  ∀ (m:Nat) {t:Array Value} {f:Nat→Value} {j d:Nat},l.length - j=m→j≤l.length→Tm n t f→(∀ i,i<k→f i=f0 i)→f k = .int .i64 (j:Int)→
   Ru P Goal (b.at ⟨t,ds⟩ (.code (scanBody tS tI tP s q k) :: .inLoop (scanBody tS tI tP s q k) :: .inBlock 90 :: rest)) cs (w.at d):=by
 intro m
 induction m with
 | zero=>
  intro t f j d hm hj hT hf0 hfk
  refine ru_scan_round (w:=w.at d) hbk K hr hq hf hl hsk hqk hkn hT ((hf0 s hsk).trans hs) ((hf0 q hqk).trans hqq) hfk (fun _ t' f' hT' hk'=>h _ _ _ hT' (fun i hi=>(hk' i hi).trans (hf0 i hi))) (fun hlt=>by omega)
 | succ m ih=>
  intro t f j d hm hj hT hf0 hfk
  refine ru_scan_round (w:=w.at d) hbk K hr hq hf hl hsk hqk hkn hT ((hf0 s hsk).trans hs) ((hf0 q hqk).trans hqq) hfk (fun hle=>by omega) (fun hlt t' f' d' hT' hk' hj'=>?_)
  exact ih (j:=j+1) (d:=d') (by omega) (by omega) hT' (fun i hi=>(hk' i hi).trans (hf0 i hi)) hj'
theorem ru_scan (hbk:b.kind = .normal) (K:Kinds P tS tI tP tE iI iE) (hr:Row w A l) (hq:w.heap[Q.block]? = some (.cells cq eq fq)) (hf:w.frozen? Q=false) (hl:(l.length:Int)<9223372036854775808) (hsk:s<k) (hqk:q<k) (hkn:k+6<n)
  {t:Array Value} {f:Nat→Value} (hT:Tm n t f) (hs:f s = .slice A l.length c) (hqq:f q = .pointer (some Q)) (h:∀ t' f' d',Tm n t' f'→(∀ i,i<k→f' i=f i)→Ru P Goal (b.at ⟨t',ds⟩ rest) cs (w.at d')) :
  Ru P Goal (b.at ⟨t,ds⟩ (.code (scan tS tI tP s q k) :: rest)) cs w:=by
 refine Ru.step stepG_seq (Ru.step stepG_region ?_)
 refine Ru.len (ops:=scanHead tS tI s k) (i:=0) (rest:=[1,2,3]) hT hbk K.s rfl (by omega) hs (fun t hT=>?_)
 have hx:(Go.binOp .xor tI (.int .i64 (l.length:Int)) (.int .i64 0)).run P w = .ok (.int .i64 (l.length:Int)) w:=xor_zero hl
 refine Ru.bin (op:=.xor) (a0:=(l.length:Int)) (b0:=0) (ops:=scanHead tS tI s k) (i:=1) (rest:=[2,3]) hT hbk rfl (by omega) (by rw [zay hT,putF_same]) rfl hx (fun t hT=>?_)
 refine Ru.bin (op:=.eql) (a0:=(l.length:Int)) (b0:=(l.length:Int)) (v:=.bool true) (ops:=scanHead tS tI s k) (i:=2) (rest:=[3]) hT hbk rfl (by omega) (by rw [zay hT,putF_same]) (by rw [zay hT,zad (by omega),putF_same]) (by
  show Result.ok (Value.bool ((l.length:Int) == (l.length:Int))) w=_
  simp) (fun t hT=>?_)
 refine Ru.move (v:=.int .i64 ((0:Nat):Int)) (ops:=scanHead tS tI s k) (i:=3) (rest:=[]) hT hbk rfl (by omega) rfl (fun t hT=>?_)
 refine Ru.step stepG_region_end (Ru.step stepG_seq (Ru.step (stepG_cond (t:=true) (by rw [zay hT,zad (by omega),putF_same])) ?_))
 rw [if_pos rfl]
 refine Ru.step stepG_skip (Ru.step stepG_block (Ru.step stepG_loop ?_))
 exact ru_scan_loop hbk K hr hq hf hl hsk hqk hkn (f0:=f) hs hqq h l.length (j:=0) (d:=w.drawn) (by omega) (by omega) hT (fun i hi=>by rw [zad (by omega),zad (by omega),zad (by omega),zad (by omega)]) putF_same
end
end
section
open Go Go.Conc Go.RowKit
theorem at_at (w:World) (d d':Nat):(w.at d).at d'=w.at d':=rfl
def zas (w:World) (l:List Obj):World:={ w with heap:=w.heap++l.toArray }
theorem zaI (w:World) (l:List Obj) (o:Obj):(zas w l).alloc o=zas w (l++[o]):=by
 simp [zas,World.alloc]
theorem growW_nil (w:World):zas w []=w:=by simp [zas]
theorem growW_at (w:World) (l:List Obj) (d:Nat):zas (w.at d) l=(zas w l).at d:=rfl
theorem growW_size (w:World) (l:List Obj):(zas w l).heap.size=w.heap.size+l.length:=by simp [zas]
theorem growW_old {w:World} {l:List Obj} {k:Nat} (h:k<w.heap.size):(zas w l).heap[k]? = w.heap[k]?:=by
 simp only [zas,Array.getElem?_append,h,if_true]
theorem growW_new {w:World} {l:List Obj} {k:Nat}:(zas w l).heap[w.heap.size+k]? = l[k]?:=by
 simp only [zas,Array.getElem?_append]
 rw [if_neg (by omega)]
 simp
theorem block_lt {w:World} {a:Addr} {v:Value} (h:w.cell? a=some v):a.block<w.heap.size:=by
 obtain ⟨c,e,f,hc⟩:=cells_of_cell h
 exact (Array.getElem?_eq_some_iff.1 hc).1
theorem growW_cell {w:World} {l:List Obj} {a:Addr} {v:Value} (h:w.cell? a=some v):(zas w l).cell? a=some v:=by
 rw [← h]
 exact World.cell?_of_block (growW_old (block_lt h))
theorem Row.grow {w:World} {A:Option Addr} {l:List Int} (h:Row w A l) (L:List Obj):Row (zas w L) A l:=fun j hj=>by
 obtain ⟨ad,h1,h2⟩:=h j hj
 exact ⟨ad,h1,growW_cell h2⟩
theorem growW_set (w:World) (L1 L2:List Obj) (c:Array Value) (e:TypeId) (j:Nat) (v:Value) {B:Nat} (hB:B=w.heap.size+L1.length) :
  (zas w (L1++.cells c e (0,0) :: L2)).setCell ⟨B,j,none⟩ v=zas w (L1++.cells (c.setIfInBounds j v) e (0,0) :: L2):=by
 subst hB
 have e1:(zas w (L1++.cells c e (0,0) :: L2)).heap.modify (w.heap.size+L1.length) (fun | .cells c elem frozen=>.cells (c.setIfInBounds j v) elem frozen | o=>o)=(zas w (L1++.cells (c.setIfInBounds j v) e (0,0) :: L2)).heap:=by
  apply Array.ext_getElem?
  intro i
  rw [Array.getElem?_modify]
  by_cases hi:i<w.heap.size
  ·rw [if_neg (by omega),growW_old hi,growW_old hi]
  ·obtain ⟨i',rfl⟩:∃ i',i=w.heap.size+i':=⟨i - w.heap.size,by omega⟩
   rw [growW_new,growW_new]
   rcases Nat.lt_trichotomy i' L1.length with h | h | h
   ·rw [if_neg (by omega),List.getElem?_append_left h,List.getElem?_append_left h]
   ·subst h
    rw [if_pos rfl]
    simp
   ·obtain ⟨x,rfl⟩:∃ x,i'=L1.length+1+x:=⟨i' - L1.length - 1,by omega⟩
    rw [if_neg (by omega),List.getElem?_append_right (by omega),List.getElem?_append_right (by omega),show L1.length+1+x - L1.length=x+1 by omega]
    rfl
 have e2:(zas w (L1++.cells c e (0,0) :: L2)).setCell ⟨w.heap.size+L1.length,j,none⟩ v = { zas w (L1++.cells c e (0,0) :: L2) with heap:=(zas w (L1++.cells c e (0,0) :: L2)).heap.modify (w.heap.size+L1.length) (fun | .cells c elem frozen=>.cells (c.setIfInBounds j v) elem frozen | o=>o) }:=by
  unfold World.setCell
  simp
  congr 1
 rw [e2,e1]
 rfl
def numOk (x:Int):Bool:=decide (0≤x) && decide (x≤30)
def sOk (l:List Int):Bool:=decide (l.length≤20) && l.all numOk
def eachGood (l1 l2:List Int):Bool:=sOk l1 && sOk l2 && decide (l1.length=l2.length)
def eachVals (m:Mk) (l1 l2:List Int):List Int:=List.zipWith m.val l1 l2
def box3 (I:ShIds) (mk a b:Value):List Obj:=[.cells #[a] I.tS (0,0),.cells #[b] I.tS (0,0),.cells #[mk] I.tF (0,0)]
def iBoxes (I:ShIds) (j:Nat):List Obj:=(List.range j).map fun (i:Nat)=>.cells #[.int .i64 (i:Int)] I.tI (0,0)
def zaA (I:ShIds) (mk a b:Value) (N n:Nat) (vals:List Int) (j:Nat):List Obj:=
 box3 I mk a b++.cells ((vals.take j++List.replicate (n - j) 0).map (Value.int .i64)).toArray I.tI (0,0) :: ([.cells #[.slice (some ⟨N+3,0,none⟩) n n] I.tS (0,0),.cells #[] I.tW (0,0)]++iBoxes I j)
def zaC (I:ShIds) (mk a b:Value) (m:Mk) (l1 l2:List Int) (N:Nat):List Obj:=if eachGood l1 l2 then zaA I mk a b N l1.length (eachVals m l1 l2) l1.length else box3 I mk a b
def eachRes (l1 l2:List Int) (N:Nat):Value:=if eachGood l1 l2 then .slice (some ⟨N+3,0,none⟩) l1.length l1.length else .slice none 0 0
theorem iBoxes_succ (I:ShIds) (j:Nat):iBoxes I (j+1)=iBoxes I j++[.cells #[.int .i64 (j:Int)] I.tI (0,0)]:=by
 simp [iBoxes,List.range_succ]
theorem midBlocks_next (I:ShIds) (mk a b:Value) {w:World} {n:Nat} {vals:List Int} {j:Nat} (hj:j<n) (hv:vals.length=n) :
  ((zas w (zaA I mk a b w.heap.size n vals j)).setCell ⟨w.heap.size+3,j,none⟩ (.int .i64 (vals.getD j 0))).alloc (.cells #[.int .i64 (j:Int)] I.tI (0,0))=zas w (zaA I mk a b w.heap.size n vals (j+1)):=by
 unfold zaA
 rw [growW_set w (box3 I mk a b) _ _ _ _ _ (B:=w.heap.size+3) rfl,zaI,iBoxes_succ]
 have e:(((vals.take j++List.replicate (n - j) 0).map (Value.int .i64)).toArray).setIfInBounds j (Value.int .i64 (vals.getD j 0))=((vals.take (j+1)++List.replicate (n - (j+1)) 0).map (Value.int .i64)).toArray:=by
  have h1:(vals.take j++List.replicate (n - j) 0).set j (vals.getD j 0)=vals.take (j+1)++List.replicate (n - (j+1)) 0:=by
   rw [show n - j=(n - (j+1))+1 by omega,List.replicate_succ,List.set_append_right _ _ (by simp;omega)]
   have hl:(vals.take j).length=j:=by simp;omega
   rw [hl,Nat.sub_self,List.set_cons_zero,List.take_add_one]
   have hg:vals[j]? = some (vals.getD j 0):=by
    rw [List.getD_eq_getElem?_getD,List.getElem?_eq_getElem (by omega)]
    rfl
   rw [hg]
   simp
  rw [← h1]
  simp
 rw [e]
 simp
end
section
open Go Go.Conc Go.RowKit
section
variable {P:Program} {w:World} {tI:Nat}
theorem r_rem {s:Int} (h0:0≤s):(Go.binOp .rem tI (.int .i64 s) (.int .i64 31)).run P w = .ok (.int .i64 (s % 31)) w:=by
 have e:Int.tmod s 31=s % 31:=Int.tmod_eq_emod_of_nonneg h0
 have e2:IntKind.i64.wrap (s % 31)=s % 31:=by rw [IntKind.wrap_i64];omega
 simp [Go.binOp,Op.intDiv,go_sem,e,e2]
theorem r_add {s u:Int} (h0:-9223372036854775808≤s+u) (h1:s+u<9223372036854775808):(Go.binOp .add tI (.int .i64 s) (.int .i64 u)).run P w = .ok (.int .i64 (s+u)) w:=by
 have e2:IntKind.i64.wrap (s+u)=s+u:=by rw [IntKind.wrap_i64];omega
 show Result.ok (Value.int .i64 (IntKind.i64.wrap (s+u))) w=_
 rw [e2]
theorem r_sub {s u:Int} (h0:-9223372036854775808≤s - u) (h1:s - u<9223372036854775808):(Go.binOp .sub tI (.int .i64 s) (.int .i64 u)).run P w = .ok (.int .i64 (s - u)) w:=by
 have e2:IntKind.i64.wrap (s - u)=s - u:=by rw [IntKind.wrap_i64];omega
 show Result.ok (Value.int .i64 (IntKind.i64.wrap (s - u))) w=_
 rw [e2]
theorem addr_add (B j:Nat):(⟨B,0,none⟩:Addr).add j=⟨B,j,none⟩:=by
 unfold Addr.add
 split
 ·rename_i h;subst h;rfl
 ·simp
end
theorem getD_lt {l:List Int} {j:Nat} (h:j<l.length):l.getD j 0=l[j]:=by
 rw [List.getD_eq_getElem?_getD,List.getElem?_eq_getElem h]
 rfl
theorem sOk_get {l:List Int} (h:sOk l=true) {j:Nat} (hj:j<l.length):0≤l.getD j 0∧l.getD j 0≤30:=by
 simp only [sOk,Bool.and_eq_true,List.all_eq_true] at h
 have:=h.2 (l.getD j 0) (by rw [getD_lt hj];exact List.getElem_mem hj)
 simpa [numOk] using this
theorem eachVals_get (m:Mk) {l1 l2:List Int} (h:l1.length=l2.length) {j:Nat} (hj:j<l1.length):(eachVals m l1 l2).getD j 0=m.val (l1.getD j 0) (l2.getD j 0):=by
 rw [eachVals,getD_lt (by simp;omega),List.getElem_zipWith,getD_lt hj,getD_lt (by omega)]
theorem eachVals_length (m:Mk) {l1 l2:List Int} (h:l1.length=l2.length):(eachVals m l1 l2).length=l1.length:=by simp [eachVals];omega
section
variable {P:Program} {Goal:Frame→List Frame→World→Prop} {b:Frame} {cs:List Frame} {w:World} {n:Nat} {ds:List Deferred} {rest:List Item} {I:ShIds} {tE k:Nat} {iI iE:TypeInfo} {A B:Option Addr} {cA cB:Nat} {l1 l2:List Int} {mk:Value} {m:Mk}
theorem mid_cell {a0 b0:Value} {N:Nat} {vals:List Int} {nn j d:Nat} (hj:j<nn) (hv:vals.length=nn) :
  ∃ u,((zas w (zaA I mk a0 b0 N nn vals j)).at d).cell? ⟨w.heap.size+3,j,none⟩=some u∧((zas w (zaA I mk a0 b0 N nn vals j)).at d).frozen? ⟨w.heap.size+3,j,none⟩=false:=by
 have hb:((zas w (zaA I mk a0 b0 N nn vals j)).at d).heap[w.heap.size+3]? = some (.cells ((vals.take j++List.replicate (nn - j) 0).map (Value.int .i64)).toArray I.tI (0,0)):=growW_new
 have hl:j<((vals.take j++List.replicate (nn - j) 0).map (Value.int .i64)).toArray.size:=by simp;omega
 refine ⟨(((vals.take j++List.replicate (nn - j) 0).map (Value.int .i64)).toArray)[j],?_,?_⟩
 ·unfold World.cell?
  rw [hb]
  simp only [Option.isSome,Bool.false_eq_true,if_false]
  exact Array.getElem?_eq_getElem hl
 ·unfold World.frozen?
  rw [hb]
  simp
theorem ru_each_round (hbk:b.kind = .normal) (K:Kinds P I.tS I.tI I.tP tE iI iE) (hn:k+18<n) (hk2:2≤k) (h1:sOk l1=true) (h2:sOk l2=true) (h12:l1.length=l2.length) (hr1:Row w A l1) (hr2:Row w B l2)
  {a0 b0:Value} {t:Array Value} {f:Nat→Value} {j d:Nat} (hT:Tm n t f) (f0:f 0 = .slice A l1.length cA) (f1:f 1 = .slice B l2.length cB) (f4:f (k+4) = .int .i64 (l1.length:Int)) (f7:f (k+7) = .slice (some ⟨w.heap.size+3,0,none⟩) l1.length l1.length) (fj:f (k+10) = .int .i64 (j:Int))
  (hend:l1.length≤j→∀ t' f',Tm n t' f'→(∀ i,i<k+8→f' i=f i)→Ru P Goal (b.at ⟨t',ds⟩ rest) cs ((zas w (zaA I mk a0 b0 w.heap.size l1.length (eachVals m l1 l2) j)).at d))
  (hgo:j<l1.length→∀ t' f',Tm n t' f'→(∀ i,i<k+8→f' i=f i)→f' (k+10) = .int .i64 ((j+1:Nat):Int)→Ru P Goal (b.at ⟨t',ds⟩ (.code (eachLoopBody I m k) :: .inLoop (eachLoopBody I m k) :: .inBlock 81 :: rest)) cs ((zas w (zaA I mk a0 b0 w.heap.size l1.length (eachVals m l1 l2) (j+1))).at d)) :
  Ru P Goal (b.at ⟨t,ds⟩ (.code (eachLoopBody I m k) :: .inLoop (eachLoopBody I m k) :: .inBlock 81 :: rest)) cs ((zas w (zaA I mk a0 b0 w.heap.size l1.length (eachVals m l1 l2) j)).at d):=by
 refine Ru.step stepG_seq (Ru.step stepG_region ?_)
 refine Ru.bin (op:=.lss) (a0:=(j:Int)) (b0:=(l1.length:Int)) (v:=.bool (decide ((j:Int)<l1.length))) (ops:=eachTest I k) (i:=0) (rest:=[]) hT hbk rfl (by omega) (by rw [zay hT];exact fj) (by rw [zay hT];exact f4) rfl (fun t hT=>?_)
 refine Ru.step stepG_region_end (Ru.step stepG_seq (Ru.step (stepG_cond (t:=decide ((j:Int)<l1.length)) (by rw [zay hT,putF_same])) ?_))
 by_cases hjl:j<l1.length
 ·obtain ⟨ad1,rfl,hc1⟩:=hr1 j hjl
  obtain ⟨ad2,rfl,hc2⟩:=hr2 j (by omega)
  obtain ⟨u,hu1,hu2⟩:=mid_cell (w:=w) (I:=I) (mk:=mk) (a0:=a0) (b0:=b0) (N:=w.heap.size) (d:=d) hjl (eachVals_length m h12)
  have x1:=sOk_get h1 hjl
  have x2:=sOk_get h2 (j:=j) (by omega)
  have hval:=eachVals_get m h12 hjl
  rw [show decide ((j:Int)<l1.length)=true by simp;omega,if_pos rfl]
  have hnext:=midBlocks_next I mk a0 b0 (w:=w) hjl (eachVals_length m h12)
  have g1:=growW_cell (l:=zaA I mk a0 b0 w.heap.size l1.length (eachVals m l1 l2) j) hc1
  have g2:=growW_cell (l:=zaA I mk a0 b0 w.heap.size l1.length (eachVals m l1 l2) j) hc2
  generalize hW:zas w (zaA I mk a0 b0 w.heap.size l1.length (eachVals m l1 l2) j)=W at *
  refine Ru.step stepG_skip (Ru.step stepG_region ?_)
  have tail_:∀ (g:Nat→Value) {t':Array Value},Tm n t' (putF g (k+17) (.int .i64 ((eachVals m l1 l2).getD j 0)))→
    (eachOps I m k)[7]? = some (opr (k+18) (.indexAddr I.tS (.tmp (k+7)) (.tmp (k+10))))→(eachOps I m k)[8]? = some (opn (.store I.tI (.tmp (k+18)) (.tmp (k+17))))→(eachOps I m k)[9]? = some (opr (k+12) (.box I.tI (.tmp (k+10))))→(eachOps I m k)[10]? = some (opr (k+10) (.binOp .add I.tI (.tmp (k+10)) (.const (.int .i64 1)) I.tI))→
    (∀ i,i<k+8→g i=f i)→g (k+10) = .int .i64 (j:Int)→
    Ru P Goal (b.at ⟨t',ds⟩ (.inRegion (eachOps I m k) [7,8,9,10] :: .inLoop (eachLoopBody I m k) :: .inBlock 81 :: rest)) cs (W.at d):=by
   intro g t' hT o7 o8 o9 o10 hg hgj
   refine Ru.index (i:=7) (rest:=[8,9,10]) (ad:=⟨w.heap.size+3,0,none⟩) (m:=l1.length) (c:=l1.length) (j:=j) hT hbk K.s K.ii K.i1 o7 (by omega) (by rw [zad (by omega),hg _ (by omega)];exact f7) (by rw [zad (by omega)];exact hgj) hjl (fun t hT=>?_)
   rw [addr_add] at hT
   refine Ru.store (i:=8) (rest:=[9,10]) (ad:=⟨w.heap.size+3,j,none⟩) (a0:=(eachVals m l1 l2).getD j 0) hT hbk K.ii K.i1 o8 (by rw [putF_same]) (by rw [zad (by omega),putF_same]) hu1 hu2 ?_
   refine Ru.box (i:=9) (rest:=[10]) (v:=.int .i64 (j:Int)) hT hbk o9 (by omega) (by rw [zay hT,zad (by omega),zad (by omega)];exact hgj) (fun t hT=>?_)
   have hwr:IntKind.i64.wrap ((j:Int)+1)=((j+1:Nat):Int):=by
    simp only [sOk,Bool.and_eq_true,decide_eq_true_eq] at h1
    rw [IntKind.wrap_i64]
    omega
   refine Ru.bin (op:=.add) (a0:=(j:Int)) (b0:=1) (v:=.int .i64 ((j+1:Nat):Int)) (i:=10) (rest:=[]) hT hbk o10 (by omega) (by rw [zay hT,zad (by omega),zad (by omega),zad (by omega)];exact hgj) rfl (by
    rw [← hwr]
    rfl) (fun t hT=>?_)
   have hfin:=hgo hjl t _ hT (fun i hi=>by rw [zad (by omega),zad (by omega),zad (by omega),zad (by omega),hg i hi]) putF_same
   rw [← hnext] at hfin
   exact Ru.step stepG_region_end (Ru.step stepG_inLoop hfin)
  cases m
  all_goals
   refine Ru.index (ops:=eachOps I _ k) (i:=0) (rest:=[1,2,3,4,5,6,7,8,9,10]) (ad:=ad1) (m:=l1.length) (c:=cA) (j:=j) hT hbk K.s K.ii K.i1 rfl (by omega) (by rw [zad (by omega)];exact f0) (by rw [zad (by omega)];exact fj) hjl (fun t hT=>?_)
   refine Ru.load (ops:=eachOps I _ k) (i:=1) (rest:=[2,3,4,5,6,7,8,9,10]) (ad:=ad1.add j) hT hbk K.i rfl (by omega) (by rw [putF_same]) g1 (fun t hT=>?_)
   refine Ru.index (ops:=eachOps I _ k) (i:=2) (rest:=[3,4,5,6,7,8,9,10]) (ad:=ad2) (m:=l2.length) (c:=cB) (j:=j) hT hbk K.s K.ii K.i1 rfl (by omega) (by repeat (first | exact f1 | rw [zad (by omega)])) (by repeat (first | exact fj | rw [zad (by omega)])) (by omega) (fun t hT=>?_)
   refine Ru.load (ops:=eachOps I _ k) (i:=3) (rest:=[4,5,6,7,8,9,10]) (ad:=ad2.add j) hT hbk K.i rfl (by omega) (by rw [putF_same]) g2 (fun t hT=>?_)
  case plus=>
   refine Ru.bin (op:=.add) (a0:=l1.getD j 0) (b0:=l2.getD j 0) (ops:=eachOps I .plus k) (i:=4) (rest:=[5,6,7,8,9,10]) hT hbk rfl (by omega) (by rw [zay hT,zad (by omega),zad (by omega),putF_same]) (by rw [zay hT,putF_same]) (r_add (by omega) (by omega)) (fun t hT=>?_)
   refine Ru.move (ops:=eachOps I .plus k) (i:=5) (rest:=[6,7,8,9,10]) hT hbk rfl (by omega) (by rw [zay hT,putF_same]) (fun t hT=>?_)
   refine Ru.bin (op:=.rem) (a0:=l1.getD j 0+l2.getD j 0) (b0:=31) (ops:=eachOps I .plus k) (i:=6) (rest:=[7,8,9,10]) hT hbk rfl (by omega) (by rw [zay hT,putF_same]) rfl (r_rem (by omega)) (fun t hT=>?_)
   rw [show (l1.getD j 0+l2.getD j 0) % 31=(eachVals .plus l1 l2).getD j 0 from hval.symm] at hT
   exact tail_ _ hT rfl rfl rfl rfl (fun i hi=>by repeat (first | rfl | rw [zad (by omega)])) (by repeat (first | exact fj | rw [zad (by omega)]))
  case minus=>
   refine Ru.bin (op:=.sub) (a0:=l1.getD j 0) (b0:=l2.getD j 0) (ops:=eachOps I .minus k) (i:=4) (rest:=[5,6,7,8,9,10]) hT hbk rfl (by omega) (by rw [zay hT,zad (by omega),zad (by omega),putF_same]) (by rw [zay hT,putF_same]) (r_sub (by omega) (by omega)) (fun t hT=>?_)
   refine Ru.bin (op:=.add) (a0:=l1.getD j 0 - l2.getD j 0) (b0:=31) (ops:=eachOps I .minus k) (i:=5) (rest:=[6,7,8,9,10]) hT hbk rfl (by omega) (by rw [zay hT,putF_same]) rfl (r_add (by omega) (by omega)) (fun t hT=>?_)
   refine Ru.bin (op:=.rem) (a0:=l1.getD j 0 - l2.getD j 0+31) (b0:=31) (ops:=eachOps I .minus k) (i:=6) (rest:=[7,8,9,10]) hT hbk rfl (by omega) (by rw [zay hT,putF_same]) rfl (r_rem (by omega)) (fun t hT=>?_)
   rw [show (l1.getD j 0 - l2.getD j 0+31) % 31=(eachVals .minus l1 l2).getD j 0 from hval.symm] at hT
   exact tail_ _ hT rfl rfl rfl rfl (fun i hi=>by repeat (first | rfl | rw [zad (by omega)])) (by repeat (first | exact fj | rw [zad (by omega)]))
  case snd=>
   refine Ru.move (ops:=eachOps I .snd k) (i:=4) (rest:=[5,6,7,8,9,10]) hT hbk rfl (by omega) (by rw [zay hT,putF_same]) (fun t hT=>?_)
   refine Ru.move (ops:=eachOps I .snd k) (i:=5) (rest:=[6,7,8,9,10]) hT hbk rfl (by omega) (by rw [zay hT,putF_same]) (fun t hT=>?_)
   refine Ru.move (ops:=eachOps I .snd k) (i:=6) (rest:=[7,8,9,10]) hT hbk rfl (by omega) (by rw [zay hT,putF_same]) (fun t hT=>?_)
   rw [show l2.getD j 0=(eachVals .snd l1 l2).getD j 0 from hval.symm] at hT
   exact tail_ _ hT rfl rfl rfl rfl (fun i hi=>by repeat (first | rfl | rw [zad (by omega)])) (by repeat (first | exact fj | rw [zad (by omega)]))
 ·rw [show decide ((j:Int)<l1.length)=false by simp;omega,if_neg (by simp)]
  refine Ru.step (stepG_exit (k':=rest) rfl) (hend (by omega) _ _ hT (fun i hi=>?_))
  rw [zad (by omega)]
end
end
section
open Go Go.Conc
section
variable {P:Program} {main:Bool} {R:World→World→Prop} {D:World→World→Array Event→Prop} {fn:FuncId} {ops:Array Oper} {Q:Exit→Act→World→Prop} {md:Region.Mode} {S:World→Prop} {N:Nat}
def uponN (P:Program) (main:Bool) (R:World→World→Prop) (D:World→World→Array Event→Prop) (N:Nat) (o:Oper) (a:Act) (w₁:World) (es:Array Event) (K:Act→World→Prop):Result Next→Prop
 | .ok (.value v) w'=>D w₁ w' es∧K (a.put o.dst v) w'
 | .ok .skip w'=>D w₁ w' es∧K (a.put o.dst undef) w'
 | .ok (.enter f args) w'=>w'=w₁∧D w₁ w₁ es∧CallsC P main R D f args N w₁ fun v w''=>K (a.put o.dst v) w''
 | _=>False
theorem uponN_mono {o:Oper} {a:Act} {w₁:World} {es:Array Event} {K K':Act→World→Prop} (h:∀ a w,K a w→K' a w) {r:Result Next} (hh:uponN P main R D N o a w₁ es K r):uponN P main R D N o a w₁ es K' r:=by
 cases r with
 | ok n w'=>cases n <;> first | exact ⟨hh.1,h _ _ hh.2⟩ | exact ⟨hh.1,hh.2.1,hh.2.2.mono fun v w x=>h _ _ x⟩ | exact hh
 | halt x w'=>exact hh
def OpN (P:Program) (main:Bool) (R:World→World→Prop) (D:World→World→Array Event→Prop) (fn:FuncId) (ops:Array Oper) (N i:Nat) (K:Act→World→Prop) (a:Act) (w:World):Prop:=
 match ops[i]? with
 | none=>False
 | some o=>if Region.wanted o (yielded ops a.tmps) then ∀ w₁,R w w₁→uponN P main R D N o a w₁ (listed P fn a o w₁) K ((execOp a.eval o).run P w₁) else K (a.put o.dst undef) w
theorem OpN_mono {i:Nat} {a:Act} {w:World} {K K':Act→World→Prop} (h:∀ a w,K a w→K' a w) (hh:OpN P main R D fn ops N i K a w):OpN P main R D fn ops N i K' a w:=by
 unfold OpN at *
 split
 ·simp_all
 ·rename_i o ho
  simp only [ho] at hh
  split
  ·rename_i hw;simp only [hw,if_true] at hh;exact fun w₁ h₁=>uponN_mono h (hh w₁ h₁)
  ·rename_i hw;simp only [hw] at hh;exact h _ _ hh
theorem opsC_of_opN (T:Terms R D) {i:Nat} {rest:List Nat} {n:Nat} {a:Act} {w:World} (h:OpN P main R D fn ops N i (fun a' w'=>OpsC P main R D fn ops rest n Q a' w') a w):OpsC P main R D fn ops (i :: rest) (n+N+3) Q a w:=by
 unfold OpN at h
 split at h
 ·exact h.elim
 ·rename_i o ho
  split at h
  rotate_left
  ·rename_i hw
   exact opsC_more (opsC_unwanted T ho (by simpa using hw) h) (by omega)
  rename_i hw
  intro b k cs Stop m hb hk hc
  subst hb
  rw [show m+(n+N+3)=(m+n+N+2)+1 by omega]
  refine Goes.step rfl fun w₁ h₁=>?_
  have h2:=h w₁ h₁
  cases hr:(execOp a.eval o).run P w₁ with
  | halt x w'=>rw [hr] at h2;exact h2.elim
  | ok v w'=>
   rw [hr] at h2
   cases v <;> try exact h2.elim
   case value v=>
    rw [stepG_value ho hw hk hr]
    exact ⟨h2.1,(h2.2 b k cs Stop m rfl hk hc).mono (by omega)⟩
   case skip=>
    rw [stepG_none ho hw hk hr]
    exact ⟨h2.1,(h2.2 b k cs Stop m rfl hk hc).mono (by omega)⟩
   case enter f args=>
    obtain ⟨rfl,hD,fn,c,hf,hname,hbody,hwp⟩:=h2
    rw [stepG_enter ho hw hk hr]
    refine ⟨hD,?_⟩
    have hfin:∀ v,(b.at a (.inRegion ops (i :: rest) :: k)).finish v=b.at (a.put o.dst v) (.inRegion ops rest :: k):=fun v=>by rw [Frame.finish_at,ho];rfl
    have hleave:∀ (a':Act) (w'':World) (todo:List Item),(a'.defers=[]∧∃ v,ResultsC P fn a'.tmps v∧OpsC P main R D b.fn ops rest n Q (a.put o.dst v) w'')→
      Goes P main R D Stop (m+n+1) (G { (base f).at a' todo with mode:=.returning } (b.at a (.inRegion ops (i :: rest) :: k) :: cs)) w'':=by
     rintro a' w'' todo ⟨hd,v,hres,hp⟩
     refine Goes.step rfl fun w₂ h₂=>?_
     rw [stepG_leave (b:=base f) rfl hd hf (hres w₂).1 (hres w₂).2,hfin]
     exact ⟨T.idle _,(hp b k cs Stop m rfl hk hc).rely T.trans h₂⟩
    rw [enter_at _ hf hbody]
    refine (hwp (base f) [] _ Stop (m+n+2) rfl (by simp [base]) fun e a' w'' q=>?_).mono (by omega)
    cases e with
    | normal=>exact Goes.step rfl fun w₂ h₂=>by rw [stepG_end];exact ⟨T.idle _,(hleave a' w'' [] q).rely T.trans h₂⟩
    | ret=>exact fun todo=>(hleave a' w'' todo q).more
    | exit id=>exact q.elim
    | goto l=>exact q.elim
    | panic ch=>exact q.elim
    | outgrown=>exact q.elim
def AnyN (P:Program) (main:Bool) (R:World→World→Prop) (D:World→World→Array Event→Prop) (fn:FuncId) (md:Region.Mode) (ops:Array Oper) (N:Nat) (Q:Exit→Act→World→Prop) (S:World→Prop):Nat→Array Bool→Act→World→Prop
 | 0,listed,a,w=>Region.ready md ops listed=[]∧Q .normal a w
 | fuel+1,listed,a,w=>
  (Region.ready md ops listed=[]→Q .normal a w)∧
  ∀ i ∈ Region.ready md ops listed,OpN P main R D fn ops N i (fun a' w'=>S w'∧AnyN P main R D fn md ops N Q S fuel (listed.setIfInBounds i true) a' w') a w
theorem AnyN.rely (T:Terms R D) (hSR:∀ x y,S x→R x y→S y) (hQR:∀ a x y,Q .normal a x→R x y→Q .normal a y) :
  ∀ (fuel:Nat) (listed:Array Bool) (a:Act) (w w₁:World),AnyN P main R D fn md ops N Q S fuel listed a w→R w w₁→AnyN P main R D fn md ops N Q S fuel listed a w₁
 | 0,_,_,_,_,h,r=>⟨h.1,hQR _ _ _ h.2 r⟩
 | fuel+1,listed,a,w,w₁,h,r=>⟨fun e=>hQR _ _ _ (h.1 e) r,fun i hi=>by
   have:=h.2 i hi
   unfold OpN at *
   split
   ·simp_all
   ·rename_i o ho
    simp only [ho] at this
    split
    ·rename_i hw;simp only [hw,if_true] at this;exact fun w₂ h₂=>this w₂ (T.trans _ _ _ r h₂)
    ·rename_i hw;simp only [hw] at this;exact ⟨hSR _ _ this.1 r,AnyN.rely T hSR hQR fuel _ _ _ _ this.2 r⟩⟩
theorem anyN_sound (T:Terms R D):∀ (fuel t:Nat) (listed:Array Bool) (a:Act) (w:World),AnyN P main R D fn md ops N Q S fuel listed a w→
  OpsC P main R D fn ops (Region.linearise.go md ops fuel t listed []) (fuel*(N+3)+1) Q a w:=by
 intro fuel
 induction fuel with
 | zero=>intro t listed a w h;simpa [Region.linearise.go] using opsC_nil T h.2
 | succ fuel ih=>
  intro t listed a w h
  obtain ⟨h₀,h₁⟩:=h
  simp only [Region.linearise.go]
  change OpsC P main R D fn ops (match (Region.ready md ops listed)[t % (Region.ready md ops listed).length]? with
   | some i=>Region.linearise.go md ops fuel (t / (Region.ready md ops listed).length) (listed.setIfInBounds i true) [i]
   | none=>[].reverse) ((fuel+1)*(N+3)+1) Q a w
  cases hi:(Region.ready md ops listed)[t % (Region.ready md ops listed).length]? with
  | none=>
   have hnil:Region.ready md ops listed=[]:=by
    cases hr:Region.ready md ops listed with
    | nil=>rfl
    | cons x xs=>
     rw [hr] at hi
     have hlt:t % (x :: xs).length<(x :: xs).length:=Nat.mod_lt _ (by simp)
     simp at hi
     simp at hlt
     omega
   exact opsC_more (by simpa using opsC_nil T (h₀ hnil)) (by omega)
  | some i=>
   simp only []
   rw [linearise_go_acc,List.reverse_singleton,List.singleton_append]
   exact opsC_more (opsC_of_opN T (OpN_mono (fun a' w' x=>ih _ _ a' w' x.2) (h₁ i (List.mem_of_getElem? hi)))) (by rw [Nat.succ_mul];omega)
theorem yields_opN (hSR:∀ x y,S x→R x y→S y) {i:Nat} {o:Oper} {v:Value} {a:Act} (hi:ops[i]? = some o) (hy:YieldsIfC P D fn ops S o v a)
  {K:Act→World→Prop} (hK:∀ a x y,K a x→R x y→K a y) {w:World} (hS:S w) (h:K (a.put o.dst v) w):OpN P main R D fn ops N i K a w:=by
 unfold OpN
 simp only [hi]
 rcases hy with ⟨hw,hv⟩ | ⟨hw,rfl⟩
 ·simp only [hw,if_true]
  intro w₁ h₁
  rw [(hv w₁ (hSR _ _ hS h₁)).1]
  exact ⟨(hv w₁ (hSR _ _ hS h₁)).2,hK _ _ _ h h₁⟩
 ·simp only [hw,Bool.false_eq_true,if_false];exact h
theorem OpN_putIf {j:Nat} {oi oj:Oper} {v:Value} (hj:ops[j]? = some oj) (hap:oi.apart ops oj=true)
  (hsi:∀ cs b,oi.op≠.select cs b) (hsj:∀ cs b,oj.op≠.select cs b) {K:Act→World→Prop} {a:Act} {w:World}
  (hy:YieldsIfC P D fn ops S oi v a) (h:OpN P main R D fn ops N j K (a.put oi.dst v) w) :
  OpN P main R D fn ops N j (fun a' w'=>YieldsIfC P D fn ops S oi v a'∧K (a'.put oi.dst v) w') a w:=by
 obtain ⟨h1,h2,h3⟩:=Oper.apart_spec hap
 have keep:∀ (a:Act),YieldsIfC P D fn ops S oi v a→∀ u,YieldsIfC P D fn ops S oi v (a.put oj.dst u):=fun a hy u=>
  hy.of_same (execOp_put oi hsi a oj.dst u h3) (wanted_put oi a oj.dst u h3)
 unfold OpN at *
 simp only [hj] at *
 rw [wanted_put oj a oi.dst v h1] at h
 split
 ·rename_i hw
  simp only [hw,if_true] at h
  intro w₁ h₁
  have h:=h w₁ h₁
  unfold listed at *
  rw [execOp_put oj hsj a oi.dst v h1] at h
  generalize (execOp a.eval oj).run P w₁=r at *
  cases r with
  | ok n w'=>
   cases n <;> simp only [uponN] at h ⊢
   case value u=>exact ⟨h.1,keep a hy u,by rw [← Act.put_comm a v u h2];exact h.2⟩
   case skip=>exact ⟨h.1,keep a hy _,by rw [← Act.put_comm a v undef h2];exact h.2⟩
   case enter f args=>exact ⟨h.1,h.2.1,h.2.2.mono fun u w'' x=>⟨keep a hy u,by rw [← Act.put_comm a v u h2];exact x⟩⟩
  | halt x w'=>simp only [uponN] at h
 ·rename_i hw
  simp only [hw] at h
  exact ⟨keep a hy _,by rw [← Act.put_comm a v undef h2];exact h⟩
theorem anyN_first (T:Terms R D) (hSR:∀ x y,S x→R x y→S y) (hQR:∀ a x y,Q .normal a x→R x y→Q .normal a y) {i:Nat} {oi:Oper} {v:Value} (hi:ops[i]? = some oi)
  (hsel:∀ (j:Nat) (o:Oper) cs b,ops[j]? = some o→o.op≠.select cs b) :
  ∀ (fuel:Nat) (listed:Array Bool) (a:Act) (w:World),
   (∀ j oj,ops[j]? = some oj→j≠i→listed.getD j true=false→(∀ e ∈ oj.after,Region.binds md e=true→e.on≠i)→oi.apart ops oj=true)→
   i ∈ Region.ready md ops listed→YieldsIfC P D fn ops S oi v a→S w→
   AnyN P main R D fn md ops N Q S fuel (listed.setIfInBounds i true) (a.put oi.dst v) w→AnyN P main R D fn md ops N Q S (fuel+1) listed a w:=by
 have hK:∀ fuel listed,∀ a x y,(S x∧AnyN P main R D fn md ops N Q S fuel listed a x)→R x y→(S y∧AnyN P main R D fn md ops N Q S fuel listed a y):=
  fun fuel listed a x y h r=>⟨hSR _ _ h.1 r,AnyN.rely T hSR hQR fuel listed a x y h.2 r⟩
 intro fuel
 induction fuel with
 | zero=>
  intro listed a w _ hr hy hS H
  refine ⟨fun h=>(by rw [h] at hr;cases hr),fun j hj=>?_⟩
  by_cases hji:j=i
  ·subst hji;exact yields_opN hSR hi hy (hK _ _) hS ⟨hS,H⟩
  ·have:=ready_mono hj hji
   rw [H.1] at this
   cases this
 | succ fuel ih=>
  intro listed a w hfree hr hy hS H
  refine ⟨fun h=>(by rw [h] at hr;cases hr),fun j hj=>?_⟩
  by_cases hji:j=i
  ·subst hji;exact yields_opN hSR hi hy (hK _ _) hS ⟨hS,H⟩
  ·have h1:=H.2 j (ready_mono hj hji)
   obtain ⟨hjun,oj,hoj,hall⟩:=mem_ready.1 hj
   have hnot:∀ e ∈ oj.after,Region.binds md e=true→e.on≠i:=fun e he hb heq=>by
    have h1:=hall e he hb
    have h0:=(mem_ready.1 hr).1
    rw [heq] at h1
    rcases Nat.lt_or_ge i listed.size with h' | h'
    ·simp [h'] at h0 h1;rw [h0] at h1;cases h1
    ·simp [Array.getElem?_eq_none h'] at h1
   have h2:=OpN_putIf hoj (hfree j oj hoj hji hjun hnot) (fun cs b=>hsel i oi cs b hi) (fun cs b=>hsel j oj cs b hoj) hy h1
   have hfree':∀ k ok,ops[k]? = some ok→k≠i→(listed.setIfInBounds j true).getD k true=false→
     (∀ e ∈ ok.after,Region.binds md e=true→e.on≠i)→oi.apart ops ok=true:=fun k ok hk hki hun hno=>by
    refine hfree k ok hk hki ?_ hno
    by_cases hjk:j=k
    ·subst hjk;exact hjun
    ·rw [getD_set_ne true hjk] at hun;exact hun
   refine OpN_mono (fun a' w' h3=>⟨h3.2.1,ih (listed.setIfInBounds j true) a' w' hfree' (ready_mono hr (Ne.symm hji)) h3.1 h3.2.1 ?_⟩) h2
   rw [Array.setIfInBounds_comm _ _ hji]
   exact h3.2.2
theorem anyN_take (T:Terms R D) (hSR:∀ x y,S x→R x y→S y) (hQR:∀ a x y,Q .normal a x→R x y→Q .normal a y) {i:Nat} {oi:Oper} {v:Value} {fuel:Nat} {listed:Array Bool} {a:Act} {w:World} (hi:ops[i]? = some oi)
  (hs:Region.noSelect ops=true) (hf:Region.free md ops listed i=true) (hr:(Region.ready md ops listed).contains i=true)
  (hy:YieldsIfC P D fn ops S oi v a) (hS:S w) (h:AnyN P main R D fn md ops N Q S fuel (listed.setIfInBounds i true) (a.put oi.dst v) w):AnyN P main R D fn md ops N Q S (fuel+1) listed a w:=
 anyN_first T hSR hQR hi (Region.noSelect_spec hs) fuel listed a w (Region.free_spec hi hf) (by simpa using hr) hy hS h
theorem anyN_all {rs:List Nat} {fuel:Nat} {listed:Array Bool} {a:Act} {w:World} (hr:Region.ready md ops listed=rs) (hne:rs≠[])
  (h:∀ i ∈ rs,OpN P main R D fn ops N i (fun a' w'=>S w'∧AnyN P main R D fn md ops N Q S fuel (listed.setIfInBounds i true) a' w') a w):AnyN P main R D fn md ops N Q S (fuel+1) listed a w:=
 ⟨fun h0=>absurd (hr ▸ h0) hne,hr ▸ h⟩
theorem anyN_done {listed:Array Bool} {a:Act} {w:World} (hr:Region.ready md ops listed=[]) (h:Q .normal a w):∀ fuel,AnyN P main R D fn md ops N Q S fuel listed a w
 | 0=>⟨hr,h⟩
 | _+1=>⟨fun _=>h,fun i hi=>by rw [hr] at hi;cases hi⟩
theorem wpC_region_N (T:Terms R D) (hd:LetsDraw D) {id:Nat} {a:Act} {w:World} (hm:P.follows .mixedOrders=true)
  (h:∀ w₁,R w w₁→AnyN P main R D fn .any ops N Q S ops.size (Array.replicate ops.size false) a { w₁ with drawn:=w₁.drawn+1 }):(Code.region id ops true).wpC P main R D fn (ops.size*(N+3)+1+1) Q a w:=
 wpC_region_draw hd fun w₁ h₁ t=>by
  simp only [Region.schedule,hm,Bool.true_or,if_true]
  exact anyN_sound T ops.size t _ a _ (h w₁ h₁)
end
end
end Go.Proofs.Ytjkikkgpenhbgaa.Sim
