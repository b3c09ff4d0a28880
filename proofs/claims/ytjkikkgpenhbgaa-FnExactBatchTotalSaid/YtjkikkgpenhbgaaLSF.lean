import Derived.Test.YtjkikkgpenhbgaaLSE
import Derived.Conc.CompanyWords
import Derived.Laws.MakeOwn
import Derived.Conc.WgGenN3
import Derived.Test.YtjkikkgpenhbgaaLSD
import Derived.Tactics
import Derived.OwnWalk
set_option linter.unusedVariables false
set_option linter.unusedSimpArgs false
set_option linter.unusedSectionVars false
set_option linter.unusedSimpArgs false
namespace Go.Proofs.Ytjkikkgpenhbgaa.Sim
section
open Go Go.Conc
section
variable {P:Program} {w:World} {t:TypeId} {d:TypeDesc} {ad:Addr} {v:Value} {es:Array Event}
theorem t_und (h:P.underlying t=some d):(Go.underlying t).runT P w es=(.ok d w,es):=by
 show (Go.program.bind fun p=>_).runT P w es=_
 rw [zar]
 show ((match P.underlying t with | some d=>_ | none=>_:Sem TypeDesc)).runT P w es=_
 rw [h]
 rfl
theorem t_isAgg (h:P.underlying t=some d) (hd:∀ f,d≠.struct f) (hd2:∀ n e,d≠.array n e):(Go.isAgg t).runT P w es=(.ok false w,es):=by
 show ((Go.underlying t).bind fun d=>_).runT P w es=_
 rw [zar,t_und h]
 cases d <;> first | rfl | exact absurd rfl (hd _) | exact absurd rfl (hd2 _ _)
theorem t_load (h:P.underlying t=some d) (hd:∀ f,d≠.struct f) (hd2:∀ n e,d≠.array n e) (hc:w.cell? ad=some v):(Instr.loadAt t (.pointer (some ad))).runT P w es=(.ok v w,es.push ⟨.cell ad,false,false⟩):=by
 have h1:(Go.loadVar t ad).runT P w es=(.ok v w,es.push ⟨.cell ad,false,false⟩):=by
  show ((Go.isAgg t).bind fun b=>_).runT P w es=_
  rw [zar,t_isAgg h hd hd2]
  show (Go.load ad).runT P w es=_
  simp only [Go.load,Sem.runT,hc]
  rfl
 exact h1
theorem load_both {o:Oper} {a:Act} {s:Nat} (ho:o.op = .load t (.tmp s)) (hs:a.tmps.getD s undef = .pointer (some ad)) (h:P.underlying t=some d) (hd:∀ f,d≠.struct f) (hd2:∀ n e,d≠.array n e) (hc:w.cell? ad=some v) :
  (execOp a.eval o).run P w = .ok (.value v) w∧(execOp a.eval o).events P w #[]=#[⟨.cell ad,false,false⟩]:=by
 have he:(execOp a.eval o).runT P w #[]=(.ok (.value v) w,#[⟨.cell ad,false,false⟩]):=by
  have:execOp a.eval o=((Instr.loadAt t (a.eval (.tmp s))).bind fun v=>Sem.pure (Next.value v)):=by
   unfold execOp
   simp only [ho]
   rfl
  rw [this,zar,show a.eval (.tmp s) = .pointer (some ad) from hs,t_load h hd hd2 hc]
  rfl
 exact ⟨by rw [← run_fst,he],by rw [Sem.events,he]⟩
theorem index_both {o:Oper} {a:Act} {x y tI:Nat} {i:TypeInfo} {m c j:Nat} (ho:o.op = .indexAddr t (.tmp x) (.tmp y)) (hx:a.tmps.getD x undef = .slice (some ad) m c) (hy:a.tmps.getD y undef = .int .i64 (j:Int)) (hS:P.underlying t=some (.slice tI)) (hi:P.info? tI=some i) (h1:i.size=1) (hj:j<m) :
  (execOp a.eval o).run P w = .ok (.value (.pointer (some (ad.add j)))) w∧(execOp a.eval o).events P w #[]=#[]:=by
 have hsz:(Go.sizeOf tI).runT P w #[]=(.ok 1 w,#[]):=by
  show ((Go.typeInfo tI).bind fun i=>_).runT P w #[]=_
  rw [zar]
  have:(Go.typeInfo tI).runT P w #[]=(.ok i w,#[]):=by
   show (Go.program.bind fun p=>_).runT P w #[]=_
   rw [zar]
   show ((match P.info? tI with | some i=>_ | none=>_:Sem TypeInfo)).runT P w #[]=_
   rw [hi]
   rfl
  rw [this]
  show (Result.ok i.size w,#[])=_
  rw [h1]
 have he:(Instr.indexAt t (.slice (some ad) m c) (.int .i64 (j:Int))).runT P w #[]=(.ok (.pointer (some (ad.add j))) w,#[]):=by
  have hr:=inv_index (a:=ad) (c:=c) (w:=w) hS hi h1 hj
  have hev:(Instr.indexAt t (.slice (some ad) m c) (.int .i64 (j:Int))).events P w #[]=#[]:=by
   have h3:¬ m≤j:=by omega
   have h4:(Go.underlying t).run P w = .ok (.slice tI) w:=r_und hS
   have h5:(Go.underlying t).events P w #[]=#[]:=by rw [Sem.events,t_und hS]
   have h6:(Go.sizeOf tI).events P w #[]=#[]:=by rw [Sem.events,hsz]
   have h7:(Go.sizeOf tI).run P w = .ok 1 w:=by rw [← run_fst _ _ #[],hsz]
   have h8:(j:Int)<(m:Int):=by omega
   simp [Instr.indexAt,asIntOf,h4,h5,h6,h7,h8,Sem.events_bind]
   exact fun hc=>absurd hc h3
  exact Prod.ext (by rw [run_fst];exact hr) hev
 have h2:(execOp a.eval o).runT P w #[]=(.ok (.value (.pointer (some (ad.add j)))) w,#[]):=by
  have:execOp a.eval o=((Instr.indexAt t (a.eval (.tmp x)) (a.eval (.tmp y))).bind fun v=>Sem.pure (Next.value v)):=by
   unfold execOp
   simp only [ho]
   rfl
  rw [this,zar,show a.eval (.tmp x) = .slice (some ad) m c from hx,show a.eval (.tmp y) = .int .i64 (j:Int) from hy,he]
  rfl
 exact ⟨by rw [← run_fst,h2],by rw [Sem.events,h2]⟩
theorem callv_both {o:Oper} {a:Act} {cf a1 a2 g:Nat} {u v:Value} {ats:Array TypeId} {fn:Func} (ho:o.op = .call { callee:=.value (.tmp cf),args:=#[.tmp a1,.tmp a2],argTypes:=ats }) (hc:a.tmps.getD cf undef = .func (.func g) #[] #[]) (h1:a.tmps.getD a1 undef=u) (h2:a.tmps.getD a2 undef=v)
  (hf:P.funcs[g]? = some fn) (hn:(fn.name == "runtime.NumGoroutine")=false) (hb:fn.body.isNone=false) :
  (execOp a.eval o).run P w = .ok (.enter g #[u,v]) w∧(execOp a.eval o).events P w #[]=#[]:=by
 have h3:(Go.callFunc g #[u,v]).runT P w #[]=(.ok (.enter g #[u,v]) w,#[]):=by
  show ((match P.funcs[g]? with | none=>_ | some fn=>_:Sem Next)).runT P w #[]=_
  rw [hf]
  dsimp only
  rw [hn,hb]
  rfl
 have h4:(execOp a.eval o).runT P w #[]=(.ok (.enter g #[u,v]) w,#[]):=by
  have:execOp a.eval o=Go.callFunc g #[u,v]:=by
   unfold execOp
   simp only [ho]
   have e1:a.eval (.tmp cf) = .func (.func g) #[] #[]:=hc
   have e2:a.eval (.tmp a1)=u:=h1
   have e3:a.eval (.tmp a2)=v:=h2
   simp only [Go.resolve,e1,Deferred.ofValue]
   show Go.invoke (.fn (.func g) #[]) (#[]++#[Operand.tmp a1,.tmp a2].map a.eval)=_
   have e4:(#[]++#[Operand.tmp a1,.tmp a2].map a.eval)=#[u,v]:=by simp [e2,e3]
   rw [e4]
   show Go.callFunc g (#[u,v]++#[])=_
   simp
  rw [this]
  exact h3
 exact ⟨by rw [← run_fst,h4],by rw [Sem.events,h4]⟩
theorem store_both {o:Oper} {a:Act} {x y:Nat} {z:Int} {u:Value} {i:TypeInfo} (ho:o.op = .store t (.tmp x) (.tmp y)) (hx:a.tmps.getD x undef = .pointer (some ad)) (hy:a.tmps.getD y undef = .int .i64 z) (hi:P.info? t=some i) (h1:i.size=1) (hc:w.cell? ad=some u) (hz:w.frozen? ad=false) :
  (execOp a.eval o).run P w = .ok .skip (w.setCell ad (.int .i64 z))∧(execOp a.eval o).events P w #[]=#[⟨.cell ad,true,false⟩]:=by
 have hsz:(Go.sizeOf t).runT P w #[]=(.ok 1 w,#[]):=by
  show ((Go.typeInfo t).bind fun i=>_).runT P w #[]=_
  rw [zar]
  have:(Go.typeInfo t).runT P w #[]=(.ok i w,#[]):=by
   show (Go.program.bind fun p=>_).runT P w #[]=_
   rw [zar]
   show ((match P.info? t with | some i=>_ | none=>_:Sem TypeInfo)).runT P w #[]=_
   rw [hi]
   rfl
  rw [this]
  show (Result.ok i.size w,#[])=_
  rw [h1]
 have h3:(Go.storeVar t ad (.int .i64 z)).runT P w #[]=(.ok () (w.setCell ad (.int .i64 z)),#[⟨.cell ad,true,false⟩]):=by
  show ((Go.sizeOf t).bind fun s=>_).runT P w #[]=_
  rw [zar,hsz]
  show ((Go.storeCells ad [.int .i64 z]).runT P w #[])=_
  simp only [Go.storeCells]
  show ((Go.store (ad.add 0) (.int .i64 z)).bind fun _=>_).runT P w #[]=_
  have e0:ad.add 0=ad:=by simp [Addr.add]
  rw [e0,zar]
  have:(Go.store ad (.int .i64 z)).runT P w #[]=(.ok () (w.setCell ad (.int .i64 z)),#[⟨.cell ad,true,false⟩]):=by
   simp only [Go.store,Sem.runT,hc,hz]
   rfl
  rw [this]
  rfl
 have h4:(execOp a.eval o).runT P w #[]=(.ok .skip (w.setCell ad (.int .i64 z)),#[⟨.cell ad,true,false⟩]):=by
  have:execOp a.eval o=((Instr.storeAt t (a.eval (.tmp x)) (a.eval (.tmp y))).bind fun _=>Sem.pure Next.skip):=by
   unfold execOp
   simp only [ho]
   rfl
  rw [this,zar,show a.eval (.tmp x) = .pointer (some ad) from hx,show a.eval (.tmp y) = .int .i64 z from hy]
  have h5:Instr.storeAt t (.pointer (some ad)) (.int .i64 z)=Go.storeVar t ad (.int .i64 z):=rfl
  rw [h5,h3]
  rfl
 exact ⟨by rw [← run_fst,h4],by rw [Sem.events,h4]⟩
theorem listed_nil_of {fn:FuncId} {a:Act} {o:Oper} (h:(execOp a.eval o).events P w #[]=#[]):listed P fn a o w=#[]:=by
 unfold listed
 rw [h]
 exact seen_none P fn
section
variable {main:Bool} {R:World→World→Prop} {D:World→World→Array Event→Prop} {fn:FuncId} {ops:Array Oper} {N i dd:Nat} {o:Oper} {a:Act} {K:Act→World→Prop}
theorem opN_enter {f:FuncId} {args:Array Value} (hi:ops[i]? = some o) (hg:o.guard=none) (idle:∀ w,D w w #[])
  (h:∀ w₁,R w w₁→(execOp a.eval o).run P w₁ = .ok (.enter f args) w₁∧(execOp a.eval o).events P w₁ #[]=#[]∧CallsC P main R D f args N w₁ fun v w'=>K (a.put o.dst v) w'):OpN P main R D fn ops N i K a w:=by
 unfold OpN
 rw [hi]
 simp only
 rw [if_pos (by unfold Region.wanted;rw [hg])]
 intro w₁ h₁
 obtain ⟨h2,h3,h4⟩:=h w₁ h₁
 rw [h2,listed_nil_of h3]
 exact ⟨rfl,idle _,h4⟩
theorem opN_skip {w2:World→World} {es:World→Array Event} (hi:ops[i]? = some o) (hg:o.guard=none)
  (h:∀ w₁,R w w₁→(execOp a.eval o).run P w₁ = .ok .skip (w2 w₁)∧(execOp a.eval o).events P w₁ #[]=es w₁∧(∀ es',(∀ e ∈ es',e ∈ es w₁)→D w₁ (w2 w₁) es')∧K (a.put o.dst undef) (w2 w₁)):OpN P main R D fn ops N i K a w:=by
 unfold OpN
 rw [hi]
 simp only
 rw [if_pos (by unfold Region.wanted;rw [hg])]
 intro w₁ h₁
 obtain ⟨h2,h3,h4,h5⟩:=h w₁ h₁
 rw [h2]
 refine ⟨h4 _ fun e he=>?_,h5⟩
 have:=mem_listed he
 rwa [h3] at this
end
end
end
section
open Go Go.Conc Go.RowKit
section
variable {P:Program} {Goal:Frame→List Frame→World→Prop} {b:Frame} {cs:List Frame} {w:World} {n:Nat} {ds:List Deferred} {rest:List Item} {I:ShIds} {tE k o r:Nat} {iI iE:TypeInfo} {A B:Option Addr} {cA cB:Nat} {l1 l2:List Int} {mk:Value} {m:Mk}
theorem ru_each_loop (hbk:b.kind = .normal) (K:Kinds P I.tS I.tI I.tP tE iI iE) (hn:k+18<n) (hk2:2≤k) (h1:sOk l1=true) (h2:sOk l2=true) (h12:l1.length=l2.length) (hr1:Row w A l1) (hr2:Row w B l2) {a0 b0:Value} {d:Nat} {f0:Nat→Value}
  (e0:f0 0 = .slice A l1.length cA) (e1:f0 1 = .slice B l2.length cB) (e4:f0 (k+4) = .int .i64 (l1.length:Int)) (e7:f0 (k+7) = .slice (some ⟨w.heap.size+3,0,none⟩) l1.length l1.length)
  (h:∀ t' f',Tm n t' f'→(∀ i,i<k+8→f' i=f0 i)→Ru P Goal (b.at ⟨t',ds⟩ rest) cs ((zas w (zaA I mk a0 b0 w.heap.size l1.length (eachVals m l1 l2) l1.length)).at d)) :
  ∀ (x:Nat) {t:Array Value} {f:Nat→Value} {j:Nat},l1.length - j=x→j≤l1.length→Tm n t f→(∀ i,i<k+8→f i=f0 i)→f (k+10) = .int .i64 (j:Int)→
   Ru P Goal (b.at ⟨t,ds⟩ (.code (eachLoopBody I m k) :: .inLoop (eachLoopBody I m k) :: .inBlock 81 :: rest)) cs ((zas w (zaA I mk a0 b0 w.heap.size l1.length (eachVals m l1 l2) j)).at d):=by
 intro x
 induction x with
 | zero=>
  intro t f j hx hj hT hf hfk
  obtain rfl:j=l1.length:=by omega
  exact ru_each_round hbk K hn hk2 h1 h2 h12 hr1 hr2 hT ((hf 0 (by omega)).trans e0) ((hf 1 (by omega)).trans e1) ((hf _ (by omega)).trans e4) ((hf _ (by omega)).trans e7) hfk (fun _ t' f' hT' hk'=>h _ _ hT' (fun i hi=>(hk' i hi).trans (hf i hi))) (fun hlt=>by omega)
 | succ x ih=>
  intro t f j hx hj hT hf hfk
  refine ru_each_round hbk K hn hk2 h1 h2 h12 hr1 hr2 hT ((hf 0 (by omega)).trans e0) ((hf 1 (by omega)).trans e1) ((hf _ (by omega)).trans e4) ((hf _ (by omega)).trans e7) hfk (fun hle=>by omega) (fun hlt t' f' hT' hk' hj'=>?_)
  exact ih (j:=j+1) (by omega) (by omega) hT' (fun i hi=>(hk' i hi).trans (hf i hi)) hj'
structure OkFn (P:Program) (I:ShIds):Prop where
 fn:∃ fn,P.funcs[I.ok]? = some fn∧(fn.name == "runtime.NumGoroutine")=false∧fn.body.isNone=false
 calls:∀ (A:Option Addr) (l:List Int) (c:Nat) (W:World),Row W A l→(l.length:Int)<9223372036854775808→Calls P I.ok #[.slice A l.length c] W fun e w'=>e = .returned (.bool (sOk l))∧∃ d,w'=W.at d
noncomputable def rg1 (I:ShIds) (k:Nat):Array Oper:=#[opr (k+3) (.call { callee:=.value (.func I.ok),args:=#[.tmp 0],argTypes:=#[I.tS] })]
noncomputable def rg2 (I:ShIds) (k:Nat):Array Oper:=#[opr (k+3) (.call { callee:=.value (.func I.ok),args:=#[.tmp 1],argTypes:=#[I.tS] })]
noncomputable def rg3 (I:ShIds) (k:Nat):Array Oper:=#[opr (k+4) (lenOp I.tS 0),opr (k+5) (lenOp I.tS 1),opr (k+6) (.binOp .neq I.tI (.tmp (k+4)) (.tmp (k+5)) I.tI)]
noncomputable def rg4 (I:ShIds) (k:Nat):Array Oper:=#[opr (k+7) (.makeSlice I.tS (.tmp (k+4)) (.tmp (k+4))),opr (k+8) (.box I.tS (.tmp (k+7))),opr (k+9) (.box I.tW (.const (.agg #[]))),opr (k+10) (.move (.const (.int .i64 0)))]
noncomputable def rg5 (o r k:Nat):Array Oper:=#[opr o (.move (.tmp (k+7))),opr r (.move (.const (.bool true)))]
theorem ru_eachRest (hbk:b.kind = .normal) (K:Kinds P I.tS I.tI I.tP tE iI iE) (h8:iI.bytes=8) (hz:iI.zero=some (.int .i64 0)) (hO:OkFn P I) (hn:k+18<n) (ho2:2≤o) (hok:o<k) (hr2':2≤r) (hrk:r<k) (hor:o≠r) (hr1:Row w A l1) (hr2:Row w B l2)
  (hl1:(l1.length:Int)<9223372036854775808) (hl2:(l2.length:Int)<9223372036854775808) {t:Array Value} {f:Nat→Value} {d:Nat} (hT:Tm n t f) (f0:f 0 = .slice A l1.length cA) (f1:f 1 = .slice B l2.length cB) (fo:f o = .slice none 0 0) (fr:f r = .bool false)
  (h:∀ t' f' d,Tm n t' f'→(∀ i,i<k→i≠o→i≠r→f' i=f i)→f' o=eachRes l1 l2 w.heap.size→f' r = .bool (eachGood l1 l2)→Ru P Goal (b.at ⟨t',ds⟩ rest) cs ((zas w (zaC I mk (.slice A l1.length cA) (.slice B l2.length cB) m l1 l2 w.heap.size)).at d)) :
  Ru P Goal (b.at ⟨t,ds⟩ (.code (eachRest I m o r k) :: rest)) cs ((zas w (box3 I mk (.slice A l1.length cA) (.slice B l2.length cB))).at d):=by
 obtain ⟨⟨fn,hf1,hf2,hf3⟩,hC⟩:=hO
 have bad:eachGood l1 l2=false→∀ t' f' d,Tm n t' f'→(∀ i,i<k→f' i=f i)→Ru P Goal (b.at ⟨t',ds⟩ rest) cs ((zas w (box3 I mk (.slice A l1.length cA) (.slice B l2.length cB))).at d):=by
  intro hg t' f' d hT' hk'
  have:=h t' f' d hT' (fun i hi _ _=>hk' i hi) (by rw [hk' o hok,fo,eachRes,hg];rfl) (by rw [hk' r hrk,fr,hg])
  rwa [zaC,hg] at this
 refine Ru.step stepG_block (Ru.step stepG_seq (Ru.step stepG_region ?_))
 refine Ru.call (ops:=rg1 I k) (i:=0) (rest:=[]) (fn:=fn) hT hbk rfl (by omega) hf1 hf2 hf3 (by
  have e:(#[Operand.tmp 0].map (Act.eval ⟨t,ds⟩))=#[Value.slice A l1.length cA]:=by simp [zay hT,f0]
  rw [e]
  exact hC A l1 cA _ ((hr1.grow _).at d) hl1) ?_
 rintro e w1 ⟨rfl,d1,rfl⟩
 refine ⟨_,rfl,fun t hT=>?_⟩
 refine Ru.step stepG_region_end (Ru.step stepG_seq (Ru.step (stepG_cond (t:=sOk l1) (by rw [zay hT,putF_same])) ?_))
 cases h1:sOk l1 with
 | false=>
  rw [if_neg (by simp)]
  exact Ru.step (stepG_exit (k':=rest) rfl) (bad (by simp [eachGood,h1]) _ _ _ hT (fun i hi=>by rw [zad (by omega)]))
 | true=>
  rw [if_pos rfl]
  refine Ru.step stepG_skip (Ru.step stepG_seq (Ru.step stepG_region ?_))
  refine Ru.call (ops:=rg2 I k) (i:=0) (rest:=[]) (fn:=fn) hT hbk rfl (by omega) hf1 hf2 hf3 (by
   have e:(#[Operand.tmp 1].map (Act.eval ⟨t,ds⟩))=#[Value.slice B l2.length cB]:=by
    have:putF f (k+3) (.bool (sOk l1)) 1 = .slice B l2.length cB:=by rw [zad (by omega)];exact f1
    simp [zay hT,this]
   rw [e]
   exact hC B l2 cB _ ((hr2.grow _).at d1) hl2) ?_
  rintro e w1 ⟨rfl,d2,rfl⟩
  refine ⟨_,rfl,fun t hT=>?_⟩
  refine Ru.step stepG_region_end (Ru.step stepG_seq (Ru.step (stepG_cond (t:=sOk l2) (by rw [zay hT,putF_same])) ?_))
  cases h2:sOk l2 with
  | false=>
   rw [if_neg (by simp)]
   exact Ru.step (stepG_exit (k':=rest) rfl) (bad (by simp [eachGood,h2]) _ _ _ hT (fun i hi=>by rw [zad (by omega),zad (by omega)]))
  | true=>
   rw [if_pos rfl]
   refine Ru.step stepG_skip (Ru.step stepG_seq (Ru.step stepG_region ?_))
   refine Ru.len (ops:=rg3 I k) (i:=0) (rest:=[1,2]) (A:=A) (m:=l1.length) (c:=cA) hT hbk K.s rfl (by omega) (by rw [zad (by omega),zad (by omega)];exact f0) (fun t hT=>?_)
   refine Ru.len (ops:=rg3 I k) (i:=1) (rest:=[2]) (A:=B) (m:=l2.length) (c:=cB) hT hbk K.s rfl (by omega) (by rw [zad (by omega),zad (by omega),zad (by omega)];exact f1) (fun t hT=>?_)
   refine Ru.bin (op:=.neq) (a0:=(l1.length:Int)) (b0:=(l2.length:Int)) (v:=.bool ((l1.length:Int) != (l2.length:Int))) (ops:=rg3 I k) (i:=2) (rest:=[]) hT hbk rfl (by omega) (by rw [zay hT,zad (by omega),putF_same]) (by rw [zay hT,putF_same]) rfl (fun t hT=>?_)
   refine Ru.step stepG_region_end (Ru.step stepG_seq (Ru.step (stepG_cond (t:=((l1.length:Int) != (l2.length:Int))) (by rw [zay hT,putF_same])) ?_))
   by_cases h12:l1.length=l2.length
   ·have e12:((l1.length:Int) != (l2.length:Int))=false:=by simp;omega
    have hg:eachGood l1 l2=true:=by simp [eachGood,h1,h2,h12]
    have h20:l1.length≤20:=by simp only [sOk,Bool.and_eq_true,decide_eq_true_eq] at h1;exact h1.1
    rw [e12] at hT ⊢
    rw [if_neg (by simp)]
    refine Ru.step stepG_skip (Ru.step stepG_seq (Ru.step stepG_region ?_))
    refine Ru.make (ops:=rg4 I k) (i:=0) (rest:=[1,2,3]) (m:=l1.length) hT hbk K.s K.ii K.i1 h8 hz rfl (by omega) (by rw [zad (by omega),zad (by omega),putF_same]) h20 (fun t hT=>?_)
    refine Ru.box (ops:=rg4 I k) (i:=1) (rest:=[2,3]) hT hbk rfl (by omega) (by rw [zay hT,putF_same]) (fun t hT=>?_)
    refine Ru.box (ops:=rg4 I k) (i:=2) (rest:=[3]) (v:=.agg #[]) hT hbk rfl (by omega) rfl (fun t hT=>?_)
    refine Ru.move (ops:=rg4 I k) (i:=3) (rest:=[]) (v:=.int .i64 ((0:Nat):Int)) hT hbk rfl (by omega) rfl (fun t hT=>?_)
    simp only [at_at] at hT ⊢
    have hsz:((zas w (box3 I mk (.slice A l1.length cA) (.slice B l2.length cB))).at d2).heap.size=w.heap.size+3:=growW_size _ _
    rw [hsz] at hT ⊢
    have hW:((((zas w (box3 I mk (.slice A l1.length cA) (.slice B l2.length cB))).at d2).alloc (.cells (madeCells #[.int .i64 0] l1.length) I.tI)).alloc (.cells (Value.slice (some ⟨w.heap.size+3,0,none⟩) l1.length l1.length).cells I.tS)).alloc (.cells (Value.agg #[]).cells I.tW)=(zas w (zaA I mk (.slice A l1.length cA) (.slice B l2.length cB) w.heap.size l1.length (eachVals m l1 l2) 0)).at d2:=by
     have hm:madeCells #[.int .i64 0] l1.length=((List.replicate l1.length (0:Int)).map (Value.int .i64)).toArray:=by
      apply Array.ext_getElem?
      intro i
      by_cases hi:i<l1.length
      ·simp [madeCells,hi,Nat.mod_one]
      ·simp [madeCells,hi]
     rw [← growW_at,zaI,zaI,zaI,← growW_at,hm]
     simp [zaA,iBoxes,Value.cells]
    rw [hW]
    refine Ru.step stepG_region_end (Ru.step stepG_seq (Ru.step stepG_block (Ru.step stepG_loop ?_)))
    refine ru_each_loop (cA:=cA) (cB:=cB) hbk K hn (by omega) h1 h2 h12 hr1 hr2 (d:=d2) (f0:=_) ?_ ?_ ?_ ?_ (fun t' f' hT' hk'=>?_) l1.length (j:=0) (by omega) (by omega) hT (fun i hi=>rfl) putF_same
    ·repeat (first | exact f0 | rw [zad (by omega)])
    ·repeat (first | exact f1 | rw [zad (by omega)])
    ·rw [zad (by omega),zad (by omega),zad (by omega),zad (by omega),zad (by omega),zad (by omega),putF_same]
    ·rw [zad (by omega),zad (by omega),zad (by omega),putF_same]
    ·refine Ru.step stepG_region ?_
     refine Ru.move (ops:=rg5 o r k) (i:=0) (rest:=[1]) (v:=.slice (some ⟨w.heap.size+3,0,none⟩) l1.length l1.length) hT' hbk rfl (by omega) (by rw [zay hT',hk' _ (by omega),zad (by omega),zad (by omega),zad (by omega),putF_same]) (fun t hT=>?_)
     refine Ru.move (ops:=rg5 o r k) (i:=1) (rest:=[]) (v:=.bool true) hT hbk rfl (by omega) rfl (fun t hT=>?_)
     refine Ru.step stepG_region_end (Ru.step stepG_inBlock ?_)
     have hfin:=h t _ d2 hT (fun i hi ho hr=>by
      rw [zad hr,zad ho,hk' i (by omega)]
      repeat (first | rfl | rw [zad (by omega)])) (by rw [zad hor,putF_same,eachRes,hg];rfl) (by rw [putF_same,hg])
     rw [zaC,hg] at hfin
     exact hfin
   ·have e12:((l1.length:Int) != (l2.length:Int))=true:=by simp;omega
    rw [e12] at hT ⊢
    rw [if_pos rfl]
    exact Ru.step (stepG_exit (k':=rest) rfl) (bad (by simp [eachGood,h12]) _ _ _ hT (fun i hi=>by rw [zad (by omega),zad (by omega),zad (by omega),zad (by omega),zad (by omega)]))
end
end
section
open Go Go.Conc Go.RowKit
section
variable {P:Program} {Goal:Frame→List Frame→World→Prop} {b:Frame} {cs:List Frame} {w:World} {n:Nat} {ds:List Deferred} {rest:List Item} {I:ShIds} {tE k o r:Nat} {iI iE:TypeInfo} {A B:Option Addr} {cA cB:Nat} {l1 l2:List Int} {mk:Value} {m:Mk}
noncomputable def rg0 (I:ShIds) (mk:Value) (o r k:Nat):Array Oper:=#[opr k (.box I.tS (.tmp 0)),opr (k+1) (.box I.tS (.tmp 1)),opr (k+2) (.box I.tF (.const mk)),opr o (.move (.const (.slice none 0 0))),opr r (.move (.const (.bool false)))]
def OneCell (v:Value):Prop:=v.cells=#[v]
theorem ru_eachBoxes (hbk:b.kind = .normal) (hmk:OneCell mk) (hn:k+25<n) (hok:o<k) (hrk:r<k) (ho2:2≤o) (hr2':2≤r) (hor:o≠r)
  {t:Array Value} {f:Nat→Value} (hT:Tm n t f) (f0:f 0 = .slice A l1.length cA) (f1:f 1 = .slice B l2.length cB)
  (h:∀ t' f',Tm n t' f'→(∀ i,i<k→i≠o→i≠r→f' i=f i)→f' o = .slice none 0 0→f' r = .bool false→f' k = .pointer (some ⟨w.heap.size,0,none⟩)→Ru P Goal (b.at ⟨t',ds⟩ rest) cs (zas w (box3 I mk (.slice A l1.length cA) (.slice B l2.length cB)))) :
  Ru P Goal (b.at ⟨t,ds⟩ (.code (eachBoxes I mk o r k) :: rest)) cs w:=by
 refine Ru.step stepG_region ?_
 refine Ru.box (ops:=rg0 I mk o r k) (i:=0) (rest:=[1,2,3,4]) (v:=.slice A l1.length cA) hT hbk rfl (by omega) (by rw [zay hT];exact f0) (fun t hT=>?_)
 refine Ru.box (ops:=rg0 I mk o r k) (i:=1) (rest:=[2,3,4]) (v:=.slice B l2.length cB) hT hbk rfl (by omega) (by rw [zay hT,zad (by omega)];exact f1) (fun t hT=>?_)
 refine Ru.box (ops:=rg0 I mk o r k) (i:=2) (rest:=[3,4]) (v:=mk) hT hbk rfl (by omega) rfl (fun t hT=>?_)
 refine Ru.move (ops:=rg0 I mk o r k) (i:=3) (rest:=[4]) (v:=.slice none 0 0) hT hbk rfl (by omega) rfl (fun t hT=>?_)
 refine Ru.move (ops:=rg0 I mk o r k) (i:=4) (rest:=[]) (v:=.bool false) hT hbk rfl (by omega) rfl (fun t hT=>?_)
 refine Ru.step stepG_region_end ?_
 have hW:((w.alloc (.cells (Value.slice A l1.length cA).cells I.tS)).alloc (.cells (Value.slice B l2.length cB).cells I.tS)).alloc (.cells mk.cells I.tF)=zas w (box3 I mk (.slice A l1.length cA) (.slice B l2.length cB)):=by
  have:w=zas w []:=(growW_nil w).symm
  rw [this,zaI,zaI,zaI,← this,hmk]
  rfl
 rw [hW]
 refine h _ _ hT (fun i hi ho hr=>?_) ?_ putF_same ?_
 ·rw [zad hr,zad ho,zad (by omega),zad (by omega),zad (by omega)]
 ·rw [zad hor,putF_same]
 ·rw [zad (by omega),zad (by omega),zad (by omega),zad (by omega),putF_same]
theorem ru_each (look:Bool) (hbk:b.kind = .normal) (hmk:OneCell mk) (K:Kinds P I.tS I.tI I.tP tE iI iE) (h8:iI.bytes=8) (hz:iI.zero=some (.int .i64 0)) (hO:OkFn P I) (hn:k+25<n) (ho2:2≤o) (hok:o<k) (hr2':2≤r) (hrk:r<k) (hor:o≠r) (hr1:Row w A l1) (hr2:Row w B l2)
  (hl1:(l1.length:Int)<9223372036854775808) (hl2:(l2.length:Int)<9223372036854775808) {t:Array Value} {f:Nat→Value} (hT:Tm n t f) (f0:f 0 = .slice A l1.length cA) (f1:f 1 = .slice B l2.length cB)
  (h:∀ t' f' d,Tm n t' f'→(∀ i,i<k→i≠o→i≠r→f' i=f i)→f' o=eachRes l1 l2 w.heap.size→f' r = .bool (eachGood l1 l2)→Ru P Goal (b.at ⟨t',ds⟩ rest) cs ((zas w (zaC I mk (.slice A l1.length cA) (.slice B l2.length cB) m l1 l2 w.heap.size)).at d)) :
  Ru P Goal (b.at ⟨t,ds⟩ (.code (eachCode I mk m o r k look) :: rest)) cs w:=by
 refine Ru.step stepG_seq (ru_eachBoxes hbk hmk hn hok hrk ho2 hr2' hor hT f0 f1 (fun t1 g1 hT1 e1 eo er ek=>?_))
 have fin:∀ t2 g2 d,Tm n t2 g2→(∀ i,i<k→g2 i=g1 i)→Ru P Goal (b.at ⟨t2,ds⟩ (.code (eachRest I m o r k) :: rest)) cs ((zas w (box3 I mk (.slice A l1.length cA) (.slice B l2.length cB))).at d):=by
  intro t2 g2 d hT2 e2
  refine ru_eachRest (cA:=cA) (cB:=cB) hbk K h8 hz hO (by omega) ho2 hok hr2' hrk hor hr1 hr2 hl1 hl2 hT2 ?_ ?_ ?_ ?_ (fun t3 g3 d3 hT3 e3 eo3 er3=>h t3 g3 d3 hT3 (fun i hi ho hr=>?_) eo3 er3)
  ·rw [e2 0 (by omega),e1 0 (by omega) (by omega) (by omega)];exact f0
  ·rw [e2 1 (by omega),e1 1 (by omega) (by omega) (by omega)];exact f1
  ·rw [e2 o hok];exact eo
  ·rw [e2 r hrk];exact er
  ·rw [e3 i hi ho hr,e2 i hi,e1 i hi ho hr]
 cases look with
 | false=>exact fin t1 g1 w.drawn hT1 (fun i _=>rfl)
 | true=>
  have hq:(zas w (box3 I mk (.slice A l1.length cA) (.slice B l2.length cB))).heap[w.heap.size]? = some (.cells #[.slice A l1.length cA] I.tS (0,0)):=growW_new (k:=0)
  have hfz:(zas w (box3 I mk (.slice A l1.length cA) (.slice B l2.length cB))).frozen? ⟨w.heap.size,0,none⟩=false:=by
   unfold World.frozen?
   rw [hq]
   simp
  have a0:g1 0 = .slice A l1.length cA:=(e1 0 (by omega) (by omega) (by omega)).trans f0
  have a1:g1 1 = .slice B l2.length cB:=(e1 1 (by omega) (by omega) (by omega)).trans f1
  refine Ru.step stepG_seq (ru_scan (Q:=⟨w.heap.size,0,none⟩) hbk K (hr1.grow _) hq hfz hl1 (by omega) (by omega) (by omega) hT1 a0 ek (fun t2 g2 d2 hT2 e2=>?_))
  refine Ru.step stepG_seq (ru_scan (w:=(zas w (box3 I mk (.slice A l1.length cA) (.slice B l2.length cB))).at d2) (Q:=⟨w.heap.size,0,none⟩) hbk K ((hr2.grow _).at d2) hq hfz hl2 (by omega) (by omega) (by omega) hT2 ((e2 1 (by omega)).trans a1) ((e2 k (by omega)).trans ek) (fun t3 g3 d3 hT3 e3=>?_))
  exact fin t3 g3 d3 hT3 (fun i hi=>(e3 i (by omega)).trans (e2 i (by omega)))
end
section
variable {P:Program} {w:World} {I:ShIds} {tE:Nat} {iI iE:TypeInfo} {A B:Option Addr} {cA cB:Nat} {l1 l2:List Int} {mk:Value} {m:Mk} {f:FuncId} {fn:Func}
theorem calls_of_ru {c:Code} {args:Array Value} {R:Value→World→Prop} (hf:P.funcs[f]? = some fn) (hb:fn.body=some c)
  (h:∀ cs,Ru P (fun fr cs' w'=>cs'=cs∧fr.fn=f∧∃ v,fr.leaving P w' (.returned v)∧R v w') ((base f).at ⟨args++Array.replicate (fn.ntmps - args.size) undef,[]⟩ [.code c]) cs w) :
  Calls P f args w fun e w'=>∃ v,e = .returned v∧R v w':=by
 intro cs
 obtain ⟨n,fr,cs',w',hn,rfl,hfn,v,hl,hR⟩:=h cs
 rw [← enter_at _ hf hb] at hn
 exact ⟨.returned v,w',fr,⟨v,rfl,hR⟩,⟨n,hn⟩,hfn,hl⟩
end
end
section
open Go Go.Conc
section
variable {P:Program} {main:Bool} {R:World→World→Prop} {D:World→World→Array Event→Prop} {Stop:Goroutine→World→Prop} {F:World→Prop} {b:Frame} {k:List Item} {cs:List Frame} {w:World} {sz n m:Nat} {t:Array Value} {f:Nat→Value} {ds:List Deferred} {ops:Array Oper} {i d:Nat} {rest:List Nat} {o:Oper} {v:Value}
structure Car (R:World→World→Prop) (D:World→World→Array Event→Prop) (F:World→Prop):Prop where
 rl:∀ w w₁,F w→R w w₁→F w₁
 idle:∀ w,F w→D w w #[]
theorem gs_ctl {fr fr':Frame} {cs':List Frame} (C:Car R D F) (hF:F w) (hs:∀ w,stepG P main (G fr cs) w = .go (G fr' cs') w #[]) (h:∀ w,F w→Goes P main R D Stop m (G fr' cs') w):Goes P main R D Stop (m+1) (G fr cs) w:=
 Goes.step rfl fun w₁ h₁=>by rw [hs];exact ⟨C.idle _ (C.rl _ _ hF h₁),h _ (C.rl _ _ hF h₁)⟩
theorem gs_val (C:Car R D F) (hF:F w) (hT:Tm sz t f) (hbk:b.kind = .normal) (ho:ops[i]? = some o) (hd:o.dst=some d) (hdz:d<sz) (hw:Region.wanted o (yielded ops t)=true)
  (h:∀ w₁,F w₁→∃ w₂ es,(execOp (Act.eval ⟨t,ds⟩) o).run P w₁ = .ok (.value v) w₂∧(execOp (Act.eval ⟨t,ds⟩) o).events P w₁ #[]=es∧(∀ es',(∀ e ∈ es',e ∈ es)→D w₁ w₂ es')∧∀ t',Tm sz t' (putF f d v)→Goes P main R D Stop m (G (b.at ⟨t',ds⟩ (.inRegion ops rest :: k)) cs) w₂) :
  Goes P main R D Stop (m+1) (G (b.at ⟨t,ds⟩ (.inRegion ops (i :: rest) :: k)) cs) w:=by
 refine Goes.step rfl fun w₁ h₁=>?_
 obtain ⟨w₂,es,hr,he,hD,hn⟩:=h w₁ (C.rl _ _ hF h₁)
 rw [stepG_value ho hw (by rw [hbk];exact fun e=>by cases e) hr]
 refine ⟨hD _ fun e hm=>?_,?_⟩
 ·have:=mem_listed hm
  rwa [he] at this
 ·rw [hd]
  exact hn _ (hT.put hdz v)
theorem zaw (C:Car R D F) (hF:F w) (hT:Tm sz t f) (hbk:b.kind = .normal) (ho:ops[i]? = some o) (hd:o.dst=some d) (hdz:d<sz) (hw:Region.wanted o (yielded ops t)=true)
  (hr:∀ w,(execOp (Act.eval ⟨t,ds⟩) o).run P w = .ok (.value v) w∧(execOp (Act.eval ⟨t,ds⟩) o).events P w #[]=#[])
  (h:∀ w t',F w→Tm sz t' (putF f d v)→Goes P main R D Stop m (G (b.at ⟨t',ds⟩ (.inRegion ops rest :: k)) cs) w) :
  Goes P main R D Stop (m+1) (G (b.at ⟨t,ds⟩ (.inRegion ops (i :: rest) :: k)) cs) w:=
 gs_val C hF hT hbk ho hd hdz hw fun w₁ hF₁=>⟨w₁,#[],(hr w₁).1,(hr w₁).2,fun es' hes=>by
  have:es'=#[]:=by
   apply Array.eq_empty_of_size_eq_zero
   rcases Nat.eq_zero_or_pos es'.size with h | h
   ·exact h
   ·exact absurd (hes _ (Array.getElem_mem h)) (by simp)
  rw [this]
  exact C.idle _ hF₁,fun t' hT'=>h w₁ t' hF₁ hT'⟩
theorem gs_none (C:Car R D F) (hF:F w) (hT:Tm sz t f) (hbk:b.kind = .normal) (ho:ops[i]? = some o) (hd:o.dst=none) (hw:Region.wanted o (yielded ops t)=true)
  (h:∀ w₁,F w₁→∃ w₂ es,(execOp (Act.eval ⟨t,ds⟩) o).run P w₁ = .ok .skip w₂∧(execOp (Act.eval ⟨t,ds⟩) o).events P w₁ #[]=es∧(∀ es',(∀ e ∈ es',e ∈ es)→D w₁ w₂ es')∧Goes P main R D Stop m (G (b.at ⟨t,ds⟩ (.inRegion ops rest :: k)) cs) w₂) :
  Goes P main R D Stop (m+1) (G (b.at ⟨t,ds⟩ (.inRegion ops (i :: rest) :: k)) cs) w:=by
 refine Goes.step rfl fun w₁ h₁=>?_
 obtain ⟨w₂,es,hr,he,hD,hn⟩:=h w₁ (C.rl _ _ hF h₁)
 rw [stepG_none ho hw (by rw [hbk];exact fun e=>by cases e) hr]
 refine ⟨hD _ fun e hm=>?_,?_⟩
 ·have:=mem_listed hm
  rwa [he] at this
 ·rw [hd]
  exact hn
theorem gs_unw (C:Car R D F) (hF:F w) (hT:Tm sz t f) (ho:ops[i]? = some o) (hd:o.dst=some d) (hdz:d<sz) (hw:Region.wanted o (yielded ops t)=false)
  (h:∀ w t',F w→Tm sz t' (putF f d undef)→Goes P main R D Stop m (G (b.at ⟨t',ds⟩ (.inRegion ops rest :: k)) cs) w) :
  Goes P main R D Stop (m+1) (G (b.at ⟨t,ds⟩ (.inRegion ops (i :: rest) :: k)) cs) w:=by
 refine Goes.step rfl fun w₁ h₁=>?_
 rw [stepG_unwanted ho hw,hd]
 exact ⟨C.idle _ (C.rl _ _ hF h₁),h _ _ (C.rl _ _ hF h₁) (hT.put hdz undef)⟩
end
section
variable {P:Program} {w:World} {a:Act} {o:Oper}
theorem move_both {x:Operand} (ho:o.op = .move x):(execOp a.eval o).run P w = .ok (.value (a.eval x)) w∧(execOp a.eval o).events P w #[]=#[]:=by
 have:execOp a.eval o=Sem.pure (.value (a.eval x)):=by unfold execOp;simp only [ho];rfl
 rw [this]
 exact ⟨rfl,rfl⟩
theorem assign_both {x:Operand} (ho:o.op = .assign x):(execOp a.eval o).run P w = .ok (.value (a.eval x)) w∧(execOp a.eval o).events P w #[]=#[]:=by
 have:execOp a.eval o=Sem.pure (.value (a.eval x)):=by unfold execOp;simp only [ho];rfl
 rw [this]
 exact ⟨rfl,rfl⟩
theorem box_both {x:Operand} {e:Nat} (ho:o.op = .box e x):(execOp a.eval o).run P w = .ok (.value (.pointer (some ⟨w.heap.size,0,none⟩))) (w.alloc (.cells (a.eval x).cells e))∧(execOp a.eval o).events P w #[]=#[]:=by
 have:execOp a.eval o=((Instr.box e (a.eval x)).bind fun v=>Sem.pure (Next.value v)):=by unfold execOp;simp only [ho];rfl
 rw [this]
 have h:((Instr.box e (a.eval x)).bind fun v=>Sem.pure (Next.value v)).runT P w #[]=(.ok (.value (.pointer (some ⟨w.heap.size,0,none⟩))) (w.alloc (.cells (a.eval x).cells e)),#[]):=rfl
 exact ⟨by rw [← run_fst,h],by rw [Sem.events,h]⟩
theorem alloc_both {e:Nat} {z:Value} {i:TypeInfo} (ho:o.op = .alloc e) (hi:P.info? e=some i) (hz:i.zero=some z):(execOp a.eval o).run P w = .ok (.value (.pointer (some ⟨w.heap.size,0,none⟩))) (w.alloc (.cells z.cells e))∧(execOp a.eval o).events P w #[]=#[]:=by
 have h0:execOp a.eval o=((Instr.alloc e true (.tuple #[])).bind fun v=>Sem.pure (Next.value v)):=by unfold execOp;simp only [ho];rfl
 have h1:(Go.zeroValue e).runT P w #[]=(.ok z w,#[]):=by
  show ((Go.typeInfo e).bind fun i=>_).runT P w #[]=_
  rw [zar]
  have:(Go.typeInfo e).runT P w #[]=(.ok i w,#[]):=by
   show (Go.program.bind fun p=>_).runT P w #[]=_
   rw [zar]
   show ((match P.info? e with | some i=>_ | none=>_:Sem TypeInfo)).runT P w #[]=_
   rw [hi]
   rfl
  rw [this]
  show ((match i.zero with | some v=>_ | none=>_:Sem Value)).runT P w #[]=_
  rw [hz]
  rfl
 have h:((Instr.alloc e true (.tuple #[])).bind fun v=>Sem.pure (Next.value v)).runT P w #[]=(.ok (.value (.pointer (some ⟨w.heap.size,0,none⟩))) (w.alloc (.cells z.cells e)),#[]):=by
  rw [zar]
  have:(Instr.alloc e true (.tuple #[])).runT P w #[]=(.ok (.pointer (some ⟨w.heap.size,0,none⟩)) (w.alloc (.cells z.cells e)),#[]):=by
   show ((Go.zeroValue e).bind fun z=>_).runT P w #[]=_
   rw [zar,h1]
   rfl
  rw [this]
  rfl
 rw [h0]
 exact ⟨by rw [← run_fst,h],by rw [Sem.events,h]⟩
theorem bin_both {op:BinOp} {tI:Nat} {X Y:Operand} {x y:Int} {v:Value} (ho:o.op = .binOp op tI X Y tI) (hx:a.eval X = .int .i64 x) (hy:a.eval Y = .int .i64 y) (hr:∀ w,(Go.binOp op tI (.int .i64 x) (.int .i64 y)).runT P w #[]=(.ok v w,#[])) :
  (execOp a.eval o).run P w = .ok (.value v) w∧(execOp a.eval o).events P w #[]=#[]:=by
 have h0:execOp a.eval o=((Go.eqGuard op tI X Y (a.eval X) (a.eval Y)).bind fun _=>(Go.binOp op tI (a.eval X) (a.eval Y))).bind fun v=>Sem.pure (Next.value v):=by unfold execOp;simp only [ho];rfl
 have h1:(Go.eqGuard op tI X Y (.int .i64 x) (.int .i64 y)).runT P w #[]=(.ok () w,#[]):=by cases op <;> rfl
 have h:(execOp a.eval o).runT P w #[]=(.ok (.value v) w,#[]):=by
  rw [h0,hx,hy,zar,zar,h1]
  simp only
  rw [hr w]
  rfl
 exact ⟨by rw [← run_fst,h],by rw [Sem.events,h]⟩
end
end
section
open Go Go.Conc Go.RowKit
section
variable {P:Program} {w:World} {a:Act} {o:Oper} {tS tI:Nat}
theorem both_of {s:Sem Next} {r:Result Next} {es:Array Event} (h:s.runT P w #[]=(r,es)):s.run P w=r∧s.events P w #[]=es:=⟨by rw [← run_fst,h],by rw [Sem.events,h]⟩
theorem len_both {s:Nat} {A:Option Addr} {n c:Nat} (ho:o.op = .call { callee:=.builtin .len,args:=#[.tmp s],argTypes:=#[tS] }) (hs:a.tmps.getD s undef = .slice A n c) (hS:P.underlying tS=some (.slice tI)) :
  (execOp a.eval o).run P w = .ok (.value (.int .i64 (n:Int))) w∧(execOp a.eval o).events P w #[]=#[]:=by
 have h0:execOp a.eval o=((Builtin.len_ #[tS] o.type #[.slice A n c]).bind fun v=>Sem.pure (Next.value v)):=by
  unfold execOp
  simp only [ho]
  have e:(#[Operand.tmp s].map a.eval)=#[Value.slice A n c]:=by
   have:a.eval (.tmp s) = .slice A n c:=hs
   simp [this]
  simp only [Go.resolve]
  rw [e]
  rfl
 rw [h0]
 refine both_of ?_
 rw [zar]
 have:(Builtin.len_ #[tS] o.type #[.slice A n c]).runT P w #[]=(.ok (.int .i64 (n:Int)) w,#[]):=by
  show ((Go.underlying tS).bind fun d=>_).runT P w #[]=_
  rw [zar,t_und hS]
  rfl
 rw [this]
 rfl
theorem not_both {x:Operand} {t:Nat} {b:Bool} (ho:o.op = .unOp .not t x) (hx:a.eval x = .bool b):(execOp a.eval o).run P w = .ok (.value (.bool !b)) w∧(execOp a.eval o).events P w #[]=#[]:=by
 have h0:execOp a.eval o=((Op.unary .not (.bool b)).bind fun v=>Sem.pure (Next.value v)):=by
  unfold execOp
  simp only [ho,hx]
  rfl
 rw [h0]
 exact both_of rfl
theorem pick_both {c x y:Operand} {b:Bool} (ho:o.op = .pick c x y) (hc:a.eval c = .bool b):(execOp a.eval o).run P w = .ok (.value (if b then a.eval x else a.eval y)) w∧(execOp a.eval o).events P w #[]=#[]:=by
 have h0:execOp a.eval o=Sem.pure (.value (if b then a.eval x else a.eval y)):=by
  unfold execOp
  simp only [ho,hc]
  rfl
 rw [h0]
 exact both_of rfl
theorem mkfn_both {g:Nat} {cap:Array Operand} (ho:o.op = .makeFunc (.func g) #[] cap):(execOp a.eval o).run P w = .ok (.value (.func (.func g) #[] (cap.map a.eval))) w∧(execOp a.eval o).events P w #[]=#[]:=by
 have h0:execOp a.eval o=((Instr.makeFunc (.func g) #[] (cap.map a.eval)).bind fun v=>Sem.pure (Next.value v)):=by
  unfold execOp
  simp only [ho,Array.map_empty]
  rfl
 rw [h0]
 exact both_of rfl
theorem extract_both {x:Operand} {i:Nat} {vs:Array Value} {v:Value} (ho:o.op = .extract x i) (hx:a.eval x = .tuple vs) (hv:vs[i]? = some v):(execOp a.eval o).run P w = .ok (.value v) w∧(execOp a.eval o).events P w #[]=#[]:=by
 have h0:execOp a.eval o=((Instr.extract (.tuple vs) i).bind fun v=>Sem.pure (Next.value v)):=by
  unfold execOp
  simp only [ho,hx]
  rfl
 have h1:Instr.extract (.tuple vs) i=Sem.pure v:=by
  unfold Instr.extract
  simp only [hv]
  rfl
 rw [h0,h1]
 exact both_of rfl
theorem make_both {x:Nat} {iI:TypeInfo} {m:Nat} (ho:o.op = .makeSlice tS (.tmp x) (.tmp x)) (hx:a.tmps.getD x undef = .int .i64 (m:Int)) (hS:P.underlying tS=some (.slice tI)) (hi:P.info? tI=some iI) (h1:iI.size=1) (h8:iI.bytes=8) (hz:iI.zero=some (.int .i64 0)) (hm:m≤20) :
  (execOp a.eval o).run P w = .ok (.value (.slice (some ⟨w.heap.size,0,none⟩) m m)) (w.alloc (.cells (madeCells #[.int .i64 0] m) tI))∧(execOp a.eval o).events P w #[]=#[]:=by
 have h0:execOp a.eval o=((Instr.makeSlice tS (.int .i64 (m:Int)) (.int .i64 (m:Int))).bind fun v=>Sem.pure (Next.value v)):=by
  unfold execOp
  simp only [ho]
  rw [show a.eval (.tmp x) = .int .i64 (m:Int) from hx]
  rfl
 have hr:=run_make (P:=P) w tS tI iI (.int .i64 0) hS hi hz .i64 .i64 m m (by omega) (by omega) (by rw [h8];omega) (by omega)
 have he:=events_make (P:=P) w tS tI iI (.int .i64 0) hS hi hz .i64 .i64 m m (by omega) (by omega) (by rw [h8];omega) (by omega) (by rw [h8];simp;omega) #[]
 rw [h1] at hr
 simp only [Int.toNat_natCast,Nat.mul_one] at hr
 rw [h0]
 refine both_of ?_
 rw [zar]
 have:(Instr.makeSlice tS (.int .i64 (m:Int)) (.int .i64 (m:Int))).runT P w #[]=(.ok (.slice (some ⟨w.heap.size,0,none⟩) m m) (w.alloc (.cells (madeCells #[.int .i64 0] m) tI)),#[]):=
  Prod.ext (by rw [run_fst];exact hr) he
 rw [this]
 rfl
theorem storev_both {x y:Nat} {ad:Addr} {z u:Value} {i:TypeInfo} (ho:o.op = .store tI (.tmp x) (.tmp y)) (hx:a.tmps.getD x undef = .pointer (some ad)) (hy:a.tmps.getD y undef=z) (h1c:(∃ A n c,z = .slice A n c)∨∃ n,z = .int .i64 n) (hi:P.info? tI=some i) (h1:i.size=1) (hc:w.cell? ad=some u) (hz:w.frozen? ad=false) :
  (execOp a.eval o).run P w = .ok .skip (w.setCell ad z)∧(execOp a.eval o).events P w #[]=#[⟨.cell ad,true,false⟩]:=by
 rcases h1c with ⟨A,n,c,rfl⟩ | ⟨n,rfl⟩
 rotate_left
 ·exact store_both ho hx hy hi h1 hc hz
 have hsz:(Go.sizeOf tI).runT P w #[]=(.ok 1 w,#[]):=by
  show ((Go.typeInfo tI).bind fun i=>_).runT P w #[]=_
  rw [zar]
  have:(Go.typeInfo tI).runT P w #[]=(.ok i w,#[]):=by
   show (Go.program.bind fun p=>_).runT P w #[]=_
   rw [zar]
   show ((match P.info? tI with | some i=>_ | none=>_:Sem TypeInfo)).runT P w #[]=_
   rw [hi]
   rfl
  rw [this]
  show (Result.ok i.size w,#[])=_
  rw [h1]
 have h3:(Go.storeVar tI ad (.slice A n c)).runT P w #[]=(.ok () (w.setCell ad (.slice A n c)),#[⟨.cell ad,true,false⟩]):=by
  show ((Go.sizeOf tI).bind fun s=>_).runT P w #[]=_
  rw [zar,hsz]
  show ((Go.storeCells ad [.slice A n c]).runT P w #[])=_
  simp only [Go.storeCells]
  show ((Go.store (ad.add 0) (.slice A n c)).bind fun _=>_).runT P w #[]=_
  have e0:ad.add 0=ad:=by simp [Addr.add]
  rw [e0,zar]
  have:(Go.store ad (.slice A n c)).runT P w #[]=(.ok () (w.setCell ad (.slice A n c)),#[⟨.cell ad,true,false⟩]):=by
   simp only [Go.store,Sem.runT,hc,hz]
   rfl
  rw [this]
  rfl
 have h0:execOp a.eval o=((Instr.storeAt tI (.pointer (some ad)) (.slice A n c)).bind fun _=>Sem.pure Next.skip):=by
  unfold execOp
  simp only [ho]
  rw [show a.eval (.tmp x) = .pointer (some ad) from hx,show a.eval (.tmp y) = .slice A n c from hy]
  rfl
 rw [h0]
 refine both_of ?_
 have h5:Instr.storeAt tI (.pointer (some ad)) (.slice A n c)=Go.storeVar tI ad (.slice A n c):=rfl
 rw [zar,h5,h3]
 rfl
end
end
section
open Go Go.Conc Go.RowKit
section
variable {P:Program} {main:Bool} {R:World→World→Prop} {D:World→World→Array Event→Prop} {Stop:Goroutine→World→Prop} {F:World→Prop} {b:Frame} {k:List Item} {cs:List Frame} {w:World} {sz n m:Nat} {t:Array Value} {f:Nat→Value} {ds:List Deferred} {ops:Array Oper} {i d:Nat} {rest:List Nat} {o:Oper} {v:Value}
theorem op_of {x:Op} {d:Option Tmp} (h:(ops[i]?).map (fun o=>(o.op,o.dst,o.guard))=some (x,d,none)):∃ o,ops[i]? = some o∧o.op=x∧o.dst=d∧∀ ys,Region.wanted o ys=true:=by
 obtain ⟨o,h,e⟩:=Option.map_eq_some_iff.1 h
 simp only [Prod.mk.injEq] at e
 exact ⟨o,h,e.1,e.2.1,fun ys=>by unfold Region.wanted;rw [e.2.2]⟩
theorem gs_reg {id:Nat} {l:List Nat} (C:Car R D F) (hF:F w) (hl:List.range ops.size=l) {a:Act} (h:∀ w,F w→Goes P main R D Stop m (G (b.at a (.inRegion ops l :: k)) cs) w):Goes P main R D Stop (m+1) (G (b.at a (.code (.region id ops false) :: k)) cs) w:=
 gs_ctl C hF (fun w=>by rw [← hl];exact stepG_region) h
theorem gs_end {a:Act} (C:Car R D F) (hF:F w) (h:∀ w,F w→Goes P main R D Stop m (G (b.at a k) cs) w):Goes P main R D Stop (m+1) (G (b.at a (.inRegion ops [] :: k)) cs) w:=
 gs_ctl C hF (fun w=>stepG_region_end) h
theorem gs_seq {x y:Code} {a:Act} (C:Car R D F) (hF:F w) (h:∀ w,F w→Goes P main R D Stop m (G (b.at a (.code x :: .code y :: k)) cs) w):Goes P main R D Stop (m+1) (G (b.at a (.code (.seq x y) :: k)) cs) w:=
 gs_ctl C hF (fun w=>stepG_seq) h
theorem gs_cond {x y:Code} {c:Operand} {u:Bool} {a:Act} (C:Car R D F) (hF:F w) (hc:a.eval c = .bool u) (h:∀ w,F w→Goes P main R D Stop m (G (b.at a (.code (if u then x else y) :: k)) cs) w):Goes P main R D Stop (m+1) (G (b.at a (.code (.cond c x y) :: k)) cs) w:=
 gs_ctl C hF (fun w=>stepG_cond hc) h
theorem gs_skip {a:Act} (C:Car R D F) (hF:F w) (h:∀ w,F w→Goes P main R D Stop m (G (b.at a k) cs) w):Goes P main R D Stop (m+1) (G (b.at a (.code .skip :: k)) cs) w:=
 gs_ctl C hF (fun w=>stepG_skip) h
theorem gs_block {id:Nat} {c:Code} {a:Act} (C:Car R D F) (hF:F w) (h:∀ w,F w→Goes P main R D Stop m (G (b.at a (.code c :: .inBlock id :: k)) cs) w):Goes P main R D Stop (m+1) (G (b.at a (.code (.block id c) :: k)) cs) w:=
 gs_ctl C hF (fun w=>stepG_block) h
theorem gs_call {fn:Func} {g:FuncId} {c:Code} {args:Array Operand} {ats:Array TypeId} {T:Array Value} (C:Car R D F) (hF:F w) (hbk:b.kind = .normal) (ho:ops[i]? = some o) (hw:Region.wanted o (yielded ops t)=true) (hop:o.op = .call { callee:=.value (.func g),args:=args,argTypes:=ats })
  (hf:P.funcs[g]? = some fn) (hname:(fn.name == "runtime.NumGoroutine")=false) (hb:fn.body=some c) (hT:args.map (Act.eval ⟨t,ds⟩)++Array.replicate (fn.ntmps - (args.map (Act.eval ⟨t,ds⟩)).size) undef=T)
  (h:∀ w,F w→Goes P main R D Stop m (G ((base g).at ⟨T,[]⟩ [.code c]) (b.at ⟨t,ds⟩ (.inRegion ops (i :: rest) :: k) :: cs)) w) :
  Goes P main R D Stop (m+1) (G (b.at ⟨t,ds⟩ (.inRegion ops (i :: rest) :: k)) cs) w:=by
 refine Goes.step rfl fun w₁ h₁=>goes_call ho hw (by rw [hbk];exact fun e=>by cases e) hop hf hname hb ⟨C.idle _ (C.rl _ _ hF h₁),?_⟩
 rw [hT]
 exact h _ (C.rl _ _ hF h₁)
end
section
variable {P:Program} {w:World} {a:Act} {o:Oper}
theorem go_both {s g:Nat} {cap:Array Value} (ho:o.op = .go { callee:=.value (.tmp s),args:=#[],argTypes:=#[] }) (hs:a.tmps.getD s undef = .func (.func g) #[] cap) :
  (execOp a.eval o).run P w = .ok (.spawn { target:=.fn (.func g) cap,args:=#[] }) w∧(execOp a.eval o).events P w #[]=#[]:=by
 have h0:(execOp a.eval o).runT P w #[]=(.ok (.spawn { target:=.fn (.func g) cap,args:=#[] }) w,#[]):=by
  have e:a.eval (.tmp s) = .func (.func g) #[] cap:=hs
  unfold execOp
  simp only [ho,Go.resolve,e,Deferred.ofValue,Array.map_empty,Array.append_empty]
  rfl
 exact both_of h0
end
end
section
open Go Go.Conc Go.RowKit
open Go.ConcN (sumTo)
def Runs (P:Program) (Q:Machine→Trace→Prop) (m:Machine) (t:Trace):Prop:=∃ N m' t',runNT P N m t=(.next m',t')∧Q m' t'
theorem Runs.stop {P:Program} {Q:Machine→Trace→Prop} {m:Machine} {t:Trace} (h:Q m t):Runs P Q m t:=⟨0,m,t,rfl,h⟩
theorem Runs.many {P:Program} {Q:Machine→Trace→Prop} {m1:Machine} {t1:Trace}:∀ (K:Nat) {m:Machine} {t:Trace},runNT P K m t=(.next m1,t1)→Runs P Q m1 t1→Runs P Q m t:=by
 intro K
 induction K with
 | zero=>intro m t hr h;cases hr;exact h
 | succ K ih=>
  intro m t hr h
  simp only [runNT] at hr
  cases hs:stepT P m with
  | mk s ops=>
   rw [hs] at hr
   cases s with
   | next m2=>
    obtain ⟨N,m',t',h1,h2⟩:=ih hr h
    exact ⟨N+1,m',t',by simp only [runNT,hs];exact h1,h2⟩
   | ended o w=>cases hr
variable {T:Tables} {F F':Array Func} {S:Nat→Prop} {b0:Nat}
def St [Start] (T:Tables) (F:Array Func) (b0:Nat) (S:Nat→Prop) (a:Goroutine) (w w':World) (m:Machine) (t:Trace):Prop:=∃ gs sl q B,m=crowd gs w sl∧Frm T F b0 S B gs a w t q w'
def DE (Shun:Loc→Prop) (B:Nat) (_ _:World) (es:Array Event):Prop:=∀ e ∈ es,EvL Shun B e
theorem evL_mono {Shun:Loc→Prop} {B B':Nat} (h:B≤B') {e:Event} (he:EvL Shun B e):EvL Shun B' e:=⟨he.1,he.2.1,he.2.2.1,MemAct.low_mono h he.2.2.2⟩
theorem Rel.of_at [Start] {w w' w1:World} (h:Rel T S w w') (ha:AtRel w w1):Rel T S w1 w':=by
 obtain ⟨d,rfl⟩:=ha
 exact ⟨h.size,h.os,h.output,h.same,h.ok,h.spoilt,h.elem,h.kept⟩
theorem carR [Start] {B:Nat} {w':World}:Car AtRel (DE (ShunOf S) B) (fun w=>Rel T S w w'):=⟨fun _ _ h ha=>h.of_at ha,fun _ _ e he=>absurd he (by simp)⟩
theorem seg [Start] {a:Goroutine} {w w0' w1':World} {m:Machine} {t:Trace} {A:Goroutine→Prop} {n B0:Nat} {Q:Machine→Trace→Prop} (h:St T F b0 S a w w0' m t) (hle:w0'.heap.size≤w1'.heap.size)
  (hG:Rel T S w w0'→Goes ⟨T,F⟩ true AtRel (DE (ShunOf S) B0) (fun a' w1=>A a'∧Rel T S w1 w1') n a w)
  (hk:∀ a' w1 m' t',A a'→St T F b0 S a' w1 w1' m' t'→Runs ⟨T,F⟩ Q m' t'):Runs ⟨T,F⟩ Q m t:=by
 obtain ⟨gs,sl,q,B,rfl,hF⟩:=h
 obtain ⟨N,gs',a',w1,sl',t',q',hr,_,h0',⟨hA,hR⟩,hL',hP'⟩:=walk_beside (B:=max B B0) (fun _ _ _ hd e he=>evL_mono (Nat.le_max_right _ _) (hd e he)) (n+sumTo gs.size q) n gs a w sl t q (Nat.le_refl _) hF.at0 hF.leavers (hF.past.mono (Nat.le_max_left _ _)) (hG hF.rel)
 refine Runs.many N hr (hk a' w1 _ t' hA ⟨gs',sl',q',_,rfl,h0',hL',hP',hR,hF.high,?_⟩)
 rw [hR.size]
 exact Nat.le_trans hF.size (by rw [hF.rel.size];exact hle)
section
variable {P:Program} {Stop:Goroutine→World→Prop} {b:Frame} {k:List Item} {cs:List Frame} {w w':World} {sz n B:Nat} {t:Array Value} {f:Nat→Value} {ds:List Deferred} {ops:Array Oper} {i d:Nat} {rest:List Nat} {o:Oper} {v:Value}
abbrev GR (P:Program) (S:Nat→Prop) (B:Nat) (Stop:Goroutine→World→Prop) (n:Nat) (a:Goroutine) (w:World):Prop:=Goes P true AtRel (DE (ShunOf S) B) Stop n a w
theorem none_ev {es':Array Event} (h:∀ e ∈ es',e ∈ (#[]:Array Event)):∀ e ∈ es',EvL (ShunOf S) B e:=fun e he=>absurd (h e he) (by simp)
theorem gr_box [Start] {e:TypeId} {X:Operand} {N:Nat} (hF:Rel T S w w') (hT:Tm sz t f) (hbk:b.kind = .normal) (ho:ops[i]? = some o) (hop:o.op = .box e X) (hd:o.dst=some d) (hdz:d<sz) (hw:Region.wanted o (yielded ops t)=true) (hN:w'.heap.size=N) (hv:Act.eval ⟨t,ds⟩ X=v)
  (h:∀ w t',Rel T S w (w'.alloc (.cells v.cells e))→Tm sz t' (putF f d (.pointer (some ⟨N,0,none⟩)))→GR P S B Stop n (G (b.at ⟨t',ds⟩ (.inRegion ops rest :: k)) cs) w) :
  GR P S B Stop (n+1) (G (b.at ⟨t,ds⟩ (.inRegion ops (i :: rest) :: k)) cs) w:=by
 refine gs_val (v:=.pointer (some ⟨N,0,none⟩)) (carR (B:=B)) hF hT hbk ho hd hdz hw fun w₁ hF₁=>?_
 obtain ⟨h1,h2⟩:=box_both (P:=P) (w:=w₁) (a:=⟨t,ds⟩) hop
 rw [hF₁.size,hN,hv] at h1
 exact ⟨_,_,h1,h2,fun es' hes=>none_ev hes,fun t' hT'=>h _ t' (Rel.push hF₁ trivial) hT'⟩
theorem gr_load [Start] {tI s:Nat} {ad:Addr} {de:TypeDesc} (hF:Rel T S w w') (hT:Tm sz t f) (hbk:b.kind = .normal) (ho:ops[i]? = some o) (hop:o.op = .load tI (.tmp s)) (hd:o.dst=some d) (hdz:d<sz) (hw:Region.wanted o (yielded ops t)=true) (hs:f s = .pointer (some ad)) (hu:P.underlying tI=some de) (hd1:∀ x,de≠.struct x) (hd2:∀ n e,de≠.array n e)
  (hc:w'.cell? ad=some v) (hB:ad.block<B)
  (h:∀ w t',Rel T S w w'→Tm sz t' (putF f d v)→GR P S B Stop n (G (b.at ⟨t',ds⟩ (.inRegion ops rest :: k)) cs) w) :
  GR P S B Stop (n+1) (G (b.at ⟨t,ds⟩ (.inRegion ops (i :: rest) :: k)) cs) w:=by
 refine gs_val (v:=v) (carR (B:=B)) hF hT hbk ho hd hdz hw fun w₁ hF₁=>?_
 have hnS:=hF₁.notS_of_cell hc
 obtain ⟨h1,h2⟩:=load_both (P:=P) (w:=w₁) (a:=⟨t,ds⟩) hop ((hT.get s).trans hs) hu hd1 hd2 ((hF₁.cell hnS).trans hc)
 refine ⟨_,_,h1,h2,fun es' hes e he=>?_,fun t' hT'=>h _ t' hF₁ hT'⟩
 have:=hes e he
 simp at this
 subst this
 exact evL_cell _ _ hnS hB
theorem gr_make [Start] {x tS tI:Nat} {iI:TypeInfo} {m N:Nat} (hF:Rel T S w w') (hT:Tm sz t f) (hbk:b.kind = .normal) (ho:ops[i]? = some o) (hop:o.op = .makeSlice tS (.tmp x) (.tmp x)) (hd:o.dst=some d) (hdz:d<sz) (hw:Region.wanted o (yielded ops t)=true) (hN:w'.heap.size=N) (hx:f x = .int .i64 (m:Int))
  (hS:P.underlying tS=some (.slice tI)) (hi:P.info? tI=some iI) (h1:iI.size=1) (h8:iI.bytes=8) (hz:iI.zero=some (.int .i64 0)) (hm:m≤20)
  (h:∀ w t',Rel T S w (w'.alloc (.cells (madeCells #[.int .i64 0] m) tI))→Tm sz t' (putF f d (.slice (some ⟨N,0,none⟩) m m))→GR P S B Stop n (G (b.at ⟨t',ds⟩ (.inRegion ops rest :: k)) cs) w) :
  GR P S B Stop (n+1) (G (b.at ⟨t,ds⟩ (.inRegion ops (i :: rest) :: k)) cs) w:=by
 refine gs_val (v:=.slice (some ⟨N,0,none⟩) m m) (carR (B:=B)) hF hT hbk ho hd hdz hw fun w₁ hF₁=>?_
 obtain ⟨h3,h2⟩:=make_both (P:=P) (w:=w₁) (a:=⟨t,ds⟩) hop ((hT.get x).trans hx) hS hi h1 h8 hz hm
 rw [hF₁.size,hN] at h3
 exact ⟨_,_,h3,h2,fun es' hes=>none_ev hes,fun t' hT'=>h _ t' (Rel.push hF₁ trivial) hT'⟩
theorem gr_alloc [Start] {e:TypeId} {z:Value} {ti:TypeInfo} {N:Nat} (hF:Rel T S w w') (hT:Tm sz t f) (hbk:b.kind = .normal) (ho:ops[i]? = some o) (hop:o.op = .alloc e) (hd:o.dst=some d) (hdz:d<sz) (hw:Region.wanted o (yielded ops t)=true) (hN:w'.heap.size=N) (hi:P.info? e=some ti) (hz:ti.zero=some z)
  (h:∀ w t',Rel T S w (w'.alloc (.cells z.cells e))→Tm sz t' (putF f d (.pointer (some ⟨N,0,none⟩)))→GR P S B Stop n (G (b.at ⟨t',ds⟩ (.inRegion ops rest :: k)) cs) w) :
  GR P S B Stop (n+1) (G (b.at ⟨t,ds⟩ (.inRegion ops (i :: rest) :: k)) cs) w:=by
 refine gs_val (v:=.pointer (some ⟨N,0,none⟩)) (carR (B:=B)) hF hT hbk ho hd hdz hw fun w₁ hF₁=>?_
 obtain ⟨h1,h2⟩:=alloc_both (P:=P) (w:=w₁) (a:=⟨t,ds⟩) hop hi hz
 rw [hF₁.size,hN] at h1
 exact ⟨_,_,h1,h2,fun es' hes=>none_ev hes,fun t' hT'=>h _ t' (Rel.push hF₁ trivial) hT'⟩
theorem gr_store [Start] {x y tI:Nat} {ad:Addr} {A:Option Addr} {m c:Nat} {u:Value} {ti:TypeInfo} (hF:Rel T S w w') (hT:Tm sz t f) (hbk:b.kind = .normal) (ho:ops[i]? = some o) (hop:o.op = .store tI (.tmp x) (.tmp y)) (hd:o.dst=none) (hw:Region.wanted o (yielded ops t)=true) (hx:f x = .pointer (some ad)) (hy:f y = .slice A m c)
  (hi:P.info? tI=some ti) (h1:ti.size=1) (hc:w'.cell? ad=some u) (hz:w'.frozen? ad=false) (hB:ad.block<B)
  (h:∀ w,Rel T S w (w'.setCell ad (.slice A m c))→GR P S B Stop n (G (b.at ⟨t,ds⟩ (.inRegion ops rest :: k)) cs) w) :
  GR P S B Stop (n+1) (G (b.at ⟨t,ds⟩ (.inRegion ops (i :: rest) :: k)) cs) w:=by
 refine gs_none (carR (B:=B)) hF hT hbk ho hd hw fun w₁ hF₁=>?_
 have hnS:=hF₁.notS_of_cell hc
 obtain ⟨h3,h2⟩:=storev_both (P:=P) (w:=w₁) (a:=⟨t,ds⟩) hop ((hT.get x).trans hx) ((hT.get y).trans hy) (.inl ⟨A,m,c,rfl⟩) hi h1 ((hF₁.cell hnS).trans hc) ((hF₁.frozen ad).trans hz)
 refine ⟨_,_,h3,h2,fun es' hes e he=>?_,h _ (Rel.setCell hF₁ _ hnS)⟩
 have:=hes e he
 simp at this
 subst this
 exact evL_cell _ _ hnS hB
end
theorem results_t2 {fn:Func} {t u:Tmp} (h:fn.results=#[.tmp t,.tmp u]) (ts:Array Value) (P:Program) (w:World):(results fn ts).runT P w #[]=(.ok (.tuple #[ts.getD t undef,ts.getD u undef]) w,#[]):=by
 have e:results fn ts=Sem.pure (.tuple #[ts.getD t undef,ts.getD u undef]):=by
  simp [results,h]
  rfl
 rw [e]
 rfl
theorem gs_return {P:Program} {main:Bool} {k:List Item} {R:World→World→Prop} {D:World→World→Array Event→Prop} {Stop:Goroutine→World→Prop} {Fw:World→Prop} {b c:Frame} {a:Act} {cs:List Frame} {w:World} {n:Nat} {fn:Func} {v:Value} (C:Car R D Fw) (hF:Fw w) (ha:a.defers=[]) (hk:b.kind = .normal) (hfn:P.funcs[b.fn]? = some fn)
  (hr:∀ w,(results fn a.tmps).runT P w #[]=(.ok v w,#[])) (h:∀ w,Fw w→Goes P main R D Stop n (G (c.finish v) cs) w) :
  Goes P main R D Stop (n+1) (G { b.at a k with mode:=.returning } (c :: cs)) w:=by
 refine gs_ctl C hF (fun w=>?_) h
 obtain ⟨ts,df⟩:=a
 simp only at ha
 subst ha
 unfold stepG G
 simp only
 unfold unwind
 simp only [Frame.at,hfn,hr w,doReturn,hk,GStep.after,Array.append_empty,seen]
 rfl
end
section
open Go Go.Conc Go.RowKit
open Go.ConcN (sumTo)
variable {T:Tables} {F F':Array Func} {S:Nat→Prop} {b0:Nat}
def muteOk (fn:Func):Bool:=fn.body.isNone && !(fn.name == "runtime.NumGoroutine") && (Extern.findNext fn).isNone && (Extern.find fn).isNone && !(fn.name.endsWith ".init" && !fn.name.startsWith "(" && !fn.name.startsWith "gosem.")
def pairOk (fn fn':Func):Bool:=(fn.name == fn'.name && !fn.body.isNone && !fn'.body.isNone) || muteOk fn'
def bodyOk (T:Tables) (fn:Func):Bool:=match fn.body with | some c=>zaD T c | none=>true
theorem mute_of {fn:Func} (h:muteOk fn=true):Mute fn:=by
 simp only [muteOk,Bool.and_eq_true,Bool.not_eq_true'] at h
 obtain ⟨⟨⟨⟨h1,h2⟩,h3⟩,h4⟩,h5⟩:=h
 exact ⟨h1,h2,Option.isNone_iff_eq_none.1 h3,Option.isNone_iff_eq_none.1 h4,h5⟩
theorem all_get {α:Type} {p:α→Bool} {F:Array α} (h:F.toList.all p=true) {i:Nat} {x:α} (hx:F[i]? = some x):p x=true:=
 List.all_eq_true.1 h x (by rw [Array.mem_toList_iff];exact Array.mem_of_getElem? hx)
theorem duo_of (hz:(F.toList.zip F'.toList).all (fun p=>pairOk p.1 p.2)=true) (hs:F.size=F'.size) (hres:F.toList.map (·.results)=F'.toList.map (·.results)) (hcode:F'.toList.all (bodyOk T)=true)
  (hnum:F'.toList.all (fun fn=>!(fn.name == "runtime.NumGoroutine"))=true) (hmute:F'.toList.all (fun fn=>!fn.body.isNone || muteOk fn)=true) (ha:(⟨T,F'⟩:Program).follows .staticDataAhead=true):Duo T F F':=by
 have mt:∀ {f:Nat} {fn:Func},F'[f]? = some fn→fn.body.isNone=true→Mute fn:=fun hf hb=>by
  have:=all_get hmute hf
  simp only [hb,Bool.not_true,Bool.false_or] at this
  exact mute_of this
 have pr:∀ {f:Nat} {fn fn':Func},F[f]? = some fn→F'[f]? = some fn'→pairOk fn fn'=true:=fun {f fn fn'} h1 h2=>by
  have:(F.toList.zip F'.toList)[f]? = some (fn,fn'):=by
   rw [List.getElem?_zip_eq_some]
   exact ⟨by simpa using h1,by simpa using h2⟩
  exact List.all_eq_true.1 hz (fn,fn') (List.mem_of_getElem? this)
 refine { nofn:=fun f=>?_,alike:=fun f fn fn' h1 h2=>?_,next:=fun f fn hf hb e he=>?_,find:=fun f fn hf hb e he=>?_,calm:=⟨fun f fn hf hb=>(mt hf hb).next,fun f fn hf=>?_⟩,size:=hs,bodies:=fun f fn c hf hb=>?_,res:=fun f fn fn' h1 h2=>?_,ahead:=ha }
 ·rw [Array.getElem?_eq_none_iff,Array.getElem?_eq_none_iff,hs]
 ·have:=pr h1 h2
  simp only [pairOk,Bool.or_eq_true,Bool.and_eq_true,Bool.not_eq_true'] at this
  rcases this with ⟨⟨e1,e2⟩,e3⟩ | h
  ·exact .inl ⟨by simpa using e1,by rw [e2,e3],fun e=>by rw [e2] at e;cases e⟩
  ·exact .inr (mute_of h)
 ·rw [(mt hf hb).next] at he;cases he
 ·rw [(mt hf hb).find] at he;cases he
 ·have:=all_get hnum hf
  simpa using this
 ·have:=all_get hcode hf
  rw [bodyOk,hb] at this
  exact this
 ·have e1:(F.toList.map (·.results))[f]? = some fn.results:=by simp [List.getElem?_map,h1]
  have e2:(F'.toList.map (·.results))[f]? = some fn'.results:=by simp [List.getElem?_map,h2]
  rw [hres,e2] at e1
  exact (Option.some.inj e1).symm
theorem no_refuse {n0 f0:Nat} {R:Value→World→Prop} {f:FuncId} {fn:Func} (hfn:F'[f]? = some fn) (hb:fn.body=none∨∃ s,fn.body=some (.refuse s)) (args:Array Value) (kind:CallKind) (cs:List Frame) (w:World) :
  ¬ Good ⟨T,F'⟩ n0 f0 R ⟨Frame.enter ⟨T,F'⟩ f args kind,cs++[bot n0],w⟩:=by
 intro hG
 obtain ⟨n,fr,wf,v,hn,hf,hl,hR⟩:=hG t0 0
 have hs:∃ o w1 es,stepG ⟨T,F'⟩ true (G (Frame.enter ⟨T,F'⟩ f args kind) (cs++[bot n0])) (tp w t0 0) = .ended o w1 es:=by
  have e:∃ s,Frame.enter ⟨T,F'⟩ f args kind=(Frame.enter ⟨T,F'⟩ f args kind).at ⟨(Frame.enter ⟨T,F'⟩ f args kind).tmps,[]⟩ (.code (.refuse s) :: []):=by
   rcases hb with hb | ⟨s,hb⟩
   ·exact ⟨_,by simp only [Frame.enter,Frame.at,hfn,Option.bind,hb];rfl⟩
   ·exact ⟨s,by simp only [Frame.enter,Frame.at,hfn,Option.bind,hb];rfl⟩
  obtain ⟨s,e⟩:=e
  rw [e]
  exact stepG_refuse
 obtain ⟨o,w1,es,hs⟩:=hs
 have he:=zaL hs
 cases n with
 | zero=>
  obtain ⟨e1,e2,e3⟩:=lone_inj hn
  have:=step_leave_returned (P:=⟨T,F'⟩) (c:=bot n0) (cs:=[]) hl
  rw [← e1,← e2,← e3] at this
  dsimp only at this
  rw [he] at this
  cases this
 | succ n=>
  dsimp only at hn
  simp only [runN,he] at hn
  cases hn
theorem call_st [Start] {F3:Array Func} (h:Duo T F F3) (h3:Duo T F3 F3) {n0 f0:Nat} (hn0:F3[n0]? = none) (hb0:T.globals.size≤b0) (hno:∀ f:Nat,F[f]?≠F3[f]?→∃ fn:Func,F3[f]? = some fn∧(fn.body=none∨∃ s,fn.body=some (.refuse s)))
  {R:Value→World→Prop} {Q:Machine→Trace→Prop} {args:Array Value} {c1:Frame} {rest:List Frame} {w w':World} {m:Machine} {t:Trace} (hfe:F[f0]? = F3[f0]?) (hst:St T F b0 S (G (Frame.enter ⟨T,F⟩ f0 args .normal) (c1 :: rest)) w w' m t)
  (hC:∀ (τ:Tape) (d:Nat),Calls ⟨T,F3⟩ f0 args (tp w' τ d) fun e w1=>∃ v,e = .returned v∧R v (Sim.blind w1))
  (hk:∀ v w1 w1' m' t',R v w1'→St T F b0 S (G (c1.finish v) rest) w1 w1' m' t'→Runs ⟨T,F⟩ Q m' t'):Runs ⟨T,F⟩ Q m t:=by
 obtain ⟨gs,sl,q,B,rfl,hF⟩:=hst
 have hen:=enter_eq (T:=T) args .normal hfe
 have hfr:FrameOk T (Frame.enter ⟨T,F3⟩ f0 args .normal):=enter_ok h _ _ _
 have hG:Good ⟨T,F3⟩ n0 f0 R ⟨Frame.enter ⟨T,F3⟩ f0 args .normal,[bot n0],Sim.blind w'⟩:=by
  intro τ d
  obtain ⟨e,w2,fr,⟨v,rfl,hR⟩,⟨n,hn⟩,hfn,hl⟩:=hC τ d [bot n0]
  exact ⟨n,fr,w2,v,hn,hfn,hl,hR⟩
 have hok:CfgOk T n0 ⟨Frame.enter ⟨T,F3⟩ f0 args .normal,[bot n0],Sim.blind w'⟩:=⟨hfr,⟨[],rfl,fun _ h=>by cases h⟩,hF.rel.ok⟩
 have hacc:=Acc.transGen (acc_of_good h3 hok hG)
 rw [hen] at hF
 obtain ⟨N,gs1,w1,sl1,t1,q1,B1,v,w1',hr,hF1,hR1⟩:=call_sim (c1:=c1) (rest:=rest) (S:=S) h h3 hn0 hb0 (fun f a k cs w2 hne=>by
   obtain ⟨fn,h1,h2⟩:=hno f hne
   exact no_refuse h1 h2 _ _ _ _) _ hacc _ gs { frame:=Frame.enter ⟨T,F3⟩ f0 args .normal,callers:=[],status:=.running,dying:=none } B w sl t q (Nat.le_refl _)
  ⟨hF.at0,hF.leavers,hF.past,Rel.blind hF.rel,hF.high,hF.size⟩ ⟨rfl,rfl,rfl,hfr,fun _ h=>by cases h⟩ rfl hok hG
 exact Runs.many N hr (hk v w1 w1' _ t1 hR1 ⟨gs1,sl1,q1,B1,rfl,hF1⟩)
end
section
open Go Go.Conc Go.RowKit
noncomputable def share1Code (I:ShIds) (mk:Value) (m:Mk):Code:=.seq (eachCode I mk m 4 5 6 true) .ret
section
variable {P:Program} {w:World} {I:ShIds} {tE:Nat} {iI iE:TypeInfo} {A B:Option Addr} {cA cB:Nat} {l1 l2:List Int} {mk mk1 mk2:Value} {m:Mk} {f:FuncId} {fn:Func}
theorem tm_args (args:Array Value) (x:Nat):Tm (args++Array.replicate (x - args.size) undef).size (args++Array.replicate (x - args.size) undef) (fun i=>(args++Array.replicate (x - args.size) undef).getD i undef):=⟨rfl,fun _=>rfl⟩
theorem args_get {args:Array Value} {x i:Nat} {v:Value} (h:args[i]? = some v):(args++Array.replicate (x - args.size) undef).getD i undef=v:=by
 have hi:=(Array.getElem?_eq_some_iff.1 h).1
 rw [Array.getD_eq_getD_getElem?,Array.getElem?_append_left hi,h]
 rfl
theorem args_size (args:Array Value) (x:Nat):x≤(args++Array.replicate (x - args.size) undef).size:=by simp;omega
theorem share1_calls (hf:P.funcs[f]? = some fn) (hb:fn.body=some (share1Code I mk m)) (hnt:fn.ntmps=32) (hres:fn.results=#[.tmp 4,.tmp 5]) (hmk:OneCell mk) (K:Kinds P I.tS I.tI I.tP tE iI iE) (h8:iI.bytes=8) (hz:iI.zero=some (.int .i64 0)) (hO:OkFn P I) (hr1:Row w A l1) (hr2:Row w B l2)
  (hl1:(l1.length:Int)<9223372036854775808) (hl2:(l2.length:Int)<9223372036854775808) {args:Array Value} (ha0:args[0]? = some (.slice A l1.length cA)) (ha1:args[1]? = some (.slice B l2.length cB)) :
  Calls P f args w fun e w'=>∃ v,e = .returned v∧v = .tuple #[eachRes l1 l2 w.heap.size,.bool (eachGood l1 l2)]∧∃ d,w'=(zas w (zaC I mk (.slice A l1.length cA) (.slice B l2.length cB) m l1 l2 w.heap.size)).at d:=by
 refine calls_of_ru (R:=fun v w'=>v = .tuple #[eachRes l1 l2 w.heap.size,.bool (eachGood l1 l2)]∧∃ d,w'=(zas w (zaC I mk (.slice A l1.length cA) (.slice B l2.length cB) m l1 l2 w.heap.size)).at d) hf hb (fun cs=>?_)
 rw [hnt]
 have hT0:=tm_args args 32
 have hs0:=args_size args 32
 have hg0:=args_get (x:=32) ha0
 have hg1:=args_get (x:=32) ha1
 generalize args++Array.replicate (32 - args.size) undef=t at *
 refine Ru.step stepG_seq (ru_each (cA:=cA) (cB:=cB) true rfl hmk K h8 hz hO (by omega) (by omega) (by omega) (by omega) (by omega) (by omega) hr1 hr2 hl1 hl2 hT0 hg0 hg1 (fun t' f' d hT _ eo er=>?_))
 refine Ru.step stepG_ret' (Ru.stop ⟨rfl,rfl,_,⟨rfl,rfl,rfl,fn,hf,results_tmp2 hres _ _ _⟩,?_,d,rfl⟩)
 show Value.tuple #[t'.getD 4 undef,t'.getD 5 undef]=_
 rw [hT.get,hT.get,eo,er]
end
end
section
open Go Go.Conc Go.RowKit
variable {T:Tables} {F':Array Func}
section
variable {n0 f0:Nat} {R:Value→World→Prop} {c0:Cfg} {b:Frame} {ds:List Deferred} {k rest':List Item} {cs:List Frame} {w:World} {ops:Array Oper} {i d e:Nat} {rest:List Nat} {t:Array Value} {X:Operand}
theorem At.box (h:At T F' n0 f0 R c0 (b.at ⟨t,ds⟩ (.inRegion ops (i :: rest) :: k)) cs w) (h':Duo T F' F') (hn0:F'[n0]? = none) (hcs:cs≠[]) (hk:b.kind = .normal) (ho:ops[i]? = some (opr d (.box e X))) :
  At T F' n0 f0 R c0 (b.at ⟨t.setIfInBounds d (.pointer (some ⟨w.heap.size,0,none⟩)),ds⟩ (.inRegion ops rest :: k)) cs (w.alloc (.cells (Act.eval ⟨t,ds⟩ X).cells e)):=by
 have:=h.value h' hn0 hcs ho rfl (by rw [hk];exact fun e=>by cases e) run_box
 have e1:blind (w.alloc (.cells (Act.eval ⟨t,ds⟩ X).cells e))=w.alloc (.cells (Act.eval ⟨t,ds⟩ X).cells e):=by
  show (blind w).alloc _=_
  rw [h.bl]
 rwa [e1] at this
def NoNum (v:Value):Prop:=∀ k x,v≠.int k x
theorem num_old {w:World} {u0 u1 u2:Value} {e0 e1 e2:TypeId} (h0:NoNum u0) (h1:NoNum u1) (h2:NoNum u2) {a:Addr} {x:Int} (h:(zas w [.cells #[u0] e0 (0,0),.cells #[u1] e1 (0,0),.cells #[u2] e2 (0,0)]).cell? a=some (.int .i64 x)):w.cell? a=some (.int .i64 x):=by
 by_cases hb:a.block<w.heap.size
 ·rw [← h]
  exact (World.cell?_of_block (growW_old hb)).symm
 ·exfalso
  obtain ⟨j,hj⟩:∃ j,a.block=w.heap.size+j:=⟨a.block - w.heap.size,by omega⟩
  have one:∀ (u:Value) (e:TypeId),NoNum u→(zas w [.cells #[u0] e0 (0,0),.cells #[u1] e1 (0,0),.cells #[u2] e2 (0,0)]).heap[a.block]? = some (.cells #[u] e (0,0))→False:=by
   intro u e hu hb
   unfold World.cell? at h
   rw [hb] at h
   simp only at h
   split at h
   ·cases h
   ·cases ho:a.off with
    | zero=>
     rw [ho] at h
     simp at h
     exact hu _ _ h
    | succ o=>
     rw [ho] at h
     simp at h
  have hh:=growW_new (w:=w) (l:=[.cells #[u0] e0 (0,0),.cells #[u1] e1 (0,0),.cells #[u2] e2 (0,0)]) (k:=j)
  rw [← hj] at hh
  match j with
  | 0=>exact one u0 e0 h0 hh
  | 1=>exact one u1 e1 h1 hh
  | 2=>exact one u2 e2 h2 hh
  | j+3=>
   unfold World.cell? at h
   rw [hh] at h
   simp at h
theorem row_of_num {w:World} {A:Option Addr}:∀ {n:Nat},(∀ i,i<n→NumAt w A i)→∃ l:List Int,l.length=n∧Row w A l:=by
 intro n
 induction n with
 | zero=>exact fun _=>⟨[],rfl,fun j hj=>by simp at hj⟩
 | succ n ih=>
  intro h
  obtain ⟨l,hl,hr⟩:=ih (fun i hi=>h i (by omega))
  obtain ⟨ad,x,h1,h2⟩:=h n (by omega)
  refine ⟨l++[x],by simp [hl],fun j hj=>?_⟩
  rw [List.length_append] at hj
  rcases Nat.lt_or_ge j l.length with hlt | hge
  ·obtain ⟨ad',h3,h4⟩:=hr j hlt
   refine ⟨ad',h3,?_⟩
   rw [List.getD_eq_getElem?_getD,List.getElem?_append_left hlt,← List.getD_eq_getElem?_getD]
   exact h4
  ·obtain rfl:j=l.length:=by simp at hj;omega
   refine ⟨ad,h1,?_⟩
   rw [List.getD_eq_getElem?_getD]
   simp
   rw [hl]
   exact h2
def Handed (w:World) (args:Nat→Value):Prop:=∃ A B cA cB l1 l2,args 0 = .slice A (l1:List Int).length cA∧args 1 = .slice B (l2:List Int).length cB∧Row w A l1∧Row w B l2∧(l1.length:Int)<9223372036854775808∧(l2.length:Int)<9223372036854775808
variable {I:ShIds} {tE kk o r:Nat} {iI iE:TypeInfo} {mk:Value} {m:Mk}
theorem each_look (h':Duo T F' F') (hn0:F'[n0]? = none) (hcs:cs≠[]) (hbk:b.kind = .normal) (hmk:OneCell mk) (hmn:NoNum mk) (K:Kinds ⟨T,F'⟩ I.tS I.tI I.tP tE iI iE) (hk2:2≤kk) (ho:o<kk) (hr:r<kk) (ho2:2≤o) (hr2:2≤r) (hsz:kk+25<t.size)
  (h:At T F' n0 f0 R c0 (b.at ⟨t,ds⟩ (.code (eachCode I mk m o r kk true) :: rest')) cs w):Handed w (fun i=>t.getD i undef):=by
 have h1:=h.ctl h' hn0 hcs stepG_seq
 have h2:At T F' n0 f0 R c0 (b.at ⟨t,ds⟩ (.inRegion (rg0 I mk o r kk) [0,1,2,3,4] :: _)) cs w:=h1.ctl h' hn0 hcs stepG_region
 have h3:=h2.box h' hn0 hcs hbk (d:=kk) (e:=I.tS) (X:=.tmp 0) rfl
 have h4:=h3.box h' hn0 hcs hbk (d:=kk+1) (e:=I.tS) (X:=.tmp 1) rfl
 have h5:=h4.box h' hn0 hcs hbk (d:=kk+2) (e:=I.tF) (X:=.const mk) rfl
 have e0:Act.eval ⟨t,ds⟩ (.tmp 0)=t.getD 0 undef:=rfl
 have e1:Act.eval ⟨t.setIfInBounds kk (.pointer (some ⟨w.heap.size,0,none⟩)),ds⟩ (.tmp 1)=t.getD 1 undef:=zap _ (by omega)
 have e2:∀ a:Act,a.eval (.const mk)=mk:=fun _=>rfl
 rw [e0,e1,e2] at h5
 have h6:=h5.val h' hn0 hcs hbk (o:=opr o (.move (.const (.slice none 0 0)))) (v:=.slice none 0 0) (w1:=_) rfl rfl run_move rfl
 have h7:=h6.val h' hn0 hcs hbk (o:=opr r (.move (.const (.bool false)))) (v:=.bool false) (w1:=_) rfl rfl run_move rfl
 have h8:=(h7.ctl h' hn0 hcs stepG_region_end).ctl h' hn0 hcs stepG_seq
 rw [put_opr,put_opr] at h8
 simp only at h8
 have hu0:∀ {v:Value} {A n c},v = .slice A n c→v.cells=#[v]∧NoNum v:=fun e=>by subst e;exact ⟨rfl,fun _ _ e=>by cases e⟩
 obtain ⟨t5,⟨z1,z2,z3⟩,h9⟩:∃ t5:Array Value,(t5.size=t.size∧(∀ i,i<kk→i≠o→i≠r→t5.getD i undef=t.getD i undef)∧t5.getD kk undef = .pointer (some ⟨w.heap.size,0,none⟩))∧
   At T F' n0 f0 R c0 (b.at ⟨t5,ds⟩ (.code (scan I.tS I.tI I.tP 0 kk (kk+19)) :: .code (.seq (scan I.tS I.tI I.tP 1 kk (kk+19)) (eachRest I m o r kk)) :: rest')) cs (((w.alloc (.cells (t.getD 0 undef).cells I.tS)).alloc (.cells (t.getD 1 undef).cells I.tS)).alloc (.cells mk.cells I.tF)):=by
  refine ⟨_,⟨?_,fun i hi ho hr=>?_,?_⟩,h8⟩
  ·simp
  ·rw [zap _ (Ne.symm hr),zap _ (Ne.symm ho),zap _ (by omega),zap _ (by omega),zap _ (by omega)]
  ·rw [zap _ (by omega),zap _ (by omega),zap _ (by omega),zap _ (by omega),getD_same _ (by omega)]
 have hgw:((w.alloc (.cells (t.getD 0 undef).cells I.tS)).alloc (.cells (t.getD 1 undef).cells I.tS)).alloc (.cells mk.cells I.tF)=zas w [.cells (t.getD 0 undef).cells I.tS (0,0),.cells (t.getD 1 undef).cells I.tS (0,0),.cells mk.cells I.tF (0,0)]:=by
  have e:w=zas w []:=(growW_nil w).symm
  conv=>lhs;rw [e]
  rw [zaI,zaI,zaI]
  rfl
 rw [hgw] at h9
 have hq:(zas w [.cells (t.getD 0 undef).cells I.tS (0,0),.cells (t.getD 1 undef).cells I.tS (0,0),.cells mk.cells I.tF (0,0)]).heap[w.heap.size]? = some (.cells (t.getD 0 undef).cells I.tS (0,0)):=growW_new (k:=0)
 obtain ⟨A,nA,cA,sA,hnA,numA,t6,z4,z5,h10⟩:=scan_inv K h' hn0 hcs hbk (Q:=⟨w.heap.size,0,none⟩) hq (by omega) (by omega) (by omega) z3 h9
 have h11:=h10.ctl h' hn0 hcs stepG_seq
 obtain ⟨B,nB,cB,sB,hnB,numB,t7,_,_,_⟩:=scan_inv K h' hn0 hcs hbk (Q:=⟨w.heap.size,0,none⟩) hq (by omega) (by omega) (by omega) ((z5 kk (by omega)).trans z3) h11
 rw [z2 0 (by omega) (by omega) (by omega)] at sA
 rw [z5 1 (by omega),z2 1 (by omega) (by omega) (by omega)] at sB
 rw [(hu0 sA).1,(hu0 sB).1,hmk] at numA numB
 have oldA:∀ i,i<nA→NumAt w A i:=fun i hi=>by
  obtain ⟨a,x,e1,e2⟩:=numA i hi
  exact ⟨a,x,e1,num_old (hu0 sA).2 (hu0 sB).2 hmn e2⟩
 have oldB:∀ i,i<nB→NumAt w B i:=fun i hi=>by
  obtain ⟨a,x,e1,e2⟩:=numB i hi
  exact ⟨a,x,e1,num_old (hu0 sA).2 (hu0 sB).2 hmn e2⟩
 obtain ⟨l1,r1,r2⟩:=row_of_num oldA
 obtain ⟨l2,r3,r4⟩:=row_of_num oldB
 subst r1 r3
 exact ⟨A,B,cA,cB,l1,l2,sA,sB,r2,r4,hnA,hnB⟩
end
end
section
open Go Go.Conc Go.RowKit
variable {T:Tables} {F':Array Func}
section
variable {n0 f0:Nat} {R:Value→World→Prop} {c0:Cfg} {cs:List Frame} {w:World} {f:FuncId} {fn:Func} {args:Array Value} {I:ShIds} {tE:Nat} {iI iE:TypeInfo} {mk mk1 mk2:Value} {m:Mk}
def HandedA (w:World) (args:Array Value):Prop:=∃ A B cA cB l1 l2,args[0]? = some (.slice A (l1:List Int).length cA)∧args[1]? = some (.slice B (l2:List Int).length cB)∧Row w A l1∧Row w B l2∧(l1.length:Int)<9223372036854775808∧(l2.length:Int)<9223372036854775808
theorem args_of_get {args:Array Value} {x i:Nat} {A:Option Addr} {n c:Nat} (h:(args++Array.replicate (x - args.size) undef).getD i undef = .slice A n c):args[i]? = some (.slice A n c):=by
 rw [Array.getD_eq_getD_getElem?] at h
 by_cases hi:i<args.size
 ·rw [Array.getElem?_append_left hi,Array.getElem?_eq_getElem hi] at h
  rw [Array.getElem?_eq_getElem hi]
  exact congrArg some h
 ·exfalso
  rw [Array.getElem?_append_right (by omega)] at h
  simp only [Array.getElem?_replicate] at h
  split at h <;> simp [undef] at h
theorem share1_handed (h':Duo T F' F') (hn0:F'[n0]? = none) (hcs:cs≠[]) (hf:F'[f]? = some fn) (hb:fn.body=some (share1Code I mk m)) (hnt:fn.ntmps=32) (hmk:OneCell mk) (hmn:NoNum mk) (K:Kinds ⟨T,F'⟩ I.tS I.tI I.tP tE iI iE)
  (h:At T F' n0 f0 R c0 (Frame.enter ⟨T,F'⟩ f args .normal) cs w):HandedA w args:=by
 rw [enter_at (P:=⟨T,F'⟩) args hf hb,hnt] at h
 have h1:=h.ctl h' hn0 hcs stepG_seq
 have hs:=args_size args 32
 obtain ⟨A,B,cA,cB,l1,l2,e1,e2,r⟩:=each_look h' hn0 hcs rfl hmk hmn K (by omega) (by omega) (by omega) (by omega) (by omega) (by omega) h1
 exact ⟨A,B,cA,cB,l1,l2,args_of_get e1,args_of_get e2,r⟩
end
end
section
open Go Go.Conc Go.RowKit
variable {S:Nat→Prop} {T0:Tables}
section
variable {ops:Array Oper} {i:Nat}
theorem op_ofG {x:Op} {d:Option Tmp} {j s:Nat} {want:Bool} (h:(ops[i]?).map (fun o=>(o.op,o.dst,o.guard))=some (x,d,some (j,want))) (hj:(ops[j]?).bind (·.dst)=some s) :
  ∃ o,ops[i]? = some o∧o.op=x∧o.dst=d∧∀ (t:Array Value) (y:Bool),t.getD s undef = .bool y→Region.wanted o (yielded ops t)=(y == want):=by
 obtain ⟨o,h,e⟩:=Option.map_eq_some_iff.1 h
 simp only [Prod.mk.injEq] at e
 refine ⟨o,h,e.1,e.2.1,fun t y hy=>?_⟩
 have ht:t[s]? = some (.bool y):=by
  rw [Array.getD_eq_getD_getElem?] at hy
  cases hs:t[s]? with
  | none=>rw [hs] at hy;simp [undef] at hy
  | some v=>rw [hs] at hy;exact congrArg some hy
 unfold Region.wanted
 rw [e.2.2]
 simp only [yielded,hj,Option.bind_some,ht]
 cases y <;> cases want <;> rfl
end
section
variable {P:Program} {Stop:Goroutine→World→Prop} {b:Frame} {k:List Item} {cs:List Frame} {w W:World} {sz n B:Nat} {t:Array Value} {f:Nat→Value} {ds:List Deferred} {ops:Array Oper} {i d:Nat} {rest:List Nat} {o:Oper} {v:Value} {l:List Obj}
theorem gw_box [Start] {e:TypeId} {X:Operand} {N:Nat} (hF:Rel T0 S w (zas W l)) (hT:Tm sz t f) (hbk:b.kind = .normal) (ho:ops[i]? = some o) (hop:o.op = .box e X) (hd:o.dst=some d) (hdz:d<sz) (hw:Region.wanted o (yielded ops t)=true) (hN:W.heap.size+l.length=N) (hv:Act.eval ⟨t,ds⟩ X=v) (h1:v.cells=#[v])
  (h:∀ w t',Rel T0 S w (zas W (l++[.cells #[v] e (0,0)]))→Tm sz t' (putF f d (.pointer (some ⟨N,0,none⟩)))→GR P S B Stop n (G (b.at ⟨t',ds⟩ (.inRegion ops rest :: k)) cs) w) :
  GR P S B Stop (n+1) (G (b.at ⟨t,ds⟩ (.inRegion ops (i :: rest) :: k)) cs) w:=
 gr_box hF hT hbk ho hop hd hdz hw (by rw [growW_size];exact hN) hv fun w t' hF hT=>h w t' (by rw [zaI,h1] at hF;exact hF) hT
theorem gw_make [Start] {x tS tI:Nat} {iI:TypeInfo} {m N:Nat} (hF:Rel T0 S w (zas W l)) (hT:Tm sz t f) (hbk:b.kind = .normal) (ho:ops[i]? = some o) (hop:o.op = .makeSlice tS (.tmp x) (.tmp x)) (hd:o.dst=some d) (hdz:d<sz) (hw:Region.wanted o (yielded ops t)=true) (hN:W.heap.size+l.length=N) (hx:f x = .int .i64 (m:Int))
  (hS:P.underlying tS=some (.slice tI)) (hi:P.info? tI=some iI) (h1:iI.size=1) (h8:iI.bytes=8) (hz:iI.zero=some (.int .i64 0)) (hm:m≤20)
  (h:∀ w t',Rel T0 S w (zas W (l++[.cells (madeCells #[.int .i64 0] m) tI (0,0)]))→Tm sz t' (putF f d (.slice (some ⟨N,0,none⟩) m m))→GR P S B Stop n (G (b.at ⟨t',ds⟩ (.inRegion ops rest :: k)) cs) w) :
  GR P S B Stop (n+1) (G (b.at ⟨t,ds⟩ (.inRegion ops (i :: rest) :: k)) cs) w:=
 gr_make hF hT hbk ho hop hd hdz hw (by rw [growW_size];exact hN) hx hS hi h1 h8 hz hm fun w t' hF hT=>h w t' (by rw [zaI] at hF;exact hF) hT
theorem gw_alloc [Start] {e:TypeId} {z:Value} {ti:TypeInfo} {N:Nat} (hF:Rel T0 S w (zas W l)) (hT:Tm sz t f) (hbk:b.kind = .normal) (ho:ops[i]? = some o) (hop:o.op = .alloc e) (hd:o.dst=some d) (hdz:d<sz) (hw:Region.wanted o (yielded ops t)=true) (hN:W.heap.size+l.length=N) (hi:P.info? e=some ti) (hz:ti.zero=some z)
  (h:∀ w t',Rel T0 S w (zas W (l++[.cells z.cells e (0,0)]))→Tm sz t' (putF f d (.pointer (some ⟨N,0,none⟩)))→GR P S B Stop n (G (b.at ⟨t',ds⟩ (.inRegion ops rest :: k)) cs) w) :
  GR P S B Stop (n+1) (G (b.at ⟨t,ds⟩ (.inRegion ops (i :: rest) :: k)) cs) w:=
 gr_alloc hF hT hbk ho hop hd hdz hw (by rw [growW_size];exact hN) hi hz fun w t' hF hT=>h w t' (by rw [zaI] at hF;exact hF) hT
theorem gcell {e:TypeId} {j N:Nat} (h:l[j]? = some (.cells #[v] e (0,0))) (hN:W.heap.size+j=N):(zas W l).cell? ⟨N,0,none⟩=some v∧(zas W l).frozen? ⟨N,0,none⟩=false:=by
 subst hN
 have h:=(growW_new (w:=W) (l:=l) (k:=j)).trans h
 simp [World.cell?,World.frozen?,h]
theorem gr_call [Start] {fn:Func} {g:FuncId} {args:Array Operand} {ats:Array TypeId} {w':World} {vs:Array Value} (hF:Rel T0 S w w') (hbk:b.kind = .normal) (ho:ops[i]? = some o) (hw:Region.wanted o (yielded ops t)=true) (hop:o.op = .call { callee:=.value (.func g),args:=args,argTypes:=ats })
  (hf:P.funcs[g]? = some fn) (hname:(fn.name == "runtime.NumGoroutine")=false) (hb:fn.body.isNone=false) (hvs:args.map (Act.eval ⟨t,ds⟩)=vs)
  (h:∀ w,Rel T0 S w w'→GR P S B Stop n (G (Frame.enter P g vs .normal) (b.at ⟨t,ds⟩ (.inRegion ops (i :: rest) :: k) :: cs)) w) :
  GR P S B Stop (n+1) (G (b.at ⟨t,ds⟩ (.inRegion ops (i :: rest) :: k)) cs) w:=by
 cases hbd:fn.body with
 | none=>rw [hbd] at hb;cases hb
 | some c=>
  refine gs_call (carR (B:=B)) hF hbk ho hw hop hf hname hbd rfl fun w hF=>?_
  rw [hvs,← enter_at (P:=P) vs hf hbd]
  exact h w hF
end
theorem St.of_heap [Start] {T:Tables} {F:Array Func} {b0:Nat} {a:Goroutine} {w w' w'':World} {m:Machine} {t:Trace} (h:St T F b0 S a w w' m t) (e:Sim.blind w''=Sim.blind w'):St T F b0 S a w w'' m t:=by
 obtain ⟨gs,sl,q,B,hm,hF⟩:=h
 have hr:=Rel.blind hF.rel
 rw [← e] at hr
 exact ⟨gs,sl,q,B,hm,hF.at0,hF.leavers,hF.past,⟨hr.size,hr.os,hr.output,hr.same,hr.ok,hr.spoilt,hr.elem,hr.kept⟩,hF.high,hF.size⟩
theorem madeCells_size (m:Nat):(madeCells #[.int .i64 0] m).size=m:=by simp [madeCells]
end
section
open Go Go.Conc Go.RowKit
variable {T:Tables} {F':Array Func}
theorem lone_path2 {n0 f:Nat} {args:Array Value} {w:World} (h':Duo T F' F') (hn0:F'[n0]? = none) {c:Frame} {rest:List Frame} {Rr:Value→World→Prop} (hok:CfgOk T n0 ⟨Frame.enter ⟨T,F'⟩ f args .normal,c :: (rest++[bot n0]),w⟩)
  (hC:Calls ⟨T,F'⟩ f args (tp w t0 0) fun e w'=>∃ v,e = .returned v∧Rr v w') :
  ∃ v w1,Rr v w1∧Relation.TransGen (fun c' c=>Next2 ⟨T,F'⟩ c c') ⟨c.finish v,rest++[bot n0],blind w1⟩ ⟨Frame.enter ⟨T,F'⟩ f args .normal,c :: (rest++[bot n0]),w⟩:=by
 obtain ⟨e,w',fr,⟨v,rfl,hR⟩,⟨n,hn⟩,hfn,hl⟩:=hC (c :: (rest++[bot n0]))
 have hret:=step_leave_returned (P:=⟨T,F'⟩) (c:=c) (cs:=rest++[bot n0]) hl
 have hrun:runN ⟨T,F'⟩ (n+1) (lone (Frame.enter ⟨T,F'⟩ f args .normal) (c :: (rest++[bot n0])) (tp w t0 0)) = .next (lone (c.finish v) (rest++[bot n0]) w'):=by
  rw [runN_add,hn]
  simp only [runN,hret]
 exact ⟨v,w',hR,(path_of_run h' hn0 n (c:=⟨Frame.enter ⟨T,F'⟩ f args .normal,c :: (rest++[bot n0]),w⟩) hok (τ:=t0) (d:=0) hrun (by simp)).1⟩
theorem op_row {ops:Array Oper} {L:List (Op×Option Tmp×Option (Nat×Bool))} (h:ops.toList.map (fun o=>(o.op,o.dst,o.guard))=L) {i:Nat} {x:Op} {d:Option Tmp} (hi:L[i]? = some (x,d,none)) :
  ∃ o,ops[i]? = some o∧o.op=x∧o.dst=d∧∀ ys,Region.wanted o ys=true:=op_of (by
 rw [← hi,← h,List.getElem?_map,Array.getElem?_toList])
theorem range_row {ops:Array Oper} {L:List (Op×Option Tmp×Option (Nat×Bool))} (h:ops.toList.map (fun o=>(o.op,o.dst,o.guard))=L):List.range ops.size=List.range L.length:=by
 rw [← h,List.length_map,Array.length_toList]
def Met [Start] (T:Tables) (F:Array Func) (b0:Nat) (c:Frame) (rest:List Frame) (v:Value) (w1':World) (m:Machine) (t:Trace):Prop:=∃ S1 w1,St T F b0 S1 (G (c.finish v) rest) w1 w1' m t
theorem phase_of [Start] {F:Array Func} {n0 b0 f:Nat} (h':Duo T F' F') (hn0:F'[n0]? = none) {args:Array Value} {c:Frame} {rest:List Frame} {w':World} {mm:Machine} {t:Trace} {v0:Value} {L:List Obj}
  (hfs:∀ fr ∈ c :: rest,FrameOk T fr) (hok:CfgOk T n0 ⟨Frame.enter ⟨T,F'⟩ f args .normal,c :: (rest++[bot n0]),w'⟩)
  (hC:Calls ⟨T,F'⟩ f args (tp w' t0 0) fun e w2=>∃ v,e = .returned v∧v=v0∧∃ d,w2=(zas (tp w' t0 0) L).at d)
  (hR:Runs ⟨T,F⟩ (Met T F b0 c rest v0 (zas w' L)) mm t) :
  ∃ (N:Nat) (gs1:Array Goroutine) (g1:Goroutine) (w1:World) (sl1:Option (Nat×Nat)) (t1:Trace) (q1:Nat→Nat) (S1:Nat→Prop) (B1:Nat) (w1':World),
   runNT ⟨T,F⟩ N mm t=(.next (crowd gs1 w1 sl1),t1)∧Frm T F b0 S1 B1 gs1 g1 w1 t1 q1 w1'∧GOk T g1∧Relation.TransGen (fun c' c=>Next2 ⟨T,F'⟩ c c') ⟨g1.frame,g1.callers++[bot n0],w1'⟩ ⟨Frame.enter ⟨T,F'⟩ f args .normal,(c :: rest)++[bot n0],w'⟩:=by
 obtain ⟨v,w2,⟨rfl,d,rfl⟩,hpath⟩:=lone_path2 h' hn0 hok hC
 obtain ⟨N,m',t',hr,S1,w1,hst⟩:=hR
 obtain ⟨gs1,sl1,q1,B1,rfl,hF⟩:=hst.of_heap (w'':=blind ((zas (tp w' t0 0) L).at d)) rfl
 exact ⟨N,gs1,_,w1,sl1,t',q1,S1,B1,_,hr,hF,⟨rfl,rfl,rfl,finish_ok (hfs c (by simp)) _,fun fr hfr=>hfs fr (by simp;exact .inr hfr)⟩,hpath⟩
end
end Go.Proofs.Ytjkikkgpenhbgaa.Sim
