import Derived.Test.YtjkikkgpenhbgaaLSD
import Derived.Test.YtjkikkgpenhbgaaLSF
import Derived.Conc.LeavingOf
import Derived.Carry
set_option linter.unusedVariables false
set_option linter.unusedSimpArgs false
set_option linter.unusedSectionVars false
namespace Go.Proofs.Ytjkikkgpenhbgaa.Sim
section
open Go Go.Conc
open Go.ConcN (sumTo)
variable {T:Tables} {F F':Array Func}
noncomputable def clean (T:Tables) (W:World):World:=open Classical in { W with heap:=W.heap.map fun o=>if objOk T o then o else .coro none }
theorem clean_get (W:World) (b:Nat):Eqv W.heap[b]? (clean T W).heap[b]?∧∀ o,(clean T W).heap[b]? = some o→objOk T o:=by
 classical
 simp only [clean,Array.getElem?_map]
 cases hb:W.heap[b]? with
 | none=>exact ⟨.inl rfl,fun o h=>by cases h⟩
 | some o=>
  by_cases ho:objOk T o
  ·simp only [Option.map,if_pos ho]
   exact ⟨.inl rfl,fun o' h=>by cases h;exact ho⟩
  ·simp only [Option.map,if_neg ho]
   refine ⟨.inr ⟨?_,rfl⟩,fun o' h=>by cases h;trivial⟩
   cases o
   case loop L=>exact .inl ⟨L,rfl⟩
   case deferred ds=>exact .inr ⟨ds,rfl⟩
   all_goals exact absurd trivial ho
theorem clean_rel [Start] {W:World} (hs:∀ b:Nat,Start.old b=W.heap[b]?):Rel T (fun _=>False) W (clean T W):=
 ⟨by simp [clean],rfl,rfl,fun b _=>(clean_get W b).1,fun b o h=>(clean_get W b).2 o h,(fun _ h=>h.elim),(fun _ h=>h.elim),fun b _=>(hs b).symm⟩
theorem clean_cell (W:World) (a:Addr) (τ:Tape) (d:Nat):(tp (clean T W) τ d).cell? a=W.cell? a:=by
 letI:=selfStart W
 exact ((clean_rel (W:=W) fun _=>rfl).cell (fun h=>h)).symm
theorem clean_size (W:World) (τ:Tape) (d:Nat):(tp (clean T W) τ d).heap.size=W.heap.size:=by simp [clean,tp]
theorem ends_of_calls [Start] (h:Duo T F F') (h':Duo T F' F') {n0 f0 b0:Nat} {R:Value→World→Prop} (hn0:F'[n0]? = none) (hb0:T.globals.size≤b0) (hin:(⟨T,F⟩:Program).inits.idxOf? f0=none) (hPh:Phases T F F' n0 f0 b0 R) {args:Array Value} {W:World} (hs:∀ b:Nat,Start.old b=W.heap[b]?) (hb1:b0≤W.heap.size) (hf:F[f0]? = F'[f0]?)
  (hC:∀ (τ:Tape) (d:Nat),Calls ⟨T,F'⟩ f0 args (tp (clean T W) τ d) fun e w'=>∃ v,e = .returned v∧R v (blind w')) :
  EndsFrom T F b0 R (crowd #[{ frame:=Frame.enter ⟨T,F⟩ f0 args .normal,callers:=[],status:=.running,dying:=none }] W none) #[]:=by
 have hfr:FrameOk T (Frame.enter ⟨T,F'⟩ f0 args .normal):=enter_ok h _ _ _
 have hG:Good ⟨T,F'⟩ n0 f0 R ⟨Frame.enter ⟨T,F'⟩ f0 args .normal,[bot n0],blind (clean T W)⟩:=by
  intro τ d
  obtain ⟨e,w',fr,⟨v,rfl,hR⟩,⟨n,hn⟩,hfn,hl⟩:=hC τ d [bot n0]
  exact ⟨n,fr,w',v,hn,hfn,hl,hR⟩
 have hok:CfgOk T n0 ⟨Frame.enter ⟨T,F'⟩ f0 args .normal,[bot n0],blind (clean T W)⟩:=⟨hfr,⟨[],rfl,fun _ h=>by cases h⟩,(clean_rel hs).ok⟩
 have hacc:=Acc.transGen (acc_of_good h' hok hG)
 rw [enter_eq (T:=T) args .normal hf]
 refine beside_sim h h' hn0 hb0 hin hPh _ hacc (sumTo 1 fun _=>0) _ { frame:=Frame.enter ⟨T,F'⟩ f0 args .normal,callers:=[],status:=.running,dying:=none } (fun _=>False) 0 W none #[] (fun _=>0) (Nat.le_refl _) ⟨rfl,leavers_one _ _,?_,(clean_rel hs).blind,fun _ h=>h.elim,hb1⟩ ⟨rfl,rfl,rfl,hfr,fun _ h=>by cases h⟩ rfl hok hG
 have e:ShunOf (fun _=>False)=fun _=>False:=by funext l;cases l <;> rfl
 rw [e]
 exact past_nil
end
section
open Go Go.Conc Go.RowKit
variable {T:Tables} {F F':Array Func}
structure Keeps (W W':World):Prop where
 os:W'.os=W.os
 output:W'.output=W.output
 block:∀ k,k<W.heap.size→W'.heap[k]? = W.heap[k]?
theorem Keeps.frame {W w':World} (h:Keeps W w') (may:MemPlace→Prop):W.keptBut w' may:=by
 refine ⟨h.os,h.output,fun i hi=>?_⟩
 rw [h.block i hi]
 split <;> simp_all
theorem Keeps.trod {H:Type} {enc:TypeId×Value→H} {P:Program} {t:TypeId} (hl:laidOutB P=true) (hr:P.readableRec t=true) (hrow:t<P.types.size) {W W':World} {v:Value} {d:DataW H} {ps:List MemPlace}
  (h:DataW.Trod enc P W 0 (fun _=>true) true t v d ps) (hb:Keeps W W') (hlt:∀ x ∈ ps,x.block<W.heap.size) :
  DataW.Trod enc P W' 0 (fun b=>decide (b<W.heap.size)) true t v d ps:=
 WideElems.Trod_stays hl hr hrow h (fun x hx=>by
  have hlt:=hlt x hx
  cases x with
  | cell b o=>exact World.cell?_of_block (w:=W) (hb.block b hlt)
  | map b=>exact hb.block b hlt) (fun x hx=>by simpa using hlt x hx)
def RB (T:Tables) (W:World) (v0:Value) (v:Value) (w:World):Prop:=v=v0∧w.os=W.os∧w.output=W.output∧∀ k,k<W.heap.size→w.heap[k]? = (clean T W).heap[k]?
theorem keeps_of {W W' w':World} {v0 v:Value} {S:Nat→Prop} (hR:@Rel (selfStart W) T S W' w') (hS:∀ b,S b→W.heap.size≤b) (h:RB T W v0 v w'):Keeps W W':=by
 letI:=selfStart W
 obtain ⟨_,h1,h2,h3⟩:=h
 refine ⟨hR.os.trans h1,hR.output.trans h2,fun k hk=>?_⟩
 have hn:¬ S k:=fun hs=>by have:=hS k hs;omega
 have hs:=hR.same k hn
 have hc:=(clean_get (T:=T) W k).1
 rw [← h3 k hk] at hc
 by_cases hy:w'.heap[k]? = some (.coro none)
 ·exact hR.kept k hy
 ·rcases hs with e | ⟨_,e⟩
  ·rcases hc with e2 | ⟨_,e2⟩
   ·rw [e,e2]
   ·exact absurd e2 hy
  ·exact absurd e hy
theorem leave_good (h:Duo T F F') (h':Duo T F' F') {n0 f0:Nat} {W:World} {args:Array Value} {v0:Value} (hn0:F'[n0]? = none) (hb:T.globals.size≤W.heap.size) (hin:(⟨T,F⟩:Program).inits.idxOf? f0=none) (hf:F[f0]? = F'[f0]?)
  (hPh:@Phases (selfStart W) T F F' n0 f0 W.heap.size (RB T W v0)) (hC:∀ (τ:Tape) (d:Nat),Calls ⟨T,F'⟩ f0 args (tp (clean T W) τ d) fun e w'=>e = .returned v0∧Below W.heap.size (tp (clean T W) τ d) w') :
  ∃ M last o w' t',runNT ⟨T,F⟩ (M+1) (solo (G (Frame.enter ⟨T,F⟩ f0 args .normal) []) W) #[]=(.ended o w',t')∧runN ⟨T,F⟩ M (solo (G (Frame.enter ⟨T,F⟩ f0 args .normal) []) W) = .next last∧
   step ⟨T,F⟩ last = .ended o w'∧Conc.Good ⟨T,F⟩ (fun v W'=>v=v0∧Keeps W W') last o w' t':=by
 letI:=selfStart W
 obtain ⟨N,last,o,w',t',h1,h2,h3,h4⟩:=Sim.ends_of_calls h h' (R:=RB T W v0) hn0 hb hin hPh (fun _=>rfl) (Nat.le_refl _) hf fun τ d=>(hC τ d).mono fun e w1 ⟨he,hbel⟩=>⟨v0,he,rfl,hbel.os,hbel.output,hbel.block⟩
 exact ⟨N,last,o,w',t',h1,h2,h3,h4.mono fun v ⟨S,w2,hR,hS,hRB⟩=>⟨hRB.1,keeps_of hR hS (v:=v) ⟨hRB.1,hRB.2⟩⟩⟩
theorem leave_post (h:Duo T F F') (h':Duo T F' F') {n0 f0:Nat} {W:World} {args:Array Value} {v0:Value} {Q:Value→World→Prop} (hn0:F'[n0]? = none) (hb:T.globals.size≤W.heap.size) (hin:(⟨T,F⟩:Program).inits.idxOf? f0=none) (hf:F[f0]? = F'[f0]?)
  (hPh:@Phases (selfStart W) T F F' n0 f0 W.heap.size (RB T W v0)) (hC:∀ (τ:Tape) (d:Nat),Calls ⟨T,F'⟩ f0 args (tp (clean T W) τ d) fun e w'=>e = .returned v0∧Below W.heap.size (tp (clean T W) τ d) w') (hQ:∀ v W',v=v0∧Keeps W W'→Q v W') :
  ∃ M last o w' t',runNT ⟨T,F⟩ (M+1) (solo (G (Frame.enter ⟨T,F⟩ f0 args .normal) []) W) #[]=(.ended o w',t')∧runN ⟨T,F⟩ M (solo (G (Frame.enter ⟨T,F⟩ f0 args .normal) []) W) = .next last∧
   step ⟨T,F⟩ last = .ended o w'∧Conc.Good ⟨T,F⟩ Q last o w' t':=by
 obtain ⟨M,last,o,w',t',h1,h2,h3,h4⟩:=leave_good h h' hn0 hb hin hf hPh hC
 exact ⟨M,last,o,w',t',h1,h2,h3,h4.mono fun v hv=>hQ v _ hv⟩
theorem leaving_shaped {H:Type} {enc:TypeId×Value→H} {a:Assume} {C:Checked} {os:Os} {f:FuncId} {fn:Func} {s:ChangeSpec} {conds:List PathCond} {apart fresh handsOn again:Bool}
  (own:ownKnob C.prog.godebug=none) (started:os.Started) (hfn:C.prog.funcs[f]? = some fn)
  (witness:∃ (w:World) (tape:Tape) (i:Input),w.os=os∧(w.forCall tape i).Shaped C.prog∧i.vars=[]∧Input.okWide C.prog (w.forCall tape i) .any w.heap.size f i∧
   s.pre6 enc C.prog fn conds apart (w.forCall tape i).memory i.args∧a.holds C.prog (lone (Frame.enter C.prog f i.args .normal) [] (w.forCall tape i)))
  (runs:∀ (W:World) (base:Nat) (args:Array Value) (ds gs:List (DataW H)) (before:List MemPlace),W.ShapedOpen C.prog→
   (∀ (j:Nat) t v,fn.params[j]? = some t→args[j]? = some v→Value.okWide C.prog W .any base t v)→
   DataW.Whole enc C.prog fn.params.toList s.vars apart W args.toList ds gs before→
   (DataW.weightsEach C.prog (fn.params.toList++s.plain.varTypes C.prog) (ds++gs)).all (·≤reachBytes)=true→
   ∃ M last o w' t',runNT C.prog (M+1) (solo (G (Frame.enter C.prog f args .normal) []) W) #[]=(.ended o w',t')∧runN C.prog M (solo (G (Frame.enter C.prog f args .normal) []) W) = .next last∧
    step C.prog last = .ended o w'∧Conc.Good C.prog (fun v W'=>s.post enc C.prog fn apart fresh handsOn again W args v W') last o w' t') :
  ReturnsInLeavingWide a C os f .any (s.pre6 enc C.prog fn conds apart) (s.post enc C.prog fn apart fresh handsOn again):=by
 refine returnsInLeavingWide_of_good own started witness fun w tape i _ hsh _ hok hpre _=>?_
 obtain ⟨_,_,_,fn',hfn',_,_,_,_,hval⟩:=hok
 obtain rfl:fn'=fn:=Option.some.inj (hfn'.symm.trans hfn)
 obtain ⟨⟨ds,gs,before,hw,_⟩,hz⟩:=hpre
 obtain ⟨M,last,o,w',t',h1,h2,h3,h4⟩:=runs (w.forCall tape i) w.heap.size i.args ds gs before hsh hval (DataW.Whole.of_heap (w':=w.forCall tape i) (by rfl) hw) (hz.weights hw)
 exact ⟨M,last,o,w',t',h1,h2,h3,h4.mono fun v hp=>ChangeSpec.post_blind hp⟩
theorem globals_le {P:Program} {W:World} (hg:P.globals.size<(begin P (fun _ _=>0) default).world.heap.size) (h:W.ShapedOpen P):P.globals.size≤W.heap.size:=by
 obtain ⟨o,o0,h1,_⟩:=h.2 ((begin P (fun _ _=>0) default).world.heap.size - 1) (by omega) (by omega)
 have:=(Array.getElem?_eq_some_iff.1 h1).1
 omega
end
section
open Go
variable {T:Tables} {F F':Array Func}
theorem runProg {P:Program} {α:Type} (f:Program→Sem α) (w:World):(Go.program.bind f).run P w=(f P).run P w:=rfl
theorem runInfo_F (t:TypeId) (w:World):(Go.typeInfo t).run ⟨T,F⟩ w=(Go.typeInfo t).run ⟨T,F'⟩ w:=by
 show (Go.program.bind fun p=>_).run _ w=(Go.program.bind fun p=>_).run _ w
 rw [runProg,runProg]
 show (match T.info? t with | some i=>_ | none=>_:Sem TypeInfo).run _ w=(match T.info? t with | some i=>_ | none=>_:Sem TypeInfo).run _ w
 cases T.info? t <;> rfl
theorem runUnd_F (t:TypeId) (w:World):(Go.underlying t).run ⟨T,F⟩ w=(Go.underlying t).run ⟨T,F'⟩ w:=by
 show (Go.program.bind fun p=>_).run _ w=(Go.program.bind fun p=>_).run _ w
 rw [runProg,runProg]
 show (match Program.underlying ⟨T,F⟩ t with | some i=>_ | none=>_:Sem TypeDesc).run _ w=(match Program.underlying ⟨T,F'⟩ t with | some i=>_ | none=>_:Sem TypeDesc).run _ w
 rw [underlying_F (F:=F) (F':=F')]
 cases Program.underlying ⟨T,F'⟩ t <;> rfl
theorem runSize_F (t:TypeId) (w:World):(Go.sizeOf t).run ⟨T,F⟩ w=(Go.sizeOf t).run ⟨T,F'⟩ w:=by
 show ((Go.typeInfo t).bind fun i=>Sem.pure i.size).run _ w=((Go.typeInfo t).bind fun i=>Sem.pure i.size).run _ w
 rw [Sem.run_bind',Sem.run_bind',runInfo_F (F:=F) (F':=F')]
 cases (Go.typeInfo t).run ⟨T,F'⟩ w <;> rfl
theorem runAgg_F (t:TypeId) (w:World):(Go.isAgg t).run ⟨T,F⟩ w=(Go.isAgg t).run ⟨T,F'⟩ w:=by
 have h1:(Go.underlying t).run ⟨T,F⟩ w=(Go.underlying t).run ⟨T,F'⟩ w:=runUnd_F t w
 cases hr:(Go.underlying t).run ⟨T,F'⟩ w with
 | ok d w1=>
  rw [hr] at h1
  cases d <;> simp [Go.isAgg,go_sem,h1,hr]
 | halt h w1=>
  rw [hr] at h1
  simp [Go.isAgg,go_sem,h1,hr]
theorem runZero_F (t:TypeId) (w:World):(Go.zeroValue t).run ⟨T,F⟩ w=(Go.zeroValue t).run ⟨T,F'⟩ w:=by
 have h1:(Go.typeInfo t).run ⟨T,F⟩ w=(Go.typeInfo t).run ⟨T,F'⟩ w:=runInfo_F t w
 cases hr:(Go.typeInfo t).run ⟨T,F'⟩ w with
 | ok d w1=>
  rw [hr] at h1
  cases hz:d.zero <;> simp [Go.zeroValue,go_sem,h1,hr,hz]
 | halt h w1=>
  rw [hr] at h1
  simp [Go.zeroValue,go_sem,h1,hr]
theorem eqg_F:∀ (d:Nat) (t:TypeId),Program.eqGuardType ⟨T,F⟩ d t=Program.eqGuardType ⟨T,F'⟩ d t:=by
 intro d
 induction d with
 | zero=>intro t;rfl
 | succ d ih=>
  intro t
  have ih':Program.eqGuardType ⟨T,F⟩ d=Program.eqGuardType ⟨T,F'⟩ d:=by funext t;exact ih t
  show Program.eqGuardType ⟨T,F⟩ (d+1) t=_
  unfold Program.eqGuardType
  rw [ih']
  rfl
theorem zan {P:Program} {n:Nat} {fn:Func} (hf:P.funcs[n]? = some fn) (hn:(fn.name == "runtime.NumGoroutine")=false) (hb:fn.body.isNone=false) (args:Array Value) (w:World):(Go.callFunc n args).run P w = .ok (.enter n args) w:=by
 show (Go.program.bind fun p=>match p.funcs[n]? with | none=>_ | some fn=>_:Sem Next).run P w=_
 simp only [Go.program,Sem.bind,Sem.run,hf,hn,hb]
 rfl
end
end Go.Proofs.Ytjkikkgpenhbgaa.Sim
