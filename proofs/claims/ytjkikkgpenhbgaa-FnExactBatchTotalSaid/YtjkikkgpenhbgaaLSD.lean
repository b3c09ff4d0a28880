import Derived.Test.YtjkikkgpenhbgaaLSC
import Derived.Calls
import Derived.Conc.Beside
set_option linter.unusedVariables false
set_option linter.unusedSimpArgs false
set_option linter.unusedSectionVars false
namespace Go.Proofs.Ytjkikkgpenhbgaa.Sim
section
open Go Go.Conc Go.ConcN
open Go.ConcR (KK WgAt stA smA rd wr mk Payload DC0 Bk)
section
variable [Payload] {G:Nat→Bool} {P:Program} {ty:TypeId} {Wg C n:Nat} {OwnA RdA OwnB RdB:Nat→Loc→Prop} {Lw:Nat→Nat} {val:Nat→Value} {vals:List Value} {AnchA AnchB:Goroutine→World→Prop} {Post:Value→World→Prop}
 {Shun:Loc→Prop} {np Cp:Nat} {valP:Nat→Value} {RdP:Nat→Loc→Prop} {LwP:Nat→Nat} {AnP:Goroutine→World→Prop} {PoP:Value→World→Prop} {c:Nat} {t₀:Trace} {c0:Frame} {rest:List Frame}
def GEnd (P:Program) (Post:Value→World→Prop) (Shun:Loc→Prop) (Wg:Nat) (c0:Frame) (rest:List Frame) (gs:Array Goroutine) (w:World) (T:Trace):Prop:=
 ∃ v q B,gs[0]? = some { frame:=c0.finish v,callers:=rest,status:=.running,dying:=none }∧Leavers P T gs q∧Past (fun l=>Shun l∨ShN Wg l) B T∧Post v w
theorem gend (FB:Fam P ty Wg C n OwnB RdB Lw val vals AnchB Post) {B:Nat} (hP:Past Shun B t₀)
  {q:Nat→Nat} {μ:Nat×Nat} {gs:Array Goroutine} {w:World} {sl:Option (Nat×Nat)} {T:Trace} {gh:Array Goroutine} {a:Goroutine} {s:Trace}
  (h:GI G P ty Wg C n OwnA RdA OwnB RdB Lw val vals AnchA AnchB Post Shun np Cp valP RdP LwP AnP PoP c t₀ (c0 :: rest) q μ gs w T gh a s) {d:Nat} {sl':Option (Nat×Nat)} {v:Value} {es:Array Event} {fr:Frame}
  (hst:stepT P (crowd gs w sl)=runT P (crowd gs (w.at d) sl') 0) (hy:stepG P true (ups (c0 :: rest) a) (w.at d)=(doReturn P true fr (c0 :: rest) none v (w.at d)).after es) (hk:fr.kind = .normal)
  (hev:∀ e ∈ es,Ev0 Wg OwnB RdB n e) (hshy:∀ op ∈ MemOp.ofEvents 0 a.frame.fn a.frame.place es,∀ x,op.act.touch? = some x→Shun x.loc→x.kind≠.plain) (hF:Fin0 Wg C n OwnB RdB P Post gh (w.at d) s v) :
  ∃ gs' ops,stepT P (crowd gs w sl)=(.next (crowd gs' (w.at d) sl'),ops)∧GEnd P Post Shun Wg c0 rest gs' (w.at d) (T++ops):=by
 have hr:(doReturn P true fr (c0 :: rest) none v (w.at d)).after es = .go { frame:=c0.finish v,callers:=rest,status:=.running,dying:=none } (w.at d) es:=by
  unfold doReturn
  simp only [hk,GStep.after,Array.append_empty]
 rw [hr] at hy
 have h1c:0<gs.size:=(Array.getElem?_eq_some_iff.1 h.h0).1
 have hrunT:=runT_crowd_go (P:=P) (sl:=sl') (i:=0) h.h0 (show stepG P (0 == 0) (ups (c0 :: rest) a) (w.at d)=_ from hy)
 refine ⟨_,_,hst.trans hrunT,v,?_⟩
 have hdf:∀ k,k≠0→Deaf (T++MemOp.ofEvents 0 (ups (c0 :: rest) a).frame.fn (ups (c0 :: rest) a).frame.place es) k=Deaf T k:=fun k hk0=>Deaf_other T (g':=0) (Ne.symm hk0) _ Go.Conc.g_of_ofEvents
 have hch:∀ i,∃ k,∀ g,0<i→((gs.map (woken P (ups (c0 :: rest) a) { frame:=c0.finish v,callers:=rest,status:=.running,dying:=none } (w.at d))).setIfInBounds 0 { frame:=c0.finish v,callers:=rest,status:=.running,dying:=none })[i]? = some g→
   QuitsD P k (Deaf (T++MemOp.ofEvents 0 (ups (c0 :: rest) a).frame.fn (ups (c0 :: rest) a).frame.place es) i) g:=by
  intro i
  rcases Nat.eq_zero_or_pos i with rfl | hpos
  ·exact ⟨0,fun g h1=>by omega⟩
  rw [hdf i (by omega)]
  have gone:∀ k,(∀ x,gs[i]? = some x→QuitsD P k (Deaf T i) x)→∃ k,∀ g,0<i→((gs.map (woken P (ups (c0 :: rest) a) { frame:=c0.finish v,callers:=rest,status:=.running,dying:=none } (w.at d))).setIfInBounds 0 { frame:=c0.finish v,callers:=rest,status:=.running,dying:=none })[i]? = some g→QuitsD P k (Deaf T i) g:=by
   intro k hx
   refine ⟨k,fun g _ hg=>?_⟩
   rw [get_map_set _ _ _ _ (by omega)] at hg
   obtain ⟨y,hy,rfl⟩:=Option.map_eq_some_iff.1 hg
   rw [woken_quitsD (hx y hy)]
   exact hx y hy
  rcases Nat.lt_or_ge c i with h1 | h1
  ·obtain ⟨i',rfl⟩:∃ i',i=c+1+i':=⟨i - (c+1),by omega⟩
   by_cases hlt:i'<n
   ·obtain ⟨g0,q0,hg0,hq0⟩:=hF.quits i' hlt
    refine gone q0 fun x hx=>?_
    rw [h.wk,hg0] at hx
    cases hx
    obtain ⟨φ,L⟩:=h.lk
    have:=L.dfe (i'+1)
    rw [show up c (i'+1)=c+1+i' by unfold up;rw [if_neg (by omega)];omega] at this
    rw [this]
    exact hq0
   ·refine gone 0 fun x hx=>?_
    rw [h.wk] at hx
    have:=(Array.getElem?_eq_some_iff.1 hx).1
    rw [hF.size] at this
    omega
  ·exact gone (q i) fun x hx=>h.old i x hpos h1 hx
 obtain ⟨q',hq'⟩:=Classical.axiomOfChoice hch
 obtain ⟨φ,L⟩:=h.lk.events 0 a.frame.fn a.frame.place es
 obtain ⟨B1,hB1⟩:=low_some (s++MemOp.ofEvents 0 a.frame.fn a.frame.place es)
 have hsz:gh.size - 1=n:=by rw [hF.size];rfl
 have hS:Small Shun (ShN Wg) (s++MemOp.ofEvents 0 a.frame.fn a.frame.place es):=by
  have htr:=h.tr.app0 (u:=MemOp.ofEvents 0 a.frame.fn a.frame.place es) (fun op hop=>Go.Conc.g_of_ofEvents op hop) hshy
  rw [hsz] at htr
  refine htr.small (hF.ct.app0 FB.apart (ok0_of_Ev0 hev)) (hF.norel.app (norel_of fun e he=>(hev e he).2.2.2)) (hF.acq.app fun i r _ hr=>hr.appOther Go.Conc.g_of_ofEvents (by omega)) ?_
  rw [Deaf_own,hF.deaf]
  exact deafBehind_idle (fun e he=>⟨(hev e he).2.1,(hev e he).2.2.1⟩) 0
 refine ⟨q',max B B1,by simp [h1c],⟨fun i g h1 h2=>hq' i g h1 h2,fun k hk2=>?_⟩,past_of_small hP (Nat.le_max_left _ _) L hS (fun op hop=>MemAct.low_mono (Nat.le_max_right _ _) (hB1 op hop)),hF.post⟩
 rw [hdf k (by simp at hk2;omega)]
 exact h.above k (by simpa using hk2)
theorem gruns (E:EProg G P) (FA:Fam P ty Wg C n OwnA RdA Lw val vals AnchA Post) (FB:Fam P ty Wg C n OwnB RdB Lw val vals AnchB Post) (hA:∀ l,Shun l→OwnA 1 l) (hB:∀ k l,OwnB k l∨RdB k l→¬ Shun l) (hW:Wg<LwP 1) (hArP:∀ g w,AnP g w→g.status = .running) (hAnP:∀ g w,AnP g w→∃ m,Goes P true (RC ty Wg Cp) (DP Wg OwnA RdP 1 (LwP 1)) (AtW1 P ty Wg Cp 1 OwnA RdP (LwP 1) [] AnP PoP) m g w) {B:Nat} (hP:Past Shun B t₀) :
  ∀ (m:Nat×(Nat×Nat)) {q:Nat→Nat} {μ:Nat×Nat} {gs:Array Goroutine} {w:World} {sl:Option (Nat×Nat)} {T:Trace} {gh:Array Goroutine} {a:Goroutine} {s:Trace},m=(sumTo (c+1) q,μ)→
   GI G P ty Wg C n OwnA RdA OwnB RdB Lw val vals AnchA AnchB Post Shun np Cp valP RdP LwP AnP PoP c t₀ (c0 :: rest) q μ gs w T gh a s→
   ∃ N gs' w' sl' T',runNT P N (crowd gs w sl) T=(.next (crowd gs' w' sl'),T')∧GEnd P Post Shun Wg c0 rest gs' w' T':=by
 intro m
 induction m using (Prod.lex Nat.lt_wfRel (Prod.lex Nat.lt_wfRel Nat.lt_wfRel)).wf.induction with
 | _ m ih=>
 rintro q μ gs w sl T gh a s rfl h
 rcases gstep (sl:=sl) E FA FB hA hB hW hArP hAnP h with ⟨d,sl',v,es,fr,hst,hy,hk,_,hev,hshy,hF⟩ | ⟨gs',w',sl',ops,q',μ',gh',a',s',hst,hlt,hI⟩
 ·obtain ⟨gs',ops,h1,h2⟩:=gend FB hP h hst hy hk hev hshy hF
  exact ⟨1,gs',_,sl',T++ops,by simp only [runNT,h1],h2⟩
 ·obtain ⟨N,gs2,w2,sl2,T2,h1,h2⟩:=ih _ hlt (sl:=sl') rfl hI
  exact ⟨N+1,gs2,w2,sl2,T2,by simp only [runNT,hst];exact h1,h2⟩
end
end
section
open Go Go.Conc Go.ConcN
open Go.ConcR (WgAt stA smA rd wr mk Payload DC0 Bk)
section
variable [Payload] {G:Nat→Bool} {P:Program} {ty:TypeId} {Wg C n:Nat} {OwnA RdA OwnB RdB:Nat→Loc→Prop} {Lw:Nat→Nat} {val:Nat→Value} {vals:List Value} {AnchA AnchB:Goroutine→World→Prop} {Post:Value→World→Prop}
 {Shun:Loc→Prop} {np Cp:Nat} {valP:Nat→Value} {RdP:Nat→Loc→Prop} {LwP:Nat→Nat} {AnP:Goroutine→World→Prop} {PoP:Value→World→Prop} {c0:Frame} {rest:List Frame}
theorem inv_start {Own Rd:Nat→Loc→Prop} {AnchW:Goroutine→World→Prop} {a:Goroutine} {w:World} (h:Spawns P ty Wg C n Own Rd Lw val (Fin P ty Wg C n Own Rd Lw AnchW) n a w) (hwg:Go.ConcR.WgAt ty Wg w 0 0) (hpay:PayAt C n w) :
  ∃ μ,Inv P ty Wg C n Own Rd Lw val vals AnchW Post μ (crowd #[a] w none) #[]:=by
 have hcom:Com P ty Wg C n Own Rd Lw val 0 #[a] w #[] (fun _=>⟨0,0,0⟩) 0:=by
  refine ⟨rfl,fun i hi=>by omega,CT.lone (by simp) (by simp),fun i hi=>by simp [Trace.act?] at hi,rfl,fun i hi=>by omega,fun i hi=>by omega,fun i hi=>by omega,hpay⟩
 have hm:∀ tag,isOpen tag→pend tag=0→(∀ vs,tag≠.w2 vs)→ConcN.Mode 0 (fun _=>(⟨0,0,0⟩:WD)) tag 0 0:=fun tag h1 h2 h3=>by
  have:=ConcN.Mode.opn (j:=0) (D:=fun _=>(⟨0,0,0⟩:WD)) h1 (fun i hi=>by omega) (fun vs e=>absurd e (h3 vs))
  simpa [Vc,sumTo,h2] using this
 cases n with
 | zero=>
  obtain ⟨m,hk⟩:=h
  exact ⟨_,#[a],w,none,0,_,.kd,m,0,a,_,_,rfl,rfl,.kd hk,hcom,hwg,hm .kd trivial rfl (by simp),by simp,rfl⟩
 | succ r=>
  obtain ⟨m,hk⟩:=h
  have hc:=CSit.skd (vals:=vals) (Post:=Post) (Nat.lt_succ_self r) hk
  rw [Nat.sub_self] at hc
  exact ⟨_,#[a],w,none,0,_,.sp r 5,m,0,a,_,_,rfl,rfl,hc,hcom,hwg,hm (.sp r 5) trivial rfl (by simp),by simp,rfl⟩
theorem crowd_phase (E:EProg G P) (FA:Fam P ty Wg C n OwnA RdA Lw val vals AnchA Post) (FB:Fam P ty Wg C n OwnB RdB Lw val vals AnchB Post) (hA:∀ l,Shun l→OwnA 1 l) (hB:∀ k l,OwnB k l∨RdB k l→¬ Shun l)
  (hW:Wg<LwP 1) (hArP:∀ g w,AnP g w→g.status = .running) (hAnP:∀ g w,AnP g w→∃ m,Goes P true (RC ty Wg Cp) (DP Wg OwnA RdP 1 (LwP 1)) (AtW1 P ty Wg Cp 1 OwnA RdP (LwP 1) [] AnP PoP) m g w)
  {B:Nat} {q:Nat→Nat} {gs:Array Goroutine} {w:World} {sl:Option (Nat×Nat)} {T:Trace} {a:Goroutine} (hP:Past Shun B T) (hL:Leavers P T gs q) (h0:gs[0]? = some (ups (c0 :: rest) a)) (hok:EOk G P a)
  (ha:Spawns P ty Wg C n OwnA RdA Lw val (Fin P ty Wg C n OwnA RdA Lw AnchA) n a w) (hb:Spawns P ty Wg C n OwnB RdB Lw val (Fin P ty Wg C n OwnB RdB Lw AnchB) n a w)
  (hp:Pre P ty Wg Cp np OwnA RdP LwP valP AnP PoP a w) (hwg:Go.ConcR.WgAt ty Wg w 0 0) (hpay:PayAt C n w) :
  ∃ N gs' w' sl' T',runNT P N (crowd gs w sl) T=(.next (crowd gs' w' sl'),T')∧GEnd P Post Shun Wg c0 rest gs' w' T':=by
 obtain ⟨μA,hIA⟩:=inv_start (vals:=vals) (Post:=Post) ha hwg hpay
 obtain ⟨μB,hIB⟩:=inv_start (vals:=vals) (Post:=Post) hb hwg hpay
 have hlt:0<gs.size:=(Array.getElem?_eq_some_iff.1 h0).1
 refine gruns (c:=gs.size - 1) (t₀:=T) (G:=G) (q:=q) (gh:=#[a]) (a:=a) (s:=#[]) E FA FB hA hB hW hArP hAnP hP _ rfl ⟨by simp;omega,rfl,h0,fun i=>?_,fun i g h1 h2 h3=>hL.old i g h1 h3,hL.above,hok,hIA,⟨μB,hIB⟩,by simpa using Tr.nil,Lkd.init hP.hears (fun g hg=>hL.above g (by omega)),.inr hp⟩
 rw [Array.getElem?_eq_none (by omega)]
 simp
end
end
section
open Go
variable {T:Tables} {F:Array Func}
def tp (w:World) (τ:Tape) (e:Nat):World:={ w with tape:=τ,drawn:=e }
def tpR {α:Type} (r:Result α) (d:Nat) (τ:Tape) (e:Nat):Result α:=Result.with r (tp (Result.world r) τ (e+((Result.world r).drawn - d)))
def Upto (w:World) (w1:World) (τ:Tape) (e:Nat):Prop:=∀ j,w.drawn+j<w1.drawn→∀ q,w.tape (w.drawn+j) q=τ (e+j) q
theorem viewStore_tp {P:Program} (w:World) (τ:Tape) (e:Nat) (at_:Addr) (u:TypeId) (a:Addr) (v:Value) (b:Bool):(tp w τ e).viewStore P at_ u a v b=match w.viewStore P at_ u a v b with | .ok (w1,t)=>.ok (tp w1 τ e,t) | .error h=>.error h:=by
 have hs:World.seen P (tp w τ e) at_ u a b=w.seen P at_ u a b:=rfl
 simp only [World.viewStore,hs,Bind.bind,Except.bind,Pure.pure,Except.pure]
 cases tight P (Program.depth P) u with
 | false=>rfl
 | true=>
  simp only [Bool.not_true,Bool.false_eq_true,if_false]
  cases w.seen P at_ u a b with
  | error x=>rfl
  | ok r=>
   simp only
   cases v.bytes? with
   | none=>rfl
   | some bytes=>
    simp only
    by_cases hc:some bytes.length≠Option.map (fun x=>x.length) r.2.2.2.2.1.bytes?
    ·rw [if_pos hc,if_pos hc];rfl
    ·rw [if_neg hc,if_neg hc]
     split <;> rfl
theorem farStore_tp {P:Program} (w:World) (τ:Tape) (e:Nat) (a:Addr) (v:Value) (b:Bool):(tp w τ e).farStore P a v b=match w.farStore P a v b with | .ok (w1,t)=>.ok (tp w1 τ e,t) | .error h=>.error h:=by
 have hh:(tp w τ e).heap[a.block]? = w.heap[a.block]?:=rfl
 simp only [World.farStore,hh]
 cases ho:w.heap[a.block]? with
 | none=>simp only [World.noCell,hh,ho]
 | some o=>
  cases o
  case view at_ u=>
   simp only
   rw [viewStore_tp]
   cases w.viewStore P at_ u a v b <;> rfl
  all_goals simp only [World.noCell,hh,ho]
theorem runT_events {P:Program} {α:Type} (s:Sem α):∀ (w:World) (es:Array Event),∀ ev ∈ es,ev ∈ (s.runT P w es).2:=by
 induction s with
 | pure a=>intro w es ev h;exact h
 | load m a k ih=>
  intro w es ev h
  simp only [Sem.runT]
  cases w.cell? a with
  | some v=>exact ih _ _ _ _ (by simp [h])
  | none=>
   simp only
   cases w.farLoad P a (m == .atomic) with
   | ok r=>obtain ⟨v,t⟩:=r;exact ih _ _ _ _ (by simp [h])
   | error x=>exact h
 | store m a v k ih=>
  intro w es ev h
  cases v <;> simp only [Sem.runT] <;> first | exact h | skip
  all_goals
   cases w.cell? a with
   | some v=>
    simp only
    cases w.frozen? a with
    | true=>exact h
    | false=>exact ih _ _ _ (by simp [h])
   | none=>
    simp only
    cases w.farStore P a _ (m == .atomic) with
    | ok r=>obtain ⟨v,t⟩:=r;exact ih _ _ _ (by simp [h])
    | error x=>exact h
 | new o k ih=>intro w es ev h;simp only [Sem.runT];exact ih _ _ _ _ h
 | shape r k ih=>intro w es ev h;simp only [Sem.runT];exact ih _ _ _ _ h
 | freeze a n k ih=>intro w es ev h;simp only [Sem.runT];exact ih _ _ _ h
 | frozen a k ih=>intro w es ev h;simp only [Sem.runT];exact ih _ _ _ _ h
 | getObj r k ih=>
  intro w es ev h
  simp only [Sem.runT]
  cases w.heap[r]? with
  | none=>exact h
  | some o=>cases o <;> first | exact h | exact ih _ _ _ _ (by simp [h])
 | setObj r o k ih=>
  intro w es ev h
  simp only [Sem.runT]
  cases w.heap[r]? with
  | none=>exact h
  | some o=>cases o <;> first | exact h | exact ih _ _ _ (by simp [h])
 | choose q k ih=>
  intro w es ev h
  simp only [Sem.runT]
  cases q.forced <;> exact ih _ _ _ _ h
 | sys c k ih=>intro w es ev h;simp only [Sem.runT];exact ih _ _ _ _ (by simp [h])
 | program k ih=>intro w es ev h;simp only [Sem.runT];exact ih _ _ _ _ h
 | mark m k ih=>intro w es ev h;simp only [Sem.runT];exact ih _ _ _ (by simp [h])
 | halt x=>intro w es ev h;exact h
theorem runT_prefix {P:Program} {α:Type} (s:Sem α):∀ (w:World) (es:Array Event) (τ:Tape) (e:Nat),Upto w (Result.world (s.runT P w es).1) τ e→(∀ ev ∈ (s.runT P w es).2,ev.loc≠.output)→
  s.runT P (tp w τ e) es=(tpR (s.runT P w es).1 w.drawn τ e,(s.runT P w es).2):=by
 induction s with
 | pure a=>intro w es τ e _ _;simp [Sem.runT,tpR,Result.with,Result.world]
 | load m a k ih=>
  intro w es τ e h ho
  simp only [Sem.runT] at h ho ⊢
  have hc:(tp w τ e).cell? a=w.cell? a:=rfl
  rw [hc]
  cases hcc:w.cell? a with
  | some v=>rw [hcc] at h ho;exact ih _ _ _ _ _ h ho
  | none=>
   rw [hcc] at h ho
   have hf:(tp w τ e).farLoad P a (m == .atomic)=w.farLoad P a (m == .atomic):=rfl
   simp only at h ho ⊢
   rw [hf]
   cases hl:w.farLoad P a (m == .atomic) with
   | ok r=>obtain ⟨v,t⟩:=r;rw [hl] at h ho;exact ih _ _ _ _ _ h ho
   | error x=>simp [tpR,Result.with,Result.world]
 | store m a v k ih=>
  intro w es τ e h ho
  have main:(∀ x,v≠.agg x)→(∀ x,v≠.tuple x)→(Sem.store m a v k).runT P (tp w τ e) es=(tpR ((Sem.store m a v k).runT P w es).1 w.drawn τ e,((Sem.store m a v k).runT P w es).2):=by
   intro n1 n2
   have e1:∀ (w:World) (es:Array Event),(Sem.store m a v k).runT P w es=match w.cell? a with
    | some _=>
     if w.frozen? a then (.halt (.unsupported (.unsafePointer "a write to bytes that a string shares")) w,es)
     else k.runT P (w.setCell a v) (es.push ⟨.cell a,true,m == .atomic⟩)
    | none=>match w.farStore P a v (m == .atomic) with
     | .ok (w,touched)=>k.runT P w (es++touched.toArray.map (⟨.cell ·,true,m == .atomic⟩))
     | .error h=>(.halt h w,es):=by
    intro w es
    cases v <;> first | rfl | exact absurd rfl (n1 _) | exact absurd rfl (n2 _)
   rw [e1] at h ho
   rw [e1,e1]
   have hc:(tp w τ e).cell? a=w.cell? a:=rfl
   have hz:(tp w τ e).frozen? a=w.frozen? a:=rfl
   rw [hc,hz]
   cases hcc:w.cell? a with
   | some v'=>
    rw [hcc] at h ho
    simp only at h ho ⊢
    cases hf:w.frozen? a with
    | true=>simp [tpR,Result.with,Result.world]
    | false=>
     rw [hf] at h ho
     simp only [Bool.false_eq_true,if_false] at h ho ⊢
     exact ih (w.setCell a v) _ τ e h ho
   | none=>
    rw [hcc] at h ho
    simp only at h ho ⊢
    rw [farStore_tp]
    cases hl:w.farStore P a v (m == .atomic) with
    | ok r=>
     obtain ⟨w1,t⟩:=r
     rw [hl] at h ho
     obtain ⟨H,rfl⟩:=farStore_keeps hl
     exact ih { w with heap:=H } _ τ e h ho
    | error x=>simp [tpR,Result.with,Result.world]
  cases v
  case agg x=>simp [Sem.runT,tpR,Result.with,Result.world]
  case tuple x=>simp [Sem.runT,tpR,Result.with,Result.world]
  all_goals exact main (fun _ h=>by cases h) (fun _ h=>by cases h)
 | new o k ih=>intro w es τ e h ho;simp only [Sem.runT] at h ho ⊢;exact ih _ { w with heap:=w.heap.push o } _ _ _ h ho
 | shape r k ih=>intro w es τ e h ho;simp only [Sem.runT] at h ho ⊢;exact ih _ w _ _ _ h ho
 | freeze a n k ih=>
  intro w es τ e h ho
  simp only [Sem.runT] at h ho ⊢
  have e1:(tp w τ e).freeze a n=tp (w.freeze a n) τ e:=by simp only [World.freeze,tp];split <;> rfl
  have e2:(w.freeze a n).drawn=w.drawn:=by simp only [World.freeze];split <;> rfl
  have e3:(w.freeze a n).tape=w.tape:=by simp only [World.freeze];split <;> rfl
  rw [e1]
  have:=ih (w.freeze a n) es τ e (by intro j hj q;rw [e2] at hj;rw [e2,e3];exact h j hj q) ho
  rw [e2] at this
  exact this
 | frozen a k ih=>intro w es τ e h ho;simp only [Sem.runT] at h ho ⊢;exact ih _ w _ _ _ h ho
 | getObj r k ih=>
  intro w es τ e h ho
  simp only [Sem.runT] at h ho ⊢
  have hh:(tp w τ e).heap[r]? = w.heap[r]?:=rfl
  rw [hh]
  cases hob:w.heap[r]? with
  | none=>simp [tpR,Result.with,Result.world]
  | some o=>
   rw [hob] at h ho
   cases o
   case cells=>simp [tpR,Result.with,Result.world]
   all_goals exact ih _ w _ _ _ h ho
 | setObj r o k ih=>
  intro w es τ e h ho
  simp only [Sem.runT] at h ho ⊢
  have hh:(tp w τ e).heap[r]? = w.heap[r]?:=rfl
  rw [hh]
  cases hob:w.heap[r]? with
  | none=>simp [tpR,Result.with,Result.world]
  | some o'=>
   rw [hob] at h ho
   cases o'
   case cells=>simp [tpR,Result.with,Result.world]
   all_goals exact ih { w with heap:=w.heap.setIfInBounds r o } _ _ _ h ho
 | choose q k ih=>
  intro w es τ e h ho
  simp only [Sem.runT] at h ho ⊢
  cases hq:q.forced with
  | true=>rw [hq] at h ho;simp only [if_true] at h ho ⊢;exact ih _ w _ _ _ h ho
  | false=>
   rw [hq] at h ho
   simp only [Bool.false_eq_true,if_false] at h ho ⊢
   have hd:=(runT_drawn (P:=P) (k (q.cut (w.tape w.drawn q))) { w with drawn:=w.drawn+1 } es).1
   simp only at hd
   have e0:=h 0 (by omega) q
   simp only [Nat.add_zero] at e0
   have:=ih (q.cut (w.tape w.drawn q)) { w with drawn:=w.drawn+1 } es τ (e+1) (by
    intro j hj q'
    have:=h (j+1) (by simp only at hj;omega) q'
    simp only
    rw [show w.drawn+1+j=w.drawn+(j+1) by omega,show e+1+j=e+(j+1) by omega]
    exact this) ho
   show (k (q.cut (τ e q))).runT P (tp { w with drawn:=w.drawn+1 } τ (e+1)) es=_
   rw [← e0]
   refine this.trans ?_
   simp only [tpR]
   rw [show e+1+((Result.world ((k (q.cut (w.tape w.drawn q))).runT P { w with drawn:=w.drawn+1 } es).1).drawn - (w.drawn+1))=e+((Result.world ((k (q.cut (w.tape w.drawn q))).runT P { w with drawn:=w.drawn+1 } es).1).drawn - w.drawn) by omega]
 | sys c k ih=>
  intro w es τ e h ho
  exact absurd rfl (ho ⟨.output,true,false⟩ (runT_events (P:=P) (k (w.sys c).1) (w.sys c).2 (es.push ⟨.output,true,false⟩) _ (by simp)))
 | program k ih=>intro w es τ e h ho;simp only [Sem.runT] at h ho ⊢;exact ih _ w _ _ _ h ho
 | mark m k ih=>intro w es τ e h ho;simp only [Sem.runT] at h ho ⊢;exact ih w _ _ _ h ho
 | halt x=>intro w es τ e _ _;simp [Sem.runT,tpR,Result.with,Result.world]
end
section
open Go
variable {T:Tables} {F:Array Func}
def out? : GStep→Option (World×(World→GStep))
 | .go g w es=>some (w,fun w=>.go g w es)
 | .comm g c b s w es=>some (w,fun w=>.comm g c b s w es)
 | _=>none
def Nat1 (T:Tables) (f:World→GStep):Prop:=∀ (w:World) (τ:Tape) (e:Nat),HeapOk T w→∀ w1 K,out? (f w)=some (w1,K)→
 w.drawn≤w1.drawn∧w1.tape=w.tape∧(Upto w w1 τ e→f (tp w τ e)=K (tp w1 τ (e+(w1.drawn - w.drawn))))
theorem Nat1.go (g:Goroutine) (es:Array Event):Nat1 T (fun w=>.go g w es):=by
 intro w τ e _ w1 K h
 cases h
 exact ⟨Nat.le_refl _,rfl,fun _=>by simp⟩
theorem Nat1.no {f:World→GStep} (h:∀ w,out? (f w)=none):Nat1 T f:=by
 intro w τ e _ w1 K h1
 rw [h] at h1
 cases h1
theorem Nat1.after {f:World→GStep} (es:Array Event) (h:Nat1 T f):Nat1 T (fun w=>(f w).after es):=by
 intro w τ e hw w1 K h1
 dsimp only at h1
 have hf:=h w τ e hw
 cases hx:f w
 case go g w2 es2=>
  rw [hx] at h1 hf
  cases h1
  obtain ⟨h1,h2,h3⟩:=hf _ _ rfl
  exact ⟨h1,h2,fun hu=>by dsimp only;rw [h3 hu];rfl⟩
 case comm g c b s w2 es2=>
  rw [hx] at h1 hf
  cases h1
  obtain ⟨h1,h2,h3⟩:=hf _ _ rfl
  exact ⟨h1,h2,fun hu=>by dsimp only;rw [h3 hu];rfl⟩
 all_goals (rw [hx] at h1;cases h1)
abbrev selfStart (w:World):Start:=⟨fun b=>w.heap[b]?⟩
theorem Rel.refl {w:World} (hw:HeapOk T w):@Rel (selfStart w) T (fun _=>False) w w:=@Rel.mk (selfStart w) _ _ _ _ rfl rfl rfl (fun _ _=>.inl rfl) hw (fun _ h=>h.elim) (fun _ h=>h.elim) fun _ _=>rfl
theorem agree_refl (w:World):∀ n,Agree w w n:=fun _ _ _ _=>rfl
theorem pairN {α:Type} {s:Sem α} (hs:Sim T F F s) {w:World} (hw:HeapOk T w) (τ:Tape) (e:Nat) :
  (∃ h w1 e1,s.runT ⟨T,F⟩ w #[]=(.halt h w1,e1)∧Dead h)∨
  (∃ a w1 e1,s.runT ⟨T,F⟩ w #[]=(.ok a w1,e1)∧HeapOk T w1∧w.drawn≤w1.drawn∧w1.tape=w.tape∧∀ w2:World,w1.drawn≤w2.drawn→Upto w w2 τ e→s.runT ⟨T,F⟩ (tp w τ e) #[]=(.ok a (tp w1 τ (e+(w1.drawn - w.drawn))),e1))∨
  (∃ v w1 e1,s.runT ⟨T,F⟩ w #[]=(.halt (.panic v) w1,e1)∧HeapOk T w1∧w.drawn≤w1.drawn∧w1.tape=w.tape∧∀ w2:World,w1.drawn≤w2.drawn→Upto w w2 τ e→s.runT ⟨T,F⟩ (tp w τ e) #[]=(.halt (.panic v) (tp w1 τ (e+(w1.drawn - w.drawn))),e1)):=by
 have hpre:=runT_prefix (P:=⟨T,F⟩) s w #[] τ e
 letI:=selfStart w
 rcases pair hs (fun _ h=>h.elim) (Rel.refl hw) (agree_refl w) with ⟨hh,w1,e1,he,hdd⟩ | ⟨a,w1,w1',e1,e1',he,he',hR1,hc,hdr⟩ | ⟨v,w1,w1',e1,e1',he,he',hR1,hc,hdr⟩
 ·exact .inl ⟨hh,w1,e1,he,hdd⟩
 ·rw [he] at he'
  cases he'
  rw [he] at hpre
  exact .inr (.inl ⟨a,w1,e1,he,hR1.ok,hdr.le,hdr.tp,fun w2 h2 hu=>hpre (fun j hj q=>hu j (by simp only [Result.world] at hj;omega) q) (fun x hx=>(hc x hx).2.2.1)⟩)
 ·rw [he] at he'
  cases he'
  rw [he] at hpre
  exact .inr (.inr ⟨v,w1,e1,he,hR1.ok,hdr.le,hdr.tp,fun w2 h2 hu=>hpre (fun j hj q=>hu j (by simp only [Result.world] at hj;omega) q) (fun x hx=>(hc x hx).2.2.1)⟩)
theorem Nat1.step {f:World→GStep} {w w1:World} {τ:Tape} {e:Nat} {w2:World} {K2:World→GStep} (hle:w.drawn≤w1.drawn) (htp:w1.tape=w.tape) (hN:Nat1 T f) (hw1:HeapOk T w1) (h2:out? (f w1)=some (w2,K2)) (x:GStep)
  (hx:w1.drawn≤w2.drawn→Upto w w2 τ e→x=f (tp w1 τ (e+(w1.drawn - w.drawn)))):w.drawn≤w2.drawn∧w2.tape=w.tape∧(Upto w w2 τ e→x=K2 (tp w2 τ (e+(w2.drawn - w.drawn)))):=by
 obtain ⟨a1,a2,a3⟩:=hN w1 τ (e+(w1.drawn - w.drawn)) hw1 _ _ h2
 refine ⟨Nat.le_trans hle a1,a2.trans htp,fun hu=>?_⟩
 rw [hx a1 hu,a3 (by
  intro j hj q
  have:=hu (w1.drawn - w.drawn+j) (by omega) q
  rw [htp]
  rw [show w1.drawn+j=w.drawn+(w1.drawn - w.drawn+j) by omega,show e+(w1.drawn - w.drawn)+j=e+(w1.drawn - w.drawn+j) by omega]
  exact this),show e+(w1.drawn - w.drawn)+(w2.drawn - w1.drawn)=e+(w2.drawn - w.drawn) by omega]
theorem apply_nat (h:Duo T F F) {fr:Frame} {callers:List Frame} {s:Sem Next} (hs:Sim T F F s) (hn:∀ w v w1 e,HeapOk T w→s.runT ⟨T,F⟩ w #[]=(.ok v w1,e)→nextOk T v):Nat1 T (fun w=>stepG.apply ⟨T,F⟩ true fr callers none s w):=by
 intro w τ e hw w2 K2 h2
 unfold stepG.apply at h2 ⊢
 dsimp only at h2 ⊢
 simp only [if_true] at h2 ⊢
 rcases pairN hs hw τ e with ⟨hh,w1,e1,he,hdd⟩ | ⟨a,w1,e1,he,hw1,hle,htp,hpr⟩ | ⟨v,w1,e1,he,hw1,hle,htp,hpr⟩
 ·exfalso
  rw [he] at h2
  cases hh
  case stuck m=>cases h2
  case unsupported u=>
   cases u
   case initOrder gg=>
    obtain ⟨o,ho,_⟩:=h.early fr callers none gg w1
    simp only [ho] at h2
    cases h2
   all_goals cases h2
  all_goals exact hdd.elim
 ·have hnx:=hn w a w1 e1 hw he
  rw [he] at h2
  cases a
  case value v=>cases h2;exact ⟨hle,htp,fun hu=>by rw [hpr w2 (Nat.le_refl _) hu];rfl⟩
  case skip=>cases h2;exact ⟨hle,htp,fun hu=>by rw [hpr w2 (Nat.le_refl _) hu];rfl⟩
  case enter f args=>cases h2;exact ⟨hle,htp,fun hu=>by rw [hpr w2 (Nat.le_refl _) hu];rfl⟩
  case round l f ts a b=>cases h2;exact ⟨hle,htp,fun hu=>by rw [hpr w2 (Nat.le_refl _) hu];rfl⟩
  case defer d=>cases h2;exact ⟨hle,htp,fun hu=>by rw [hpr w2 (Nat.le_refl _) hu];rfl⟩
  all_goals exact hnx.elim
 ·rw [he] at h2
  cases h2
  exact ⟨hle,htp,fun hu=>by rw [hpr w2 (Nat.le_refl _) hu];rfl⟩
theorem doReturn_nat {fr:Frame} {callers:List Frame} (hc:callers≠[]) (v:Value):Nat1 T (fun w=>doReturn ⟨T,F⟩ true fr callers none v w):=by
 cases callers with
 | nil=>exact absurd rfl hc
 | cons c cs=>
  simp only [doReturn]
  cases fr.kind <;> exact Nat1.go _ _
end
section
open Go
variable {T:Tables} {F:Array Func}
theorem Nat1.run1 {α:Type} {s:Sem α} {K:Result α→GStep} {E:Array Event→Array Event} (hs:Sim T F F s) (hok:∀ a,Nat1 T (fun w=>K (.ok a w))) (hp:∀ v,Nat1 T (fun w=>K (.halt (.panic v) w))) (hd:∀ h w,Dead h→out? (K (.halt h w))=none) :
  Nat1 T (fun w=>GStep.after (E (s.runT ⟨T,F⟩ w #[]).2) (K (s.runT ⟨T,F⟩ w #[]).1)):=by
 intro w τ e hw w2 K2 h2
 have hafter:∀ (es:Array Event) (x:GStep),out? x=none→out? (x.after es)=none:=fun es x hx=>by
  cases x <;> first | rfl | (cases hx;done)
 rcases pairN hs hw τ e with ⟨hh,w1,e1,he,hdd⟩ | ⟨a,w1,e1,he,hw1,hle,htp,hpr⟩ | ⟨v,w1,e1,he,hw1,hle,htp,hpr⟩
 ·simp only [he] at h2
  rw [hafter _ _ (hd _ _ hdd)] at h2
  cases h2
 ·simp only [he] at h2
  exact Nat1.step hle htp (Nat1.after (E e1) (hok a)) hw1 h2 _ (fun ha hu=>by dsimp only;rw [hpr w2 ha hu])
 ·simp only [he] at h2
  exact Nat1.step hle htp (Nat1.after (E e1) (hp v)) hw1 h2 _ (fun ha hu=>by dsimp only;rw [hpr w2 ha hu])
theorem exec_nat (h:Duo T F F) {fr:Frame} {callers:List Frame} (hc:callers≠[]) (hfr:FrameOk T fr):Nat1 T (fun w=>stepG.exec ⟨T,F⟩ true true fr callers none w):=by
 have hits:=hfr.items
 obtain ⟨fn,tmps,todo,defers,mode,kind,ro⟩:=fr
 unfold stepG.exec
 dsimp only at hits ⊢
 generalize Frame.pos ⟨T,F⟩ _=ps
 have lv:∀ (jump:Option Code),(∀ c,jump=some c→zaD T c=true)→∀ (fr:Frame) (l:Nat) (s1 s2:String),Nat1 T (fun w=>GStep.after (seen ⟨T,F⟩ fn ((Instr.endRound l jump).runT ⟨T,F⟩ w #[]).2) (match ((Instr.endRound l jump).runT ⟨T,F⟩ w #[]).1 with | .ok v w=>doReturn ⟨T,F⟩ true fr callers none v w | .halt _ w=>.ended (.stuck s1 s2) w)):=
  fun jump hj fr l s1 s2=>Nat1.run1 (K:=fun r=>match r with | .ok v w=>doReturn ⟨T,F⟩ true fr callers none v w | .halt _ w=>.ended (.stuck s1 s2) w) (E:=seen ⟨T,F⟩ fn) (Sim.endRound l jump hj) (fun a=>doReturn_nat hc a) (fun _=>Nat1.no fun _=>rfl) (fun _ _ _=>rfl)
 cases todo with
 | nil=>
  cases ro with
  | none=>exact Nat1.go _ _
  | some l=>exact lv none (fun _ e=>by cases e) _ l _ _
 | cons it k=>
  have hi:=hits it (by simp)
  cases it with
  | inBlock id=>exact Nat1.go _ _
  | inScope id=>exact Nat1.go _ _
  | inLoop b=>exact Nat1.go _ _
  | inRangeFunc l=>exact Nat1.no fun _=>rfl
  | call d b r s=>cases hi
  | extern r a=>cases hi
  | beginRound=>
   refine apply_nat h ?_ ?_
   ·cases ro with
    | none=>exact Sim.bind' (Sim.stuck _) fun _=>Sim.pure' _
    | some l=>exact Sim.bind' (Sim.beginRound l) fun _=>Sim.pure' _
   ·intro w v w1 e _ he
    exact Always.unit (P:=⟨T,F⟩) _ _ _ _ _ he
  | endRangeFunc l=>
   refine Nat1.run1 (K:=fun r=>match r with
    | .ok jump w=>.go { frame:=⟨fn,tmps,(jump.map Item.code).toList++k,defers,mode,kind,ro⟩,callers,status:=.running,dying:=none } w
    | .halt (.panic v) w=>.go { frame:=Frame.raise ⟨fn,tmps,.endRangeFunc l :: k,defers,mode,kind,ro⟩ [{ v,recovered:=false }],callers,status:=.running,dying:=none } w
    | .halt _ w=>.ended (.stuck "range over a function: no such loop" ps) w) (E:=seen ⟨T,F⟩ fn) (Sim.endLoop l) (fun a=>Nat1.go _ _) (fun v=>Nat1.go _ _) (fun hh w hd=>?_)
   cases hh <;> first | rfl | exact hd.elim
  | inRegion ops todo=>
   cases todo with
   | nil=>exact Nat1.go _ _
   | cons i rest=>
    dsimp only
    cases hw:(Option.map (fun x=>Region.wanted x (yielded ops tmps)) ops[i]?).getD false with
    | false=>exact Nat1.go _ _
    | true=>
     simp only [if_true]
     unfold stepG.oper
     simp only [Frame.oper?]
     cases ho:ops[i]? with
     | none=>exact Nat1.no fun _=>rfl
     | some o=>
      have hop:opOk T o.op=true:=by
       simp only [itemOk,Array.all_eq_true_iff_forall_mem] at hi
       exact hi o (Array.mem_of_getElem? ho)
      have main:Nat1 T (fun w=>stepG.apply ⟨T,F⟩ true ⟨fn,tmps,.inRegion ops (i :: rest) :: k,defers,mode,kind,ro⟩ callers none (Go.execOp (Frame.eval ⟨fn,tmps,.inRegion ops (i :: rest) :: k,defers,mode,kind,ro⟩) o) w):=
       apply_nat h (Sim.execOp h.toFuns _ o hop) (fun w v w1 e hw he=>nextOk_execOp h.calm _ o hop hw he)
      dsimp only
      split
      ·rename_i hx;rw [hx] at hop;cases hop
      ·exact main
  | code c=>
   cases c with
   | skip=>exact Nat1.go _ _
   | label l=>exact Nat1.go _ _
   | seq a b=>exact Nat1.go _ _
   | cond c a b=>
    dsimp only
    generalize Frame.eval _ c=v
    cases v
    case bool b1=>exact Nat1.go _ _
    all_goals exact Nat1.no fun _=>rfl
   | block id b=>exact Nat1.go _ _
   | loop b=>exact Nat1.go _ _
   | scope b=>exact Nat1.go _ _
   | refuse why=>exact Nat1.no fun _=>rfl
   | ret=>
    cases ro with
    | none=>exact Nat1.go _ _
    | some l=>exact lv (some .ret) (fun c e=>by cases e;rfl) _ l _ _
   | exit id=>
    dsimp only
    cases hx:exitTo id k with
    | some k'=>exact Nat1.go _ _
    | none=>
     cases ro with
     | none=>exact Nat1.no fun _=>rfl
     | some l=>exact lv (some (.exit id)) (fun c e=>by cases e;rfl) _ l _ _
   | goto id=>
    dsimp only
    cases hx:gotoIn id k with
    | some k'=>exact Nat1.go _ _
    | none=>
     cases ro with
     | none=>exact Nat1.no fun _=>rfl
     | some l=>exact lv (some (.goto id)) (fun c e=>by cases e;rfl) _ l _ _
   | region id ops d=>
    dsimp only
    cases d with
    | false=>exact Nat1.go _ _
    | true=>
     simp only [Bool.not_true,Bool.false_eq_true,if_false,Go.choose,Sem.run,Question.forced]
     intro w τ e hw w2 K2 h2
     cases h2
     refine ⟨Nat.le_succ _,rfl,fun hu=>?_⟩
     have e0:=hu 0 (by simp) (.order fn id)
     simp only [Nat.add_zero] at e0
     simp only [tp]
     rw [← e0]
     simp only [Nat.add_sub_cancel_left]
   | rangeFunc f ps2 a b=>
    simp only [itemOk,zaD,Bool.and_eq_true] at hi
    dsimp only
    refine Nat1.run1 (K:=fun r=>match r with
     | .ok (l,mark) w=>stepG.apply ⟨T,F⟩ true ⟨fn,tmps,.inRangeFunc l :: k,mark++defers,mode,kind,ro⟩ callers none (do
       let d ← Go.resolve (Frame.eval ⟨fn,tmps,.code (.rangeFunc f ps2 a b) :: k,defers,mode,kind,ro⟩) { callee:=.value f,args:=#[.const (.func (.yield l) #[] #[])],argTypes:=#[] } 0
       Go.invoke d.target d.args) w
     | .halt _ w=>.ended (.stuck "range over a function: no such loop" ps) w) (E:=seen ⟨T,F⟩ fn) (Sim.enterLoop fn tmps ps2 a b ro hi.1 hi.2) (fun a=>?_) (fun _=>Nat1.no fun _=>rfl) (fun _ _ _=>rfl)
    obtain ⟨l,mark⟩:=a
    exact apply_nat h (Sim.resolveInvoke h.toFuns _ _ _ (fun b hb=>by cases hb)) (fun w v w2 e2 hw he2=>nextOk_resolveInvoke h.calm _ _ _ (fun b hb=>by cases hb) hw he2)
theorem unwind_nat (h:Duo T F F) {fr:Frame} {callers:List Frame} (hc:callers≠[]) (hfr:FrameOk T fr):Nat1 T (fun w=>unwind ⟨T,F⟩ true fr callers none w):=by
 have hds:=hfr.defers
 have hits:=hfr.items
 unfold unwind
 cases hdf:fr.defers with
 | cons d ds=>
  rw [hdf] at hds
  have hd0:=hds d (by simp)
  obtain ⟨tg,ar⟩:=d
  cases tg with
  | collected block=>
   exact Nat1.run1 (K:=fun r=>match r with
    | .ok calls w=>.go { frame:={ fr with defers:=calls++ds },callers,status:=.running,dying:=none } w
    | .halt _ w=>.ended (.stuck "the deferred calls of a range-over-func loop have been taken" (fr.pos ⟨T,F⟩)) w) (E:=seen ⟨T,F⟩ fr.fn) (Sim.takeDeferred block) (fun a=>Nat1.go _ _) (fun _=>Nat1.no fun _=>rfl) (fun _ _ _=>rfl)
  | _=>cases hd0
 | nil=>
  dsimp only
  cases hm:fr.mode with
  | run=>exact Nat1.no fun _=>rfl
  | panicking chain=>
   dsimp only
   cases fr.catches ⟨T,F⟩ with
   | true=>exact Nat1.no fun _=>rfl
   | false=>
    simp only [Bool.false_eq_true,if_false]
    cases callers with
    | nil=>exact absurd rfl hc
    | cons c cs=>exact Nat1.go _ _
  | returning=>
   dsimp only
   cases hf:F[fr.fn]? with
   | none=>exact doReturn_nat hc _
   | some fn=>
    refine Nat1.run1 (K:=fun r=>match r with
     | .ok v w=>doReturn ⟨T,F⟩ true fr callers none v w
     | .halt (.stuck s) w=>.ended (.stuck s (fr.pos ⟨T,F⟩)) w
     | .halt _ w=>.ended (.stuck "return: the result variables cannot be read" (fr.pos ⟨T,F⟩)) w) (E:=seen ⟨T,F⟩ fr.fn) (results_sim fn fr.tmps) (fun a=>doReturn_nat hc a) (fun _=>Nat1.no fun _=>rfl) (fun hh w _=>?_)
    cases hh <;> rfl
theorem step_nat (h:Duo T F F) {g:Goroutine} (hd:g.dying=none) (hfr:FrameOk T g.frame) (hc:g.callers≠[]):Nat1 T (fun w=>stepG ⟨T,F⟩ true g w):=by
 obtain ⟨fr,callers,st,dying,offers⟩:=g
 subst hd
 unfold stepG
 dsimp only
 cases hm:fr.mode with
 | run=>exact exec_nat h hc hfr
 | panicking c=>exact unwind_nat h hc hfr
 | returning=>exact unwind_nat h hc hfr
end
section
open Go
variable {T:Tables} {F:Array Func}
structure Cfg where
 fr:Frame
 cs:List Frame
 w:World
def t0:Tape:=fun _ _=>0
def blind (w:World):World:=tp w t0 0
def Next1 (P:Program) (c c':Cfg):Prop:=∃ (τ:Tape) (w1:World),step P (lone c.fr c.cs (tp c.w τ 0)) = .next (lone c'.fr c'.cs w1)∧c'.w=blind w1
def Good (P:Program) (n0 f0:Nat) (R:Value→World→Prop) (c:Cfg):Prop:=∀ (τ:Tape) (d:Nat),∃ (n:Nat) (fr:Frame) (w':World) (v:Value),runN P n (lone c.fr c.cs (tp c.w τ d)) = .next (lone fr [bot n0] w')∧fr.fn=f0∧fr.leaving P w' (.returned v)∧R v (blind w')
structure CfgOk (T:Tables) (n0:Nat) (c:Cfg):Prop where
 frame:FrameOk T c.fr
 callers:∃ cs,c.cs=cs++[bot n0]∧∀ f ∈ cs,FrameOk T f
 heap:HeapOk T c.w
theorem tp_tp (w:World) (τ τ':Tape) (d d':Nat):tp (tp w τ d) τ' d'=tp w τ' d':=rfl
theorem tp_self (w:World):tp w w.tape w.drawn=w:=rfl
theorem step_of_go {P:Program} {fr:Frame} {cs:List Frame} {w w':World} {g1:Goroutine} {es:Array Event} (h:stepG P true { frame:=fr,callers:=cs,status:=.running,dying:=none } w = .go g1 w' es) (h1:g1.dying=none) (h2:g1.status = .running) (h3:g1.offers=none):step P (lone fr cs w) = .next (lone g1.frame g1.callers w'):=by
 obtain ⟨fr',cs',st,dy,of⟩:=g1
 simp only at h1 h2 h3
 subst h1 h2 h3
 exact step_lone_go (by rw [h];rfl)
theorem zaL {P:Program} {fr:Frame} {cs:List Frame} {w w':World} {o:Outcome} {es:Array Event} (h:stepG P true { frame:=fr,callers:=cs,status:=.running,dying:=none } w = .ended o w' es):step P (lone fr cs w) = .ended o w':=step_lone_ended (by rw [h];rfl)
inductive LStep (T:Tables) (P:Program) (n0:Nat) (c:Cfg) (w:World):Prop
 | dead (o:Outcome) (w1:World) (h:step P (lone c.fr c.cs w) = .ended o w1)
 | go (fr:Frame) (cs:List Frame) (w1:World) (h:step P (lone c.fr c.cs w) = .next (lone fr cs w1)) (hok:CfgOk T n0 ⟨fr,cs,w1⟩) (hle:w.drawn≤w1.drawn) (htp:w1.tape=w.tape)
   (hpre:∀ (τ:Tape) (e:Nat),Upto w w1 τ e→step P (lone c.fr c.cs (tp w τ e)) = .next (lone fr cs (tp w1 τ (e+(w1.drawn - w.drawn)))))
 | pop (hc:c.cs=[bot n0]) (g0:Goroutine) (w1:World) (h:step P (lone c.fr c.cs w) = .next (lone g0.frame [] w1)) (hp:Popped (bot n0) g0)
theorem lstep (h:Duo T F F) {n0:Nat} {c:Cfg} (hc:CfgOk T n0 c) (τ:Tape) (d:Nat):LStep T ⟨T,F⟩ n0 c (tp c.w τ d):=by
 obtain ⟨cs,hcs,hcf⟩:=hc.callers
 have hg:GOk T { frame:=c.fr,callers:=cs,status:=.running,dying:=none }:=⟨rfl,rfl,rfl,hc.frame,hcf⟩
 have hw:HeapOk T (tp c.w τ d):=hc.heap
 have hN:=step_nat h (g:={ frame:=c.fr,callers:=cs++[bot n0],status:=.running,dying:=none }) rfl hc.frame (by simp) (tp c.w τ d)
 letI:=selfStart (tp c.w τ d)
 have hS:=step_rel (base:=[]) (n0:=n0) h hg (fun _ h=>h.elim) (Rel.refl hw) (agree_refl _)
 rw [show plus (bot n0) { frame:=c.fr,callers:=cs,status:=.running,dying:=none } = { frame:=c.fr,callers:=cs++[bot n0],status:=.running,dying:=none } from rfl] at hS
 generalize hx:stepG ⟨T,F⟩ true { frame:=c.fr,callers:=cs++[bot n0],status:=.running,dying:=none } (tp c.w τ d)=x at hS
 generalize stepG ⟨T,F⟩ true (ups [] { frame:=c.fr,callers:=cs,status:=.running,dying:=none }) (tp c.w τ d)=y at hS
 cases hS with
 | dead _ o w1 es ho=>exact .dead o w1 (by rw [hcs];exact zaL hx)
 | go g1 w1 w1' es es' hg1 hR1 hd he=>
  refine .go g1.frame (g1.callers++[bot n0]) w1' (by rw [hcs];exact step_of_go hx hg1.dying hg1.run hg1.offers) ⟨hg1.frame,⟨_,rfl,hg1.callers⟩,hR1.ok⟩ ?_ hd.tp' ?_
  ·have:=hd.le;have:=hd.eq;omega
  ·intro τ' e hu
   have hout:out? (stepG ⟨T,F⟩ true { frame:=c.fr,callers:=cs++[bot n0],status:=.running,dying:=none } (tp c.w τ d))=some (w1',fun w=>.go (plus (bot n0) g1) w es'):=by rw [hx];rfl
   have:=(hN τ' e hw w1' _ hout).2.2 hu
   rw [hcs]
   exact step_of_go this hg1.dying hg1.run hg1.offers
 | enter f args kind cs' w1 w1' es es' hf hkn hc2 hn hR1 hd he=>exact absurd rfl hf
 | pop _ g0 w1 es hc0 hp=>
  have hcs0:cs=[]:=hc0
  subst hcs0
  exact .pop hcs g0 w1 (by rw [hcs];have:=step_of_go hx hp.2.1 hp.2.2.1 hp.2.2.2.1;rw [hp.1] at this;exact this) hp
theorem Next1.of_step (h:Duo T F F) {n0:Nat} {c:Cfg} (hc:CfgOk T n0 c) {τ:Tape} {d:Nat} {fr:Frame} {cs:List Frame} {w1:World} (hs:step ⟨T,F⟩ (lone c.fr c.cs (tp c.w τ d)) = .next (lone fr cs w1)) (hcs:cs≠[]) :
  Next1 ⟨T,F⟩ c ⟨fr,cs,blind w1⟩∧CfgOk T n0 ⟨fr,cs,blind w1⟩∧d≤w1.drawn∧w1.tape=τ:=by
 rcases lstep h hc τ d with ⟨o,w2,h2⟩ | ⟨fr2,cs2,w2,h2,hok,hle,htp,hpre⟩ | ⟨hc2,g0,w2,h2,hp⟩
 ·rw [hs] at h2;cases h2
 ·rw [hs] at h2
  simp only [Stepped.next.injEq] at h2
  have h3:=h2
  unfold lone at h3
  injection h3 with e1 e2 _
  subst e1
  simp only [Array.mk.injEq,List.cons.injEq,and_true] at e2
  injection e2 with e3 e4
  subst e3 e4
  refine ⟨⟨fun j q=>τ (d+j) q,tp w1 (fun j q=>τ (d+j) q) (w1.drawn - d),?_,rfl⟩,⟨hok.frame,hok.callers,hok.heap⟩,hle,htp⟩
  have:=hpre (fun j q=>τ (d+j) q) 0 (fun j _ q=>by simp [tp])
  simp only [tp_tp,Nat.zero_add] at this
  exact this
 ·rw [hs] at h2
  simp only [Stepped.next.injEq] at h2
  unfold lone at h2
  injection h2 with _ e2 _
  simp only [Array.mk.injEq,List.cons.injEq,and_true] at e2
  injection e2 with _ e4
  exact absurd e4 hcs
end
section
open Go
variable {T:Tables} {F:Array Func}
def Next2 (P:Program) (c c':Cfg):Prop:=Next1 P c c'∧c'.cs≠[]
theorem lone_inj {fr fr':Frame} {cs cs':List Frame} {w w':World} (h:Stepped.next (lone fr cs w) = .next (lone fr' cs' w')):fr=fr'∧cs=cs'∧w=w':=by
 simp only [Stepped.next.injEq] at h
 unfold lone at h
 injection h with e1 e2 _
 simp only [Array.mk.injEq,List.cons.injEq,and_true] at e2
 injection e2 with e3 e4
 exact ⟨e3,e4,e1⟩
theorem mono_of {p:Nat→Nat} (h:∀ i,p i≤p (i+1)):∀ {i j:Nat},i≤j→p i≤p j:=by
 intro i j hij
 induction hij with
 | refl=>exact Nat.le_refl _
 | step _ ih=>exact Nat.le_trans ih (h _)
theorem acc_of_good (h:Duo T F F) {n0 f0:Nat} {R:Value→World→Prop} {c:Cfg} (hc:CfgOk T n0 c) (hG:Good ⟨T,F⟩ n0 f0 R c):Acc (fun c' c=>Next2 ⟨T,F⟩ c c') c:=by
 apply Classical.byContradiction
 intro hna
 have hstep:∀ x:{ c:Cfg // CfgOk T n0 c∧¬ Acc (fun c' c=>Next2 ⟨T,F⟩ c c') c },∃ y:{ c:Cfg // CfgOk T n0 c∧¬ Acc (fun c' c=>Next2 ⟨T,F⟩ c c') c },Next2 ⟨T,F⟩ x.1 y.1:=by
  rintro ⟨x,hx,hxa⟩
  apply Classical.byContradiction
  intro hn
  apply hxa
  refine Acc.intro _ fun y hy=>?_
  apply Classical.byContradiction
  intro hya
  obtain ⟨⟨τ,w1,hs,hw⟩,hcs⟩:=hy
  obtain ⟨fr,cs,w⟩:=y
  simp only at hs hw hcs
  subst hw
  exact hn ⟨⟨⟨fr,cs,blind w1⟩,(Next1.of_step h hx hs hcs).2.1,hya⟩,⟨⟨τ,w1,hs,rfl⟩,hcs⟩⟩
 let nxt:{ c:Cfg // CfgOk T n0 c∧¬ Acc (fun c' c=>Next2 ⟨T,F⟩ c c') c }→{ c:Cfg // CfgOk T n0 c∧¬ Acc (fun c' c=>Next2 ⟨T,F⟩ c c') c }:=fun x=>Classical.choose (hstep x)
 let s:Nat→{ c:Cfg // CfgOk T n0 c∧¬ Acc (fun c' c=>Next2 ⟨T,F⟩ c c') c }:=fun i=>Nat.rec ⟨c,hc,hna⟩ (fun _ x=>nxt x) i
 have hs:∀ i,Next2 ⟨T,F⟩ (s i).1 (s (i+1)).1:=fun i=>Classical.choose_spec (hstep (s i))
 have h1:∀ i,∃ (τ:Tape) (w1:World),step ⟨T,F⟩ (lone (s i).1.fr (s i).1.cs (tp (s i).1.w τ 0)) = .next (lone (s (i+1)).1.fr (s (i+1)).1.cs w1)∧(s (i+1)).1.w=blind w1:=fun i=>(hs i).1
 let τ:Nat→Tape:=fun i=>Classical.choose (h1 i)
 have h2:∀ i,∃ (w1:World),step ⟨T,F⟩ (lone (s i).1.fr (s i).1.cs (tp (s i).1.w (τ i) 0)) = .next (lone (s (i+1)).1.fr (s (i+1)).1.cs w1)∧(s (i+1)).1.w=blind w1:=fun i=>Classical.choose_spec (h1 i)
 let w1:Nat→World:=fun i=>Classical.choose (h2 i)
 have h3:∀ i,step ⟨T,F⟩ (lone (s i).1.fr (s i).1.cs (tp (s i).1.w (τ i) 0)) = .next (lone (s (i+1)).1.fr (s (i+1)).1.cs (w1 i))∧(s (i+1)).1.w=blind (w1 i):=fun i=>Classical.choose_spec (h2 i)
 let p:Nat→Nat:=fun i=>Nat.rec 0 (fun i x=>x+(w1 i).drawn) i
 have hp:∀ i,p (i+1)=p i+(w1 i).drawn:=fun i=>rfl
 have hmono:∀ {i j},i≤j→p i≤p j:=mono_of (fun i=>by rw [hp];omega)
 have huniq:∀ x i j,p i≤x→x<p (i+1)→p j≤x→x<p (j+1)→i=j:=by
  intro x i j a b c d
  rcases Nat.lt_trichotomy i j with hij | hij | hij
  ·have:=hmono (show i+1≤j from hij);omega
  ·exact hij
  ·have:=hmono (show j+1≤i from hij);omega
 let τs:Tape:=fun x q=>open Classical in if hx:∃ i,p i≤x∧x<p (i+1) then τ (Classical.choose hx) (x - p (Classical.choose hx)) q else 0
 have hτs:∀ i j q,j<(w1 i).drawn→τ i j q=τs (p i+j) q:=by
  intro i j q hj
  have hx:∃ i',p i'≤p i+j∧p i+j<p (i'+1):=⟨i,by omega,by rw [hp];omega⟩
  have he:Classical.choose hx=i:=huniq (p i+j) _ _ (Classical.choose_spec hx).1 (Classical.choose_spec hx).2 (by omega) (by rw [hp];omega)
  simp only [τs]
  rw [dif_pos hx,he]
  simp
 have hrun:∀ i,runN ⟨T,F⟩ i (lone c.fr c.cs (tp c.w τs 0)) = .next (lone (s i).1.fr (s i).1.cs (tp (s i).1.w τs (p i))):=by
  intro i
  induction i with
  | zero=>rfl
  | succ i ih=>
   have hst:step ⟨T,F⟩ (lone (s i).1.fr (s i).1.cs (tp (s i).1.w τs (p i))) = .next (lone (s (i+1)).1.fr (s (i+1)).1.cs (tp (s (i+1)).1.w τs (p (i+1)))):=by
    rcases lstep h (s i).2.1 (τ i) 0 with ⟨o,w2,hh⟩ | ⟨fr2,cs2,w2,hh,hok,hle,htp,hpre⟩ | ⟨hc2,g0,w2,hh,hpp⟩
    ·rw [(h3 i).1] at hh;cases hh
    ·obtain ⟨e1,e2,e3⟩:=lone_inj ((h3 i).1.symm.trans hh)
     subst e3
     have:=hpre τs (p i) (fun j hj q=>by
      simp only [tp,Nat.zero_add] at hj ⊢
      exact hτs i j q hj)
     simp only [tp_tp] at this
     rw [this,e1,e2,(h3 i).2,hp]
     rfl
    ·obtain ⟨_,e2,_⟩:=lone_inj ((h3 i).1.symm.trans hh)
     exact absurd e2 (hs i).2
   have:=runN_add ⟨T,F⟩ i 1 (lone c.fr c.cs (tp c.w τs 0))
   rw [this,ih]
   simp only [runN,hst]
 obtain ⟨n,fr,w',v,hn,_,hl,_⟩:=hG τs 0
 obtain ⟨e1,e2,e3⟩:=lone_inj ((hrun n).symm.trans hn)
 have hlast:=step_leave_returned (P:=⟨T,F⟩) (c:=bot n0) (cs:=[]) hl
 have hr:=hrun (n+1)
 have:=runN_add ⟨T,F⟩ n 1 (lone c.fr c.cs (tp c.w τs 0))
 rw [hr,hn] at this
 simp only [runN,hlast] at this
 obtain ⟨_,e5,_⟩:=lone_inj this
 exact (hs n).2 e5
end
section
open Go
variable {T:Tables} {F:Array Func}
theorem run_fst {P:Program} {α:Type} (s:Sem α):∀ (w:World) (es:Array Event),(s.runT P w es).1=s.run P w:=by
 induction s with
 | pure a=>intro w es;rfl
 | load m a k ih=>
  intro w es
  simp only [Sem.runT,Sem.run]
  cases w.cell? a with
  | some v=>exact ih _ _ _
  | none=>
   simp only
   cases w.farLoad P a (m == .atomic) with
   | ok r=>obtain ⟨v,t⟩:=r;exact ih _ _ _
   | error x=>rfl
 | store m a v k ih=>
  intro w es
  cases v <;> simp only [Sem.runT,Sem.run] <;> first | rfl | skip
  all_goals
   cases w.cell? a with
   | some v=>
    simp only
    cases w.frozen? a with
    | true=>rfl
    | false=>exact ih _ _
   | none=>
    simp only
    cases w.farStore P a _ (m == .atomic) with
    | ok r=>obtain ⟨v,t⟩:=r;exact ih _ _
    | error x=>rfl
 | new o k ih=>intro w es;simp only [Sem.runT,Sem.run];exact ih _ _ _
 | shape r k ih=>intro w es;simp only [Sem.runT,Sem.run];exact ih _ _ _
 | freeze a n k ih=>intro w es;simp only [Sem.runT,Sem.run];exact ih _ _
 | frozen a k ih=>intro w es;simp only [Sem.runT,Sem.run];exact ih _ _ _
 | getObj r k ih=>
  intro w es
  simp only [Sem.runT,Sem.run]
  cases w.heap[r]? with
  | none=>rfl
  | some o=>cases o <;> first | rfl | exact ih _ _ _
 | setObj r o k ih=>
  intro w es
  simp only [Sem.runT,Sem.run]
  cases w.heap[r]? with
  | none=>rfl
  | some o=>cases o <;> first | rfl | exact ih _ _
 | choose q k ih=>
  intro w es
  simp only [Sem.runT,Sem.run]
  cases q.forced <;> exact ih _ _ _
 | sys c k ih=>intro w es;simp only [Sem.runT,Sem.run];exact ih _ _ _
 | program k ih=>intro w es;simp only [Sem.runT,Sem.run];exact ih _ _ _
 | mark m k ih=>intro w es;simp only [Sem.runT,Sem.run];exact ih _ _
 | halt x=>intro w es;rfl
theorem leaving_tp {fr:Frame} {w:World} {v:Value} (hw:HeapOk T w) (h:fr.leaving ⟨T,F⟩ w (.returned v)) (τ:Tape) (e:Nat):fr.leaving ⟨T,F⟩ (tp w τ e) (.returned v):=by
 obtain ⟨h1,h2,h3,fn,h4,h5⟩:=h
 refine ⟨h1,h2,h3,fn,h4,?_⟩
 rw [← run_fst _ _ #[]] at h5 ⊢
 rcases pairN (results_sim (T:=T) (F:=F) (F':=F) fn fr.tmps) hw τ e with ⟨hh,w1,e1,he,hdd⟩ | ⟨a,w1,e1,he,hw1,hle,htp,hpr⟩ | ⟨x,w1,e1,he,hw1,hle,htp,hpr⟩
 ·rw [he] at h5;cases h5
 ·rw [he] at h5
  cases h5
  rw [hpr w (Nat.le_refl _) (fun j hj _=>by omega)]
  simp
 ·rw [he] at h5;cases h5
theorem runN_shift (h:Duo T F F) {n0:Nat} (hn0:F[n0]? = none):∀ (n:Nat) {c:Cfg},CfgOk T n0 c→∀ {τ τ':Tape} {a b:Nat},(∀ j q,τ (a+j) q=τ' (b+j) q)→∀ {fr:Frame} {w':World} {v:Value},runN ⟨T,F⟩ n (lone c.fr c.cs (tp c.w τ a)) = .next (lone fr [bot n0] w')→fr.leaving ⟨T,F⟩ w' (.returned v)→
  ∃ w'',runN ⟨T,F⟩ n (lone c.fr c.cs (tp c.w τ' b)) = .next (lone fr [bot n0] w'')∧blind w''=blind w'∧fr.leaving ⟨T,F⟩ w'' (.returned v):=by
 intro n
 induction n with
 | zero=>
  intro c hc τ τ' a b hs fr w' v hr hl
  obtain ⟨e1,e2,e3⟩:=lone_inj hr
  subst e3
  exact ⟨tp c.w τ' b,by rw [← e1,← e2];rfl,rfl,leaving_tp (w:=tp c.w τ a) hc.heap hl τ' b⟩
 | succ n ih=>
  intro c hc τ τ' a b hs fr w' v hr hl
  simp only [runN] at hr ⊢
  rcases lstep h hc τ a with ⟨o,w2,hh⟩ | ⟨fr2,cs2,w2,hh,hok,hle,htp,hpre⟩ | ⟨hc2,g0,w2,hh,hpp⟩
  ·rw [hh] at hr;cases hr
  ·rw [hh] at hr
   have hst:=hpre τ' b (fun j _ q=>hs j q)
   simp only [tp_tp] at hst
   rw [hst]
   simp only at hr ⊢
   have hle':a≤w2.drawn:=hle
   have htp':w2.tape=τ:=htp
   have hr':runN ⟨T,F⟩ n (lone fr2 cs2 (tp w2 τ w2.drawn)) = .next (lone fr [bot n0] w'):=by rw [← htp',tp_self];exact hr
   exact ih hok (fun j q=>by
    have:=hs (w2.drawn - a+j) q
    rw [show a+(w2.drawn - a+j)=w2.drawn+j by omega] at this
    rw [this]
    show τ' (b+(w2.drawn - a+j)) q=τ' (b+(w2.drawn - a)+j) q
    rw [Nat.add_assoc]) hr' hl
  ·exfalso
   rw [hh] at hr
   simp only at hr
   cases n with
   | zero=>obtain ⟨_,e2,_⟩:=lone_inj hr;cases e2
   | succ n=>
    obtain ⟨o,w3,es,hd,_⟩:=popped_dead (P:=⟨T,F⟩) hn0 hpp w2
    have:step ⟨T,F⟩ (lone g0.frame [] w2) = .ended o w3:=by
     obtain ⟨q1,q2,q3,q4,_⟩:=hpp
     refine zaL (es:=es) ?_
     obtain ⟨fr0,cs0,st0,dy0,of0⟩:=g0
     simp only at q1 q2 q3 q4
     subst q1 q2 q3 q4
     exact hd
    simp only [runN,this] at hr
    cases hr
theorem Good.next (h:Duo T F F) {n0 f0:Nat} (hn0:F[n0]? = none) {R:Value→World→Prop} {c c':Cfg} (hc:CfgOk T n0 c) (hG:Good ⟨T,F⟩ n0 f0 R c) (hN:Next2 ⟨T,F⟩ c c'):CfgOk T n0 c'∧Good ⟨T,F⟩ n0 f0 R c':=by
 obtain ⟨⟨τ0,w1,hs,hw⟩,hcs⟩:=hN
 obtain ⟨fr',cs',wb⟩:=c'
 simp only at hs hw hcs
 subst hw
 have hok':=(Next1.of_step h hc hs hcs).2.1
 refine ⟨hok',fun τ' d'=>?_⟩
 let τs:Tape:=fun j q=>if j<w1.drawn then τ0 j q else τ' (d'+(j - w1.drawn)) q
 have hst:step ⟨T,F⟩ (lone c.fr c.cs (tp c.w τs 0)) = .next (lone fr' cs' (tp w1 τs w1.drawn)):=by
  rcases lstep h hc τ0 0 with ⟨o,w2,hh⟩ | ⟨fr2,cs2,w2,hh,hok,hle,htp,hpre⟩ | ⟨hc2,g0,w2,hh,hpp⟩
  ·rw [hs] at hh;cases hh
  ·obtain ⟨e1,e2,e3⟩:=lone_inj (hs.symm.trans hh)
   subst e1 e2 e3
   have:=hpre τs 0 (fun j hj q=>by
    simp only [tp,Nat.zero_add] at hj ⊢
    simp only [τs,if_pos hj])
   simpa [tp] using this
  ·obtain ⟨_,e2,_⟩:=lone_inj (hs.symm.trans hh)
   exact absurd e2 hcs
 obtain ⟨n,fr,w',v,hn,hf,hl,hR⟩:=hG τs 0
 cases n with
 | zero=>
  exfalso
  obtain ⟨e1,e2,e3⟩:=lone_inj hn
  subst e1 e3
  have:=step_leave_returned (P:=⟨T,F⟩) (c:=bot n0) (cs:=[]) hl
  rw [← e2,hst] at this
  obtain ⟨_,e5,_⟩:=lone_inj this
  exact hcs e5
 | succ n=>
  simp only [runN,hst] at hn
  obtain ⟨w'',h1,h2,h3⟩:=runN_shift h hn0 n hok' (τ:=τs) (τ':=τ') (a:=w1.drawn) (b:=d') (fun j q=>by
   simp only [τs]
   rw [if_neg (by omega)]
   rw [show w1.drawn+j - w1.drawn=j by omega]) hn hl
  exact ⟨n,fr,w'',v,h1,hf,h3,by rw [h2];exact hR⟩
end
section
open Go Go.Conc
open Go.ConcN (sumTo upd sumTo_upd upd_ne upd_same)
variable {T:Tables} {F F':Array Func}
def ShunOf (S:Nat→Prop):Loc→Prop
 | .cell a=>S a.block
 | .obj r=>S r
 | _=>False
theorem evL_of_clear {S:Nat→Prop} {n B:Nat} (hB:n≤B) {e:Event} (h:Clear S n e):EvL (ShunOf S) B e:=by
  obtain ⟨loc,wr,sy⟩:=e
  obtain ⟨h1,h2,h3,h4⟩:=h
  cases loc with
  | cell a=>
    have:=h1 a rfl
    refine ⟨fun x hx hs=>?_,(by intro e;cases e),(by intro e;cases e),?_⟩
    · have hx:some _=some x:=hx
      cases hx
      exact absurd hs this.1
    · exact Nat.lt_of_lt_of_le this.2 hB
  | obj r=>
    have:=h2 r rfl
    refine ⟨fun x hx hs=>?_,(by intro e;cases e),(by intro e;cases e),?_⟩
    · cases wr <;> cases sy <;> first
        | (have hx:some _=some x:=hx
           cases hx
           exact absurd hs this.1)
        | (have hx:none=some x:=hx
           cases hx)
    · cases wr <;> cases sy <;> exact Nat.lt_of_lt_of_le this.2 hB
  | output=>exact absurd rfl h3
  | goroutines=>exact ⟨fun x hx hs=>(by have hx:some _=some x:=hx;cases hx;exact hs.elim),(by intro e;cases e),(by intro e;cases e),trivial⟩
  | mark m=>
    have:=h4 m rfl
    cases m <;> first
      | exact this.elim
      | exact ⟨fun x hx hs=>(by have hx:none=some x:=hx;cases hx),(by intro e;cases e),(by intro e;cases e),trivial⟩
theorem Rel.retape [Start] {S:Nat→Prop} {w w':World} (h:Rel T S w w') (d:Nat) (τ:Tape) (e:Nat):Rel T S (w.at d) (tp w' τ e):=⟨h.size,h.os,h.output,h.same,h.ok,h.spoilt,h.elem,h.kept⟩
theorem Rel.blind [Start] {S:Nat→Prop} {w w':World} (h:Rel T S w w'):Rel T S w (Sim.blind w'):=⟨h.size,h.os,h.output,h.same,h.ok,h.spoilt,h.elem,h.kept⟩
structure Frm [Start] (T:Tables) (F:Array Func) (b0:Nat) (S:Nat→Prop) (B:Nat) (gs:Array Goroutine) (g:Goroutine) (w:World) (t:Trace) (q:Nat→Nat) (w':World):Prop where
 at0:gs[0]? = some g
 leavers:Leavers ⟨T,F⟩ t gs q
 past:Past (ShunOf S) B t
 rel:Rel T S w w'
 high:∀ b,S b→b0≤b
 size:b0≤w.heap.size
def Phases [Start] (T:Tables) (F F':Array Func) (n0 f0 b0:Nat) (R:Value→World→Prop):Prop:=
 ∀ (f:FuncId) (args:Array Value) (kind:CallKind) (cs:List Frame) (S:Nat→Prop) (B:Nat) (gs:Array Goroutine) (w:World) (sl:Option (Nat×Nat)) (t:Trace) (q:Nat→Nat) (w':World),
  F[f]?≠F'[f]?→kind = .normal→(∀ fr ∈ cs,FrameOk T fr)→cs≠[]→Frm T F b0 S B gs { frame:=Frame.enter ⟨T,F⟩ f args kind,callers:=cs,status:=.running,dying:=none } w t q w'→
  Good ⟨T,F'⟩ n0 f0 R ⟨Frame.enter ⟨T,F'⟩ f args kind,cs++[bot n0],w'⟩→CfgOk T n0 ⟨Frame.enter ⟨T,F'⟩ f args kind,cs++[bot n0],w'⟩→
  ∃ (N:Nat) (gs1:Array Goroutine) (g1:Goroutine) (w1:World) (sl1:Option (Nat×Nat)) (t1:Trace) (q1:Nat→Nat) (S1:Nat→Prop) (B1:Nat) (w1':World),
   runNT ⟨T,F⟩ N (crowd gs w sl) t=(.next (crowd gs1 w1 sl1),t1)∧Frm T F b0 S1 B1 gs1 g1 w1 t1 q1 w1'∧GOk T g1∧Relation.TransGen (fun c' c=>Next2 ⟨T,F'⟩ c c') ⟨g1.frame,g1.callers++[bot n0],w1'⟩ ⟨Frame.enter ⟨T,F'⟩ f args kind,cs++[bot n0],w'⟩
section
variable {n0 f0 b0:Nat} {R:Value→World→Prop}
def Ends [Start] (T:Tables) (S0:Nat) (R:Value→World→Prop) (v:Value) (W:World):Prop:=∃ (S:Nat→Prop) (w':World),Rel T S W w'∧(∀ b,S b→S0≤b)∧R v (blind w')
def EndsFrom [Start] (T:Tables) (F:Array Func) (b0:Nat) (R:Value→World→Prop) (m:Machine) (t:Trace):Prop:=
 ∃ N last o w' t',runNT ⟨T,F⟩ (N+1) m t=(.ended o w',t')∧runN ⟨T,F⟩ N m = .next last∧step ⟨T,F⟩ last = .ended o w'∧Conc.Good ⟨T,F⟩ (Ends T b0 R) last o w' t'
theorem EndsFrom.step [Start] {m m1:Machine} {t:Trace} {ops:Array MemOp} (hs:stepT ⟨T,F⟩ m=(.next m1,ops)) (h:EndsFrom T F b0 R m1 (t++ops)):EndsFrom T F b0 R m t:=by
 obtain ⟨N,last,o,w',t',h1,h2,h3,h4⟩:=h
 refine ⟨N+1,last,o,w',t',?_,?_,h3,h4⟩
 ·rw [runNT]
  simp only [hs]
  exact h1
 ·simp only [runN,Go.step,hs]
  exact h2
theorem EndsFrom.many [Start] {m1:Machine} {t1:Trace}:∀ (K:Nat) {m:Machine} {t:Trace},runNT ⟨T,F⟩ K m t=(.next m1,t1)→EndsFrom T F b0 R m1 t1→EndsFrom T F b0 R m t:=by
 intro K
 induction K with
 | zero=>intro m t hr h;cases hr;exact h
 | succ K ih=>
  intro m t hr h
  simp only [runNT] at hr
  cases hs:stepT ⟨T,F⟩ m with
  | mk s ops=>
   rw [hs] at hr
   cases s with
   | next m2=>exact EndsFrom.step hs (ih hr h)
   | ended o w=>cases hr
theorem beside_sim [Start] (h:Duo T F F') (h':Duo T F' F') (hn0:F'[n0]? = none) (hb0:T.globals.size≤b0) (hin:(⟨T,F⟩:Program).inits.idxOf? f0=none) (hPh:Phases T F F' n0 f0 b0 R) :
  ∀ (c:Cfg),Acc (Relation.TransGen (fun c' c=>Next2 ⟨T,F'⟩ c c')) c→∀ (M:Nat) (gs:Array Goroutine) (g:Goroutine) (S:Nat→Prop) (B:Nat) (w:World) (sl:Option (Nat×Nat)) (t:Trace) (q:Nat→Nat),
   sumTo gs.size q≤M→Frm T F b0 S B gs g w t q c.w→GOk T g→c=⟨g.frame,g.callers++[bot n0],c.w⟩→CfgOk T n0 c→Good ⟨T,F'⟩ n0 f0 R c→
   EndsFrom T F b0 R (crowd gs w sl) t:=by
 intro c hacc
 induction hacc with
 | intro c _ ihc=>
 intro M
 induction M using Nat.strongRecOn with
 | ind M ihM=>
 intro gs g S B w sl t q hM hF hg hce hok hG
 have h0:=hF.at0
 have hL:=hF.leavers
 have hP:=hF.past
 have haw:∀ g ∈ gs,awake g:=by
  intro x hx
  obtain ⟨i,hi,rfl⟩:=Array.mem_iff_getElem.1 hx
  rcases Nat.eq_zero_or_pos i with rfl | hpos
  ·have:gs[0]=g:=by simpa [Array.getElem?_eq_getElem hi] using h0
   rw [this];exact awake_of (.inl hg.run)
  ·exact awake_of ((hL.old i _ hpos (Array.getElem?_eq_getElem hi)).status.elim .inl fun x=>.inr (.inr x))
 obtain ⟨i,gi,d,sl',hi,hgi,hst⟩:=crowd_pick (P:=⟨T,F⟩) (w:=w) (sl:=sl) haw ⟨0,g,h0,hg.run⟩
 rcases Nat.eq_zero_or_pos i with rfl | hpos
 ·
  obtain rfl:gi=g:=by rw [h0] at hi;exact (Option.some.inj hi).symm
  have hRw:Rel T S (w.at d) (tp c.w (fun j x=>w.tape (d+j) x) 0):=hF.rel.retape d _ 0
  have hA:∀ n,Agree (w.at d) (tp c.w (fun j x=>w.tape (d+j) x) 0) n:=fun n j _ x=>by
   show w.tape (d+j) x=w.tape (d+(0+j)) x
   rw [Nat.zero_add]
  have hS:=step_rel (base:=[]) (n0:=n0) h hg (fun b hb=>Nat.le_trans hb0 (hF.high b hb)) hRw hA
  rw [ups_nil] at hS
  have hpl:plus (bot n0) gi = { frame:=c.fr,callers:=c.cs,status:=.running,dying:=none }:=by
   have e1:=congrArg Cfg.fr hce
   have e2:=congrArg Cfg.cs hce
   simp only at e1 e2
   rw [e1,e2]
   obtain ⟨a1,a2,a3,a4,a5⟩:=gi
   have b1:=hg.run
   have b2:=hg.dying
   have b3:=hg.offers
   simp only at b1 b2 b3
   subst b1 b2 b3
   rfl
  have hce1:c.fr=gi.frame:=congrArg Cfg.fr hce
  have hce2:c.cs=gi.callers++[bot n0]:=congrArg Cfg.cs hce
  rw [hpl] at hS
  obtain ⟨n,fr,wf,v,hn,hf,hl,hRv⟩:=hG (fun j x=>w.tape (d+j) x) 0
  generalize hx:stepG ⟨T,F⟩ true gi (w.at d)=x at hS
  generalize hy:stepG ⟨T,F'⟩ true { frame:=c.fr,callers:=c.cs,status:=.running,dying:=none } (tp c.w (fun j x=>w.tape (d+j) x) 0)=y at hS
  have hlt:0<gs.size:=(Array.getElem?_eq_some_iff.1 h0).1
  have goes:∀ (g1:Goroutine) (w1 w1':World) (es:Array Event),g1.status = .running→stepG ⟨T,F⟩ true gi (w.at d) = .go g1 w1 es→Rel T S w1 w1'→w.heap.size≤w1.heap.size→(∀ e ∈ es,Clear S w1.heap.size e)→
    ∃ (gs1:Array Goroutine) (ops:Array MemOp),stepT ⟨T,F⟩ (crowd gs w sl)=(.next (crowd gs1 w1 sl'),ops)∧gs1.size=gs.size∧Frm T F b0 S (max B w1.heap.size) gs1 g1 w1 (t++ops) q (blind w1'):=by
   intro g1 w1 w1' es hrun1 hx hR1 hsz he
   have hrunT:=runT_crowd_go (P:=⟨T,F⟩) (sl:=sl') (i:=0) hi (show stepG ⟨T,F⟩ (0 == 0) gi (w.at d)=_ from hx)
   refine ⟨_,_,hst.trans hrunT,by simp,⟨by simp [hlt],⟨fun j x hj hx=>?_,fun j hj=>?_⟩,(hP.mono (Nat.le_max_left B _)).own (fun e hee=>evL_of_clear (Nat.le_max_right B _) (he e hee)),hR1.blind,hF.high,Nat.le_trans hF.size hsz⟩⟩
   ·have hne:0≠j:=by omega
    rw [Array.getElem?_setIfInBounds_ne hne,Array.getElem?_map] at hx
    obtain ⟨y,hy,rfl⟩:=Option.map_eq_some_iff.1 hx
    have hq:=hL.old j y hj hy
    rw [woken_quitsD hq,Deaf_other t (by omega) _ (fun op hop=>by obtain ⟨e,_,rfl⟩:=Go.Conc.mem_ofEvents hop;rfl)]
    exact hq
   ·rw [Deaf_other t (g':=0) (by simp at hj;omega) _ (fun op hop=>by obtain ⟨e,_,rfl⟩:=Go.Conc.mem_ofEvents hop;rfl)]
    exact hL.above j (by simpa using hj)
  cases hS with
  | dead _ o w1 es ho=>
   exfalso
   have he:=zaL hy
   cases n with
   | zero=>
    obtain ⟨e1,e2,e3⟩:=lone_inj hn
    have:=step_leave_returned (P:=⟨T,F'⟩) (c:=bot n0) (cs:=[]) hl
    rw [← e1,← e2,← e3,he] at this
    cases this
   | succ n=>simp only [runN,he] at hn;cases hn
  | go g1 w1 w1' es es' hg1 hR1 hd he=>
   rw [ups_nil] at hx
   have hlone:=step_of_go hy hg1.dying hg1.run hg1.offers
   obtain ⟨hN1,_,_,_⟩:=Next1.of_step h' hok hlone (by simp [plus])
   have hN2:Next2 ⟨T,F'⟩ c ⟨g1.frame,g1.callers++[bot n0],blind w1'⟩:=⟨hN1,by simp⟩
   obtain ⟨hok1,hG1⟩:=hG.next h' hn0 hok hN2
   obtain ⟨gs1,ops,hst1,hsz1,hF1⟩:=goes g1 w1 w1' es hg1.run hx hR1 hd.grow he
   exact EndsFrom.step hst1 (ihc _ (Relation.TransGen.single hN2) _ gs1 g1 S _ w1 sl' _ q (Nat.le_refl _) hF1 hg1 rfl hok1 hG1)
  | enter f args kind cs w1 w1' es es' hne hkn hcs hnn hR1 hd he=>
   rw [List.append_nil] at hx
   have hlone:=step_of_go hy rfl rfl rfl
   obtain ⟨hN1,_,_,_⟩:=Next1.of_step h' hok hlone (by simp)
   have hN2:Next2 ⟨T,F'⟩ c ⟨Frame.enter ⟨T,F'⟩ f args kind,cs++[bot n0],blind w1'⟩:=⟨hN1,by simp⟩
   obtain ⟨hok1,hG1⟩:=hG.next h' hn0 hok hN2
   obtain ⟨gs1,ops,hst1,hsz1,hF1⟩:=goes _ w1 w1' es rfl hx hR1 hd.grow he
   obtain ⟨K,gs2,g2,w2,sl2,t2,q2,S2,B2,w2',hr2,hF2,hg2,hT2⟩:=hPh f args kind cs S _ gs1 w1 sl' _ q _ hne hkn hcs hnn hF1 hG1 hok1
   have hpath:∀ {a b:Cfg},Relation.TransGen (fun c' c=>Next2 ⟨T,F'⟩ c c') a b→CfgOk T n0 b→Good ⟨T,F'⟩ n0 f0 R b→CfgOk T n0 a∧Good ⟨T,F'⟩ n0 f0 R a:=by
    intro a b hab
    induction hab with
    | single hs=>intro h1 h2;exact h2.next h' hn0 h1 hs
    | tail _ hs ih=>intro h1 h2;obtain ⟨h3,h4⟩:=h2.next h' hn0 h1 hs;exact ih h3 h4
   obtain ⟨hok2,hG2⟩:=hpath hT2 hok1 hG1
   exact EndsFrom.step hst1 (EndsFrom.many K hr2 (ihc _ (Relation.TransGen.trans hT2 (Relation.TransGen.single hN2)) _ gs2 g2 S2 _ w2 sl2 _ q2 (Nat.le_refl _) hF2 hg2 rfl hok2 hG2))
  | pop _ g0 w1 es hc0 hp=>
   have hlone:=step_of_go hy hp.2.1 hp.2.2.1 hp.2.2.2.1
   rw [hp.1] at hlone
   cases n with
   | succ n=>
    exfalso
    simp only [runN,hlone] at hn
    cases n with
    | zero=>obtain ⟨_,e2,_⟩:=lone_inj hn;cases e2
    | succ n=>
     obtain ⟨o,w3,es3,hd3,_⟩:=popped_dead (P:=⟨T,F'⟩) hn0 hp w1
     have:step ⟨T,F'⟩ (lone g0.frame [] w1) = .ended o w3:=by
      obtain ⟨q1,q2,q3,q4,_⟩:=hp
      refine zaL (es:=es3) ?_
      obtain ⟨fr0,cs0,st0,dy0,of0⟩:=g0
      simp only at q1 q2 q3 q4
      subst q1 q2 q3 q4
      exact hd3
     simp only [runN,this] at hn
     cases hn
   | zero=>
    obtain ⟨e1,e2,e3⟩:=lone_inj hn
    subst e1 e3
    obtain ⟨hm,hdf,hkd,fn',hfn',hres⟩:=hl
    rw [hce1] at hm hdf hkd hfn' hres hf
    rw [← run_fst _ _ #[]] at hres
    cases hfn:F[gi.frame.fn]? with
    | none=>rw [(h.nofn _).1 hfn] at hfn';cases hfn'
    | some fn=>
     have hr:results fn gi.frame.tmps=results fn' gi.frame.tmps:=by
      unfold results
      rw [h.res _ _ _ hfn hfn']
     have hend:∃ (w2:World) (es2:Array Event),stepG ⟨T,F⟩ true gi (w.at d) = .ended (.done v) w2 es2∧Rel T S w2 (tp c.w (fun j x=>w.tape (d+j) x) 0)∧(∀ e ∈ es2,Clear S w2.heap.size e)∧w.heap.size≤w2.heap.size:=by
      rcases pair (results_sim (T:=T) (F:=F) (F':=F') fn' gi.frame.tmps) (fun b hb=>Nat.le_trans hb0 (hF.high b hb)) hRw hA with ⟨hh,w2,e,he,hdd⟩ | ⟨v2,w2,w2',e,e',he,he',hR2,hcl,hdr⟩ | ⟨v2,w2,w2',e,e',he,he',hR2,hcl,hdr⟩
      ·rw [he] at hres;cases hres
      ·rw [he'] at hres
       cases hres
       refine ⟨w2,seen ⟨T,F⟩ gi.frame.fn e,?_,hR2,seen_clear hcl,hdr.grow⟩
       have hdy:=hg.dying
       obtain ⟨fr0,cs0,st0,dy0,of0⟩:=gi
       simp only at hdy hc0 hm hdf hkd hfn hr he hf ⊢
       subst hdy
       subst hc0
       have hin':(⟨T,F⟩:Program).inits.idxOf? fr0.fn=none:=by rw [hf];exact hin
       unfold stepG
       simp only [hm]
       unfold unwind
       simp only [hdf,hm,hfn,hr,he,doReturn,hkd,Bool.not_true,Bool.false_eq_true,if_false,hin',GStep.after,Array.append_empty]
      ·rw [he'] at hres;cases hres
     obtain ⟨w2,es2,hend,hR2,hcl2,hsz2⟩:=hend
     have hrunT:=runT_many_ended (P:=⟨T,F⟩) (sl:=sl') (i:=0) hi (show stepG ⟨T,F⟩ (0 == 0) gi (w.at d)=_ from hend)
     have hP':=(hP.mono (Nat.le_max_left B w2.heap.size)).own (fn:=gi.frame.fn) (pos:=gi.frame.place) (fun e hee=>evL_of_clear (Nat.le_max_right B w2.heap.size) (hcl2 e hee))
     have hstT:=hst.trans hrunT
     refine ⟨0,crowd gs w sl,_,w2,t++MemOp.ofEvents 0 gi.frame.fn gi.frame.place es2,by simp only [runNT,hstT],rfl,by simp only [Go.step,hstT],v,rfl,⟨S,_,hR2,hF.high,hRv⟩,hP'.clean,hP'.over,⟨fun x hx=>?_,rfl⟩,fun j x hx hj=>?_⟩
     ·obtain ⟨j,hj⟩:=List.mem_iff_getElem?.1 hx
      rw [List.getElem?_drop] at hj
      exact ⟨_,(hL.old (1+j) x (by omega) (by simpa [crowd] using hj)).leaves⟩
     ·have hq:=hL.old j x (by omega) hx
      refine ⟨q j,?_⟩
      have e:(t++MemOp.ofEvents 0 gi.frame.fn gi.frame.place es2).deaf j (t++MemOp.ofEvents 0 gi.frame.fn gi.frame.place es2).size=Deaf t j:=
       Deaf_other t (g:=j) (g':=0) (by omega) _ (fun op hop=>by obtain ⟨e,_,rfl⟩:=Go.Conc.mem_ofEvents hop;rfl)
      rw [e]
      exact hq.hears _
 ·
  have hq:=hL.old i gi hpos hi
  have hi0:(i == 0)=false:=by simp;omega
  have hlt:i<gs.size:=(Array.getElem?_eq_some_iff.1 hi).1
  cases hqi:q i with
  | zero=>rw [hqi] at hq;rw [hq.1] at hgi;cases hgi
  | succ k=>
   rw [hqi] at hq
   rcases hq with ⟨hf,_⟩ | ⟨_,g',es,hm,hstp,hq'⟩
   ·rw [hf] at hgi;cases hgi
   have hrunT:=runT_crowd_go (P:=⟨T,F⟩) (sl:=sl') (i:=i) hi (by rw [hi0];exact hstp (w.at d))
   have hsz:((gs.map (woken ⟨T,F⟩ gi g' (w.at d))).setIfInBounds i g').size=gs.size:=by simp
   have hsum:sumTo gs.size (upd q i k)+(k+1)=sumTo gs.size q+k:=by
    have:=sumTo_upd q k id hlt
    simpa [hqi] using this
   refine EndsFrom.step (hst.trans hrunT) (ihM (sumTo gs.size (upd q i k)) (by omega) ((gs.map (woken ⟨T,F⟩ gi g' (w.at d))).setIfInBounds i g') g S B (w.at d) sl' _ (upd q i k) (by rw [hsz];exact Nat.le_refl _) ⟨?_,⟨fun j x hj hx=>?_,fun j hj=>?_⟩,hP.mute (by omega) hm,⟨hF.rel.size,hF.rel.os,hF.rel.output,hF.rel.same,hF.rel.ok,hF.rel.spoilt,hF.rel.elem,hF.rel.kept⟩,hF.high,hF.size⟩ hg hce hok hG)
   ·have hne:i≠0:=by omega
    rw [Array.getElem?_setIfInBounds_ne hne,Array.getElem?_map,h0]
    simp [woken_run hg.run]
   ·by_cases hji:i=j
    ·subst hji
     rw [Array.getElem?_setIfInBounds_self_of_lt (by simpa using hlt)] at hx
     obtain rfl:=Option.some.inj hx
     rw [upd_same,Deaf_own]
     exact hq'
    ·rw [Array.getElem?_setIfInBounds_ne hji,Array.getElem?_map] at hx
     obtain ⟨y,hy,rfl⟩:=Option.map_eq_some_iff.1 hx
     have hqj:=hL.old j y hj hy
     rw [woken_quitsD hqj,upd_ne q k (Ne.symm hji),Deaf_other t hji _ (fun op hop=>by obtain ⟨e,_,rfl⟩:=Go.Conc.mem_ofEvents hop;rfl)]
     exact hqj
   ·rw [Deaf_other t (g':=i) (by simp at hj;omega) _ (fun op hop=>by obtain ⟨e,_,rfl⟩:=Go.Conc.mem_ofEvents hop;rfl)]
    exact hL.above j (by simpa using hj)
end
end
section
open Go Go.Conc
open Go.ConcN (sumTo upd sumTo_upd upd_ne upd_same)
variable {T:Tables} {F F':Array Func}
section
variable {n0 f0 b0:Nat} {R:Value→World→Prop}
def CallEnd [Start] (T:Tables) (F:Array Func) (b0:Nat) (R:Value→World→Prop) (S:Nat→Prop) (c1:Frame) (rest:List Frame) (m:Machine) (t:Trace):Prop:=
 ∃ N gs1 w1 sl1 t1 q1 B1 v w1',runNT ⟨T,F⟩ N m t=(.next (crowd gs1 w1 sl1),t1)∧Frm T F b0 S B1 gs1 { frame:=c1.finish v,callers:=rest,status:=.running,dying:=none } w1 t1 q1 w1'∧R v w1'
theorem CallEnd.step [Start] {S:Nat→Prop} {c1:Frame} {rest:List Frame} {m m1:Machine} {t:Trace} {ops:Array MemOp} (hs:stepT ⟨T,F⟩ m=(.next m1,ops)) (h:CallEnd T F b0 R S c1 rest m1 (t++ops)):CallEnd T F b0 R S c1 rest m t:=by
 obtain ⟨N,gs1,w1,sl1,t1,q1,B1,v,w1',h1,h2,h3⟩:=h
 exact ⟨N+1,gs1,w1,sl1,t1,q1,B1,v,w1',by simp only [runNT,hs];exact h1,h2,h3⟩
theorem call_sim [Start] (h:Duo T F F') (h':Duo T F' F') (hn0:F'[n0]? = none) (hb0:T.globals.size≤b0) (hno:∀ f args kind cs w',F[f]?≠F'[f]?→¬ Good ⟨T,F'⟩ n0 f0 R ⟨Frame.enter ⟨T,F'⟩ f args kind,cs++[bot n0],w'⟩) {c1:Frame} {rest:List Frame} {S:Nat→Prop} :
  ∀ (c:Cfg),Acc (Relation.TransGen (fun c' c=>Next2 ⟨T,F'⟩ c c')) c→∀ (M:Nat) (gs:Array Goroutine) (g:Goroutine) (B:Nat) (w:World) (sl:Option (Nat×Nat)) (t:Trace) (q:Nat→Nat),
   sumTo gs.size q≤M→Frm T F b0 S B gs (ups (c1 :: rest) g) w t q c.w→GOk T g→c=⟨g.frame,g.callers++[bot n0],c.w⟩→CfgOk T n0 c→Good ⟨T,F'⟩ n0 f0 R c→
   CallEnd T F b0 R S c1 rest (crowd gs w sl) t:=by
 intro c hacc
 induction hacc with
 | intro c _ ihc=>
 intro M
 induction M using Nat.strongRecOn with
 | ind M ihM=>
 intro gs g B w sl t q hM hF hg hce hok hG
 have h0:=hF.at0
 have hL:=hF.leavers
 have hP:=hF.past
 have haw:∀ g ∈ gs,awake g:=by
  intro x hx
  obtain ⟨i,hi,rfl⟩:=Array.mem_iff_getElem.1 hx
  rcases Nat.eq_zero_or_pos i with rfl | hpos
  ·have:gs[0]=ups (c1 :: rest) g:=by simpa [Array.getElem?_eq_getElem hi] using h0
   rw [this];exact awake_of (.inl hg.run)
  ·exact awake_of ((hL.old i _ hpos (Array.getElem?_eq_getElem hi)).status.elim .inl fun x=>.inr (.inr x))
 obtain ⟨i,gj,d,sl',hi,hgi,hst⟩:=crowd_pick (P:=⟨T,F⟩) (w:=w) (sl:=sl) haw ⟨0,_,h0,hg.run⟩
 rcases Nat.eq_zero_or_pos i with rfl | hpos
 ·
  obtain rfl:gj=ups (c1 :: rest) g:=by rw [h0] at hi;exact (Option.some.inj hi).symm
  have hRw:Rel T S (w.at d) (tp c.w (fun j x=>w.tape (d+j) x) 0):=hF.rel.retape d _ 0
  have hA:∀ n,Agree (w.at d) (tp c.w (fun j x=>w.tape (d+j) x) 0) n:=fun n j _ x=>by
   show w.tape (d+j) x=w.tape (d+(0+j)) x
   rw [Nat.zero_add]
  have hS:=step_rel (base:=c1 :: rest) (n0:=n0) h hg (fun b hb=>Nat.le_trans hb0 (hF.high b hb)) hRw hA
  have hpl:plus (bot n0) g = { frame:=c.fr,callers:=c.cs,status:=.running,dying:=none }:=by
   have e1:=congrArg Cfg.fr hce
   have e2:=congrArg Cfg.cs hce
   simp only at e1 e2
   rw [e1,e2]
   obtain ⟨a1,a2,a3,a4,a5⟩:=g
   have b1:=hg.run
   have b2:=hg.dying
   have b3:=hg.offers
   simp only at b1 b2 b3
   subst b1 b2 b3
   rfl
  have hce1:c.fr=g.frame:=congrArg Cfg.fr hce
  have hce2:c.cs=g.callers++[bot n0]:=congrArg Cfg.cs hce
  rw [hpl] at hS
  obtain ⟨n,fr,wf,v,hn,hf,hl,hRv⟩:=hG (fun j x=>w.tape (d+j) x) 0
  generalize hx:stepG ⟨T,F⟩ true (ups (c1 :: rest) g) (w.at d)=x at hS
  generalize hy:stepG ⟨T,F'⟩ true { frame:=c.fr,callers:=c.cs,status:=.running,dying:=none } (tp c.w (fun j x=>w.tape (d+j) x) 0)=y at hS
  have hlt:0<gs.size:=(Array.getElem?_eq_some_iff.1 h0).1
  have goes:∀ (g1:Goroutine) (w1 w1':World) (es:Array Event),g1.status = .running→stepG ⟨T,F⟩ true (ups (c1 :: rest) g) (w.at d) = .go g1 w1 es→Rel T S w1 w1'→w.heap.size≤w1.heap.size→(∀ e ∈ es,Clear S w1.heap.size e)→
    ∃ (gs1:Array Goroutine) (ops:Array MemOp),stepT ⟨T,F⟩ (crowd gs w sl)=(.next (crowd gs1 w1 sl'),ops)∧gs1.size=gs.size∧Frm T F b0 S (max B w1.heap.size) gs1 g1 w1 (t++ops) q (blind w1'):=by
   intro g1 w1 w1' es hrun1 hx hR1 hsz he
   have hrunT:=runT_crowd_go (P:=⟨T,F⟩) (sl:=sl') (i:=0) hi (show stepG ⟨T,F⟩ (0 == 0) (ups (c1 :: rest) g) (w.at d)=_ from hx)
   refine ⟨_,_,hst.trans hrunT,by simp,⟨by simp [hlt],⟨fun j x hj hx=>?_,fun j hj=>?_⟩,(hP.mono (Nat.le_max_left B _)).own (fun e hee=>evL_of_clear (Nat.le_max_right B _) (he e hee)),hR1.blind,hF.high,Nat.le_trans hF.size hsz⟩⟩
   ·have hne:0≠j:=by omega
    rw [Array.getElem?_setIfInBounds_ne hne,Array.getElem?_map] at hx
    obtain ⟨y,hy,rfl⟩:=Option.map_eq_some_iff.1 hx
    have hq:=hL.old j y hj hy
    rw [woken_quitsD hq,Deaf_other t (by omega) _ (fun op hop=>by obtain ⟨e,_,rfl⟩:=Go.Conc.mem_ofEvents hop;rfl)]
    exact hq
   ·rw [Deaf_other t (g':=0) (by simp at hj;omega) _ (fun op hop=>by obtain ⟨e,_,rfl⟩:=Go.Conc.mem_ofEvents hop;rfl)]
    exact hL.above j (by simpa using hj)
  cases hS with
  | dead _ o w1 es ho=>
   exfalso
   have he:=zaL hy
   cases n with
   | zero=>
    obtain ⟨e1,e2,e3⟩:=lone_inj hn
    have:=step_leave_returned (P:=⟨T,F'⟩) (c:=bot n0) (cs:=[]) hl
    rw [← e1,← e2,← e3,he] at this
    cases this
   | succ n=>simp only [runN,he] at hn;cases hn
  | go g1 w1 w1' es es' hg1 hR1 hd he=>
   have hlone:=step_of_go hy hg1.dying hg1.run hg1.offers
   obtain ⟨hN1,_,_,_⟩:=Next1.of_step h' hok hlone (by simp [plus])
   have hN2:Next2 ⟨T,F'⟩ c ⟨g1.frame,g1.callers++[bot n0],blind w1'⟩:=⟨hN1,by simp⟩
   obtain ⟨hok1,hG1⟩:=hG.next h' hn0 hok hN2
   obtain ⟨gs1,ops,hst1,hsz1,hF1⟩:=goes (ups (c1 :: rest) g1) w1 w1' es hg1.run hx hR1 hd.grow he
   exact CallEnd.step hst1 (ihc _ (Relation.TransGen.single hN2) _ gs1 g1 _ w1 sl' _ q (Nat.le_refl _) hF1 hg1 rfl hok1 hG1)
  | enter f args kind cs w1 w1' es es' hne hkn hcs hnn hR1 hd he=>
   have hlone:=step_of_go hy rfl rfl rfl
   obtain ⟨hN1,_,_,_⟩:=Next1.of_step h' hok hlone (by simp)
   have hN2:Next2 ⟨T,F'⟩ c ⟨Frame.enter ⟨T,F'⟩ f args kind,cs++[bot n0],blind w1'⟩:=⟨hN1,by simp⟩
   obtain ⟨hok1,hG1⟩:=hG.next h' hn0 hok hN2
   exact (hno f args kind cs _ hne hG1).elim
  | pop _ g0 w1 es hc0 hp=>
   have hlone:=step_of_go hy hp.2.1 hp.2.2.1 hp.2.2.2.1
   rw [hp.1] at hlone
   cases n with
   | succ n=>
    exfalso
    simp only [runN,hlone] at hn
    cases n with
    | zero=>obtain ⟨_,e2,_⟩:=lone_inj hn;cases e2
    | succ n=>
     obtain ⟨o,w3,es3,hd3,_⟩:=popped_dead (P:=⟨T,F'⟩) hn0 hp w1
     have:step ⟨T,F'⟩ (lone g0.frame [] w1) = .ended o w3:=by
      obtain ⟨q1,q2,q3,q4,_⟩:=hp
      refine zaL (es:=es3) ?_
      obtain ⟨fr0,cs0,st0,dy0,of0⟩:=g0
      simp only at q1 q2 q3 q4
      subst q1 q2 q3 q4
      exact hd3
     simp only [runN,this] at hn
     cases hn
   | zero=>
    obtain ⟨e1,e2,e3⟩:=lone_inj hn
    subst e1 e3
    obtain ⟨hm,hdf,hkd,fn',hfn',hres⟩:=hl
    rw [hce1] at hm hdf hkd hfn' hres hf
    rw [← run_fst _ _ #[]] at hres
    cases hfn:F[g.frame.fn]? with
    | none=>rw [(h.nofn _).1 hfn] at hfn';cases hfn'
    | some fn=>
     have hr:results fn g.frame.tmps=results fn' g.frame.tmps:=by
      unfold results
      rw [h.res _ _ _ hfn hfn']
     have hend:∃ (w2:World) (es2:Array Event),stepG ⟨T,F⟩ true (ups (c1 :: rest) g) (w.at d) = .go { frame:=c1.finish v,callers:=rest,status:=.running,dying:=none } w2 es2∧Rel T S w2 (tp c.w (fun j x=>w.tape (d+j) x) 0)∧(∀ e ∈ es2,Clear S w2.heap.size e)∧w.heap.size≤w2.heap.size:=by
      rcases pair (results_sim (T:=T) (F:=F) (F':=F') fn' g.frame.tmps) (fun b hb=>Nat.le_trans hb0 (hF.high b hb)) hRw hA with ⟨hh,w2,e,he,hdd⟩ | ⟨v2,w2,w2',e,e',he,he',hR2,hcl,hdr⟩ | ⟨v2,w2,w2',e,e',he,he',hR2,hcl,hdr⟩
      ·rw [he] at hres;cases hres
      ·rw [he'] at hres
       cases hres
       refine ⟨w2,seen ⟨T,F⟩ g.frame.fn e,?_,hR2,seen_clear hcl,hdr.grow⟩
       have hdy:=hg.dying
       obtain ⟨fr0,cs0,st0,dy0,of0⟩:=g
       simp only at hdy hc0 hm hdf hkd hfn hr he hf ⊢
       subst hdy
       subst hc0
       unfold stepG ups
       simp only [hm,List.nil_append]
       unfold unwind
       simp only [hdf,hm,hfn,hr,he,doReturn,hkd,GStep.after,Array.append_empty]
      ·rw [he'] at hres;cases hres
     obtain ⟨w2,es2,hend,hR2,hcl2,hsz2⟩:=hend
     obtain ⟨gs1,ops,hst1,hsz1,hF1⟩:=goes _ w2 _ es2 rfl hend hR2 hsz2 hcl2
     exact CallEnd.step hst1 ⟨0,gs1,w2,sl',t++ops,q,_,v,_,rfl,hF1,hRv⟩
 ·
  have hq:=hL.old i gj hpos hi
  have hi0:(i == 0)=false:=by simp;omega
  have hlt:i<gs.size:=(Array.getElem?_eq_some_iff.1 hi).1
  cases hqi:q i with
  | zero=>rw [hqi] at hq;rw [hq.1] at hgi;cases hgi
  | succ k=>
   rw [hqi] at hq
   rcases hq with ⟨hf,_⟩ | ⟨_,g',es,hm,hstp,hq'⟩
   ·rw [hf] at hgi;cases hgi
   have hrunT:=runT_crowd_go (P:=⟨T,F⟩) (sl:=sl') (i:=i) hi (by rw [hi0];exact hstp (w.at d))
   have hsz:((gs.map (woken ⟨T,F⟩ gj g' (w.at d))).setIfInBounds i g').size=gs.size:=by simp
   have hsum:sumTo gs.size (upd q i k)+(k+1)=sumTo gs.size q+k:=by
    have:=sumTo_upd q k id hlt
    simpa [hqi] using this
   refine CallEnd.step (hst.trans hrunT) (ihM (sumTo gs.size (upd q i k)) (by omega) ((gs.map (woken ⟨T,F⟩ gj g' (w.at d))).setIfInBounds i g') g B (w.at d) sl' _ (upd q i k) (by rw [hsz];exact Nat.le_refl _) ⟨?_,⟨fun j x hj hx=>?_,fun j hj=>?_⟩,hP.mute (by omega) hm,⟨hF.rel.size,hF.rel.os,hF.rel.output,hF.rel.same,hF.rel.ok,hF.rel.spoilt,hF.rel.elem,hF.rel.kept⟩,hF.high,hF.size⟩ hg hce hok hG)
   ·have hne:i≠0:=by omega
    rw [Array.getElem?_setIfInBounds_ne hne,Array.getElem?_map,h0]
    have hrun9:(ups (c1 :: rest) g).status = .running:=hg.run
    simp [woken_run hrun9]
   ·by_cases hji:i=j
    ·subst hji
     rw [Array.getElem?_setIfInBounds_self_of_lt (by simpa using hlt)] at hx
     obtain rfl:=Option.some.inj hx
     rw [upd_same,Deaf_own]
     exact hq'
    ·rw [Array.getElem?_setIfInBounds_ne hji,Array.getElem?_map] at hx
     obtain ⟨y,hy,rfl⟩:=Option.map_eq_some_iff.1 hx
     have hqj:=hL.old j y hj hy
     rw [woken_quitsD hqj,upd_ne q k (Ne.symm hji),Deaf_other t hji _ (fun op hop=>by obtain ⟨e,_,rfl⟩:=Go.Conc.mem_ofEvents hop;rfl)]
     exact hqj
   ·rw [Deaf_other t (g':=i) (by simp at hj;omega) _ (fun op hop=>by obtain ⟨e,_,rfl⟩:=Go.Conc.mem_ofEvents hop;rfl)]
    exact hL.above j (by simpa using hj)
end
end
section
open Go Go.Conc
open Go.ConcN (sumTo)
variable {T:Tables} {F F':Array Func}
theorem path_of_run (h:Duo T F F) {n0:Nat} (hn0:F[n0]? = none):∀ (n:Nat) {c:Cfg},CfgOk T n0 c→∀ {τ:Tape} {d:Nat} {fr:Frame} {cs:List Frame} {w1:World},
  runN ⟨T,F⟩ (n+1) (lone c.fr c.cs (tp c.w τ d)) = .next (lone fr cs w1)→cs≠[]→Relation.TransGen (fun c' c=>Next2 ⟨T,F⟩ c c') ⟨fr,cs,blind w1⟩ c∧CfgOk T n0 ⟨fr,cs,blind w1⟩:=by
 intro n
 induction n with
 | zero=>
  intro c hc τ d fr cs w1 hr hcs
  have hs:step ⟨T,F⟩ (lone c.fr c.cs (tp c.w τ d)) = .next (lone fr cs w1):=by
   simp only [runN] at hr
   cases hx:step ⟨T,F⟩ (lone c.fr c.cs (tp c.w τ d)) with
   | next m=>rw [hx] at hr;exact hr
   | ended o w=>rw [hx] at hr;cases hr
  obtain ⟨h1,h2,_,_⟩:=Next1.of_step h hc hs hcs
  exact ⟨.single ⟨h1,hcs⟩,h2⟩
 | succ n ih=>
  intro c hc τ d fr cs w1 hr hcs
  rw [runN] at hr
  rcases lstep h hc τ d with ⟨o,w2,h2⟩ | ⟨fr2,cs2,w2,h2,hok,hle,htp,hpre⟩ | ⟨hc2,g0,w2,h2,hp⟩
  ·rw [h2] at hr;cases hr
  ·rw [h2] at hr
   dsimp only at hr
   obtain ⟨_,hcs2,_⟩:=hok.callers
   have hne:cs2≠[]:=by
    obtain ⟨x,hx,_⟩:=hok.callers
    rw [show cs2=x++[bot n0] from hx]
    simp
   obtain ⟨h3,h4,_,_⟩:=Next1.of_step h hc h2 hne
   have hr2:runN ⟨T,F⟩ (n+1) (lone (⟨fr2,cs2,blind w2⟩:Cfg).fr (⟨fr2,cs2,blind w2⟩:Cfg).cs (tp (⟨fr2,cs2,blind w2⟩:Cfg).w w2.tape w2.drawn)) = .next (lone fr cs w1):=hr
   obtain ⟨h5,h6⟩:=ih h4 hr2 hcs
   exact ⟨.tail h5 ⟨h3,hne⟩,h6⟩
  ·rw [h2] at hr
   dsimp only at hr
   rw [runN] at hr
   obtain ⟨o,w3,es3,hd3,_⟩:=popped_dead (P:=⟨T,F⟩) hn0 hp w2
   have:step ⟨T,F⟩ (lone g0.frame [] w2) = .ended o w3:=by
    obtain ⟨q1,q2,q3,q4,_⟩:=hp
    refine zaL (es:=es3) ?_
    obtain ⟨fr0,cs0,st0,dy0,of0⟩:=g0
    simp only at q1 q2 q3 q4
    subst q1 q2 q3 q4
    exact hd3
   rw [this] at hr
   cases hr
theorem past_shun {Shun Shun':Loc→Prop} {B:Nat} {t:Trace} (h:Past Shun B t) (hs:∀ l,Shun l→Shun' l):Past Shun' B t:=
 ⟨h.clean,fun i a ha hm=>(h.known i a ha hm).imp id fun x=>⟨hs _ x.1,x.2⟩,h.over,h.hears,h.seen⟩
theorem frm_of_gend [Start] {b0:Nat} {S:Nat→Prop} {Post:Value→World→Prop} {Wg:Nat} {c0:Frame} {rest:List Frame} {gs:Array Goroutine} {w:World} {t:Trace} (h:GEnd ⟨T,F⟩ Post (ShunOf S) Wg c0 rest gs w t) (hS:∀ b,S b→b0≤b) (hW:b0≤Wg) (hW2:Wg≤w.heap.size) :
  ∃ v q B,Post v w∧∀ w',Rel T (fun b=>S b∨b=Wg) w w'→Frm T F b0 (fun b=>S b∨b=Wg) B gs { frame:=c0.finish v,callers:=rest,status:=.running,dying:=none } w t q w':=by
 obtain ⟨v,q,B,h0,hL,hP,hv⟩:=h
 refine ⟨v,q,B,hv,fun w' hR=>⟨h0,hL,past_shun hP fun l hl=>?_,hR,fun b hb=>hb.elim (hS b) fun e=>e ▸ hW,Nat.le_trans hW hW2⟩⟩
 rcases hl with hl | ⟨a,rfl,ha⟩
 ·cases l with
  | cell a=>exact .inl hl
  | obj r=>exact .inl hl
  | _=>exact hl
 ·exact .inr ha
end
section
open Go Go.Conc
variable {T:Tables} {F':Array Func}
structure At (T:Tables) (F':Array Func) (n0 f0:Nat) (R:Value→World→Prop) (c0:Cfg) (fr:Frame) (cs:List Frame) (w:World):Prop where
 ok:CfgOk T n0 ⟨fr,cs,w⟩
 good:Good ⟨T,F'⟩ n0 f0 R ⟨fr,cs,w⟩
 bl:blind w=w
 way:c0=⟨fr,cs,w⟩∨Relation.TransGen (fun c' c=>Next2 ⟨T,F'⟩ c c') ⟨fr,cs,w⟩ c0
section
variable {n0 f0:Nat} {R:Value→World→Prop} {c0:Cfg} {fr fr1:Frame} {cs cs1:List Frame} {w w1:World} {es:Array Event}
theorem At.next (h:At T F' n0 f0 R c0 fr cs w) (h':Duo T F' F') (hn0:F'[n0]? = none) (hN:Next2 ⟨T,F'⟩ ⟨fr,cs,w⟩ ⟨fr1,cs1,w1⟩) (hb:blind w1=w1):At T F' n0 f0 R c0 fr1 cs1 w1:=by
 obtain ⟨h1,h2⟩:=h.good.next h' hn0 h.ok hN
 refine ⟨h1,h2,hb,.inr ?_⟩
 rcases h.way with rfl | hw
 ·exact .single hN
 ·exact Relation.TransGen.trans (.single hN) hw
theorem At.go (h:At T F' n0 f0 R c0 fr cs w) (h':Duo T F' F') (hn0:F'[n0]? = none) (hs:stepG ⟨T,F'⟩ true (G fr cs) w = .go (G fr1 cs1) w1 es) (hcs:cs1≠[]):At T F' n0 f0 R c0 fr1 cs1 (blind w1):=by
 have hl:=step_of_go hs rfl rfl rfl
 have hl2:step ⟨T,F'⟩ (lone (⟨fr,cs,w⟩:Cfg).fr (⟨fr,cs,w⟩:Cfg).cs (tp (⟨fr,cs,w⟩:Cfg).w t0 0)) = .next (lone fr1 cs1 w1):=by
  show step ⟨T,F'⟩ (lone fr cs (blind w))=_
  rw [h.bl]
  exact hl
 exact h.next h' hn0 ⟨(Next1.of_step h' h.ok hl2 hcs).1,hcs⟩ rfl
theorem At.dead (h:At T F' n0 f0 R c0 fr cs w) {o:Outcome} (hs:stepG ⟨T,F'⟩ true (G fr cs) w = .ended o w1 es):False:=by
 have hl:=zaL hs
 obtain ⟨n,fr2,wf,v,hn,_,hlv,_⟩:=h.good t0 0
 have e:tp w t0 0=w:=h.bl
 simp only [e] at hn
 cases n with
 | zero=>
  obtain ⟨e1,e2,e3⟩:=lone_inj hn
  have:=step_leave_returned (P:=⟨T,F'⟩) (c:=bot n0) (cs:=[]) hlv
  rw [← e1,← e2,← e3,hl] at this
  cases this
 | succ n=>simp only [runN,hl] at hn;cases hn
end
section
variable {n0 f0:Nat} {R:Value→World→Prop} {c0:Cfg} {b:Frame} {a:Act} {k:List Item} {cs:List Frame} {w w1:World} {ops:Array Oper} {i:Nat} {rest:List Nat} {o:Oper}
theorem At.value (h:At T F' n0 f0 R c0 (b.at a (.inRegion ops (i :: rest) :: k)) cs w) (h':Duo T F' F') (hn0:F'[n0]? = none) (hcs:cs≠[]) (ho:ops[i]? = some o) (hw:Region.wanted o (yielded ops a.tmps)=true) (hk:b.kind≠.early) {v:Value}
  (hr:(execOp a.eval o).run ⟨T,F'⟩ w = .ok (.value v) w1):At T F' n0 f0 R c0 (b.at (a.put o.dst v) (.inRegion ops rest :: k)) cs (blind w1):=h.go h' hn0 (stepG_value ho hw hk hr) hcs
theorem stepG_halt {P:Program} {main:Bool} (ho:ops[i]? = some o) (hw:Region.wanted o (yielded ops a.tmps)=true) {hh:Halt} (hr:(execOp a.eval o).run P w = .halt hh w1) (hd:Dead hh) (he:∀ fr cs d g w,∃ o w1 es,Go.early P fr cs d g w = .ended o w1 es) :
  ∃ o1 w2 es,stepG P main (G (b.at a (.inRegion ops (i :: rest) :: k)) cs) w = .ended o1 w2 es:=by
 rw [stepG_oper ho hw]
 cases hx:(execOp a.eval o).runT P w #[] with
 | mk r e=>
  have h1:=run_fst (P:=P) (execOp a.eval o) w #[]
  rw [hx,hr] at h1
  simp only at h1
  subst h1
  unfold stepG.apply
  simp only [if_true,hx]
  cases hh with
  | stuck s=>exact ⟨_,_,_,rfl⟩
  | unsupported u=>
   cases u with
   | initOrder g=>
    obtain ⟨o1,w2,es2,h2⟩:=he (b.at a (.inRegion ops (i :: rest) :: k)) cs none g w1
    dsimp only
    rw [h2]
    exact ⟨_,_,_,rfl⟩
   | _=>exact ⟨_,_,_,rfl⟩
  | _=>exact hd.elim
theorem At.halt (h:At T F' n0 f0 R c0 (b.at a (.inRegion ops (i :: rest) :: k)) cs w) (h':Duo T F' F') (ho:ops[i]? = some o) (hw:Region.wanted o (yielded ops a.tmps)=true) {hh:Halt}
  (hr:(execOp a.eval o).run ⟨T,F'⟩ w = .halt hh w1) (hd:Dead hh):False:=by
 obtain ⟨o1,w2,es,hs⟩:=stepG_halt (P:=⟨T,F'⟩) (main:=true) (b:=b) (k:=k) (cs:=cs) (rest:=rest) ho hw hr hd (fun fr cs d g w=>by obtain ⟨o,h1,_⟩:=h'.early fr cs d g w;exact ⟨o,_,_,h1⟩)
 exact h.dead hs
end
end
end Go.Proofs.Ytjkikkgpenhbgaa.Sim
