import Derived.Test.YtjkikkgpenhbgaaLSB
import Derived.DyingRun
import Derived.Test.YtjkikkgpenhbgaaLSA
import Derived.Conc.JoinFork
set_option linter.unusedVariables false
set_option linter.unusedSimpArgs false
set_option linter.unusedSectionVars false
namespace Go.Proofs.Ytjkikkgpenhbgaa.Sim
section
open Go
variable {T:Tables} {F F':Array Func}
section
variable {base:List Frame} {n0:Nat} {S:Nat→Prop} {w w':World} {g:Goroutine}
theorem to_rel [Start] {fr:Frame} {callers:List Frame} {todo:List Item} {m:FrameMode} {ds:List Deferred} (ht:∀ it ∈ todo,itemOk T it=true) (hd:∀ d ∈ ds,deferOk d.target=true) (hcs:∀ f ∈ callers,FrameOk T f) (hR:Rel T S w w') :
  StepRel T F F' base (bot n0) S w w' g (.go { frame:={ fr with todo,mode:=m,defers:=ds },callers:=callers++base,status:=.running,dying:=none } w) (.go { frame:={ fr with todo,mode:=m,defers:=ds },callers:=callers++[bot n0],status:=.running,dying:=none } w'):=
 .go { frame:={ fr with todo,mode:=m,defers:=ds },callers,status:=.running,dying:=none } _ _ _ _ ⟨rfl,rfl,rfl,⟨ht,hd⟩,hcs⟩ hR (Draws.refl _ _) zaB
theorem round_rel [Start] {fr:Frame} {callers:List Frame} (hg:g.callers=callers) (hcs:∀ f ∈ callers,FrameOk T f) (hT:∀ b,S b→T.globals.size≤b) (hR:Rel T S w w') (hA:∀ n,Agree w w' n) (l:Nat) (jump:Option Code) (hj:∀ c,jump=some c→zaD T c=true) (s s' s'':String) :
  StepRel T F F' base (bot n0) S w w' g
   (GStep.after (seen ⟨T,F⟩ fr.fn ((Instr.endRound l jump).runT ⟨T,F⟩ w #[]).2) (match ((Instr.endRound l jump).runT ⟨T,F⟩ w #[]).1 with | .ok v w=>doReturn ⟨T,F⟩ true fr (callers++base) none v w | .halt _ w=>.ended (.stuck s s'') w))
   (GStep.after (seen ⟨T,F'⟩ fr.fn ((Instr.endRound l jump).runT ⟨T,F'⟩ w' #[]).2) (match ((Instr.endRound l jump).runT ⟨T,F'⟩ w' #[]).1 with | .ok v w=>doReturn ⟨T,F'⟩ true fr (callers++[bot n0]) none v w | .halt _ w=>.ended (.stuck s s') w)):=by
 rcases pair (Sim.endRound l jump hj) hT hR hA with ⟨hh,w1,e,he,hd⟩ | ⟨v,w1,w1',e,e',he,he',hR1,hc,hd⟩ | ⟨v,w1,w1',e,e',he,he',hR1,hc,hd⟩
 ·rw [he];exact .dead _ _ _ _ (fun v e=>by cases e)
 ·rw [he,he']
  exact ((doReturn_rel hg hcs v hR1).after (seen_clear hc)).from hd
 ·rw [he'];exact .dead _ _ _ _ (fun v e=>by cases e)
theorem exec_rel [Start] (h:Duo T F F') {fr:Frame} {callers:List Frame} (hg:g.callers=callers) (hfr:FrameOk T fr) (hcs:∀ f ∈ callers,FrameOk T f) (hT:∀ b,S b→T.globals.size≤b) (hR:Rel T S w w') (hA:∀ n,Agree w w' n) :
  StepRel T F F' base (bot n0) S w w' g (stepG.exec ⟨T,F⟩ true true fr (callers++base) none w) (stepG.exec ⟨T,F'⟩ true true fr (callers++[bot n0]) none w'):=by
 have hds:=hfr.defers
 have hits:=hfr.items
 have hdead:∀ (x:GStep) (o:Outcome) (w1:World),(∀ v,o≠.done v)→StepRel T F F' base (bot n0) S w w' g x (.ended o w1):=fun x o w1 ho=>.dead _ _ _ _ ho
 obtain ⟨fn,tmps,todo,defers,mode,kind,ro⟩:=fr
 unfold stepG.exec
 dsimp only at hds hits ⊢
 generalize Frame.pos ⟨T,F⟩ _=ps0
 generalize Frame.pos ⟨T,F'⟩ _=ps
 cases todo with
 | nil=>
  cases ro with
  | none=>exact to_rel (fr:=⟨fn,tmps,[],defers,mode,kind,none⟩) hits hds hcs hR
  | some l=>exact round_rel hg hcs hT hR hA l none (fun _ e=>by cases e) _ _ _
 | cons it k=>
  have hk:∀ it ∈ k,itemOk T it=true:=fun it hit=>hits it (by simp [hit])
  have hi:=hits it (by simp)
  have to1:∀ todo,(∀ it ∈ todo,itemOk T it=true)→StepRel T F F' base (bot n0) S w w' g (.go { frame:=⟨fn,tmps,todo,defers,mode,kind,ro⟩,callers:=callers++base,status:=.running,dying:=none } w) (.go { frame:=⟨fn,tmps,todo,defers,mode,kind,ro⟩,callers:=callers++[bot n0],status:=.running,dying:=none } w'):=
   fun todo ht=>to_rel (fr:=⟨fn,tmps,it :: k,defers,mode,kind,ro⟩) ht hds hcs hR
  have to2:∀ (a b:Item),itemOk T a=true→itemOk T b=true→∀ it ∈ a :: b :: k,itemOk T it=true:=fun a b ha hb it hit=>by
   simp only [List.mem_cons] at hit
   rcases hit with rfl | rfl | hit
   ·exact ha
   ·exact hb
   ·exact hk it hit
  have to3:∀ (a:Item),itemOk T a=true→∀ it ∈ a :: k,itemOk T it=true:=fun a ha it hit=>by
   simp only [List.mem_cons] at hit
   rcases hit with rfl | hit
   ·exact ha
   ·exact hk it hit
  cases it with
  | inBlock id=>exact to1 _ hk
  | inScope id=>exact to1 _ hk
  | inLoop b=>exact to1 _ (to2 _ _ hi hi)
  | inRangeFunc l=>exact hdead _ _ _ (fun v e=>by cases e)
  | call d b r s=>cases hi
  | extern r a=>cases hi
  | beginRound=>
   refine apply_rel h hfr hcs (s:=_) ?_ ?_ hT hR hA
   ·cases ro with
    | none=>exact Sim.bind' (Sim.stuck _) fun _=>Sim.pure' _
    | some l=>exact Sim.bind' (Sim.beginRound l) fun _=>Sim.pure' _
   ·intro v w1 e he
    exact Always.unit (P:=⟨T,F'⟩) _ _ _ _ _ he
  | endRangeFunc l=>
   dsimp only
   rcases pair (Sim.endLoop l) hT hR hA with ⟨hh,w1,e,he,hd⟩ | ⟨v,w1,w1',e,e',he,he',hR1,hc,hd⟩ | ⟨v,w1,w1',e,e',he,he',hR1,hc,hd⟩
   ·rw [he]
    cases hh <;> first | exact hd.elim | exact .dead _ _ _ _ (fun v e=>by cases e)
   ·rw [he,he']
    refine StepRel.from (StepRel.after ?_ (seen_clear hc)) hd
    refine to_rel (fr:=⟨fn,tmps,.endRangeFunc l :: k,defers,mode,kind,ro⟩) (fun it hit=>?_) hds hcs hR1
    simp only [List.mem_append,Option.mem_toList,Option.map_eq_some_iff] at hit
    rcases hit with ⟨c,hc1,rfl⟩ | hit
    ·exact endLoop_ok l hR.ok he' c hc1
    ·exact hk it hit
   ·rw [he,he']
    refine StepRel.from (StepRel.after ?_ (seen_clear hc)) hd
    exact .go { frame:=Frame.raise ⟨fn,tmps,.endRangeFunc l :: k,defers,mode,kind,ro⟩ [{ v,recovered:=false }],callers,status:=.running,dying:=none } _ _ _ _ ⟨rfl,rfl,rfl,raise_ok hfr _,hcs⟩ hR1 (Draws.refl _ _) zaB
  | inRegion ops todo=>
   cases todo with
   | nil=>exact to1 _ hk
   | cons i rest=>
    dsimp only
    split
    ·rename_i hw
     unfold stepG.oper
     simp only [Frame.oper?]
     cases ho:ops[i]? with
     | none=>exact hdead _ _ _ (fun v e=>by cases e)
     | some o=>
      have hop:opOk T o.op=true:=by
       simp only [itemOk,Array.all_eq_true_iff_forall_mem] at hi
       exact hi o (Array.mem_of_getElem? ho)
      have main:StepRel T F F' base (bot n0) S w w' g (stepG.apply ⟨T,F⟩ true ⟨fn,tmps,.inRegion ops (i :: rest) :: k,defers,mode,kind,ro⟩ (callers++base) none (Go.execOp (Frame.eval ⟨fn,tmps,.inRegion ops (i :: rest) :: k,defers,mode,kind,ro⟩) o) w)
        (stepG.apply ⟨T,F'⟩ true ⟨fn,tmps,.inRegion ops (i :: rest) :: k,defers,mode,kind,ro⟩ (callers++[bot n0]) none (Go.execOp (Frame.eval ⟨fn,tmps,.inRegion ops (i :: rest) :: k,defers,mode,kind,ro⟩) o) w'):=
       apply_rel h hfr hcs (Sim.execOp h.toFuns _ o hop) (fun v w1 e he=>nextOk_execOp h.calm _ o hop hR.ok he) hT hR hA
      dsimp only
      split
      ·rename_i hx;rw [hx] at hop;cases hop
      ·exact main
    ·exact .go { frame:=Frame.finish ⟨fn,tmps,.inRegion ops (i :: rest) :: k,defers,mode,kind,ro⟩ undef,callers,status:=.running,dying:=none } _ _ _ _ ⟨rfl,rfl,rfl,finish_ok hfr _,hcs⟩ hR (Draws.refl _ _) zaB
  | code c=>
   have lv:∀ jump:Option Code,(∀ c,jump=some c→zaD T c=true)→∀ (s1 s2 s3:String) (l:Nat),StepRel T F F' base (bot n0) S w w' g
     (GStep.after (seen ⟨T,F⟩ fn ((Instr.endRound l jump).runT ⟨T,F⟩ w #[]).2) (match ((Instr.endRound l jump).runT ⟨T,F⟩ w #[]).1 with | .ok v w=>doReturn ⟨T,F⟩ true ⟨fn,tmps,.code c :: k,defers,mode,kind,some l⟩ (callers++base) none v w | .halt _ w=>.ended (.stuck s1 s3) w))
     (GStep.after (seen ⟨T,F'⟩ fn ((Instr.endRound l jump).runT ⟨T,F'⟩ w' #[]).2) (match ((Instr.endRound l jump).runT ⟨T,F'⟩ w' #[]).1 with | .ok v w=>doReturn ⟨T,F'⟩ true ⟨fn,tmps,.code c :: k,defers,mode,kind,some l⟩ (callers++[bot n0]) none v w | .halt _ w=>.ended (.stuck s1 s2) w)):=
    fun jump hj s1 s2 s3 l=>round_rel (fr:=⟨fn,tmps,.code c :: k,defers,mode,kind,some l⟩) hg hcs hT hR hA l jump hj s1 s2 s3
   cases c with
   | skip=>exact to1 _ hk
   | label l=>exact to1 _ hk
   | seq a b=>
    simp only [itemOk,zaD,Bool.and_eq_true] at hi
    exact to1 _ (to2 _ _ hi.1 hi.2)
   | cond c a b=>
    simp only [itemOk,zaD,Bool.and_eq_true] at hi
    dsimp only
    have he:∀ v:Value,StepRel T F F' base (bot n0) S w w' g
      (match v with | .bool b1=>.go { frame:=⟨fn,tmps,.code (if b1=true then a else b) :: k,defers,mode,kind,ro⟩,callers:=callers++base,status:=.running,dying:=none } w | _=>.ended (.stuck "cond: bool expected" ps0) w)
      (match v with | .bool b1=>.go { frame:=⟨fn,tmps,.code (if b1=true then a else b) :: k,defers,mode,kind,ro⟩,callers:=callers++[bot n0],status:=.running,dying:=none } w' | _=>.ended (.stuck "cond: bool expected" ps) w'):=by
     intro v
     cases v
     case bool b1=>
      cases b1
      ·exact to1 _ (to3 (.code b) hi.2)
      ·exact to1 _ (to3 (.code a) hi.1)
     all_goals exact hdead _ _ _ (fun v e=>by cases e)
    exact he _
   | block id b=>exact to1 _ (to2 (.code b) (.inBlock id) hi rfl)
   | loop b=>exact to1 _ (to2 (.code b) (.inLoop b) hi hi)
   | scope b=>exact to1 _ (to2 (.code b) (.inScope b) hi hi)
   | refuse why=>exact hdead _ _ _ (fun v e=>by cases e)
   | ret=>
    cases ro with
    | none=>exact to_rel (fr:=⟨fn,tmps,.code .ret :: k,defers,mode,kind,none⟩) hits hds hcs hR
    | some l=>exact lv (some .ret) (fun c e=>by cases e;rfl) _ _ _ l
   | exit id=>
    dsimp only
    cases hx:exitTo id k with
    | some k'=>exact to1 _ (fun it hit=>hk it (exitTo_ok hx it hit))
    | none=>
     cases ro with
     | none=>exact hdead _ _ _ (fun v e=>by cases e)
     | some l=>exact lv (some (.exit id)) (fun c e=>by cases e;rfl) _ _ _ l
   | goto id=>
    dsimp only
    cases hx:gotoIn id k with
    | some k'=>exact to1 _ (gotoIn_ok hx hk)
    | none=>
     cases ro with
     | none=>exact hdead _ _ _ (fun v e=>by cases e)
     | some l=>exact lv (some (.goto id)) (fun c e=>by cases e;rfl) _ _ _ l
   | region id ops d=>
    have hops:itemOk T (.inRegion ops [])=true:=hi
    dsimp only
    cases d with
    | false=>exact to1 _ (to3 (.inRegion ops (List.range ops.size)) hops)
    | true=>
     simp only [Bool.not_true,Bool.false_eq_true,if_false,Go.choose,Sem.run,Question.forced]
     have e0:=hA 1 0 (by omega) (.order fn id)
     simp only [Nat.add_zero] at e0
     rw [← e0]
     exact StepRel.from (w1:={ w with drawn:=w.drawn+1 }) (w1':={ w' with drawn:=w'.drawn+1 })
      (to_rel (fr:=⟨fn,tmps,.code (.region id ops true) :: k,defers,mode,kind,ro⟩) (to3 (.inRegion ops _) hops) hds hcs hR.drew) ⟨Nat.le_refl _,by simp,by simp only;omega,rfl,rfl⟩
   | rangeFunc f ps2 a b=>
    simp only [itemOk,zaD,Bool.and_eq_true] at hi
    dsimp only
    rcases pair (Sim.enterLoop fn tmps ps2 a b ro hi.1 hi.2) hT hR hA with ⟨hh,w1,e,he,hd⟩ | ⟨v,w1,w1',e,e',he,he',hR1,hc,hd⟩ | ⟨v,w1,w1',e,e',he,he',hR1,hc,hd⟩
    ·rw [he];exact .dead _ _ _ _ (fun v e=>by cases e)
    ·rw [he,he']
     obtain ⟨l,mark⟩:=v
     have hm:=enterLoop_ok (P:=⟨T,F'⟩) fn tmps ps2 a b ro _ _ _ _ _ he'
     refine StepRel.from (StepRel.after ?_ (seen_clear hc)) hd
     refine apply_rel h ?_ hcs (Sim.resolveInvoke h.toFuns _ _ _ (fun b hb=>by cases hb)) (fun v w2 e2 he2=>nextOk_resolveInvoke h.calm _ _ _ (fun b hb=>by cases hb) hR1.ok he2) hT hR1 (agree_next hA hd)
     refine ⟨fun it hit=>?_,fun d hd=>?_⟩
     ·simp only [List.mem_cons] at hit
      rcases hit with rfl | hit
      ·rfl
      ·exact hk it hit
     ·simp only [List.mem_append] at hd
      rcases hd with hd | hd
      ·exact hm d hd
      ·exact hds d hd
    ·rw [he'];exact .dead _ _ _ _ (fun v e=>by cases e)
end
end
section
open Go
variable {T:Tables} {F F':Array Func}
section
variable {base:List Frame} {n0:Nat} {S:Nat→Prop} {w w':World} {g:Goroutine}
theorem results_sim (fn:Func) (tmps:Array Value):Sim T F F' (results fn tmps):=by
 unfold results
 refine Sim.bind' (Sim.mapMArray _ _ fun r=>?_) fun vs=>Sim.pure' _
 split
 ·exact Sim.pure' _
 ·exact Sim.bind' (Sim.asAddr _) fun _=>Sim.loadVar _ _
theorem unwind_rel [Start] (h:Duo T F F') {fr:Frame} {callers:List Frame} (hg:g.callers=callers) (hfr:FrameOk T fr) (hcs:∀ f ∈ callers,FrameOk T f) (hT:∀ b,S b→T.globals.size≤b) (hR:Rel T S w w') (hA:∀ n,Agree w w' n) :
  StepRel T F F' base (bot n0) S w w' g (unwind ⟨T,F⟩ true fr (callers++base) none w) (unwind ⟨T,F'⟩ true fr (callers++[bot n0]) none w'):=by
 have hds:=hfr.defers
 have hits:=hfr.items
 have hcat:∀ P:Program,fr.catches P=false:=by
  intro P
  unfold Frame.catches
  split
  ·rename_i hx
   have:=hits _ (by rw [hx];exact List.mem_cons_self)
   cases this
  ·rfl
 unfold unwind
 cases hdf:fr.defers with
 | cons d ds=>
  rw [hdf] at hds
  have hd0:=hds d (by simp)
  have hd1:∀ x ∈ ds,deferOk x.target=true:=fun x hx=>hds x (by simp [hx])
  obtain ⟨tg,ar⟩:=d
  cases tg with
  | collected block=>
   dsimp only
   rcases pair (Sim.takeDeferred block) hT hR hA with ⟨hh,w1,e,he,hd⟩ | ⟨v,w1,w1',e,e',he,he',hR1,hc,hd⟩ | ⟨v,w1,w1',e,e',he,he',hR1,hc,hd⟩
   ·rw [he];exact .dead _ _ _ _ (fun v e=>by cases e)
   ·rw [he,he']
    refine StepRel.from (StepRel.after ?_ (seen_clear hc)) hd
    have hv:=takeDeferred_ok block hR.ok he'
    refine .go { frame:={ fr with defers:=v++ds },callers,status:=.running,dying:=none } _ _ _ _ ⟨rfl,rfl,rfl,⟨hits,fun d hd=>?_⟩,hcs⟩ hR1 (Draws.refl _ _) zaB
    rcases List.mem_append.1 hd with hd | hd
    ·exact hv d hd
    ·exact hd1 d hd
   ·rw [he'];exact .dead _ _ _ _ (fun v e=>by cases e)
  | _=>cases hd0
 | nil=>
  dsimp only
  cases hm:fr.mode with
  | run=>exact .dead _ _ _ _ (fun v e=>by cases e)
  | panicking chain=>
   dsimp only
   rw [hcat,hcat]
   simp only [Bool.false_eq_true,if_false]
   cases callers with
   | nil=>exact .pop _ _ _ _ hg ⟨rfl,rfl,rfl,rfl,.inr (.inr ⟨chain,rfl⟩)⟩
   | cons c cs=>
    exact .go { frame:=c.raise chain,callers:=cs,status:=.running,dying:=none } _ _ _ _ ⟨rfl,rfl,rfl,raise_ok (hcs c (by simp)) _,fun f hf=>hcs f (by simp [hf])⟩ hR (Draws.refl _ _) zaB
  | returning=>
   dsimp only
   cases hf:F[fr.fn]? with
   | none=>
    rw [(h.nofn _).1 hf]
    exact doReturn_rel hg hcs _ hR
   | some fn=>
    cases hf':F'[fr.fn]? with
    | none=>rw [(h.nofn _).2 hf'] at hf;cases hf
    | some fn'=>
     dsimp only
     have hr:results fn fr.tmps=results fn' fr.tmps:=by
      unfold results
      rw [h.res _ _ _ hf hf']
     rw [hr]
     rcases pair (results_sim (T:=T) (F:=F) (F':=F') fn' fr.tmps) hT hR hA with ⟨hh,w1,e,he,hd⟩ | ⟨v,w1,w1',e,e',he,he',hR1,hc,hd⟩ | ⟨v,w1,w1',e,e',he,he',hR1,hc,hd⟩
     ·rw [he]
      cases hh <;> exact .dead _ _ _ _ (fun v e=>by cases e)
     ·rw [he,he']
      exact ((doReturn_rel hg hcs v hR1).after (seen_clear hc)).from hd
     ·rw [he'];exact .dead _ _ _ _ (fun v e=>by cases e)
theorem step_rel [Start] (h:Duo T F F') (hg:GOk T g) (hT:∀ b,S b→T.globals.size≤b) (hR:Rel T S w w') (hA:∀ n,Agree w w' n) :
  StepRel T F F' base (bot n0) S w w' g (stepG ⟨T,F⟩ true (ups base g) w) (stepG ⟨T,F'⟩ true (plus (bot n0) g) w'):=by
 have hd:=hg.dying
 have hfr:=hg.frame
 have hcs:=hg.callers
 obtain ⟨fr,callers,st,dying,offers⟩:=g
 subst hd
 unfold stepG plus ups
 dsimp only
 cases hm:fr.mode with
 | run=>exact exec_rel h rfl hfr hcs hT hR hA
 | panicking c=>exact unwind_rel h rfl hfr hcs hT hR hA
 | returning=>exact unwind_rel h rfl hfr hcs hT hR hA
end
theorem popped_dead {n0:Nat} {P:Program} (hn:P.funcs[n0]? = none) {g0:Goroutine} (hp:Popped (bot n0) g0) (w:World):∃ o w1 es,stepG P true g0 w = .ended o w1 es∧∀ v,o≠.done v:=by
 have hx:Extern.next "fmt's door" = none:=Option.isNone_iff_eq_none.1 (by decide +kernel)
 obtain ⟨hc,hd,_,_,hf⟩:=hp
 obtain ⟨fr,callers,st,dying,offers⟩:=g0
 simp only at hc hd hf
 subst hc
 subst hd
 rcases hf with ⟨v,rfl⟩ | rfl | ⟨ch,rfl⟩
 ·unfold stepG
  simp only [bot,Frame.finish]
  unfold stepG.exec
  simp only [hx,Option.elim]
  exact ⟨_,_,_,rfl,fun v e=>by cases e⟩
 ·unfold stepG
  simp only [bot]
  unfold stepG.exec
  dsimp only
  exact ⟨_,_,_,rfl,fun v e=>by cases e⟩
 ·unfold stepG
  simp only [bot,Frame.raise]
  unfold unwind
  dsimp only
  have:Frame.catches P { fn:=n0,tmps:=#[],todo:=[.call { target:=.collected 0,args:=#[] } false "fmt's door" #[]],defers:=[],mode:=.panicking ch,kind:=.normal }=true:=by
   unfold Frame.catches
   simp only [hn]
   decide +kernel
  rw [this]
  exact ⟨_,_,_,rfl,fun v e=>by cases e⟩
end
section
open Go
def zaK (fr:Frame) (callers:List Frame):CallKind:=match callers.getLast? with | none=>fr.kind | some c=>c.kind
theorem botKind_cons (x fr:Frame) (callers:List Frame):zaK x (fr :: callers)=zaK fr callers:=by
 unfold zaK
 cases h:callers.getLast? with
 | none=>
  rw [List.getLast?_eq_none_iff] at h
  subst h
  rfl
 | some c=>
  rw [List.getLast?_cons,h]
  rfl
theorem zax {fr fr':Frame} (callers:List Frame) (h:fr.kind=fr'.kind):zaK fr callers=zaK fr' callers:=by
 unfold zaK
 cases callers.getLast? <;> simp [h]
theorem zaE (fr:Frame) (v:Value):(fr.finish v).kind=fr.kind:=by
 unfold Frame.finish
 split <;> rfl
theorem raise_kind (fr:Frame) (c:List PanicEntry):(fr.raise c).kind=fr.kind:=by
 unfold Frame.raise
 split <;> rfl
def Doomed (g:Goroutine):Prop:=∃ d,g.dying=some d∧(d.calling=true→zaK g.frame g.callers = .report)
section
variable (G:Nat→Bool)
def targetE:Target→Bool
 | .fn (.func f) _=>G f
 | .builtin b _ _ _=>builtinOk b
 | _=>false
def opE:Op→Bool
 | .call c=>match c.callee with | .builtin b=>builtinOk b | .value (.func f)=>G f | _=>false
 | .defer c=>match c.callee with | .value (.func f)=>G f | _=>false
 | .select .. | .send .. | .recv ..=>false
 | _=>true
def codeE:Code→Bool
 | .region _ ops _=>ops.all fun o=>opE G o.op
 | .seq a b | .cond _ a b=>codeE a && codeE b
 | .block _ c | .loop c | .scope c=>codeE c
 | .rangeFunc ..=>false
 | _=>true
def itemE:Item→Bool
 | .code c | .inLoop c | .inScope c=>codeE G c
 | .inRegion ops _=>ops.all fun o=>opE G o.op
 | .inBlock _=>true
 | _=>false
def nextE:Next→Prop
 | .value _ | .skip | .spawn _=>True
 | .enter f _=>G f=true
 | .defer d=>targetE G d.target=true
 | _=>False
variable (P:Program)
structure FrameE (fr:Frame):Prop where
 items:∀ it ∈ fr.todo,itemE G it=true
 defers:∀ d ∈ fr.defers,targetE G d.target=true
 round:fr.roundOf=none
 inits:P.inits.idxOf? fr.fn=none
structure EOk (g:Goroutine):Prop where
 bot:zaK g.frame g.callers = .normal
 dying:g.dying=none
 frame:FrameE G P g.frame
 callers:∀ fr ∈ g.callers,FrameE G P fr
structure EProg:Prop where
 next:∀ (f:Nat) (fn:Func),G f=true→P.funcs[f]? = some fn→fn.body.isNone=true→Extern.findNext fn=none
 num:∀ (f:Nat) (fn:Func),G f=true→P.funcs[f]? = some fn→(fn.name == "runtime.NumGoroutine")=false
 bodies:∀ (f:Nat) (fn:Func) (c:Code),G f=true→P.funcs[f]? = some fn→fn.body=some c→codeE G c=true
 inits:∀ f,G f=true→P.inits.idxOf? f=none
 early:∀ fr cs d g w,∃ o w1 es,Go.early P fr cs d g w = .ended o w1 es∧∀ v,o≠.done v
inductive UpRel (cs:List Frame):GStep→GStep→Prop
 | go (g1:Goroutine) (w:World) (es:Array Event) (h:EOk G P g1):UpRel cs (.go g1 w es) (.go (ups cs g1) w es)
 | spawn (g1 child:Goroutine) (w:World) (es:Array Event) (h:EOk G P g1):UpRel cs (.spawn g1 child w es) (.spawn (ups cs g1) child w es)
 | dying (g1:Goroutine) (w:World) (es:Array Event) (y:GStep) (h:Doomed g1):UpRel cs (.go g1 w es) y
 | finished (g1:Goroutine) (w:World) (es:Array Event) (y:GStep) (h:g1.status = .finished):UpRel cs (.go g1 w es) y
 | ended (o:Outcome) (w:World) (es:Array Event) (y:GStep) (h:∀ v,o≠.done v):UpRel cs (.ended o w es) y
 | ret (v:Value) (w:World) (es:Array Event) (fr:Frame) (hk:fr.kind = .normal):UpRel cs (.ended (.done v) w es) ((doReturn P true fr cs none v w).after es)
end
section
variable {G:Nat→Bool} {P:Program} {cs:List Frame}
theorem UpRel.after {x y:GStep} (es:Array Event) (h:UpRel G P cs x y):UpRel G P cs (x.after es) (y.after es):=by
 cases h with
 | go g1 w e h=>exact .go _ _ _ h
 | spawn g1 ch w e h=>exact .spawn _ _ _ _ h
 | dying g1 w e y h=>exact .dying _ _ _ _ h
 | finished g1 w e y h=>exact .finished _ _ _ _ h
 | ended o w e y h=>exact .ended _ _ _ _ h
 | ret v w e fr hk=>
  rw [show ((doReturn P true fr cs none v w).after e).after es=(doReturn P true fr cs none v w).after (es++e) by cases doReturn P true fr cs none v w <;> simp [GStep.after,Array.append_assoc]]
  exact .ret v w (es++e) fr hk
theorem FrameE.finish {fr:Frame} (h:FrameE G P fr) (v:Value):FrameE G P (fr.finish v):=by
 obtain ⟨fn,tmps,todo,defers,mode,kind,ro⟩:=fr
 unfold Frame.finish
 have h1:=h.items
 have h2:=h.defers
 have h3:=h.round
 have h4:=h.inits
 simp only at h1 h2 h3 h4
 split
 ·rename_i ops i rest k hk
  cases hk
  exact ⟨fun it hit=>by
   rcases List.mem_cons.1 hit with rfl | hit
   ·exact h1 (.inRegion ops (i :: rest)) (by simp)
   ·exact h1 it (by simp [hit]),h2,h3,h4⟩
 ·rename_i l k hk
  cases hk
  have:=h1 _ (List.mem_cons_self)
  cases this
 ·rename_i k hk
  cases hk
  exact ⟨fun it hit=>h1 it (by simp [hit]),h2,h3,h4⟩
 ·rename_i hk
  cases hk
  have:=h1 _ (List.mem_cons_self)
  cases this
 ·rename_i hk
  cases hk
  have:=h1 _ (List.mem_cons_self)
  cases this
 ·exact h
theorem FrameE.raise {fr:Frame} (h:FrameE G P fr) (c:List PanicEntry):FrameE G P (fr.raise c):=by
 unfold Frame.raise
 split <;> exact ⟨h.items,h.defers,h.round,h.inits⟩
theorem findLabelE {l:Nat}:∀ {c r:Code},findLabel c l=some r→codeE G c=true→codeE G r=true:=by
 intro c
 induction c with
 | seq a b iha ihb=>
  intro r h hc
  simp only [codeE,Bool.and_eq_true] at hc
  unfold findLabel at h
  cases ha:findLabel a l with
  | some x=>
   rw [ha] at h
   cases h
   simp only [codeE,Bool.and_eq_true]
   exact ⟨iha ha hc.1,hc.2⟩
  | none=>rw [ha] at h;exact ihb h hc.2
 | label l'=>
  intro r h hc
  unfold findLabel at h
  split at h
  ·cases h;rfl
  ·cases h
 | _=>intro r h;cases h
theorem gotoInE {l:Nat}:∀ {k k':List Item},gotoIn l k=some k'→(∀ it ∈ k,itemE G it=true)→∀ it ∈ k',itemE G it=true:=by
 intro k
 induction k with
 | nil=>intro k' h;cases h
 | cons i k ih=>
  intro k' h hk it hit
  unfold gotoIn at h
  split at h
  ·rename_i body k2 hk2
   cases hk2
   split at h
   ·rename_i rest hr
    cases h
    rcases List.mem_cons.1 hit with rfl | hit
    ·exact findLabelE hr (hk (.inScope body) (by simp))
    ·exact hk it (by simpa using hit)
   ·exact ih h (fun x hx=>hk x (by simp [hx])) it hit
  ·rename_i hk2
   cases hk2
   exact ih h (fun x hx=>hk x (by simp [hx])) it hit
  ·rename_i hk2;cases hk2
theorem FrameE.enter (h:EProg G P) {f:FuncId} (hf:G f=true) (args:Array Value) (k:CallKind):FrameE G P (Frame.enter P f args k):=by
 refine ⟨fun it hit=>?_,(fun d hd=>by cases hd),rfl,h.inits f hf⟩
 simp only [Frame.enter,List.mem_singleton] at hit
 subst hit
 cases hf':P.funcs[f]? with
 | none=>rfl
 | some fn=>
  cases hb:fn.body with
  | none=>simp only [itemE,Option.bind,hb];rfl
  | some c=>simp only [itemE,Option.bind,hb];exact h.bodies f fn c hf hf' hb
theorem callFuncE (h:EProg G P) {f:FuncId} (hf:G f=true) (args:Array Value):Always P (nextE G) (Go.callFunc f args):=by
 intro w es v w1 es1 e
 have e:(match P.funcs[f]? with | none=>_ | some fn=>_:Sem Next).runT P w es=_:=e
 revert e
 cases hf':P.funcs[f]? with
 | none=>intro e;cases e
 | some fn=>
  dsimp only
  rw [h.num f fn hf hf']
  simp only [Bool.false_eq_true,if_false]
  cases hb:fn.body with
  | some c=>intro e;simp only [Option.isNone,Bool.false_eq_true,if_false] at e;cases e;exact hf
  | none=>
   have hn:=h.next f fn hf hf' (by rw [hb];rfl)
   intro e
   simp only [Option.isNone,if_true] at e
   rw [hn] at e
   refine Always.bind (P:=P) (Φ:=nextE G) (s:=Go.mark (.extern f)) (fun _=>?_) _ _ _ _ _ e
   dsimp only
   split
   ·exact Always.bind fun _=>Always.pure trivial
   ·split
    ·exact Always.pure trivial
    ·exact Always.halt
theorem valE {s:Sem Value}:Always P (nextE G) (do Pure.pure (Next.value (← s)):Sem Next):=Always.bind fun _=>Always.pure trivial
theorem unitE {s:Sem Unit}:Always P (nextE G) (do s;Pure.pure Next.skip:Sem Next):=Always.bind fun _=>Always.pure trivial
theorem builtinE (b:Builtin) (a:Array TypeId) (t:TypeId) (c:Array Bool) (x:Array Value) (h:builtinOk b=true):Always P (nextE G) (Go.builtin b a t c x):=by
 unfold Go.builtin
 cases b <;> first | (cases h;done) | exact valE
theorem invokeE (h:EProg G P) (t:Target) (args:Array Value) (ht:targetE G t=true):Always P (nextE G) (Go.invoke t args):=by
 cases t with
 | nil=>cases ht
 | builtin b a t c=>exact builtinE _ _ _ _ _ ht
 | collected _=>cases ht
 | coroexit _=>cases ht
 | fn fn captured=>
  cases fn with
  | func f=>exact callFuncE h ht _
  | _=>cases ht
theorem execOpE (h:EProg G P) (fr:Frame) (o:Oper) (ho:opE G o.op=true):Always P (nextE G) (Go.execOp fr.eval o):=by
 unfold Go.execOp
 cases hop:o.op
 all_goals (rw [hop] at ho;dsimp only)
 all_goals first
  | (cases ho;done)
  | exact valE
  | exact unitE
  | exact Always.pure trivial
  | exact Always.bind fun _=>Always.pure trivial
  | skip
 case nilCheck x=>
  have hv:∀ x:Value,Always P (nextE G) (Pure.pure (Next.value x):Sem Next):=fun x=>Always.pure trivial
  cases fr.eval x
  case pointer o=>
   cases o with
   | none=>exact Always.runtimePanic _
   | some a=>exact hv _
  case nilIface=>exact Always.runtimePanic _
  case nilFunc=>exact Always.runtimePanic _
  case func fn first captured=>
   cases fn
   case method name=>
    dsimp only
    split
    ·exact Always.runtimePanic _
    ·rename_i t1 w1' _
     have hA:Always P (nextE G) (do
       if (← Go.nilAhead ((← Go.program).types.size+Made.depth) t1 w1' name) != some false then
        Go.unsupported (.noEntry "op/nilCheck.the method's receiver behind this interface value is a nil pointer, or cannot be seen to be none, and the arguments act or may panic (ledger 612)")
       Pure.pure (Next.value (Value.func (.method name) first captured)):Sem Next):=by
      refine Always.bind fun _=>Always.bind fun _=>?_
      split
      ·exact Always.bind fun _=>hv _
      ·exact hv _
     exact hA
    ·exact hv _
   all_goals exact hv _
  all_goals exact hv _
 case call c=>
  simp only [opE] at ho
  unfold Go.resolve
  dsimp only
  cases hc:c.callee with
  | builtin b=>rw [hc] at ho;exact invokeE h (.builtin b _ _ _) _ ho
  | invoke r n=>rw [hc] at ho;cases ho
  | value f=>
   rw [hc] at ho
   cases f with
   | func f=>exact invokeE h (.fn (.func f) #[]) _ ho
   | _=>cases ho
 case defer c=>
  simp only [opE] at ho
  unfold Go.resolve
  dsimp only
  cases hc:c.callee with
  | builtin b=>rw [hc] at ho;cases ho
  | invoke r n=>rw [hc] at ho;cases ho
  | value f=>
   rw [hc] at ho
   cases f with
   | func f=>exact Always.pure (P:=P) (Φ:=nextE G) (a:=.defer { target:=.fn (.func f) #[],args:=_ }) ho
   | _=>cases ho
end
end
section
open Go
variable {G:Nat→Bool} {P:Program} {cs:List Frame}
theorem UpRel.goes {fr:Frame} {callers:List Frame} {st:GoStatus} {w:World} {es:Array Event} (hb:zaK fr callers = .normal) (h:FrameE G P fr) (hc:∀ f ∈ callers,FrameE G P f) :
  UpRel G P cs (.go { frame:=fr,callers,status:=st,dying:=none } w es) (.go { frame:=fr,callers:=callers++cs,status:=st,dying:=none } w es):=
 .go { frame:=fr,callers,status:=st,dying:=none } w es ⟨hb,rfl,h,hc⟩
theorem endThrow_up {fr:Frame} {m:String} {w:World} (y:GStep):UpRel G P cs (endThrow fr m w) y:=.dying _ _ _ _ ⟨_,rfl,fun e=>by cases e⟩
theorem endFatal_up {fr:Frame} {callers:List Frame} {m:String} {w:World} (y:GStep):UpRel G P cs (endFatal P fr callers none m w) y:=by
 unfold endFatal
 dsimp only
 split
 ·exact .dying _ _ _ _ ⟨_,rfl,fun e=>by cases e⟩
 ·exact .ended _ _ _ _ (by intro v e;cases e)
 ·exact .ended _ _ _ _ (by intro v e;cases e)
theorem ite_up {c:Bool} {A A' B B':GStep} (hA:UpRel G P cs A A') (hB:UpRel G P cs B B'):UpRel G P cs (if c=true then A else B) (if c=true then A' else B'):=by cases c <;> assumption
theorem apply_up (h:EProg G P) {fr:Frame} {callers:List Frame} (hb:zaK fr callers = .normal) (hfr:FrameE G P fr) (hcs:∀ f ∈ callers,FrameE G P f) {s:Sem Next} (hs:Always P (nextE G) s) (w:World) :
  UpRel G P cs (stepG.apply P true fr callers none s w) (stepG.apply P true fr (callers++cs) none s w):=by
 have hcall:∀ d b r sv k,fr.todo≠.call d b r sv :: k:=fun d b r sv k hx=>by
  have:=hfr.items _ (by rw [hx];exact List.mem_cons_self)
  cases this
 have hcs':∀ x ∈ fr :: callers,FrameE G P x:=fun x hx=>by
  rcases List.mem_cons.1 hx with rfl | hx
  ·exact hfr
  ·exact hcs x hx
 unfold stepG.apply
 dsimp only
 simp only [if_true]
 have hn:=hs w #[]
 revert hn
 generalize s.runT P w #[]=x
 obtain ⟨r,e⟩:=x
 intro hn
 refine UpRel.after _ ?_
 cases r with
 | ok v w1=>
  have hnx:=hn v w1 e rfl
  cases v
  case value v=>exact .goes ((zax callers (zaE _ _)).trans hb) (hfr.finish _) hcs
  case skip=>exact .goes ((zax callers (zaE _ _)).trans hb) (hfr.finish _) hcs
  case enter f args=>
   dsimp only
   split
   ·rename_i hx;exact absurd hx (hcall _ _ _ _ _)
   exact .goes ((botKind_cons _ _ _).trans hb) (FrameE.enter h hnx _ _) hcs'
  case defer d=>
   have hfd:FrameE G P { fr with defers:=d :: fr.defers }:=⟨hfr.items,(fun x hx=>by
    rcases List.mem_cons.1 hx with rfl | hx
    ·exact hnx
    ·exact hfr.defers x hx),hfr.round,hfr.inits⟩
   exact .goes ((zax callers ((zaE _ _).trans rfl)).trans hb) (hfd.finish _) hcs
  case spawn d=>
   dsimp only
   refine ite_up ?_ ?_
   ·exact endThrow_up _
   ·exact .spawn { frame:=fr.finish undef,callers,status:=.running,dying:=none } _ _ _ ⟨(zax callers (zaE _ _)).trans hb,rfl,hfr.finish _,hcs⟩
  all_goals exact hnx.elim
 | halt hh w1=>
  cases hh
  case panic v=>exact .goes ((zax callers (raise_kind _ _)).trans hb) (hfr.raise _) hcs
  case goexit=>exact .goes ((zax callers (raise_kind _ _)).trans hb) (hfr.raise _) hcs
  case blocked=>exact .goes hb hfr hcs
  case waiting=>exact .goes hb hfr hcs
  case exit c=>exact .ended _ _ _ _ (by intro v e;cases e)
  case fatal m=>exact endFatal_up _
  case throw m=>exact endThrow_up _
  case stuck s=>exact .ended _ _ _ _ (by intro v e;cases e)
  case unsupported u=>
   cases u
   case initOrder gg=>
    obtain ⟨o,w2,es2,ho,hne⟩:=h.early fr callers none gg w1
    dsimp only
    rw [ho]
    exact .ended _ _ _ _ hne
   all_goals exact .ended _ _ _ _ (by intro v e;cases e)
theorem doReturn_up {fr:Frame} {callers:List Frame} (hb:zaK fr callers = .normal) (hfr:FrameE G P fr) (hcs:∀ f ∈ callers,FrameE G P f) (v:Value) (w:World) :
    UpRel G P cs (doReturn P true fr callers none v w) (doReturn P true fr (callers++cs) none v w):=by
  cases callers with
  | nil=>
    have hk:fr.kind = .normal:=hb
    have e1:doReturn P true fr [] none v w = .ended (.done v) w:=by
      unfold doReturn
      dsimp only
      rw [hk]
      simp only [Bool.not_true,Bool.false_eq_true,if_false,hfr.inits]
    rw [e1]
    have:=UpRel.ret (G:=G) (P:=P) (cs:=cs) v w #[] fr hk
    rw [show (doReturn P true fr cs none v w).after #[]=doReturn P true fr cs none v w by cases doReturn P true fr cs none v w <;> simp [GStep.after]] at this
    exact this
  | cons c rest=>
    have hc:=hcs c (by simp)
    have hr:∀ f ∈ rest,FrameE G P f:=fun f hf=>hcs f (by simp [hf])
    unfold doReturn
    dsimp only [List.cons_append]
    have hm:∀ m:FrameMode,FrameE G P { c with mode:=m }:=fun m=>⟨hc.items,hc.defers,hc.round,hc.inits⟩
    rw [botKind_cons] at hb
    cases fr.kind
    all_goals first
      | exact .goes ((zax rest (zaE _ _)).trans hb) (hc.finish _) hr
      | exact .goes hb hc hr
      | (refine .goes ((zax rest (by split <;> (try split) <;> rfl)).trans hb) ?_ hr
         split
         · split
           · exact hm _
           · exact hm _
         · exact hc)
theorem exec_up (h:EProg G P) {fr:Frame} {callers:List Frame} (hb:zaK fr callers = .normal) (hfr:FrameE G P fr) (hcs:∀ f ∈ callers,FrameE G P f) (w:World) :
  UpRel G P cs (stepG.exec P true true fr callers none w) (stepG.exec P true true fr (callers++cs) none w):=by
 have hds:=hfr.defers
 have hits:=hfr.items
 have hro:=hfr.round
 have hin:=hfr.inits
 obtain ⟨fn,tmps,todo,defers,mode,kind,ro⟩:=fr
 simp only at hds hits hro hin
 subst hro
 have to0:∀ (todo:List Item) (m:FrameMode),(∀ it ∈ todo,itemE G it=true)→UpRel G P cs (.go { frame:=⟨fn,tmps,todo,defers,m,kind,none⟩,callers,status:=.running,dying:=none } w) (.go { frame:=⟨fn,tmps,todo,defers,m,kind,none⟩,callers:=callers++cs,status:=.running,dying:=none } w):=
  fun todo m ht=>.goes (by exact hb) ⟨ht,hds,rfl,hin⟩ hcs
 unfold stepG.exec
 dsimp only
 generalize Frame.pos P _=ps
 cases todo with
 | nil=>exact to0 _ _ hits
 | cons it k=>
  have hk:∀ it ∈ k,itemE G it=true:=fun it hit=>hits it (by simp [hit])
  have hi:=hits it (by simp)
  have to1:∀ todo,(∀ it ∈ todo,itemE G it=true)→UpRel G P cs (.go { frame:=⟨fn,tmps,todo,defers,mode,kind,none⟩,callers,status:=.running,dying:=none } w) (.go { frame:=⟨fn,tmps,todo,defers,mode,kind,none⟩,callers:=callers++cs,status:=.running,dying:=none } w):=fun todo ht=>to0 todo mode ht
  have to2:∀ (a b:Item),itemE G a=true→itemE G b=true→∀ it ∈ a :: b :: k,itemE G it=true:=fun a b ha hb it hit=>by
   simp only [List.mem_cons] at hit
   rcases hit with rfl | rfl | hit
   ·exact ha
   ·exact hb
   ·exact hk it hit
  have to3:∀ (a:Item),itemE G a=true→∀ it ∈ a :: k,itemE G it=true:=fun a ha it hit=>by
   simp only [List.mem_cons] at hit
   rcases hit with rfl | hit
   ·exact ha
   ·exact hk it hit
  cases it with
  | inBlock id=>exact to1 _ hk
  | inScope id=>exact to1 _ hk
  | inLoop b=>exact to1 _ (to2 _ _ hi hi)
  | inRangeFunc l=>cases hi
  | call d b r s=>cases hi
  | extern r a=>cases hi
  | beginRound=>cases hi
  | endRangeFunc l=>cases hi
  | inRegion ops l=>
   cases l with
   | nil=>exact to1 _ hk
   | cons i rest=>
    dsimp only
    split
    ·unfold stepG.oper
     simp only [Frame.oper?]
     cases ho:ops[i]? with
     | none=>exact .ended _ _ _ _ (by intro v e;cases e)
     | some o=>
      have hop:opE G o.op=true:=by
       simp only [itemE,Array.all_eq_true_iff_forall_mem] at hi
       exact hi o (Array.mem_of_getElem? ho)
      exact apply_up h hb hfr hcs (execOpE h _ o hop) w
    ·exact .goes ((zax callers (zaE _ _)).trans hb) (hfr.finish _) hcs
  | code c=>
   cases c with
   | skip=>exact to1 _ hk
   | label l=>exact to1 _ hk
   | seq a b=>
    simp only [itemE,codeE,Bool.and_eq_true] at hi
    exact to1 _ (to2 _ _ hi.1 hi.2)
   | cond c a b=>
    simp only [itemE,codeE,Bool.and_eq_true] at hi
    dsimp only
    have he:∀ v:Value,UpRel G P cs
      (match v with | .bool b1=>.go { frame:=⟨fn,tmps,.code (if b1=true then a else b) :: k,defers,mode,kind,none⟩,callers,status:=.running,dying:=none } w | _=>.ended (.stuck "cond: bool expected" ps) w)
      (match v with | .bool b1=>.go { frame:=⟨fn,tmps,.code (if b1=true then a else b) :: k,defers,mode,kind,none⟩,callers:=callers++cs,status:=.running,dying:=none } w | _=>.ended (.stuck "cond: bool expected" ps) w):=by
     intro v
     cases v
     case bool b1=>
      cases b1
      ·exact to1 _ (to3 (.code b) hi.2)
      ·exact to1 _ (to3 (.code a) hi.1)
     all_goals exact .ended _ _ _ _ (by intro v e;cases e)
    exact he _
   | block id b=>exact to1 _ (to2 (.code b) (.inBlock id) hi rfl)
   | loop b=>exact to1 _ (to2 (.code b) (.inLoop b) hi hi)
   | scope b=>exact to1 _ (to2 (.code b) (.inScope b) hi hi)
   | refuse why=>exact .ended _ _ _ _ (by intro v e;cases e)
   | ret=>exact to0 _ _ hits
   | exit id=>
    dsimp only
    cases hx:exitTo id k with
    | some k'=>exact to1 _ (fun it hit=>hk it (exitTo_ok hx it hit))
    | none=>exact .ended _ _ _ _ (by intro v e;cases e)
   | goto id=>
    dsimp only
    cases hx:gotoIn id k with
    | some k'=>exact to1 _ (gotoInE hx hk)
    | none=>exact .ended _ _ _ _ (by intro v e;cases e)
   | region id ops d=>
    have hops:itemE G (.inRegion ops [])=true:=hi
    dsimp only
    cases d with
    | false=>exact to1 _ (to3 (.inRegion ops (List.range ops.size)) hops)
    | true=>
     simp only [Bool.not_true,Bool.false_eq_true,if_false,Go.choose,Sem.run,Question.forced]
     exact .goes (by exact hb) ⟨to3 (.inRegion ops _) hops,hds,rfl,hin⟩ hcs
   | rangeFunc f ps2 a b=>cases hi
theorem callDeferred_up (h:EProg G P) {fr:Frame} {callers:List Frame} (hb:zaK fr callers = .normal) (hfr:FrameE G P fr) (hcs:∀ f ∈ callers,FrameE G P f) (d:Deferred) (hd:targetE G d.target=true) (w:World) :
  UpRel G P cs (callDeferred P fr callers none d w) (callDeferred P fr (callers++cs) none d w):=by
 have hcs':∀ x ∈ fr :: callers,FrameE G P x:=fun x hx=>by
  rcases List.mem_cons.1 hx with rfl | hx
  ·exact hfr
  ·exact hcs x hx
 unfold callDeferred
 refine ite_up (.ended _ _ _ _ (by intro v e;cases e)) ?_
 dsimp only
 have hn:=invokeE h d.target d.args hd w #[]
 revert hn
 generalize (Go.invoke d.target d.args).runT P w #[]=x
 obtain ⟨r,e⟩:=x
 intro hn
 refine UpRel.after _ ?_
 have hback:FrameE G P { fr with defers:=d :: fr.defers }:=⟨hfr.items,(fun x hx=>by
  rcases List.mem_cons.1 hx with rfl | hx
  ·exact hd
  ·exact hfr.defers x hx),hfr.round,hfr.inits⟩
 cases r with
 | ok v w1=>
  have hnx:=hn v w1 e rfl
  cases v
  case enter f args=>exact .goes ((botKind_cons _ _ _).trans hb) (FrameE.enter h hnx _ _) hcs'
  case value v=>exact .goes hb hfr hcs
  case skip=>exact .goes hb hfr hcs
  case defer d=>exact .goes hb hfr hcs
  case spawn d=>exact .goes hb hfr hcs
  all_goals exact hnx.elim
 | halt hh w1=>
  cases hh
  case panic v=>exact .goes ((zax callers (raise_kind _ _)).trans hb) (hfr.raise _) hcs
  case goexit=>exact .goes ((zax callers (raise_kind _ _)).trans hb) (hfr.raise _) hcs
  case blocked=>exact .goes (by exact hb) hback hcs
  case waiting=>exact .goes (by exact hb) hback hcs
  case exit c=>exact .ended _ _ _ _ (by intro v e;cases e)
  case fatal m=>exact endFatal_up _
  case throw m=>exact endThrow_up _
  case stuck s=>exact .ended _ _ _ _ (by intro v e;cases e)
  case unsupported u=>exact .ended _ _ _ _ (by intro v e;cases e)
theorem unwind_up (h:EProg G P) {fr:Frame} {callers:List Frame} (hb:zaK fr callers = .normal) (hfr:FrameE G P fr) (hcs:∀ f ∈ callers,FrameE G P f) (w:World) :
  UpRel G P cs (unwind P true fr callers none w) (unwind P true fr (callers++cs) none w):=by
 have hcat:fr.catches P=false:=by
  unfold Frame.catches
  split
  ·rename_i hx
   have:=hfr.items _ (by rw [hx];exact List.mem_cons_self)
   cases this
  ·rfl
 unfold unwind
 cases hdf:fr.defers with
 | cons d ds=>
  have hds:=hfr.defers
  rw [hdf] at hds
  have hd0:=hds d (by simp)
  have other:=callDeferred_up (cs:=cs) h (fr:={ fr with defers:=ds }) (by exact hb) ⟨hfr.items,(fun x hx=>hds x (by simp [hx])),hfr.round,hfr.inits⟩ hcs d hd0 w
  obtain ⟨tg,ar⟩:=d
  cases tg with
  | collected block=>cases hd0
  | _=>exact other
 | nil=>
  dsimp only
  cases hm:fr.mode with
  | run=>exact .ended _ _ _ _ (by intro v e;cases e)
  | panicking chain=>
   dsimp only
   rw [hcat]
   simp only [Bool.false_eq_true,if_false]
   cases callers with
   | nil=>
    dsimp only
    split
    ·exact .finished _ _ _ _ rfl
    ·split
     ·exact .dying _ _ _ _ ⟨_,rfl,fun e=>by cases e⟩
     ·exact .ended _ _ _ _ (by intro v e;cases e)
     ·exact .ended _ _ _ _ (by intro v e;cases e)
   | cons c rest=>
    rw [botKind_cons] at hb
    exact .goes ((zax rest (raise_kind _ _)).trans hb) ((hcs c (by simp)).raise _) (fun f hf=>hcs f (by simp [hf]))
  | returning=>
   dsimp only
   cases hf:P.funcs[fr.fn]? with
   | none=>exact doReturn_up hb hfr hcs _ _
   | some fn=>
    dsimp only
    generalize (results fn fr.tmps).runT P w #[]=x
    obtain ⟨r,e⟩:=x
    refine UpRel.after _ ?_
    cases r with
    | ok v w1=>exact doReturn_up hb hfr hcs _ _
    | halt hh w1=>cases hh <;> exact .ended _ _ _ _ (by intro v e;cases e)
theorem stepG_up (h:EProg G P) {g:Goroutine} (hg:EOk G P g) (w:World):UpRel G P cs (stepG P true g w) (stepG P true (ups cs g) w):=by
 have hb:=hg.bot
 have hd:=hg.dying
 have hfr:=hg.frame
 have hcs:=hg.callers
 obtain ⟨fr,callers,st,dying,offers⟩:=g
 simp only at hb hd hfr hcs
 subst hd
 unfold stepG ups
 dsimp only
 cases hm:fr.mode with
 | run=>exact exec_up h hb hfr hcs w
 | panicking c=>exact unwind_up h hb hfr hcs w
 | returning=>exact unwind_up h hb hfr hcs w
end
section
open Go
def OkJ:GStep→Prop
 | .go g _ _=>Doomed g
 | .spawn g _ _ _=>Doomed g
 | .ended o _ _=>∀ v,o≠.done v
 | _=>True
theorem OkJ.after {es:Array Event} {x:GStep} (h:OkJ x):OkJ (x.after es):=by cases x <;> exact h
theorem OkJ.dieOf {fr:Frame} {ahead:List ByteArray} {m:String} {b:Bool} {w:World}:OkJ (dieOf fr ahead m b w):=⟨_,rfl,fun h=>by cases h⟩
theorem OkJ.endWith {w:World} {fd:Nat} {text:ByteArray} {o:Outcome} (ho:∀ v,o≠.done v):OkJ (endWith w fd text o):=by
 obtain ⟨o',w',he,h⟩:=endWith_ended w fd text o
 rw [he]
 intro v hv
 rcases h with rfl | ⟨u,s,rfl⟩
 ·exact ho v hv
 ·cases hv
theorem OkJ.endPrinting {P:Program} {fr:Frame} {v:Value} {w:World}:OkJ (endPrinting P fr v w):=by
 unfold Go.endPrinting
 dsimp only
 split
 ·exact OkJ.dieOf
 ·intro v hv;cases hv
theorem OkJ.endFatal {P:Program} {fr:Frame} {callers:List Frame} {dy:Option Dying} {m:String} {w:World}:OkJ (endFatal P fr callers dy m w):=by
 unfold Go.endFatal
 dsimp only
 split
 ·exact OkJ.dieOf
 ·intro v hv;cases hv
 ·intro v hv;cases hv
theorem OkJ.writeOn {P:Program} {fr:Frame} {d:Dying} {f:Fatal} {w:World} (hc:d.calling=false):OkJ (writeOn P fr d f w):=by
 unfold Go.writeOn
 dsimp only
 split
 ·intro v hv;cases hv
 ·split
  ·exact ⟨_,rfl,fun h=>by simp [hc] at h⟩
  ·exact ⟨_,rfl,fun h=>by simp [hc] at h⟩
  ·intro v hv;cases hv
  ·intro v hv;cases hv
theorem OkJ.die {P:Program} {fr:Frame} {d:Dying} {w:World} (hc:d.calling=false):OkJ (die P fr d w):=by
 unfold Go.die
 split
 ·exact OkJ.writeOn hc
 ·split
  ·split
   ·exact ⟨_,rfl,fun h=>by simp [hc] at h⟩
   ·exact OkJ.endWith (fun v hv=>by cases hv)
  ·dsimp only
   split
   ·exact ⟨_,rfl,fun h=>by simp [hc] at h⟩
   ·split
    ·exact ⟨_,rfl,fun h=>by simp [hc] at h⟩
    ·intro v hv;cases hv
   ·refine OkJ.after ?_
    split
    ·exact ⟨_,rfl,fun _=>rfl⟩
    ·exact ⟨_,rfl,fun h=>by simp [hc] at h⟩
    ·intro v hv;cases hv
    ·exact OkJ.endPrinting
    ·intro v hv;cases hv
   ·intro v hv;cases hv
section
variable {P:Program} {d:Dying}
theorem OkJ.same {fr fr':Frame} {callers:List Frame} {st:GoStatus} {w:World} {es:Array Event} (hb:zaK fr callers = .report) (hk:fr'.kind=fr.kind) :
  OkJ (.go { frame:=fr',callers,status:=st,dying:=some d } w es):=⟨d,rfl,fun _=>(zax callers hk).trans hb⟩
theorem OkJ.push {fr x:Frame} {callers:List Frame} {st:GoStatus} {w:World} {es:Array Event} (hb:zaK fr callers = .report) :
  OkJ (.go { frame:=x,callers:=fr :: callers,status:=st,dying:=some d } w es):=⟨d,rfl,fun _=>(botKind_cons x fr callers).trans hb⟩
theorem tryRecover_kinds:∀ {callers:List Frame} {fr:Frame} {v:Value} {cs:List Frame},tryRecover fr callers=some (v,cs)→cs.map (·.kind)=callers.map (·.kind):=by
 intro callers
 induction callers with
 | nil=>intro fr v cs h;unfold tryRecover at h;split at h <;> first | (rename_i h1;cases h1) | cases h
 | cons c rest ih=>
  intro fr v cs h
  unfold tryRecover at h
  split at h
  ·rename_i h1
   cases h1
   split at h
   ·cases h;rfl
   ·cases h
  ·rename_i h1
   cases h1
   cases hr:tryRecover c rest with
   | none=>rw [hr] at h;cases h
   | some x=>
    obtain ⟨v2,r2⟩:=x
    rw [hr] at h
    cases h
    simp [ih hr]
  ·cases h
theorem tryRecoverLoop_kinds:∀ {callers:List Frame} {l:Nat} {v:Value} {cs:List Frame},tryRecoverLoop l callers=some (v,cs)→cs.map (·.kind)=callers.map (·.kind):=by
 intro callers
 induction callers with
 | nil=>intro l v cs h;cases h
 | cons c rest ih=>
  intro l v cs h
  unfold tryRecoverLoop at h
  rw [Option.map_eq_some_iff] at h
  obtain ⟨⟨v2,r2⟩,h1,h2⟩:=h
  cases h2
  split at h1
  ·simp [ih h1]
  ·split at h1
   ·simp [tryRecover_kinds h1]
   ·simp [ih h1]
  ·simp [ih h1]
theorem botKind_kinds {fr:Frame} {cs callers:List Frame} (h:cs.map (·.kind)=callers.map (·.kind)):zaK fr cs=zaK fr callers:=by
 have:(cs.map (·.kind)).getLast? = (callers.map (·.kind)).getLast?:=by rw [h]
 rw [List.getLast?_map,List.getLast?_map] at this
 unfold zaK
 cases h1:cs.getLast? <;> cases h2:callers.getLast? <;> simp_all
theorem ite_ok {c:Bool} {A B:GStep} (hA:OkJ A) (hB:OkJ B):OkJ (if c=true then A else B):=by cases c <;> assumption
theorem OkJ.apply (he:∀ fr cs d g w,∃ o w1 es,Go.early P fr cs d g w = .ended o w1 es∧∀ v,o≠.done v) {fr:Frame} {callers:List Frame} (hb:zaK fr callers = .report) (s:Sem Next) (w:World):OkJ (stepG.apply P true fr callers (some d) s w):=by
 unfold stepG.apply
 dsimp only
 simp only [if_true]
 generalize s.runT P w #[]=x
 obtain ⟨r,e⟩:=x
 refine OkJ.after ?_
 cases r with
 | ok v w1=>
  cases v
  case value v=>exact .same hb (zaE _ _)
  case skip=>exact .same hb (zaE _ _)
  case enter f args=>exact .push hb
  case callThen dd rs sv wr=>
   dsimp only
   split
   ·exact .same hb rfl
   ·exact .push hb
  case row r a=>
   dsimp only
   split
   ·exact .same hb rfl
   ·exact .push hb
  case stack r a=>
   dsimp only
   split
   ·exact .same hb rfl
   ·exact .push hb
  case round l f t a b=>exact .push hb
  case defer dd=>exact .same hb ((zaE _ _).trans rfl)
  case recover=>
   dsimp only
   have hk:∀ (o:Option (Value×List Frame)),(∀ v cs,o=some (v,cs)→cs.map (·.kind)=callers.map (·.kind))→OkJ (match o with
     | some (v,callers)=>.go { frame:=fr.finish v,callers,status:=.running,dying:=some d } w1
     | none=>.go { frame:=fr.finish .nilIface,callers,status:=.running,dying:=some d } w1):=by
    intro o ho
    cases o with
    | none=>exact .same hb (zaE _ _)
    | some x=>
     obtain ⟨v,cs⟩:=x
     exact ⟨d,rfl,fun _=>((zax cs (zaE fr v)).trans (botKind_kinds (ho v cs rfl))).trans hb⟩
   refine hk _ ?_
   intro v cs
   cases fr.roundOf with
   | none=>exact tryRecover_kinds
   | some l=>
    dsimp only
    split
    ·exact tryRecover_kinds
    ·exact tryRecoverLoop_kinds
  case sleep t=>exact .same hb (zaE _ _)
  case spawn dd=>
   refine ite_ok .dieOf ?_
   exact ⟨d,rfl,fun _=>(zax callers (zaE _ _)).trans hb⟩
  all_goals trivial
 | halt hh w1=>
  cases hh
  case panic v=>exact .same hb (raise_kind _ _)
  case goexit=>exact .same hb (raise_kind _ _)
  case blocked=>exact .same hb rfl
  case waiting=>exact .same hb rfl
  case exit c=>intro v e;cases e
  case fatal m=>exact .endFatal
  case throw m=>exact .dieOf
  case stuck s=>intro v e;cases e
  case unsupported u=>
   cases u
   case initOrder gg=>
    obtain ⟨o,w2,es2,ho,hne⟩:=he fr callers (some d) gg w1
    dsimp only
    rw [ho]
    exact hne
   all_goals (intro v e;cases e)
theorem OkJ.doReturn {fr:Frame} {callers:List Frame} (hb:zaK fr callers = .report) (v:Value) (w:World):OkJ (doReturn P true fr callers (some d) v w):=by
  cases callers with
  | nil=>
    have hk:fr.kind = .report:=hb
    unfold Go.doReturn
    dsimp only
    rw [hk]
    cases v
    case string s=>exact ⟨_,rfl,fun h=>by cases h⟩
    all_goals (intro v e;cases e)
  | cons c rest=>
    have hc:∀ c':Frame,c'.kind=c.kind→OkJ (.go { frame:=c',callers:=rest,status:=.running,dying:=some d } w):=fun c' hk=>⟨d,rfl,fun _=>by
      rw [botKind_cons] at hb
      exact (zax rest hk).trans hb⟩
    unfold Go.doReturn
    dsimp only
    cases fr.kind
    all_goals first
      | exact hc _ (zaE _ _)
      | exact hc _ rfl
      | (refine hc _ ?_
         split
         · split <;> rfl
         · rfl)
theorem OkJ.exec (he:∀ fr cs d g w,∃ o w1 es,Go.early P fr cs d g w = .ended o w1 es∧∀ v,o≠.done v) {fr:Frame} {callers:List Frame} (hb:zaK fr callers = .report) (w:World):OkJ (stepG.exec P true true fr callers (some d) w):=by
 have lost:∀ o w1 es,(∀ v,o≠.done v)→OkJ (.ended o w1 es):=fun _ _ _ h=>h
 have leave:∀ (jump:Option Code) (s1 s2:String) (b:GStep),OkJ b→OkJ (match fr.roundOf with
   | none=>b
   | some l=>GStep.after (seen P fr.fn ((Instr.endRound l jump).runT P w #[]).2) (match ((Instr.endRound l jump).runT P w #[]).1 with
    | .ok v w=>Go.doReturn P true fr callers (some d) v w
    | .halt _ w=>.ended (.stuck s1 s2) w)):=by
  intro jump s1 s2 b h
  cases fr.roundOf with
  | none=>exact h
  | some l=>
   refine OkJ.after ?_
   generalize ((Instr.endRound l jump).runT P w #[]).1=r
   cases r with
   | ok v w1=>exact .doReturn hb _ _
   | halt hh w1=>intro v e;cases e
 unfold stepG.exec
 dsimp only
 split
 all_goals first
  | exact .apply he hb _ _
  | exact .same hb rfl
  | (intro v e;cases e;done)
  | exact leave _ _ _ _ (.same hb rfl)
  | exact leave _ _ _ _ (lost _ _ _ (by intro v e;cases e))
  | skip
 ·
  split
  ·exact .same hb rfl
  ·intro v e;cases e
 ·
  rename_i id k hk
  cases hx:exitTo id k with
  | some k'=>exact OkJ.same hb rfl
  | none=>
   dsimp only [Option.elim]
   exact leave _ _ _ _ (lost _ _ _ (by intro v e;cases e))
 ·
  rename_i id k hk
  cases hx:gotoIn id k with
  | some k'=>exact OkJ.same hb rfl
  | none=>
   dsimp only [Option.elim]
   exact leave _ _ _ _ (lost _ _ _ (by intro v e;cases e))
 ·
  refine OkJ.after ?_
  split
  ·exact .apply he (by exact hb) _ _
  ·intro v e;cases e
 ·
  refine OkJ.after ?_
  split
  ·exact .same hb rfl
  ·exact .same hb (raise_kind _ _)
  ·intro v e;cases e
 ·
  rename_i row args k hk
  cases Extern.next row with
  | none=>intro v e;cases e
  | some e=>exact .apply he hb _ _
 ·
  refine ite_ok (.same hb rfl) ?_
  split
  ·exact .same hb rfl
  ·intro v e;cases e
 ·
  refine ite_ok ?_ (.same hb (zaE _ _))
  unfold stepG.oper
  split
  ·intro v e;cases e
  ·split
   ·exact .apply he hb _ _
   ·exact .apply he hb _ _
theorem OkJ.callDeferred {fr:Frame} {callers:List Frame} (hb:zaK fr callers = .report) (dd:Deferred) (w:World):OkJ (callDeferred P fr callers (some d) dd w):=by
 unfold Go.callDeferred
 refine ite_ok (by intro v e;cases e) ?_
 dsimp only
 generalize (Go.invoke dd.target dd.args).runT P w #[]=x
 obtain ⟨r,e⟩:=x
 refine OkJ.after ?_
 cases r with
 | ok v w1=>
  cases v
  case enter f args=>exact .push hb
  case round l f t a b=>exact .push hb
  case callThen dd rs sv wr=>exact .push hb
  case row r a=>exact .push hb
  case recover=>
   dsimp only
   split
   ·rename_i hr
    exact ⟨d,rfl,fun _=>(botKind_kinds (tryRecover_kinds hr)).trans hb⟩
   ·exact .same hb rfl
  case coroswitch c x=>cases x <;> first | trivial | (intro v e;cases e)
  case alone o v=>cases o <;> first | trivial | (intro v e;cases e)
  all_goals first
   | exact OkJ.same hb rfl
   | trivial
   | (intro v e;cases e;done)
 | halt hh w1=>
  cases hh
  case panic v=>exact .same hb (raise_kind _ _)
  case goexit=>exact .same hb (raise_kind _ _)
  case blocked=>exact .same hb rfl
  case waiting=>exact .same hb rfl
  case exit c=>intro v e;cases e
  case fatal m=>exact .endFatal
  case throw m=>exact .dieOf
  case stuck s=>intro v e;cases e
  case unsupported u=>intro v e;cases e
theorem OkJ.unwind {fr:Frame} {callers:List Frame} (hb:zaK fr callers = .report) (w:World):OkJ (unwind P true fr callers (some d) w):=by
 unfold Go.unwind
 split
 ·refine OkJ.after ?_
  split
  ·exact .same hb rfl
  ·intro v e;cases e
 ·exact .callDeferred (by exact hb) _ _
 ·split
  ·intro v e;cases e
  ·refine ite_ok (by intro v e;cases e) ?_
   cases callers with
   | cons c rest=>
    rw [botKind_cons] at hb
    exact ⟨d,rfl,fun _=>(zax rest (raise_kind _ _)).trans hb⟩
   | nil=>
    dsimp only
    split
    ·exact .endPrinting
    ·intro v e;cases e
  ·split
   ·exact .doReturn hb _ _
   ·refine OkJ.after ?_
    split
    ·exact .doReturn hb _ _
    ·intro v e;cases e
    ·intro v e;cases e
theorem stepG_doomed (he:∀ fr cs d g w,∃ o w1 es,Go.early P fr cs d g w = .ended o w1 es∧∀ v,o≠.done v) {g:Goroutine} (hg:Doomed g) (w:World):OkJ (stepG P true g w):=by
 obtain ⟨d,hd,hb⟩:=hg
 obtain ⟨fr,callers,st,dying,offers⟩:=g
 simp only at hd hb
 subst hd
 cases hc:d.calling with
 | false=>
  have e:stepG P true { frame:=fr,callers:=callers,status:=st,dying:=some d,offers:=offers } w=Go.die P fr d w:=by
   obtain ⟨todo,texts,calling,pending,re,hand,fatal⟩:=d
   simp only at hc
   subst hc
   simp [stepG]
  rw [e]
  exact .die hc
 | true=>
  obtain ⟨todo,texts,calling,pending,re,hand,fatal⟩:=d
  simp only at hc
  subst hc
  have hb:=hb rfl
  unfold stepG
  dsimp only
  cases hm:fr.mode with
  | run=>exact .exec he hb w
  | panicking c=>exact .unwind hb w
  | returning=>exact .unwind hb w
end
end
section
open Go Go.Conc Go.ConcN
open Go.ConcR (KK WgAt stA smA rd wr mk Payload DC0 Bk g_of_ofEvents)
theorem woken_eq (P:Program) (g g':Goroutine) (w:World) (a:Goroutine):∃ st,woken P g g' w a = { a with status:=st }:=by
 unfold woken
 split
 ·unfold Goroutine.again
  split
  ·dsimp only
   split
   ·exact ⟨_,rfl⟩
   ·exact ⟨_,rfl⟩
  ·exact ⟨_,rfl⟩
  ·exact ⟨_,rfl⟩
  ·exact ⟨_,rfl⟩
 ·exact ⟨a.status,rfl⟩
theorem woken_ups (P:Program) (g g':Goroutine) (w:World) (a:Goroutine) (cs:List Frame):woken P g g' w (ups cs a)=ups cs (woken P g g' w a):=by
 unfold woken
 split
 ·unfold Goroutine.again ups
  dsimp only
  split
  ·split <;> rfl
  ·rfl
  ·rfl
  ·rfl
 ·rfl
section
variable [Payload]
structure Fam (P:Program) (ty:TypeId) (Wg C n:Nat) (Own Rd:Nat→Loc→Prop) (Lw:Nat→Nat) (val:Nat→Value) (vals:List Value) (AnchW:Goroutine→World→Prop) (Post:Value→World→Prop):Prop where
 apart:Apart (ShN Wg) Own Rd
 geo:Geo Wg C Lw
 small:n<2147483648
 run:∀ g w,AnchW g w→g.status = .running
 anch:∀ g w,AnchW g w→∃ m,Goes P true (RC ty Wg C) (DP Wg Own Rd n (Lw n)) (AtW1 P ty Wg C n Own Rd (Lw n) vals AnchW Post) m g w
 len:vals.length=n
 get:∀ i,i<n→vals[i]? = some (val i)
variable {P:Program} {ty:TypeId} {Wg C n:Nat} {Own Rd:Nat→Loc→Prop} {Lw:Nat→Nat} {val:Nat→Value} {vals:List Value} {AnchW:Goroutine→World→Prop} {Post:Value→World→Prop}
omit [Payload] in
theorem crowd_inj {gs gs':Array Goroutine} {w w':World} {sl sl':Option (Nat×Nat)} (h:crowd gs w sl=crowd gs' w' sl'):gs=gs'∧w=w'∧sl=sl':=by
 unfold crowd at h
 injection h with e1 e2 e3
 injection e3 with e4 e5 e6
 exact ⟨e2,e1,e6⟩
theorem inv_at {μ:Nat×Nat} {gs:Array Goroutine} {w:World} {sl:Option (Nat×Nat)} {t:Trace} (h:(Inv P ty Wg C n Own Rd Lw val vals AnchW Post) μ (crowd gs w sl) t) (d:Nat) (sl':Option (Nat×Nat)):(Inv P ty Wg C n Own Rd Lw val vals AnchW Post) μ (crowd gs (w.at d) sl') t:=by
 obtain ⟨gs1,w1,sl1,j,D,tag,f0,d0,a,st,sm,e,ha,hcs,hcom,hwg,hmode,hacq,hμ⟩:=h
 obtain ⟨rfl,rfl,rfl⟩:=crowd_inj e
 exact ⟨gs,w.at d,sl',j,D,tag,f0,d0,a,st,sm,rfl,ha,hcs.rely (RC.at w d),hcom.at d,hwg,hmode,hacq,hμ⟩
theorem inv_awake (F:Fam P ty Wg C n Own Rd Lw val vals AnchW Post) {μ:Nat×Nat} {gs:Array Goroutine} {w:World} {sl:Option (Nat×Nat)} {t:Trace} (h:(Inv P ty Wg C n Own Rd Lw val vals AnchW Post) μ (crowd gs w sl) t) :
  (∀ g ∈ gs,awake g)∧(∃ (i:Nat) (g:Goroutine),gs[i]? = some g∧g.status = .running)∧(∀ a,gs[0]? = some a→a.status = .running∨a.status = .blocked)∧0<gs.size∧(∀ (i:Nat) (op:MemOp),t[i]? = some op→op.g<gs.size):=by
 obtain ⟨gs1,w1,sl1,j,D,tag,f0,d0,a,st,sm,e,ha,hcs,hcom,hwg,hmode,hacq,hμ⟩:=h
 obtain ⟨rfl,rfl,rfl⟩:=crowd_inj e
 refine ⟨all_awake F.run ha hcs hcom,someone_runs F.run ha hcs hcom hmode,fun b hb=>?_,by rw [hcom.size];omega,fun i op ho=>by rw [hcom.size];have:=hcom.ct.gs i op ho;omega⟩
 rw [ha] at hb
 cases hb
 exact (hcs.status F.run).imp (·.1) (·.1)
theorem inv_slip (F:Fam P ty Wg C n Own Rd Lw val vals AnchW Post) {μ:Nat×Nat} {gs:Array Goroutine} {w:World} {sl:Option (Nat×Nat)} {t:Trace} (h:(Inv P ty Wg C n Own Rd Lw val vals AnchW Post) μ (crowd gs w sl) t) (g g':Goroutine):∃ μ',(Inv P ty Wg C n Own Rd Lw val vals AnchW Post) μ' (crowd (gs.map (woken P g g' w)) w sl) t:=by
 obtain ⟨gs1,w1,sl1,j,D,tag,f0,d0,a,st,sm,e,ha,hcs,hcom,hwg,hmode,hacq,hμ⟩:=h
 obtain ⟨rfl,rfl,rfl⟩:=crowd_inj e
 obtain ⟨tag',f',hcs',hf',htag,hwk⟩:=hcs.wokenBy F.run (RC.refl w) g g'
 refine ⟨_,_,w,sl,j,D,tag',f',d0,woken P g g' w a,st,sm,rfl,by rw [Array.getElem?_map,ha];rfl,hcs',⟨by rw [Array.size_map];exact hcom.size,fun i hi=>?_,hcom.ct,hcom.norel,hcom.deaf0,hcom.deafW,hcom.rel,hcom.has,hcom.pay⟩,hwg,hmode.retag htag,fun e=>?_,rfl⟩
 ·obtain ⟨x,hx,hs⟩:=hcom.wk i hi
  exact ⟨x,by rw [Array.getElem?_map,hx,Option.map_some,hs.woken],hs⟩
 ·rcases htag with rfl | ⟨_,rfl⟩
  ·exact hacq e
  ·cases e
theorem inv_worker (F:Fam P ty Wg C n Own Rd Lw val vals AnchW Post) {μ:Nat×Nat} {gs:Array Goroutine} {w:World} {sl:Option (Nat×Nat)} {t:Trace} (h:(Inv P ty Wg C n Own Rd Lw val vals AnchW Post) μ (crowd gs w sl) t) {i:Nat} {g:Goroutine} (hg:gs[i+1]? = some g) (hrun:g.status = .running) :
  ∃ g' w' es μ',stepG P false g w = .go g' w' es∧WKind Wg Own Rd (i+1) t g.frame.fn g.frame.place es∧Lt2 μ' μ∧(Inv P ty Wg C n Own Rd Lw val vals AnchW Post) μ' (crowd ((gs.map (woken P g g' w')).setIfInBounds (i+1) g') w' sl) (t++MemOp.ofEvents (i+1) g.frame.fn g.frame.place es):=by
 obtain ⟨gs1,w1,sl1,j,D,tag,f0,d0,a,st,sm,e,ha,hcs,hcom,hwg,hmode,hacq,rfl⟩:=h
 obtain ⟨rfl,rfl,rfl⟩:=crowd_inj e
 have hi:i<j:=by have:=(Array.getElem?_eq_some_iff.1 hg).1;rw [hcom.size] at this;omega
 obtain ⟨g',w',es,hgo,_,hk⟩:=goWorker F.geo F.small hcom hwg hmode hcs.bound hi hg hrun
 obtain ⟨m₁,ops,μ',h1,h2,h3⟩:=stepWorker (sl:=sl) F.apart F.geo F.run F.small ha hcs hcom hwg hmode hacq hi hg hrun
 have h4:=runT_crowd_go (P:=P) (sl:=sl) (i:=i+1) hg (by simpa using hgo)
 rw [h1] at h4
 simp only [Prod.mk.injEq,Stepped.next.injEq] at h4
 obtain ⟨rfl,rfl⟩:=h4
 exact ⟨g',w',es,μ',hgo,hk,h2,h3⟩
structure Fin0 (Wg C n:Nat) (Own Rd:Nat→Loc→Prop) (P:Program) (Post:Value→World→Prop) (gs:Array Goroutine) (w:World) (t:Trace) (v:Value):Prop where
 size:gs.size=n+1
 ct:CT (ShN Wg) Own Rd t n
 norel:NoRelease (Go.ConcR.stA Wg) t
 acq:AcqAll Wg n t
 deaf:Deaf t 0=0
 quits:∀ i,i<n→∃ g q,gs[i+1]? = some g∧QuitsD P q (Deaf t (i+1)) g
 post:Post v w
theorem inv_starter (F:Fam P ty Wg C n Own Rd Lw val vals AnchW Post) {μ:Nat×Nat} {gs:Array Goroutine} {w:World} {sl:Option (Nat×Nat)} {t:Trace} (h:(Inv P ty Wg C n Own Rd Lw val vals AnchW Post) μ (crowd gs w sl) t) {a:Goroutine} (ha:gs[0]? = some a) (hrun:a.status = .running) :
  (∃ a' w' es μ',stepG P true a w = .go a' w' es∧CKind Wg Own (gs.size - 1) a.frame.fn a.frame.place es∧Lt2 μ' μ∧(Inv P ty Wg C n Own Rd Lw val vals AnchW Post) μ' (crowd ((gs.map (woken P a a' w')).setIfInBounds 0 a') w' sl) (t++MemOp.ofEvents 0 a.frame.fn a.frame.place es))∨
  (∃ a' child μ',stepG P true a w = .spawn a' child w #[]∧Deaf t 0=0∧Lt2 μ' μ∧(Inv P ty Wg C n Own Rd Lw val vals AnchW Post) μ' (crowd ((gs.setIfInBounds 0 a').push child) w sl) (t++#[{ g:=0,fn:=a.frame.fn,pos:=a.frame.place,act:=.go gs.size },{ g:=gs.size,fn:=child.frame.fn,pos:=a.frame.place,act:=.start }]))∨
  (∃ v es,stepG P true a w = .ended (.done v) w es∧CKind Wg Own (gs.size - 1) a.frame.fn a.frame.place es∧(∀ e ∈ es,Ev0 Wg Own Rd n e)∧Fin0 Wg C n Own Rd P Post gs w t v):=by
 obtain ⟨gs1,w1,sl1,j,D,tag,f0,d0,a1,st,sm,e,ha1,hcs,hcom,hwg,hmode,hacq,rfl⟩:=h
 obtain ⟨rfl,rfl,rfl⟩:=crowd_inj e
 obtain rfl:a=a1:=by rw [ha] at ha1;exact Option.some.inj ha1
 have hsz:gs.size - 1=j:=by rw [hcom.size];omega
 rw [hsz]
 rcases goCaller F.small F.anch F.len F.get hcs hcom hwg hmode hrun with ⟨a',w',es,hgo,hk⟩ | ⟨a',child,hsp,hd,hj⟩ | ⟨v,es,hend,ht,hk⟩
 ·rcases stepCaller (sl:=sl) F.apart F.geo F.small F.anch F.len F.get ha hcs hcom hwg hmode hacq hrun with ⟨o,w₁,ops,h1,h2⟩ | ⟨m₁,ops,μ',h1,h2,h3⟩
  ·have h4:=runT_crowd_go (P:=P) (sl:=sl) (i:=0) ha (by simpa using hgo)
   rw [h1] at h4
   cases h4
  ·have h4:=runT_crowd_go (P:=P) (sl:=sl) (i:=0) ha (by simpa using hgo)
   rw [h1] at h4
   simp only [Prod.mk.injEq,Stepped.next.injEq] at h4
   obtain ⟨rfl,rfl⟩:=h4
   exact .inl ⟨a',w',es,μ',hgo,hk,h2,h3⟩
 ·have h4:=runT_crowd_spawn (P:=P) (sl:=sl) (i:=0) ha (by simpa using hsp)
  rcases stepCaller (sl:=sl) F.apart F.geo F.small F.anch F.len F.get ha hcs hcom hwg hmode hacq hrun with ⟨o,w₁,ops,h1,h2⟩ | ⟨m₁,ops,μ',h1,h2,h3⟩
  ·rw [h1] at h4
   cases h4
  ·rw [h1] at h4
   simp only [Prod.mk.injEq,Stepped.next.injEq] at h4
   obtain ⟨rfl,rfl⟩:=h4
   refine .inr (.inl ⟨a',child,μ',hsp,by rw [hcom.deaf0,hd],h2,?_⟩)
   have e2:t++((MemOp.ofEvents 0 a.frame.fn a.frame.place #[]).push { g:=0,fn:=a.frame.fn,pos:=a.frame.place,act:=.go gs.size } |>.push { g:=gs.size,fn:=child.frame.fn,pos:=a.frame.place,act:=.start })=t++#[{ g:=0,fn:=a.frame.fn,pos:=a.frame.place,act:=.go gs.size },{ g:=gs.size,fn:=child.frame.fn,pos:=a.frame.place,act:=.start }]:=by
    rw [ofEvents_eq]
    simp
   rw [← e2]
   exact h3
 ·subst ht
  cases hcs with
  | ret hret=>
   obtain ⟨hq,rfl,rfl⟩:=hmode.fin_inv trivial
   rcases Goes.cases hret with hstop | ⟨m',rfl,hstep⟩
   ·obtain ⟨_,hx⟩:=hstop w (.refl w)
    obtain ⟨v2,es2,hend2,hev,hpost⟩:=hx (full_of F.len F.get hcom.pay fun i hi=>hcom.has i hi (by rw [hq i hi];omega))
    rw [hend] at hend2
    cases hend2
    refine .inr (.inr ⟨v,es,hend,hk,hev,hcom.size,hcom.ct,hcom.norel,hacq rfl,hcom.deaf0,fun i hi=>?_,hpost⟩)
    obtain ⟨g,hg,hs⟩:=hcom.wk i hi
    exact ⟨g,_,hg,by rw [hcom.deafW i hi];exact hs.quits (hq i hi)⟩
   ·obtain ⟨a',w',es',hgo,_⟩:=hstep w (.refl w)
    rw [hend] at hgo
    cases hgo
theorem inv_alive (F:Fam P ty Wg C n Own Rd Lw val vals AnchW Post) (he:∀ fr cs d g w,∃ o w1 es,Go.early P fr cs d g w = .ended o w1 es∧∀ v,o≠.done v) :
  ∀ (μ:Nat×Nat) {gs:Array Goroutine} {w:World} {sl:Option (Nat×Nat)} {t:Trace} {a:Goroutine},(Inv P ty Wg C n Own Rd Lw val vals AnchW Post) μ (crowd gs w sl) t→gs[0]? = some a→Doomed a→False:=by
 intro μ
 induction μ using (Prod.lex Nat.lt_wfRel Nat.lt_wfRel).wf.induction with
 | _ μ ih=>
 intro gs w sl t a h ha hd
 obtain ⟨_,⟨i,g,hg,hrun⟩,_,h0,_⟩:=inv_awake F h
 cases i with
 | zero=>
  obtain rfl:a=g:=by rw [ha] at hg;exact Option.some.inj hg
  have hJ:=stepG_doomed he hd w
  rcases inv_starter F h ha hrun with ⟨a',w',es,μ',hgo,_,hlt,hI⟩ | ⟨a',child,μ',hsp,_,hlt,hI⟩ | ⟨v,es,hend,_⟩
  ·rw [hgo] at hJ
   exact ih μ' hlt hI (by simp [h0]) hJ
  ·rw [hsp] at hJ
   exact ih μ' hlt hI (by rw [Array.getElem?_push_lt (by simpa using h0),← Array.getElem?_eq_getElem];simp [h0]) hJ
  ·rw [hend] at hJ
   exact hJ v rfl
 | succ i=>
  obtain ⟨g',w',es,μ',hgo,_,hlt,hI⟩:=inv_worker F h hg hrun
  refine ih μ' hlt hI (a:=woken P g g' w' a) (by rw [get_map_set _ _ _ _ (by omega),ha];rfl) ?_
  obtain ⟨st,e⟩:=woken_eq P g g' w' a
  rw [e]
  exact hd
end
end
section
open Go Go.Conc Go.ConcN
open Go.ConcR (KK WgAt stA smA rd wr mk Payload DC0 Bk)
theorem deaf_none {t:Trace} {k:Nat} (h:∀ (i:Nat) (op:MemOp),t[i]? = some op→op.g≠k):∀ i,i≤t.size→t.deaf k i=0:=by
 intro i
 induction i with
 | zero=>intro _;rfl
 | succ i ih=>
  intro hi
  have ho:t[i]? = some t[i]:=Array.getElem?_eq_getElem (by omega)
  rw [deaf_succ ho,ih (by omega)]
  have hne:=h i _ ho
  unfold deafStep
  split <;> simp [hne]
section
variable [Payload] (P:Program) (ty:TypeId) (Wg C np:Nat) (Own Rd:Nat→Loc→Prop) (Lw:Nat→Nat) (val:Nat→Value) (An:Goroutine→World→Prop) (Po:Value→World→Prop)
inductive Pre (a:Goroutine) (w:World):Prop
 | kd (Next:Goroutine→World→Prop) (m v:Nat) (h:Goes P true (RC ty Wg C) (DP Wg Own Rd 1 (Lw 1)) (AtKdS P ty Wg C np Own Rd Lw val 1 Next) m a w) (hv:v<2147483647) (hw:Go.ConcR.WgAt ty Wg w (v*Go.ConcR.KK) 0)
 | a1 (Next:Goroutine→World→Prop) (m v:Nat) (h:Goes P true (RC ty Wg C) (DP Wg Own Rd 1 (Lw 1)) (AtA1 P ty Wg C np Own Rd Lw val 1 Next) m a w) (hv:v<2147483647) (hw:Go.ConcR.WgAt ty Wg w (v*Go.ConcR.KK) 0)
 | ke (Next:Goroutine→World→Prop) (m:Nat) (h:Goes P true (RC ty Wg C) (DP Wg Own Rd 1 (Lw 1)) (AtKeS P ty Wg C np Own Rd Lw val 1 Next) m a w)
 | go (Next:Goroutine→World→Prop) (m:Nat) (h:Goes P true (RC ty Wg C) (DP Wg Own Rd 1 (Lw 1)) (AtGoS P ty Wg C np Own Rd Lw val 1 Next) m a w)
 | wkd (m:Nat) (h:Goes P true (RC ty Wg C) (DP Wg Own Rd 1 (Lw 1)) (AtKd P ty Wg C 1 Own Rd (Lw 1) An) m a w) (hw:Go.ConcR.WgAt ty Wg w 0 0) (hp:C<Lw 1∧PayAt C 0 w)
 | wan (m:Nat) (h:Goes P true (RC ty Wg C) (DP Wg Own Rd 1 (Lw 1)) An m a w) (hw:Go.ConcR.WgAt ty Wg w 0 0) (hp:C<Lw 1∧PayAt C 0 w)
 | ww1 (m:Nat) (h:Goes P true (RC ty Wg C) (DP Wg Own Rd 1 (Lw 1)) (AtW1 P ty Wg C 1 Own Rd (Lw 1) [] An Po) m a w) (hw:Go.ConcR.WgAt ty Wg w 0 0) (hp:C<Lw 1∧PayAt C 0 w)
 | wke (m:Nat) (h:Goes P true (RC ty Wg C) (DP Wg Own Rd 1 (Lw 1)) (AtKe P ty Wg C 1 Own Rd (Lw 1) [] Po) m a w) (hp:C<Lw 1∧PayAt C 0 w)
 | wac (m:Nat) (h:Goes P true (RC ty Wg C) (DP Wg Own Rd 1 (Lw 1)) (AtAcq P ty Wg C 1 Own Rd (Lw 1) [] Po) m a w) (hp:C<Lw 1∧PayAt C 0 w)
 | wre (m:Nat) (h:Goes P true (RC ty Wg C) (DP Wg Own Rd 1 (Lw 1)) (AtRet P Wg C 1 Own Rd [] Po) m a w) (hp:C<Lw 1∧PayAt C 0 w)
end
section
variable [Payload] {P:Program} {ty:TypeId} {Wg C np:Nat} {Own Rd:Nat→Loc→Prop} {Lw:Nat→Nat} {val:Nat→Value} {An:Goroutine→World→Prop} {Po:Value→World→Prop}
theorem Pre.at {a:Goroutine} {w:World} (h:Pre P ty Wg C np Own Rd Lw val An Po a w) (d:Nat):Pre P ty Wg C np Own Rd Lw val An Po a (w.at d):=by
 have tr:∀ x y z,RC ty Wg C x y→RC ty Wg C y z→RC ty Wg C x z:=fun _ _ _ h1 h2=>h1.trans h2
 cases h with
 | kd Next m v h hv hw=>exact .kd Next m v (Goes.rely tr h (RC.at w d)) hv hw
 | a1 Next m v h hv hw=>exact .a1 Next m v (Goes.rely tr h (RC.at w d)) hv hw
 | ke Next m h=>exact .ke Next m (Goes.rely tr h (RC.at w d))
 | go Next m h=>exact .go Next m (Goes.rely tr h (RC.at w d))
 | wkd m h hw hp=>exact .wkd m (Goes.rely tr h (RC.at w d)) hw hp
 | wan m h hw hp=>exact .wan m (Goes.rely tr h (RC.at w d)) hw hp
 | ww1 m h hw hp=>exact .ww1 m (Goes.rely tr h (RC.at w d)) hw hp
 | wke m h hp=>exact .wke m (Goes.rely tr h (RC.at w d)) hp
 | wac m h hp=>exact .wac m (Goes.rely tr h (RC.at w d)) hp
 | wre m h hp=>exact .wre m (Goes.rely tr h (RC.at w d)) hp
theorem Pre.run (hAr:∀ g w,An g w→g.status = .running) {a:Goroutine} {w:World} (h:Pre P ty Wg C np Own Rd Lw val An Po a w):a.status = .running:=by
 cases h with
 | kd Next m v h hv hw=>exact Goes.running (fun _ _ x=>x.1) w (.refl w) h
 | a1 Next m v h hv hw=>exact Goes.running (fun _ _ x=>x.1) w (.refl w) h
 | ke Next m h=>exact Goes.running (fun _ _ x=>x.1) w (.refl w) h
 | go Next m h=>exact Goes.running (fun _ _ x=>x.1) w (.refl w) h
 | wkd m h hw hp=>exact Goes.running (fun _ _ x=>x.1) w (.refl w) h
 | wan m h hw hp=>exact Goes.running (fun _ _ x=>hAr _ _ x) w (.refl w) h
 | ww1 m h hw hp=>exact Goes.running (fun _ _ x=>x.1) w (.refl w) h
 | wke m h hp=>exact Goes.running (fun _ _ x=>x.1) w (.refl w) h
 | wac m h hp=>exact Goes.running (fun _ _ x=>x.1) w (.refl w) h
 | wre m h hp=>exact Goes.running (fun _ _ x=>x.1) w (.refl w) h
theorem Pre.step {a:Goroutine} {w:World} (hAn:∀ g w,An g w→∃ m,Goes P true (RC ty Wg C) (DP Wg Own Rd 1 (Lw 1)) (AtW1 P ty Wg C 1 Own Rd (Lw 1) [] An Po) m g w) (h:Pre P ty Wg C np Own Rd Lw val An Po a w) (hW:Wg<Lw 1) :
  (∃ a' w' es,stepG P true a w = .go a' w' es∧Pre P ty Wg C np Own Rd Lw val An Po a' w'∧CKind Wg Own 1 a.frame.fn a.frame.place es)∨(∃ a' child,stepG P true a w = .spawn a' child w #[])∨∃ v es,stepG P true a w = .ended (.done v) w es∧CKind Wg Own 1 a.frame.fn a.frame.place es:=by
 have hpay:∀ {w':World},(∀ b,b<Lw 1→w'.heap[b]? = w.heap[b]?)→C<Lw 1∧PayAt C 0 w→C<Lw 1∧PayAt C 0 w':=fun e ⟨h0,cs,h1,h2⟩=>⟨h0,cs,(e C h0).trans h1,h2⟩
 have w1:∀ {m:Nat},Goes P true (RC ty Wg C) (DP Wg Own Rd 1 (Lw 1)) (AtW1 P ty Wg C 1 Own Rd (Lw 1) [] An Po) m a w→Go.ConcR.WgAt ty Wg w 0 0→C<Lw 1∧PayAt C 0 w→
   (∃ a' w' es,stepG P true a w = .go a' w' es∧Pre P ty Wg C np Own Rd Lw val An Po a' w'∧CKind Wg Own 1 a.frame.fn a.frame.place es):=by
  intro m h hw hp
  rcases Goes.cases h with hstop | ⟨m',rfl,hstep⟩
  ·obtain ⟨_,hall⟩:=hstop w (.refl w)
   obtain ⟨a',hgo,h0,_⟩:=hall 0 (by omega) (by simpa using hw)
   obtain ⟨m₂,hk⟩:=h0 rfl
   exact ⟨_,_,_,hgo,.wke m₂ hk hp,.bk bk_rd⟩
  ·obtain ⟨a',w',es,hgo,hD,hg'⟩:=hstep w (.refl w)
   exact ⟨_,_,_,hgo,.ww1 m' hg' (hw.of_block (hD.1 Wg hW)) (hpay hD.1 hp),.ev0 hD.2⟩
 cases h with
 | kd Next m v h hv hw=>
  rcases Goes.cases h with hstop | ⟨m',rfl,hstep⟩
  ·obtain ⟨_,a',hgo,m₂,hk⟩:=hstop w (.refl w)
   exact .inl ⟨_,_,_,hgo,.a1 Next m₂ v hk hv hw,.bk bk_dis⟩
  ·obtain ⟨a',w',es,hgo,hD,hg'⟩:=hstep w (.refl w)
   exact .inl ⟨_,_,_,hgo,.kd Next m' v hg' hv (hw.of_block (hD.1 Wg hW)),.ev0 hD.2⟩
 | a1 Next m v h hv hw=>
  rcases Goes.cases h with hstop | ⟨m',rfl,hstep⟩
  ·obtain ⟨_,hall⟩:=hstop w (.refl w)
   obtain ⟨a',hgo,m₂,hk⟩:=hall v hv hw
   exact .inl ⟨_,_,_,hgo,.ke Next m₂ hk,.bk bk_rw⟩
  ·obtain ⟨a',w',es,hgo,hD,hg'⟩:=hstep w (.refl w)
   exact .inl ⟨_,_,_,hgo,.a1 Next m' v hg' hv (hw.of_block (hD.1 Wg hW)),.ev0 hD.2⟩
 | ke Next m h=>
  rcases Goes.cases h with hstop | ⟨m',rfl,hstep⟩
  ·obtain ⟨_,a',hgo,m₂,hk⟩:=hstop w (.refl w)
   exact .inl ⟨_,_,_,hgo,.go Next m₂ hk,.bk bk_en⟩
  ·obtain ⟨a',w',es,hgo,hD,hg'⟩:=hstep w (.refl w)
   exact .inl ⟨_,_,_,hgo,.ke Next m' hg',.ev0 hD.2⟩
 | go Next m h=>
  rcases Goes.cases h with hstop | ⟨m',rfl,hstep⟩
  ·obtain ⟨_,a',child,hsp,_⟩:=hstop w (.refl w)
   exact .inr (.inl ⟨_,_,hsp⟩)
  ·obtain ⟨a',w',es,hgo,hD,hg'⟩:=hstep w (.refl w)
   exact .inl ⟨_,_,_,hgo,.go Next m' hg',.ev0 hD.2⟩
 | wkd m h hw hp=>
  rcases Goes.cases h with hstop | ⟨m',rfl,hstep⟩
  ·obtain ⟨_,a',hgo,m₂,hk⟩:=hstop w (.refl w)
   exact .inl ⟨_,_,_,hgo,.wan m₂ hk hw hp,.bk bk_dis⟩
  ·obtain ⟨a',w',es,hgo,hD,hg'⟩:=hstep w (.refl w)
   exact .inl ⟨_,_,_,hgo,.wkd m' hg' (hw.of_block (hD.1 Wg hW)) (hpay hD.1 hp),.ev0 hD.2⟩
 | wan m h hw hp=>
  rcases Goes.cases h with hstop | ⟨m',rfl,hstep⟩
  ·obtain ⟨m₂,hk⟩:=hAn a w (hstop w (.refl w))
   exact .inl (w1 hk hw hp)
  ·obtain ⟨a',w',es,hgo,hD,hg'⟩:=hstep w (.refl w)
   exact .inl ⟨_,_,_,hgo,.wan m' hg' (hw.of_block (hD.1 Wg hW)) (hpay hD.1 hp),.ev0 hD.2⟩
 | ww1 m h hw hp=>exact .inl (w1 h hw hp)
 | wke m h hp=>
  rcases Goes.cases h with hstop | ⟨m',rfl,hstep⟩
  ·obtain ⟨_,a',hgo,m₂,hk⟩:=hstop w (.refl w)
   exact .inl ⟨_,_,_,hgo,.wac m₂ hk hp,.bk bk_en⟩
  ·obtain ⟨a',w',es,hgo,hD,hg'⟩:=hstep w (.refl w)
   exact .inl ⟨_,_,_,hgo,.wke m' hg' (hpay hD.1 hp),.ev0 hD.2⟩
 | wac m h hp=>
  rcases Goes.cases h with hstop | ⟨m',rfl,hstep⟩
  ·obtain ⟨_,a',hgo,m₂,hk⟩:=hstop w (.refl w)
   exact .inl ⟨_,_,_,hgo,.wre m₂ hk hp,.none (by intro e he;simp at he;subst he;rfl)⟩
  ·obtain ⟨a',w',es,hgo,hD,hg'⟩:=hstep w (.refl w)
   exact .inl ⟨_,_,_,hgo,.wac m' hg' (hpay hD.1 hp),.ev0 hD.2⟩
 | wre m h hp=>
  rcases Goes.cases h with hstop | ⟨m',rfl,hstep⟩
  ·obtain ⟨_,hx⟩:=hstop w (.refl w)
   obtain ⟨v,es,hend,hev,_⟩:=hx (full_of (val:=val) rfl (fun i hi=>absurd hi (Nat.not_lt_zero i)) hp.2 (fun i hi=>absurd hi (Nat.not_lt_zero i)))
   exact .inr (.inr ⟨v,es,hend,.ev0 hev⟩)
  ·obtain ⟨a',w',es,hgo,hD,hg'⟩:=hstep w (.refl w)
   exact .inl ⟨_,_,_,hgo,.wre m' hg' (hpay hD.1 hp),.ev0 hD.2⟩
end
section
variable [Payload] (G:Nat→Bool) (P:Program) (ty:TypeId) (Wg C n:Nat) (OwnA RdA OwnB RdB:Nat→Loc→Prop) (Lw:Nat→Nat) (val:Nat→Value) (vals:List Value) (AnchA AnchB:Goroutine→World→Prop) (Post:Value→World→Prop)
 (Shun:Loc→Prop) (np Cp:Nat) (valP:Nat→Value) (RdP:Nat→Loc→Prop) (LwP:Nat→Nat) (AnP:Goroutine→World→Prop) (PoP:Value→World→Prop) (c:Nat) (t₀:Trace) (cs:List Frame)
structure GI (q:Nat→Nat) (μ:Nat×Nat) (gs:Array Goroutine) (w:World) (T:Trace) (gh:Array Goroutine) (a:Goroutine) (s:Trace):Prop where
 size:gs.size=c+gh.size
 g0:gh[0]? = some a
 h0:gs[0]? = some (ups cs a)
 wk:∀ i,gs[c+1+i]? = gh[i+1]?
 old:∀ i g,0<i→i≤c→gs[i]? = some g→QuitsD P (q i) (Deaf T i) g
 above:∀ k,gs.size≤k→Deaf T k=0
 ok:EOk G P a
 ia:Inv P ty Wg C n OwnA RdA Lw val vals AnchA Post μ (crowd gh w none) s
 ib:∃ μB,Inv P ty Wg C n OwnB RdB Lw val vals AnchB Post μB (crowd gh w none) s
 tr:Tr Shun Wg s (gh.size - 1)
 lk:Lkd c t₀ s T
 far:2≤gh.size∨Pre P ty Wg Cp np OwnA RdP LwP valP AnP PoP a w
end
section
variable [Payload] {G:Nat→Bool} {P:Program} {ty:TypeId} {Wg C n:Nat} {OwnA RdA OwnB RdB:Nat→Loc→Prop} {Lw:Nat→Nat} {val:Nat→Value} {vals:List Value} {AnchA AnchB:Goroutine→World→Prop} {Post:Value→World→Prop}
 {Shun:Loc→Prop} {np Cp:Nat} {valP:Nat→Value} {RdP:Nat→Loc→Prop} {LwP:Nat→Nat} {AnP:Goroutine→World→Prop} {PoP:Value→World→Prop} {c:Nat} {t₀:Trace} {cs:List Frame}
omit [Payload] in
theorem EOk.woken {a:Goroutine} (h:EOk G P a) (g g':Goroutine) (w:World):EOk G P (woken P g g' w a):=by
 obtain ⟨st,e⟩:=woken_eq P g g' w a
 rw [e]
 exact ⟨h.bot,h.dying,h.frame,h.callers⟩
theorem gstep (E:EProg G P) (FA:Fam P ty Wg C n OwnA RdA Lw val vals AnchA Post) (FB:Fam P ty Wg C n OwnB RdB Lw val vals AnchB Post) (hA:∀ l,Shun l→OwnA 1 l) (hB:∀ k l,OwnB k l∨RdB k l→¬ Shun l) (hW:Wg<LwP 1) (hArP:∀ g w,AnP g w→g.status = .running) (hAnP:∀ g w,AnP g w→∃ m,Goes P true (RC ty Wg Cp) (DP Wg OwnA RdP 1 (LwP 1)) (AtW1 P ty Wg Cp 1 OwnA RdP (LwP 1) [] AnP PoP) m g w)
  {q:Nat→Nat} {μ:Nat×Nat} {gs:Array Goroutine} {w:World} {sl:Option (Nat×Nat)} {T:Trace} {gh:Array Goroutine} {a:Goroutine} {s:Trace}
  (h:GI G P ty Wg C n OwnA RdA OwnB RdB Lw val vals AnchA AnchB Post Shun np Cp valP RdP LwP AnP PoP c t₀ cs q μ gs w T gh a s) :
  (∃ d sl' v es fr,stepT P (crowd gs w sl)=runT P (crowd gs (w.at d) sl') 0∧stepG P true (ups cs a) (w.at d)=(doReturn P true fr cs none v (w.at d)).after es∧fr.kind = .normal∧(∀ e ∈ es,Ev0 Wg OwnA RdA n e)∧(∀ e ∈ es,Ev0 Wg OwnB RdB n e)∧(∀ op ∈ MemOp.ofEvents 0 a.frame.fn a.frame.place es,∀ x,op.act.touch? = some x→Shun x.loc→x.kind≠.plain)∧Fin0 Wg C n OwnB RdB P Post gh (w.at d) s v)∨
  (∃ gs' w' sl' ops q' μ' gh' a' s',stepT P (crowd gs w sl)=(.next (crowd gs' w' sl'),ops)∧Prod.Lex (· < ·) Lt2 (sumTo (c+1) q',μ') (sumTo (c+1) q,μ)∧GI G P ty Wg C n OwnA RdA OwnB RdB Lw val vals AnchA AnchB Post Shun np Cp valP RdP LwP AnP PoP c t₀ cs q' μ' gs' w' (T++ops) gh' a' s'):=by
 obtain ⟨μB,hIB⟩:=h.ib
 obtain ⟨awA,⟨ir,gr,hir,hgr⟩,st0,hpos,hgl⟩:=inv_awake FA h.ia
 have h1c:0<gs.size:=(Array.getElem?_eq_some_iff.1 h.h0).1
 have place:∀ i g,gs[i]? = some g→i=0∨(0<i∧i≤c)∨∃ i',i=c+1+i'∧gh[i'+1]? = some g:=by
  intro i g hi
  rcases Nat.eq_zero_or_pos i with h0 | h0
  ·exact .inl h0
  ·rcases Nat.lt_or_ge c i with h1 | h1
   ·refine .inr (.inr ⟨i - (c+1),by omega,?_⟩)
    rw [← h.wk,show c+1+(i - (c+1))=i by omega]
    exact hi
   ·exact .inr (.inl ⟨h0,h1⟩)
 have haw:∀ g ∈ gs,awake g:=by
  intro g hg
  obtain ⟨i,hi⟩:=Array.mem_iff_getElem?.1 hg
  rcases place i g hi with rfl | ⟨h2,h3⟩ | ⟨i',_,h3⟩
  ·rw [h.h0] at hi
   cases hi
   exact awA a (Array.mem_of_getElem? h.g0)
  ·exact awake_of ((h.old i g h2 h3 hi).status.elim .inl fun x=>.inr (.inr x))
  ·exact awA g (Array.mem_of_getElem? h3)
 have hsome:∃ (i:Nat) (g:Goroutine),gs[i]? = some g∧g.status = .running:=by
  cases ir with
  | zero=>
   rw [h.g0] at hir
   cases hir
   exact ⟨0,_,h.h0,hgr⟩
  | succ i=>exact ⟨c+1+i,gr,by rw [h.wk];exact hir,hgr⟩
 obtain ⟨i,g,d,sl',hi,hg,hst⟩:=crowd_pick (P:=P) (w:=w) (sl:=sl) haw hsome
 have hilt:i<gs.size:=(Array.getElem?_eq_some_iff.1 hi).1
 have hIA':=inv_at h.ia d none
 have hIB':=inv_at hIB d none
 rcases place i g hi with rfl | ⟨h2,h3⟩ | ⟨i',rfl,h3⟩
 ·
  obtain rfl:g=ups cs a:=by rw [h.h0] at hi;exact (Option.some.inj hi).symm
  have hrun:a.status = .running:=hg
  have hup:=stepG_up (cs:=cs) E h.ok (w.at d)
  rcases inv_starter FA hIA' h.g0 hrun with ⟨a',w',es,μ',hgo,hk,hlt,hI⟩ | ⟨a',child,μ',hsp,hd0,hlt,hI⟩ | ⟨v,es,hend,hk,hev,hfin⟩
  ·
   rcases inv_starter FB hIB' h.g0 hrun with ⟨a2,w2,es2,μ2,hgo2,_,_,hI2⟩ | ⟨a2,ch,μ2,hsp2,_⟩ | ⟨v,es2,hend2,_⟩
   rotate_left
   ·rw [hgo] at hsp2;cases hsp2
   ·rw [hgo] at hend2;cases hend2
   rw [hgo] at hgo2
   cases hgo2
   rw [hgo] at hup
   generalize hy:stepG P true (ups cs a) (w.at d)=y at hup
   have far:(2≤gh.size∨Pre P ty Wg Cp np OwnA RdP LwP valP AnP PoP a' w')∧∀ op ∈ MemOp.ofEvents 0 a.frame.fn a.frame.place es,∀ x,op.act.touch? = some x→Shun x.loc→x.kind≠.plain:=by
    rcases h.far with x | x
    ·refine ⟨.inl x,fun op hop x hx hs=>?_⟩
     rcases hk op hop x hx with h5 | h5
     ·exact h5.2
     ·exact absurd (hA _ hs) (h5 1 (Nat.le_refl _) (by omega))
    ·rcases (x.at d).step hAnP hW with ⟨a3,w3,es3,h4,h6,h7⟩ | ⟨a3,c3,h4⟩ | ⟨v3,es3,h4,_⟩
     ·rw [hgo] at h4
      cases h4
      refine ⟨.inr h6,fun op hop x hx hs=>?_⟩
      rcases h7 op hop x hx with h5 | h5
      ·exact h5.2
      ·exact absurd (hA _ hs) (h5 1 (Nat.le_refl _) (Nat.le_refl _))
     ·rw [hgo] at h4
      cases h4
     ·rw [hgo] at h4
      cases h4
   cases hup with
   | dying _ _ _ _ hd=>exact (inv_alive FA E.early μ' hI (by simp [hpos]) hd).elim
   | finished _ _ _ _ hs=>
    have:=(inv_awake FA hI).2.2.1 a' (by simp [hpos])
    rw [hs] at this
    rcases this with x | x <;> cases x
   | go _ _ _ hok=>
    have hrunT:=runT_crowd_go (P:=P) (sl:=sl') (i:=0) hi (show stepG P (0 == 0) (ups cs a) (w.at d)=_ from hy)
    refine .inr ⟨_,_,_,_,q,μ',_,a',_,hst.trans hrunT,.right _ hlt,⟨by simp [h.size],by simp [hpos],by simp [h1c],fun i=>?_,fun i x hi0 hic hx=>?_,fun k hk2=>?_,hok,hI,⟨μ2,hI2⟩,?_,h.lk.events 0 _ _ es,by simpa using far.1⟩⟩
    ·rw [get_map_set _ _ _ _ (by omega),get_map_set _ _ _ _ (by omega),h.wk]
     rfl
    ·rw [get_map_set _ _ _ _ (by omega)] at hx
     obtain ⟨y,hy,rfl⟩:=Option.map_eq_some_iff.1 hx
     have hq:=h.old i y hi0 hic hy
     rw [woken_quitsD hq,Deaf_other T (g':=0) (by omega) _ g_of_ofEvents]
     exact hq
    ·rw [Deaf_other T (g':=0) (by have:=hk2;simp at this;omega) _ g_of_ofEvents]
     exact h.above k (by simpa using hk2)
    ·have e:((gh.map (woken P a a' w')).setIfInBounds 0 a').size - 1=gh.size - 1:=by simp
     rw [e]
     exact h.tr.app0 (fun op hop=>g_of_ofEvents op hop) far.2
  ·
   rcases inv_starter FB hIB' h.g0 hrun with ⟨a2,w2,es2,μ2,hgo2,_⟩ | ⟨a2,ch,μ2,hsp2,_,_,hI2⟩ | ⟨v,es2,hend2,_⟩
   ·rw [hsp] at hgo2;cases hgo2
   rotate_left
   ·rw [hsp] at hend2;cases hend2
   rw [hsp] at hsp2
   cases hsp2
   rw [hsp] at hup
   generalize hy:stepG P true (ups cs a) (w.at d)=y at hup
   cases hup with
   | spawn _ _ _ _ hok=>
    have hrunT:=runT_crowd_spawn (P:=P) (sl:=sl') (i:=0) hi (show stepG P (0 == 0) (ups cs a) (w.at d)=_ from hy)
    have hops:T++((MemOp.ofEvents 0 (ups cs a).frame.fn (ups cs a).frame.place #[]).push { g:=0,fn:=(ups cs a).frame.fn,pos:=(ups cs a).frame.place,act:=.go gs.size } |>.push { g:=gs.size,fn:=child.frame.fn,pos:=(ups cs a).frame.place,act:=.start })=T++#[{ g:=0,fn:=a.frame.fn,pos:=a.frame.place,act:=.go gs.size },{ g:=gs.size,fn:=child.frame.fn,pos:=a.frame.place,act:=.start }]:=by
     rw [ofEvents_eq]
     simp [ups]
    have hup2:up c gh.size=gs.size:=by unfold up;rw [if_neg (by omega),h.size]
    refine .inr ⟨_,_,_,_,q,μ',(gh.setIfInBounds 0 a').push child,a',s++#[{ g:=0,fn:=a.frame.fn,pos:=a.frame.place,act:=.go gh.size },{ g:=gh.size,fn:=child.frame.fn,pos:=a.frame.place,act:=.start }],hst.trans hrunT,.right _ hlt,?_⟩
    rw [hops]
    refine ⟨by simp [h.size];omega,?_,?_,fun i=>?_,fun i x hi0 hic hx=>?_,fun k hk2=>?_,hok,hI,⟨μ2,hI2⟩,?_,?_,.inl (by simp;omega)⟩
    ·rw [Array.getElem?_push_lt (by simpa using hpos),← Array.getElem?_eq_getElem];simp [hpos]
    ·rw [Array.getElem?_push_lt (by simpa using h1c),← Array.getElem?_eq_getElem];simp [h1c]
    ·rw [Array.getElem?_push,Array.getElem?_push]
     simp only [Array.size_setIfInBounds]
     have e1:(c+1+i=gs.size)↔(i+1=gh.size):=by have:=h.size;omega
     by_cases e2:i+1=gh.size
     ·rw [if_pos e2,if_pos (e1.2 e2)]
     ·rw [if_neg e2,if_neg (fun x=>e2 (e1.1 x)),Array.getElem?_setIfInBounds_ne (by omega),Array.getElem?_setIfInBounds_ne (by omega),h.wk]
    ·rw [Array.getElem?_push] at hx
     simp only [Array.size_setIfInBounds] at hx
     rw [if_neg (by have:=h.size;omega),Array.getElem?_setIfInBounds_ne (by omega)] at hx
     rw [Deaf_keep T i _ (by simp)]
     exact h.old i x hi0 hic hx
    ·rw [Deaf_keep T k _ (by simp)]
     exact h.above k (by simp at hk2;omega)
    ·have e:((gh.setIfInBounds 0 a').push child).size - 1=(gh.size - 1)+1:=by simp;omega
     rw [e]
     have e3:gh.size - 1+1=gh.size:=by omega
     exact h.tr.fork ⟨rfl,by rw [e3]⟩ ⟨by rw [e3],rfl⟩ hd0 (by rw [e3];exact deaf_none (fun i op ho=>by have:=hgl i op ho;omega) _ (Nat.le_refl _))
    ·have:=h.lk.boths [{ g:=0,fn:=a.frame.fn,pos:=a.frame.place,act:=.go gh.size },{ g:=gh.size,fn:=child.frame.fn,pos:=a.frame.place,act:=.start }]
     simp only [List.map,upOp,upAct,up_zero,hup2] at this
     exact this
  ·
   rcases inv_starter FB hIB' h.g0 hrun with ⟨a2,w2,es2,μ2,hgo2,_⟩ | ⟨a2,ch,μ2,hsp2,_⟩ | ⟨v2,es2,hend2,_,hev2,hfin2⟩
   ·rw [hend] at hgo2;cases hgo2
   ·rw [hend] at hsp2;cases hsp2
   rw [hend] at hend2
   cases hend2
   rw [hend] at hup
   generalize hy:stepG P true (ups cs a) (w.at d)=y at hup
   have far:∀ op ∈ MemOp.ofEvents 0 a.frame.fn a.frame.place es,∀ x,op.act.touch? = some x→Shun x.loc→x.kind≠.plain:=by
    intro op hop x hx hs
    have h5:(ShN Wg x.loc∧x.kind≠.plain)∨¬ OwnA 1 x.loc:=by
     rcases h.far with y | y
     ·exact (hk op hop x hx).imp id fun z=>z 1 (Nat.le_refl _) (by omega)
     ·rcases (y.at d).step hAnP hW with ⟨a3,w3,es3,h4,_⟩ | ⟨a3,c3,h4⟩ | ⟨v3,es3,h4,h7⟩
      ·rw [hend] at h4;cases h4
      ·rw [hend] at h4;cases h4
      ·rw [hend] at h4
       cases h4
       exact (h7 op hop x hx).imp id fun z=>z 1 (Nat.le_refl _) (Nat.le_refl _)
    rcases h5 with h5 | h5
    ·exact h5.2
    ·exact absurd (hA _ hs) h5
   cases hup with
   | ended _ _ _ _ hne=>exact absurd rfl (hne v)
   | ret _ _ _ fr hk2=>
    exact .inl ⟨d,sl',v,es,fr,hst,hy,hk2,hev,hev2,far,hfin2⟩
 ·
  have hq:=h.old i g h2 h3 hi
  have hi0:(i == 0)=false:=by simp;omega
  cases hqi:q i with
  | zero=>rw [hqi] at hq;rw [hq.1] at hg;cases hg
  | succ k=>
   rw [hqi] at hq
   rcases hq with ⟨hf,_⟩ | ⟨_,g',es,hm,hstp,hq'⟩
   ·rw [hf] at hg;cases hg
   have hrunT:=runT_crowd_go (P:=P) (sl:=sl') (i:=i) hi (by rw [hi0];exact hstp (w.at d))
   have hsum:sumTo (c+1) (upd q i k)+(k+1)=sumTo (c+1) q+k:=by
    have:=sumTo_upd q k id (show i<c+1 by omega)
    simpa [hqi] using this
   obtain ⟨μ1,hI1⟩:=inv_slip FA hIA' g g'
   obtain ⟨μ2,hI2⟩:=inv_slip FB hIB' g g'
   refine .inr ⟨_,_,_,_,upd q i k,μ1,gh.map (woken P g g' (w.at d)),woken P g g' (w.at d) a,s,hst.trans hrunT,.left _ _ (by omega),⟨by simp [h.size],by rw [Array.getElem?_map,h.g0];rfl,?_,fun j=>?_,fun j x hj0 hjc hx=>?_,fun j hj=>?_,h.ok.woken _ _ _,hI1,⟨μ2,hI2⟩,by rw [Array.size_map];exact h.tr,h.lk.mutes (by omega) h3 _ _ hm,?_⟩⟩
   ·rw [get_map_set _ _ _ _ (by omega),h.h0,Option.map_some,woken_ups]
   ·rw [get_map_set _ _ _ _ (by omega),Array.getElem?_map,h.wk]
   ·by_cases hji:i=j
    ·subst hji
     rw [Array.getElem?_setIfInBounds_self_of_lt (by simpa using hilt)] at hx
     obtain rfl:=Option.some.inj hx
     rw [upd_same,Deaf_own]
     exact hq'
    ·rw [Array.getElem?_setIfInBounds_ne hji,Array.getElem?_map] at hx
     obtain ⟨y,hy,rfl⟩:=Option.map_eq_some_iff.1 hx
     have hqj:=h.old j y hj0 hjc hy
     rw [woken_quitsD hqj,upd_ne q k (Ne.symm hji),Deaf_other T hji _ g_of_ofEvents]
     exact hqj
   ·rw [Deaf_other T (g':=i) (by simp at hj;omega) _ g_of_ofEvents]
    exact h.above j (by simpa using hj)
   ·refine h.far.imp (fun x=>by simpa using x) (fun x=>?_)
    rw [woken_run (x.run hArP)]
    exact x.at d
 ·
  have hi0:(c+1+i' == 0)=false:=by simp
  obtain ⟨g',w',es,μ',hgo,hkA,hlt,hI⟩:=inv_worker FA hIA' h3 hg
  obtain ⟨g2,w2,es2,μ2,hgo2,hk,_,hI2⟩:=inv_worker FB hIB' h3 hg
  rw [hgo] at hgo2
  cases hgo2
  have hrunT:=runT_crowd_go (P:=P) (sl:=sl') (i:=c+1+i') hi (by rw [hi0];exact hgo)
  have hup2:up c (i'+1)=c+1+i':=by unfold up;rw [if_neg (by omega)];omega
  have hlt2:i'+1<gh.size:=(Array.getElem?_eq_some_iff.1 h3).1
  refine .inr ⟨_,_,_,_,q,μ',(gh.map (woken P g g' w')).setIfInBounds (i'+1) g',woken P g g' w' a,s++MemOp.ofEvents (i'+1) g.frame.fn g.frame.place es,hst.trans hrunT,.right _ hlt,⟨by simp [h.size],?_,?_,fun j=>?_,fun j x hj0 hjc hx=>?_,fun j hj=>?_,h.ok.woken _ _ _,hI,⟨μ2,hI2⟩,?_,?_,.inl (by simp;omega)⟩⟩
  ·rw [get_map_set _ _ _ _ (by omega),h.g0];rfl
  ·rw [get_map_set _ _ _ _ (by omega),h.h0,Option.map_some,woken_ups]
  ·by_cases e:i'=j
   ·subst e
    rw [Array.getElem?_setIfInBounds_self_of_lt (by simpa using hilt),Array.getElem?_setIfInBounds_self_of_lt (by simpa using hlt2)]
   ·rw [get_map_set _ _ _ _ (by omega),get_map_set _ _ _ _ (by omega),h.wk]
  ·rw [get_map_set _ _ _ _ (by omega)] at hx
   obtain ⟨y,hy,rfl⟩:=Option.map_eq_some_iff.1 hx
   have hq:=h.old j y hj0 hjc hy
   rw [woken_quitsD hq,Deaf_other T (g':=c+1+i') (by omega) _ g_of_ofEvents]
   exact hq
  ·rw [Deaf_other T (g':=c+1+i') (by have:=h.size;simp at hj;omega) _ g_of_ofEvents]
   exact h.above j (by simpa using hj)
  ·have e:((gh.map (woken P g g' w')).setIfInBounds (i'+1) g').size - 1=gh.size - 1:=by simp
   rw [e]
   refine h.tr.appW (by omega) (by omega) _ _ _ (fun op hop x hx hs=>?_) (hk.imp (fun x=>⟨x.1,x.2.1⟩) (fun x op hop a ha=>(x op hop a ha).1))
   rcases hk with x1 | x1
   ·rcases (x1.2.2 op hop).2 x hx with h5 | h5 | h5
    ·exact h5.2.1
    ·exact absurd hs (hB _ _ (.inl h5))
    ·exact absurd hs (hB _ _ (.inr h5.1))
   ·exact (x1 op hop x hx).2
  ·have:=h.lk.events (i'+1) g.frame.fn g.frame.place es
   rw [hup2] at this
   exact this
end
end
end Go.Proofs.Ytjkikkgpenhbgaa.Sim
