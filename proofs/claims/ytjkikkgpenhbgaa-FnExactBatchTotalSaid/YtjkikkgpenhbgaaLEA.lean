import Derived.Test.YtjkikkgpenhbgaaChecked
import Derived.Conc.WgGenN3
import Derived.Conc.CrowdMono
import Derived.Laws.MakeOwn
import Derived.Conc.CompanyWords
import Derived.Conc.CompanyMem
import Derived.RowKit
import Derived.KernelRfl
import Derived.Test.YtjkikkgpenhbgaaLSE
import Derived.Test.YtjkikkgpenhbgaaLSF
import Derived.Below
import Derived.Test.YtjkikkgpenhbgaaLSD
import Derived.Test.YtjkikkgpenhbgaaLSC
set_option linter.unusedVariables false
set_option linter.unusedSimpArgs false
set_option linter.unusedSectionVars false
namespace Go.Proofs.Ytjkikkgpenhbgaa.Ea
open Go.Conc Go.ConcR Go.RowKit Go.Conc.Lib Go.ConcR.Gen
abbrev wglink:Go.Conc.Lib.WgLink:={ add:=69,done:=71,wait:=72,relMerge:=86,disable:=87,enable:=88,inBubble:=89,associate:=90,fatal:=91,uOr:=92,uAdd:=93,raceRead:=94,uLoad:=95,uStore:=96,disassociate:=97,semrelease:=98,acquire:=99,isAssociated:=100,uCas:=101,raceWrite:=102,semacquire:=103,orU64:=109,addU64:=110,loadU64:=111,storeU64:=112,casU64:=113,tWgP:=103,tUP:=105,tAssoc:=107,tWg:=95,tAU:=92,tU64:=90,tUint:=111,tU32:=93,tPU32:=112,tPAU:=125,tPU64:=127,tNoCopy:=87,tANoCopy:=88,tAlign64:=89 }
theorem wgLib:Go.Conc.Lib.WgLib Try.prog wglink:=
 ⟨Try.func69,Try.func71,Try.func72,Try.func86,Try.func87,Try.func88,Try.func89,Try.func90,Try.func91,Try.func92,Try.func93,Try.func94,Try.func95,Try.func96,Try.func97,Try.func98,Try.func99,Try.func100,Try.func101,Try.func102,Try.func103,Try.func109,Try.func110,Try.func111,Try.func112,Try.func113,Try.underlying103,Try.runUnderlying103,Try.sizeOf103,Try.isAgg103,Try.zeroValue103,Try.underlying105,Try.runUnderlying105,Try.sizeOf105,Try.isAgg105,Try.zeroValue105,Try.underlying107,Try.runUnderlying107,Try.sizeOf107,Try.isAgg107,Try.zeroValue107,Try.underlying95,Try.runUnderlying95,Try.sizeOf95,Try.isAgg95,Try.zeroValue95,Try.underlying92,Try.runUnderlying92,Try.sizeOf92,Try.isAgg92,Try.zeroValue92,Try.underlying90,Try.runUnderlying90,Try.sizeOf90,Try.isAgg90,Try.zeroValue90,Try.underlying111,Try.runUnderlying111,Try.sizeOf111,Try.isAgg111,Try.zeroValue111,Try.underlying93,Try.runUnderlying93,Try.sizeOf93,Try.isAgg93,Try.zeroValue93,Try.underlying112,Try.runUnderlying112,Try.sizeOf112,Try.isAgg112,Try.zeroValue112,Try.underlying125,Try.runUnderlying125,Try.sizeOf125,Try.isAgg125,Try.zeroValue125,Try.underlying127,Try.runUnderlying127,Try.sizeOf127,Try.isAgg127,Try.zeroValue127,Try.underlying0,Try.runUnderlying0,Try.sizeOf0,Try.isAgg0,Try.zeroValue0,Try.underlying3,Try.runUnderlying3,Try.sizeOf3,Try.isAgg3,Try.zeroValue3,Try.underlying4,Try.runUnderlying4,Try.sizeOf4,Try.isAgg4,Try.zeroValue4,Try.underlying9,Try.runUnderlying9,Try.sizeOf9,Try.isAgg9,Try.zeroValue9,Try.underlying20,Try.runUnderlying20,Try.sizeOf20,Try.isAgg20,Try.zeroValue20,Try.underlying21,Try.runUnderlying21,Try.sizeOf21,Try.isAgg21,Try.zeroValue21,(by kernel_rfl),(by kernel_rfl)⟩
instance:Payload:=⟨3⟩
end Go.Proofs.Ytjkikkgpenhbgaa.Ea
set_option linter.unusedVariables false
namespace Go.Proofs.Ytjkikkgpenhbgaa.Ea
open Go.Conc Go.RowKit Go.Proofs.Ytjkikkgpenhbgaa.Sim
section
variable {main:Bool} {R:World→World→Prop} {D:World→World→Array Event→Prop}
def eOfI (s:Int):Int:=Int.tmod (IntKind.i64.wrap (Int.tmod s 31+31)) 31
theorem tmod31 (s:Int):∃ q,Int.tmod s 31=s+31*q∧-31<Int.tmod s 31∧Int.tmod s 31<31:=by
 rcases (show s<0∨0≤s by omega) with h | h
 ·obtain ⟨u,hu⟩:∃ u,s = -u:=⟨-s,by omega⟩
  subst hu
  have e:Int.tmod (-u) 31 = -(u % 31):=by rw [Int.neg_tmod,Int.tmod_eq_emod_of_nonneg (by omega)]
  exact ⟨u / 31,by omega,by omega,by omega⟩
 ·have e:Int.tmod s 31=s % 31:=Int.tmod_eq_emod_of_nonneg h
  exact ⟨-(s / 31),by omega,by omega,by omega⟩
theorem eOfI_eq (s:Int):eOfI s=s % 31:=by
 obtain ⟨q,h1,h2,h3⟩:=tmod31 s
 have e2:IntKind.i64.wrap (Int.tmod s 31+31)=Int.tmod s 31+31:=by rw [IntKind.wrap_i64];omega
 unfold eOfI
 rw [e2,Int.tmod_eq_emod_of_nonneg (by omega)]
 omega
set_option maxRecDepth 100000 in
theorem elementOf_c (T:Terms R D):∃ n,∀ (s:Int) (w:World),CallsC Try.prog main R D 66 #[.int .i64 s] n w fun v w'=>v = .int .i64 (eOfI s)∧Since R w w':=by
 co_apply Exists.intro
 intro s w
 co_apply callsC_of_wpC Try.func66 (by rfl) rfl
 have hF:Since R w w:=.refl w
 simp only [Try.ntmps66,List.size_toArray,List.length_cons,List.length_nil,Nat.reduceAdd,Nat.reduceSub,Array.replicate_succ,Array.replicate_zero,List.push_toArray,List.append_toArray,List.nil_append,List.cons_append]
 co_go T (Since.rely T) hF (co_quiet T)
 exact ⟨rfl,_,resultsC_tmp (by rfl) _,rfl,hF⟩
set_option maxRecDepth 100000 in
theorem plus_c (T:Terms R D):∃ n,∀ (x y:Int) (w:World),CallsC Try.prog main R D 37 #[.int .i64 x,.int .i64 y] n w fun v w'=>v = .int .i64 (eOfI (IntKind.i64.wrap (x+y)))∧Since R w w':=by
 obtain ⟨n1,h1⟩:=elementOf_c (main:=main) T
 co_apply Exists.intro
 intro x y w
 co_apply callsC_of_wpC Try.func37 (by rfl) rfl
 have hF:Since R w w:=.refl w
 simp only [Try.ntmps37,List.size_toArray,List.length_cons,List.length_nil,Nat.reduceAdd,Nat.reduceSub,Array.replicate_succ,Array.replicate_zero,List.push_toArray,List.append_toArray,List.nil_append,List.cons_append]
 co_go T (Since.rely T) hF (co_quiet T)
 co_apply opsC_call T rfl (by rfl) rfl
 ·walk_nrm
  exact h1 _ _
 rintro v w' ⟨rfl,hS⟩
 replace hF:Since R w w':=hS.elim (fun e=>e ▸ hF) fun r=>Since.rely T hF r
 clear hS
 walk_nrm
 co_go T (Since.rely T) hF (co_quiet T)
 exact ⟨rfl,_,resultsC_tmp (by rfl) _,rfl,hF⟩
set_option maxRecDepth 100000 in
theorem minus_c (T:Terms R D):∃ n,∀ (x y:Int) (w:World),CallsC Try.prog main R D 44 #[.int .i64 x,.int .i64 y] n w fun v w'=>v = .int .i64 (eOfI (IntKind.i64.wrap (x - y)))∧Since R w w':=by
 obtain ⟨n1,h1⟩:=elementOf_c (main:=main) T
 co_apply Exists.intro
 intro x y w
 co_apply callsC_of_wpC Try.func44 (by rfl) rfl
 have hF:Since R w w:=.refl w
 simp only [Try.ntmps44,List.size_toArray,List.length_cons,List.length_nil,Nat.reduceAdd,Nat.reduceSub,Array.replicate_succ,Array.replicate_zero,List.push_toArray,List.append_toArray,List.nil_append,List.cons_append]
 co_go T (Since.rely T) hF (co_quiet T)
 co_apply opsC_call T rfl (by rfl) rfl
 ·walk_nrm
  exact h1 _ _
 rintro v w' ⟨rfl,hS⟩
 replace hF:Since R w w':=hS.elim (fun e=>e ▸ hF) fun r=>Since.rely T hF r
 clear hS
 walk_nrm
 co_go T (Since.rely T) hF (co_quiet T)
 exact ⟨rfl,_,resultsC_tmp (by rfl) _,rfl,hF⟩
end
def MkFn (m:Mk) (g:Nat):Prop:=∀ {R:World→World→Prop} {D:World→World→Array Event→Prop} (_:Terms R D),∃ n,∀ (x y:Int) (w:World),0≤x→x≤30→0≤y→y≤30→CallsC Try.prog false R D g #[.int .i64 x,.int .i64 y] n w fun v w'=>v = .int .i64 (m.val x y)∧Since R w w'
theorem mk_plus:MkFn .plus 37:=fun T=>by
 obtain ⟨n,h⟩:=plus_c (main:=false) T
 refine ⟨n,fun x y w hx hx2 hy hy2=>(h x y w).mono fun v w' ⟨e,hs⟩=>⟨?_,hs⟩⟩
 rw [e,eOfI_eq,IntKind.wrap_i64]
 have:(x+y+9223372036854775808) % 18446744073709551616 - 9223372036854775808=x+y:=by omega
 simp only [Mk.val]
 first | rw [this] | (congr 2;omega)
theorem mk_minus:MkFn .minus 44:=fun T=>by
 obtain ⟨n,h⟩:=minus_c (main:=false) T
 refine ⟨n,fun x y w hx hx2 hy hy2=>(h x y w).mono fun v w' ⟨e,hs⟩=>⟨?_,hs⟩⟩
 have hw:IntKind.i64.wrap (x - y)=x - y:=by rw [IntKind.wrap_i64];omega
 rw [e,eOfI_eq,hw]
 simp only [Mk.val]
 congr 1
 omega
end Go.Proofs.Ytjkikkgpenhbgaa.Ea
set_option linter.unusedVariables false
set_option linter.unusedSimpArgs false
namespace Go.Proofs.Ytjkikkgpenhbgaa.Ea
open Go.Conc Go.ConcN Go.RowKit Go.Conc.Lib Go.ConcR.Gen Go.ConcN.Gen Go.Proofs.Ytjkikkgpenhbgaa.Sim
open Go.ConcR (KK wgBlock WgAt stA smA rd wr mk Payload Aside2 DC0)
def bW:Frame:=baseD 70
noncomputable def bot:Frame:={ (default:Frame) with fn:=Try.prog.funcs.size,defers:=[],mode:=.panicking [goexitEntry] }
noncomputable def bodyW:Code:=Try.f70.body.getD .skip
def Lw (N j:Nat):Nat:=N+6+j
def Own (X:Loc→Prop) (N k:Nat):Loc→Prop:=fun l=>1≤k∧(l = .cell ⟨N+3,k - 1,none⟩∨(k=1∧X l))
def RB (N bA bB k b:Nat):Prop:=b=N∨b=N+1∨b=N+2∨b=N+4∨b=N+6+(k - 1)∨b=bA∨b=bB
def Rd (N bA bB k:Nat):Loc→Prop:=fun l=>1≤k∧∃ a,l = .cell a∧RB N bA bB k a.block
structure Far (X:Loc→Prop) (N bA bB:Nat):Prop where
 old:∀ a,X (.cell a)→a.block<N∧a.block≠bA∧a.block≠bB
 a:bA<N+3
 b:bB<N+3
theorem apart {X:Loc→Prop} {N bA bB:Nat} (h:Far X N bA bB):Apart (ShN (N+5)) (Own X N) (Rd N bA bB):=by
 have ha:=h.a
 have hb:=h.b
 refine ⟨fun k k' l h1 h2=>?_,fun k k' l h1 h2=>?_,fun k l h1 h2=>?_,fun k l h1 h2=>?_⟩
 ·obtain ⟨k1,h1⟩:=h1
  obtain ⟨k2,h2⟩:=h2
  rcases h1 with rfl | ⟨rfl,hx⟩
  ·rcases h2 with e | ⟨rfl,hx⟩
   ·simp at e;omega
   ·have:=(h.old _ hx).1;simp at this;omega
  ·rcases h2 with rfl | ⟨rfl,_⟩
   ·have:=(h.old _ hx).1;simp at this;omega
   ·rfl
 ·obtain ⟨k1,h1⟩:=h1
  obtain ⟨k2,a,e,hr⟩:=h2
  rcases h1 with h1 | ⟨rfl,hx⟩
  ·rw [h1] at e;cases e;simp only [RB] at hr;omega
  ·subst e;have:=h.old _ hx;simp only [RB] at hr;omega
 ·obtain ⟨k1,h1⟩:=h1
  obtain ⟨a,rfl,hb⟩:=h2
  rcases h1 with h1 | ⟨rfl,hx⟩
  ·cases h1;simp at hb
  ·have:=(h.old _ hx).1;omega
 ·obtain ⟨k1,a,rfl,hr⟩:=h1
  obtain ⟨a',e,hb'⟩:=h2
  cases e
  simp only [RB] at hr
  omega
theorem geo (N:Nat):Geo (N+5) (N+3) (Lw N):=⟨fun a b h=>by simp only [Lw];omega,by simp only [Lw];omega,by simp only [Lw];omega,by omega⟩
def callW (N j:Nat):Deferred:={ target:=.fn (.func 70) #[.pointer (some ⟨N+5,0,none⟩),.pointer (some ⟨N+2,0,none⟩),.pointer (some ⟨N,0,none⟩),.pointer (some ⟨N+6+j,0,none⟩),.pointer (some ⟨N+1,0,none⟩),.pointer (some ⟨N+4,0,none⟩)],args:=#[] }
structure WK (N n j g:Nat) (adA adB:Addr) (cA cB:Nat) (x y:Int) (w:World):Prop where
 av:w.cell? ⟨N,0,none⟩=some (.slice (some adA) n cA)
 bv:w.cell? ⟨N+1,0,none⟩=some (.slice (some adB) n cB)
 mv:w.cell? ⟨N+2,0,none⟩=some (.func (.func g) #[] #[])
 outv:w.cell? ⟨N+4,0,none⟩=some (.slice (some ⟨N+3,0,none⟩) n n)
 ib:w.cell? ⟨N+6+j,0,none⟩=some (.int .i64 j)
 xa:w.cell? (adA.add j)=some (.int .i64 x)
 xb:w.cell? (adB.add j)=some (.int .i64 y)
 live:WgLive 95 (N+5) w
 pay:PayAt (N+3) n w
section
variable {N n j g:Nat} {adA adB:Addr} {cA cB:Nat} {x y:Int} {w w₁:World} {X:Loc→Prop} {bA bB:Nat}
theorem add_block (a:Addr) (n:Nat):(a.add n).block=a.block:=by unfold Addr.add;split <;> rfl
theorem cellOf {w w₁:World} {a:Addr} (e:w₁.heap[a.block]? = w.heap[a.block]?):w₁.cell? a=w.cell? a:=World.cell?_of_block e
theorem WK.rely (hA:adA.block<N) (hB:adB.block<N) (h:WK N n j g adA adB cA cB x y w) (r:RW 95 (N+5) (N+3) n (Lw N (j+1)) (j+1 - 1) w w₁):WK N n j g adA adB cA cB x y w₁:=by
 have lo:∀ b,b<N+7+j→b≠N+5→b≠N+3→w₁.heap[b]? = w.heap[b]?:=fun b h1 h2 h3=>r.low b (by simp only [Lw];omega) h2 h3
 refine ⟨(cellOf (lo _ (by simp <;> omega) (by simp) (by simp))).trans h.av,(cellOf (lo _ (by simp <;> omega) (by simp) (by simp))).trans h.bv,(cellOf (lo _ (by simp <;> omega) (by simp) (by simp))).trans h.mv,(cellOf (lo _ (by simp <;> omega) (by simp) (by simp))).trans h.outv,(cellOf (lo _ (by simp <;> omega) (by simp <;> omega) (by simp <;> omega))).trans h.ib,(cellOf (lo _ ?_ ?_ ?_)).trans h.xa,(cellOf (lo _ ?_ ?_ ?_)).trans h.xb,r.live h.live,r.pay h.pay⟩
 all_goals rw [add_block];omega
theorem WK.cellAt (h:WK N n j g adA adB cA cB x y w) (hj:j<n):∃ u,w.cell? ⟨N+3,j,none⟩=some u∧w.frozen? ⟨N+3,j,none⟩=false:=by
 obtain ⟨arr,h1,h2⟩:=h.pay
 exact ⟨arr[j]'(by omega),by simp [World.cell?,h1,h2,hj],by simp [World.frozen?,h1]⟩
theorem asideCell_set {C:Nat} (hp:PayAt C n w) (v:Value):AsideCell C n j w (w.setCell ⟨C,j,none⟩ v):=by
 have hA:=aside_setCell w ⟨C,j,none⟩ v
 obtain ⟨arr,h1,h2⟩:=hp
 have hb:(w.setCell ⟨C,j,none⟩ v).heap[C]? = some (.cells (arr.setIfInBounds j v) Payload.ety):=by
  rw [setCell_eq_setRow w C j arr _ (0,0) _ h1,setRow_heap w C _ _ _ _ h1]
 refine ⟨hA.tape,hA.os,hA.output,hA.size,fun b hb'=>hA.block b hb',fun _=>⟨_,hb,by simpa using h2⟩,fun i' hi'=>?_⟩
 simp [World.cell?,hb,h1,Array.getElem?_setIfInBounds_ne (Ne.symm hi')]
theorem has_set {C:Nat} (hp:PayAt C n w) (hj:j<n) (v:Value):Has C j v (w.setCell ⟨C,j,none⟩ v):=by
 obtain ⟨arr,h1,h2⟩:=hp
 have hb:(w.setCell ⟨C,j,none⟩ v).heap[C]? = some (.cells (arr.setIfInBounds j v) Payload.ety):=by
  rw [setCell_eq_setRow w C j arr _ (0,0) _ h1,setRow_heap w C _ _ _ _ h1]
 simp [Has,World.cell?,hb,h2,hj]
theorem evW_read (a:Addr) (s:Bool) (h:RB N bA bB (j+1) a.block):EvW (N+5) (Own X N) (Rd N bA bB) (j+1) ⟨.cell a,false,s⟩:=by
 refine ⟨fun fn pos=>⟨rfl,fun y hy=>?_⟩,by simp,by simp,by simp⟩
 simp only [Go.ConcR.ofEvent_cell,MemAct.touch?,Option.some.injEq] at hy
 subst hy
 exact .inr (.inr ⟨⟨by omega,a,rfl,h⟩,rfl⟩)
theorem evW_own:EvW (N+5) (Own X N) (Rd N bA bB) (j+1) ⟨.cell ⟨N+3,j,none⟩,true,false⟩:=by
 refine ⟨fun fn pos=>⟨rfl,fun y hy=>?_⟩,by simp,by simp,by simp⟩
 simp only [Go.ConcR.ofEvent_cell,MemAct.touch?,Option.some.injEq] at hy
 subst hy
 exact .inr (.inl ⟨by omega,.inl (by simp)⟩)
theorem termsW:Terms (RW 95 (N+5) (N+3) n (Lw N (j+1)) (j+1 - 1)) (DWs (N+5) (Own X N) (Rd N bA bB) (N+3) n (j+1)):=
 ⟨fun _ _ _ h k=>h.trans k,fun w=>⟨AsideCell.refl _ _ _ _,by simp⟩⟩
theorem drawW:LetsDraw (DWs (N+5) (Own X N) (Rd N bA bB) (N+3) n (j+1)):=fun w=>⟨⟨rfl,rfl,rfl,rfl,fun _ _=>rfl,id,fun _ _=>rfl⟩,by simp⟩
theorem since_WK (hA:adA.block<N) (hB:adB.block<N) (h:WK N n j g adA adB cA cB x y w) (s:Since (RW 95 (N+5) (N+3) n (Lw N (j+1)) (j+1 - 1)) w w₁):WK N n j g adA adB cA cB x y w₁:=s.elim (fun e=>e ▸ h) (WK.rely hA hB h)
end
theorem quitsTail (T:Array Value):QuitsD Try.prog 2 0 (G { bW.at ⟨T,[]⟩ [] with mode:=.returning } [bot]):=by
 refine QuitsD.ctl (g':=G bot []) rfl (fun w=>?_) ?_
 ·simp [G,stepG,unwind,doReturn,results,Frame.at,bW,baseD,bot,Try.func70,Try.f70,seen,GStep.after,goexitEntry]
 refine QuitsD.ctl (g':={ G bot [] with status:=.finished }) rfl (fun w=>?_) ⟨rfl,rfl⟩
 simp [G,stepG,unwind,bot,goexitEntry,Frame.catches]
 rfl
noncomputable def tmpsW (N j:Nat):Array Value:=#[.pointer (some ⟨N+5,0,none⟩),.pointer (some ⟨N+2,0,none⟩),.pointer (some ⟨N,0,none⟩),.pointer (some ⟨N+6+j,0,none⟩),.pointer (some ⟨N+1,0,none⟩),.pointer (some ⟨N+4,0,none⟩),undef,undef,undef,undef,undef,undef,undef,undef,undef,undef,undef,undef,undef]
theorem born_step (N j:Nat) (w:World):stepG Try.prog false (born Try.prog (callW N j)) w = .go (G (bW.at ⟨tmpsW N j,[]⟩ [.code bodyW]) [bot]) w #[]:=by
 simp [born,callW,stepG,unwind,callDeferred,invoke,callFunc,Try.func70,Try.f70,seen,GStep.after,G,Frame.enter,Frame.at,bW,baseD,bot,bodyW,tmpsW]
end Go.Proofs.Ytjkikkgpenhbgaa.Ea
set_option linter.unusedVariables false
set_option linter.unusedSimpArgs false
namespace Go.Proofs.Ytjkikkgpenhbgaa.Ea
open Go.Conc Go.ConcN Go.RowKit Go.Conc.Lib Go.ConcR.Gen Go.ConcN.Gen Go.Proofs.Ytjkikkgpenhbgaa.Sim
open Go.ConcR (KK wgBlock WgAt stA smA rd wr mk Payload Aside2 DC0)
noncomputable def opsW:Array Oper:=match bodyW with | .seq _ (.region _ ops _)=>ops | _=>#[]
theorem opsW_order:Try.prog.follows .mixedOrders=true:=by kernel_rfl
section
variable {N n j g:Nat} {adA adB:Addr} {cA cB:Nat} {x y:Int} {w w₁:World} {X:Loc→Prop} {bA bB:Nat} {ops:Array Oper} {a:Act} {S:World→Prop}
theorem ld_yields {o:Oper} {t s:Nat} {ad:Addr} {v:Value} (ho:o.op = .load t (.tmp s)) (hg:o.guard=none) (hs:a.tmps.getD s undef = .pointer (some ad)) {d:TypeDesc} (hu:Try.prog.underlying t=some d) (hd:∀ f,d≠.struct f) (hd2:∀ n e,d≠.array n e)
  (hc:∀ w,S w→w.cell? ad=some v) (hE:EvW (N+5) (Own X N) (Rd N bA bB) (j+1) ⟨.cell ad,false,false⟩):YieldsIfC Try.prog (DWs (N+5) (Own X N) (Rd N bA bB) (N+3) n (j+1)) bW.fn ops S o v a:=
 .inl ⟨by unfold Region.wanted;rw [hg],fun w hw=>⟨(load_both ho hs hu hd hd2 (hc w hw)).1,AsideCell.refl _ _ _ _,fun e he=>by
  have:=mem_listed he
  rw [(load_both ho hs hu hd hd2 (hc w hw)).2] at this
  simp at this
  subst this
  exact hE⟩⟩
theorem ix_yields {o:Oper} {t u v tI m c:Nat} {ad:Addr} {i:TypeInfo} (ho:o.op = .indexAddr t (.tmp u) (.tmp v)) (hg:o.guard=none) (hx:a.tmps.getD u undef = .slice (some ad) m c) (hy:a.tmps.getD v undef = .int .i64 (j:Int)) (hS:Try.prog.underlying t=some (.slice tI)) (hi:Try.prog.info? tI=some i) (h1:i.size=1) (hj:j<m) :
  YieldsIfC Try.prog (DWs (N+5) (Own X N) (Rd N bA bB) (N+3) n (j+1)) bW.fn ops S o (.pointer (some (ad.add j))) a:=
 .inl ⟨by unfold Region.wanted;rw [hg],fun w hw=>⟨(index_both ho hx hy hS hi h1 hj).1,AsideCell.refl _ _ _ _,fun e he=>by
  have:=mem_listed he
  rw [(index_both ho hx hy hS hi h1 hj).2] at this
  simp at this⟩⟩
end
theorem infoI0:(Try.prog.info? 3).map (fun i=>(i.zero,i.size,i.bytes))=some (some (.int .i64 0),1,8):=by kernel_rfl
theorem infoI:∃ i,Try.prog.info? 3=some i∧i.size=1∧i.bytes=8∧i.zero=some (.int .i64 0):=by
 obtain ⟨i,h,e⟩:=Option.map_eq_some_iff.1 infoI0
 simp only [Prod.mk.injEq] at e
 exact ⟨i,h,e.2.1,e.2.2,e.1⟩
theorem sizeW:opsW.size=14:=by kernel_rfl
theorem selW:Region.noSelect opsW=true:=by kernel_rfl
section
variable {P:Program} {main:Bool} {R:World→World→Prop} {D:World→World→Array Event→Prop} {fn:FuncId} {ops:Array Oper} {Q:Exit→Act→World→Prop} {S:World→Prop} {K:Nat}
theorem takeV (T:Terms R D) (hSR:∀ x y,S x→R x y→S y) (hQR:∀ a x y,Q .normal a x→R x y→Q .normal a y) {i d sz:Nat} {oi:Oper} {v:Value} {fuel:Nat} {listed:Array Bool} {t:Array Value} {f:Nat→Value} {ds:List Deferred} {w:World} (hT:Tm sz t f) (hi:ops[i]? = some oi) (hd:oi.dst=some d) (hdz:d<sz)
  (hs:Region.noSelect ops=true) (hf:Region.free .any ops listed i=true) (hr:(Region.ready .any ops listed).contains i=true)
  (hy:YieldsIfC P D fn ops S oi v ⟨t,ds⟩) (hS:S w) (h:∀ t',Tm sz t' (putF f d v)→AnyN P main R D fn .any ops K Q S fuel (listed.setIfInBounds i true) ⟨t',ds⟩ w):AnyN P main R D fn .any ops K Q S (fuel+1) listed ⟨t,ds⟩ w:=by
 refine anyN_take T hSR hQR hi hs hf hr hy hS ?_
 rw [hd]
 exact h _ (hT.put hdz v)
end
def trues (k:Nat):Array Bool:=(List.replicate k true++List.replicate (14 - k) false).toArray
theorem zaJ {k:Nat} (h:k<14):(trues k).setIfInBounds k true=trues (k+1):=by
 match k,h with
 | 0,_=>rfl
 | 1,_=>rfl
 | 2,_=>rfl
 | 3,_=>rfl
 | 4,_=>rfl
 | 5,_=>rfl
 | 6,_=>rfl
 | 7,_=>rfl
 | 8,_=>rfl
 | 9,_=>rfl
 | 10,_=>rfl
 | 11,_=>rfl
 | 12,_=>rfl
 | 13,_=>rfl
 | k+14,h=>omega
theorem freeW:∀ k,k ∈ [0,1,2,3,4,5,6,7,8,9,10,12]→Region.free .any opsW (trues k) k=true∧(Region.ready .any opsW (trues k)).contains k=true:=by
 have h:([0,1,2,3,4,5,6,7,8,9,10,12].all fun k=>Region.free .any opsW (trues k) k && (Region.ready .any opsW (trues k)).contains k)=true:=by kernel_rfl
 intro k hk
 have:=List.all_eq_true.1 h k hk
 simpa using this
theorem readyW11:Region.ready .any opsW (trues 11)=[11]:=by kernel_rfl
theorem readyW13:Region.ready .any opsW (trues 13)=[13]:=by kernel_rfl
theorem readyW14:Region.ready .any opsW (trues 14)=[]:=by kernel_rfl
end Go.Proofs.Ytjkikkgpenhbgaa.Ea
set_option linter.unusedVariables false
set_option linter.unusedSimpArgs false
namespace Go.Proofs.Ytjkikkgpenhbgaa.Ea
open Go.Conc Go.ConcN Go.RowKit Go.Conc.Lib Go.ConcR.Gen Go.ConcN.Gen Go.Proofs.Ytjkikkgpenhbgaa.Sim
open Go.ConcR (KK wgBlock WgAt stA smA rd wr mk Payload Aside2 DC0)
def f0W (N j:Nat):Nat→Value:=fun i=>match i with
 | 0=>.pointer (some ⟨N+5,0,none⟩)
 | 1=>.pointer (some ⟨N+2,0,none⟩)
 | 2=>.pointer (some ⟨N,0,none⟩)
 | 3=>.pointer (some ⟨N+6+j,0,none⟩)
 | 4=>.pointer (some ⟨N+1,0,none⟩)
 | 5=>.pointer (some ⟨N+4,0,none⟩)
 | _=>undef
theorem tm0W (N j:Nat):Tm 19 (tmpsW N j) (f0W N j):=by
 refine ⟨rfl,fun i=>?_⟩
 match i with
 | 0=>rfl
 | 1=>rfl
 | 2=>rfl
 | 3=>rfl
 | 4=>rfl
 | 5=>rfl
 | 6=>rfl
 | 7=>rfl
 | 8=>rfl
 | 9=>rfl
 | 10=>rfl
 | 11=>rfl
 | 12=>rfl
 | 13=>rfl
 | 14=>rfl
 | 15=>rfl
 | 16=>rfl
 | 17=>rfl
 | 18=>rfl
 | i+19=>rfl
section
variable {N n j g:Nat} {adA adB:Addr} {cA cB:Nat} {x y:Int} {w w₁:World} {X:Loc→Prop} {bA bB:Nat} {m:Mk}
set_option maxRecDepth 100000 in
theorem region_W (hM:MkFn m g) (hG:∃ fn,Try.prog.funcs[g]? = some fn∧(fn.name == "runtime.NumGoroutine")=false∧fn.body.isNone=false) (hj:j<n) (hx:0≤x∧x≤30) (hy:0≤y∧y≤30) (hA:adA.block<N) (hB:adB.block<N) (ha:adA.block=bA) (hb:adB.block=bB):∃ c,∀ (ds:List Deferred) (w:World),WK N n j g adA adB cA cB x y w→
  (Code.region 1 opsW true).wpC Try.prog false (RW 95 (N+5) (N+3) n (Lw N (j+1)) (j+1 - 1)) (DWs (N+5) (Own X N) (Rd N bA bB) (N+3) n (j+1)) bW.fn c (fun e a' w'=>e = .normal∧a'.defers=ds∧WgLive 95 (N+5) w'∧Has (N+3) j (.int .i64 (m.val x y)) w') ⟨tmpsW N j,ds⟩ w:=by
 obtain ⟨nC,hC⟩:=hM (termsW (N:=N) (n:=n) (j:=j) (X:=X) (bA:=bA) (bB:=bB))
 obtain ⟨iI,hi,hi1,_,_⟩:=infoI
 refine ⟨_,fun ds w hF=>wpC_region_N (N:=nC) (S:=WK N n j g adA adB cA cB x y) termsW drawW opsW_order (fun w₁ h₁=>?_)⟩
 have T:=termsW (N:=N) (n:=n) (j:=j) (X:=X) (bA:=bA) (bB:=bB)
 have hSR:∀ u v,WK N n j g adA adB cA cB x y u→RW 95 (N+5) (N+3) n (Lw N (j+1)) (j+1 - 1) u v→WK N n j g adA adB cA cB x y v:=fun u v h r=>h.rely hA hB r
 have hQR:∀ (a:Act) u v,(Exit.normal = .normal∧a.defers=ds∧WgLive 95 (N+5) u∧Has (N+3) j (.int .i64 (m.val x y)) u)→RW 95 (N+5) (N+3) n (Lw N (j+1)) (j+1 - 1) u v→(Exit.normal = .normal∧a.defers=ds∧WgLive 95 (N+5) v∧Has (N+3) j (.int .i64 (m.val x y)) v):=fun a u v h r=>⟨rfl,h.2.1,r.live h.2.2.1,r.cell.trans h.2.2.2⟩
 have hS:WK N n j g adA adB cA cB x y { w₁ with drawn:=w₁.drawn+1 }:=hF.rely hA hB (h₁.trans (RW.at w₁ _))
 have hT:=tm0W N j
 rw [sizeW]
 have e0:Array.replicate 14 false=trues 0:=rfl
 rw [e0]
 generalize tmpsW N j=t at hT ⊢
 refine takeV (i:=0) (d:=6) (v:=.slice (some ⟨N+3,0,none⟩) n n) T hSR hQR hT rfl rfl (by omega) selW (freeW 0 (by simp)).1 (freeW 0 (by simp)).2 (ld_yields (s:=5) rfl rfl (hT.get 5) Try.underlying23 (by simp) (by simp) (fun w h=>h.outv) (evW_read _ _ (by simp [RB]))) hS (fun t hT=>?_)
 rw [zaJ (by omega)]
 refine takeV (i:=1) (d:=7) (v:=.int .i64 j) T hSR hQR hT rfl rfl (by omega) selW (freeW 1 (by simp)).1 (freeW 1 (by simp)).2 (ld_yields (s:=3) rfl rfl ((hT.get 3).trans (by rw [zad (by omega)];rfl)) Try.underlying3 (by simp) (by simp) (fun w h=>h.ib) (evW_read _ _ (by simp [RB]))) hS (fun t hT=>?_)
 rw [zaJ (by omega)]
 refine takeV (i:=2) (d:=8) (v:=.func (.func g) #[] #[]) T hSR hQR hT rfl rfl (by omega) selW (freeW 2 (by simp)).1 (freeW 2 (by simp)).2 (ld_yields (s:=1) rfl rfl ((hT.get 1).trans (by rw [zad (by omega),zad (by omega)];rfl)) Try.underlying65 (by simp) (by simp) (fun w h=>h.mv) (evW_read _ _ (by simp [RB]))) hS (fun t hT=>?_)
 rw [zaJ (by omega)]
 refine takeV (i:=3) (d:=9) (v:=.slice (some adA) n cA) T hSR hQR hT rfl rfl (by omega) selW (freeW 3 (by simp)).1 (freeW 3 (by simp)).2 (ld_yields (s:=2) rfl rfl ((hT.get 2).trans (by rw [zad (by omega),zad (by omega),zad (by omega)];rfl)) Try.underlying23 (by simp) (by simp) (fun w h=>h.av) (evW_read _ _ (by simp [RB]))) hS (fun t hT=>?_)
 rw [zaJ (by omega)]
 refine takeV (i:=4) (d:=10) (v:=.int .i64 j) T hSR hQR hT rfl rfl (by omega) selW (freeW 4 (by simp)).1 (freeW 4 (by simp)).2 (ld_yields (s:=3) rfl rfl ((hT.get 3).trans (by rw [zad (by omega),zad (by omega),zad (by omega),zad (by omega)];rfl)) Try.underlying3 (by simp) (by simp) (fun w h=>h.ib) (evW_read _ _ (by simp [RB]))) hS (fun t hT=>?_)
 rw [zaJ (by omega)]
 refine takeV (i:=5) (d:=11) (v:=.pointer (some (adA.add j))) T hSR hQR hT rfl rfl (by omega) selW (freeW 5 (by simp)).1 (freeW 5 (by simp)).2 (ix_yields (u:=9) (v:=10) rfl rfl ((hT.get 9).trans (by rw [zad (by omega),putF_same])) ((hT.get 10).trans putF_same) Try.underlying23 hi hi1 hj) hS (fun t hT=>?_)
 rw [zaJ (by omega)]
 refine takeV (i:=6) (d:=12) (v:=.int .i64 x) T hSR hQR hT rfl rfl (by omega) selW (freeW 6 (by simp)).1 (freeW 6 (by simp)).2 (ld_yields (s:=11) rfl rfl ((hT.get 11).trans putF_same) Try.underlying3 (by simp) (by simp) (fun w h=>h.xa) (evW_read _ _ (by rw [add_block];simp [RB,ha]))) hS (fun t hT=>?_)
 rw [zaJ (by omega)]
 refine takeV (i:=7) (d:=13) (v:=.slice (some adB) n cB) T hSR hQR hT rfl rfl (by omega) selW (freeW 7 (by simp)).1 (freeW 7 (by simp)).2 (ld_yields (s:=4) rfl rfl ((hT.get 4).trans (by repeat (first | rfl | rw [zad (by omega)]))) Try.underlying23 (by simp) (by simp) (fun w h=>h.bv) (evW_read _ _ (by simp [RB]))) hS (fun t hT=>?_)
 rw [zaJ (by omega)]
 refine takeV (i:=8) (d:=14) (v:=.int .i64 j) T hSR hQR hT rfl rfl (by omega) selW (freeW 8 (by simp)).1 (freeW 8 (by simp)).2 (ld_yields (s:=3) rfl rfl ((hT.get 3).trans (by repeat (first | rfl | rw [zad (by omega)]))) Try.underlying3 (by simp) (by simp) (fun w h=>h.ib) (evW_read _ _ (by simp [RB]))) hS (fun t hT=>?_)
 rw [zaJ (by omega)]
 refine takeV (i:=9) (d:=15) (v:=.pointer (some (adB.add j))) T hSR hQR hT rfl rfl (by omega) selW (freeW 9 (by simp)).1 (freeW 9 (by simp)).2 (ix_yields (u:=13) (v:=14) rfl rfl ((hT.get 13).trans (by rw [zad (by omega),putF_same])) ((hT.get 14).trans putF_same) Try.underlying23 hi hi1 hj) hS (fun t hT=>?_)
 rw [zaJ (by omega)]
 refine takeV (i:=10) (d:=16) (v:=.int .i64 y) T hSR hQR hT rfl rfl (by omega) selW (freeW 10 (by simp)).1 (freeW 10 (by simp)).2 (ld_yields (s:=15) rfl rfl ((hT.get 15).trans putF_same) Try.underlying3 (by simp) (by simp) (fun w h=>h.xb) (evW_read _ _ (by rw [add_block];simp [RB,hb]))) hS (fun t hT=>?_)
 rw [zaJ (by omega)]
 refine anyN_all (rs:=[11]) readyW11 (by simp) (fun i hi'=>?_)
 obtain rfl:i=11:=by simpa using hi'
 obtain ⟨fg,hg1,hg2,hg3⟩:=hG
 refine opN_enter (f:=g) (args:=#[.int .i64 x,.int .i64 y]) (o:=_) rfl rfl T.idle (fun w₂ h₂=>?_)
 have hS2:=hS.rely hA hB h₂
 have hcall:=fun (o:Oper) (ho:o.op = .call { callee:=.value (.tmp 8),args:=#[.tmp 12,.tmp 16],argTypes:=#[60,60] })=>callv_both (P:=Try.prog) (w:=w₂) (a:=⟨t,ds⟩) (cf:=8) (a1:=12) (a2:=16) (g:=g) (u:=.int .i64 x) (v:=.int .i64 y) (o:=o) ho ((hT.get 8).trans (by rw [zad (by omega),zad (by omega),zad (by omega),zad (by omega),zad (by omega),zad (by omega),zad (by omega),zad (by omega),putF_same])) ((hT.get 12).trans (by rw [zad (by omega),zad (by omega),zad (by omega),zad (by omega),putF_same])) ((hT.get 16).trans putF_same) hg1 hg2 hg3
 refine ⟨(hcall _ rfl).1,(hcall _ rfl).2,(hC x y w₂ hx.1 hx.2 hy.1 hy.2).mono fun v w₃ ⟨hv,hs⟩=>?_⟩
 subst hv
 have hS3:=since_WK hA hB hS2 hs
 refine ⟨hS3,?_⟩
 have hT17:=hT.put (d:=17) (by omega) (.int .i64 (m.val x y))
 rw [zaJ (by omega)]
 show AnyN _ _ _ _ _ _ _ _ _ _ 2 (trues 12) ⟨t.setIfInBounds 17 (.int .i64 (m.val x y)),ds⟩ w₃
 generalize t.setIfInBounds 17 (.int .i64 (m.val x y))=t2 at hT17 ⊢
 refine takeV (i:=12) (d:=18) (v:=.pointer (some ((⟨N+3,0,none⟩:Addr).add j))) T hSR hQR hT17 rfl rfl (by omega) selW (freeW 12 (by simp)).1 (freeW 12 (by simp)).2 (ix_yields (u:=6) (v:=7) rfl rfl ((hT17.get 6).trans (by rw [zad (by omega),zad (by omega),zad (by omega),zad (by omega),zad (by omega),zad (by omega),zad (by omega),zad (by omega),zad (by omega),zad (by omega),zad (by omega),putF_same])) ((hT17.get 7).trans (by rw [zad (by omega),zad (by omega),zad (by omega),zad (by omega),zad (by omega),zad (by omega),zad (by omega),zad (by omega),zad (by omega),zad (by omega),putF_same])) Try.underlying23 hi hi1 hj) hS3 (fun t3 hT3=>?_)
 rw [zaJ (by omega),addr_add] at *
 refine anyN_all (rs:=[13]) readyW13 (by simp) (fun i hi'=>?_)
 obtain rfl:i=13:=by simpa using hi'
 refine opN_skip (w2:=fun w=>w.setCell ⟨N+3,j,none⟩ (.int .i64 (m.val x y))) (es:=fun _=>#[⟨.cell ⟨N+3,j,none⟩,true,false⟩]) (o:=_) rfl rfl (fun w₄ h₄=>?_)
 have hS4:=hS3.rely hA hB h₄
 obtain ⟨u,hu1,hu2⟩:=hS4.cellAt hj
 have hst:=fun (o:Oper) (ho:o.op = .store 3 (.tmp 18) (.tmp 17))=>store_both (P:=Try.prog) (w:=w₄) (a:=⟨t3,ds⟩) (x:=18) (y:=17) (t:=3) (ad:=⟨N+3,j,none⟩) (z:=m.val x y) (o:=o) ho ((hT3.get 18).trans putF_same) ((hT3.get 17).trans (by rw [zad (by omega),putF_same])) hi hi1 hu1 hu2
 have hkeep:WK N n j g adA adB cA cB x y (w₄.setCell ⟨N+3,j,none⟩ (.int .i64 (m.val x y))):=by
  have ha':=asideCell_set (j:=j) hS4.pay (.int .i64 (m.val x y))
  have st:∀ a:Addr,a.block≠N+3→(w₄.setCell ⟨N+3,j,none⟩ (.int .i64 (m.val x y))).cell? a=w₄.cell? a:=fun a hne=>cellOf (ha'.block _ hne)
  refine ⟨(st _ (by simp)).trans hS4.av,(st _ (by simp)).trans hS4.bv,(st _ (by simp)).trans hS4.mv,(st _ (by simp)).trans hS4.outv,(st _ (by simp <;> omega)).trans hS4.ib,(st _ (by rw [add_block];omega)).trans hS4.xa,(st _ (by rw [add_block];omega)).trans hS4.xb,?_,ha'.pay hS4.pay⟩
  obtain ⟨s1,s2,hl⟩:=hS4.live
  exact ⟨s1,s2,hl.of_block (ha'.block (N+5) (by omega))⟩
 refine ⟨(hst _ rfl).1,(hst _ rfl).2,fun es' hes=>⟨asideCell_set hS4.pay _,fun e he=>?_⟩,hkeep,?_⟩
 ·have:=hes e he
  simp at this
  subst this
  exact evW_own
 rw [zaJ (by omega)]
 exact anyN_done readyW14 ⟨rfl,rfl,hkeep.live,has_set hS4.pay hj _⟩ 0
end
end Go.Proofs.Ytjkikkgpenhbgaa.Ea
set_option linter.unusedVariables false
set_option linter.unusedSimpArgs false
namespace Go.Proofs.Ytjkikkgpenhbgaa.Ea
open Go.Conc Go.ConcN Go.RowKit Go.Conc.Lib Go.ConcR.Gen Go.ConcN.Gen Go.Proofs.Ytjkikkgpenhbgaa.Sim
open Go.ConcR (KK wgBlock WgAt stA smA rd wr mk Payload Aside2 DC0)
theorem bodyW_eq:bodyW = .seq (.region 0 (match bodyW with | .seq (.region _ o _) _=>o | _=>#[]) false) (.region 1 opsW true):=by kernel_rfl
section
variable {N n j g:Nat} {adA adB:Addr} {cA cB:Nat} {x y:Int} {w w₁:World} {X:Loc→Prop} {bA bB:Nat} {m:Mk}
set_option maxRecDepth 100000 in
set_option maxHeartbeats 4000000 in
theorem works (hM:MkFn m g) (hG:∃ fn,Try.prog.funcs[g]? = some fn∧(fn.name == "runtime.NumGoroutine")=false∧fn.body.isNone=false) (hj:j<n) (hx:0≤x∧x≤30) (hy:0≤y∧y≤30) (hA:adA.block<N) (hB:adB.block<N) (ha:adA.block=bA) (hb:adB.block=bB) (hF:WK N n j g adA adB cA cB x y w) :
  Works Try.prog 95 (N+5) (N+3) n (Own X N) (Rd N bA bB) (Lw N (j+1)) (j+1) (.int .i64 (m.val x y)) (born Try.prog (callW N j)) w:=by
 obtain ⟨c,hreg⟩:=region_W (X:=X) hM hG hj hx hy hA hB ha hb (cA:=cA) (cB:=cB) (n:=n)
 have hR:∀ {w w₁},WK N n j g adA adB cA cB x y w→RW 95 (N+5) (N+3) n (Lw N (j+1)) (j+1 - 1) w w₁→WK N n j g adA adB cA cB x y w₁:=fun h r=>h.rely hA hB r
 refine ⟨(25+c)+1+1+1+1+1,Goes.step rfl fun w₁ h₁=>?_⟩
 replace hF:=hR hF h₁
 clear h₁
 rw [born_step]
 refine ⟨by u_nil,?_⟩
 have hk:∀ (ds:List Deferred),ds=[{ target:=.fn (.func 71) #[],args:=#[.pointer (some ⟨N+5,0,none⟩)] }]→∀ w,WK N n j g adA adB cA cB x y w→Goes Try.prog false (RW 95 (N+5) (N+3) n (Lw N (j+1)) (j+1 - 1)) (DWs (N+5) (Own X N) (Rd N bA bB) (N+3) n (j+1)) (AtR0 Try.prog 95 (N+5) (N+3) n (Lw N (j+1)) (j+1) (.int .i64 (m.val x y))) (25+c) (G (bW.at ⟨tmpsW N j,ds⟩ [.code (.region 1 opsW true)]) [bot]) w:=by
  rintro ds rfl w hF
  refine (hreg _ w hF) bW [] [bot] _ 25 rfl (by decide) (fun e a' w' hq=>?_)
  obtain ⟨rfl,hds,hlive,hhas⟩:=hq
  show Goes _ _ _ _ _ 25 (G (bW.at a' []) [bot]) w'
  have hK:=And.intro hlive hhas
  obtain ⟨T,dd⟩:=a'
  subst hds
  u_c stepG_end kn_rely hK
  u_in kn_rely hK
  rw [stepG_unwind_enter rfl Try.func71 (nm_done wglink) rfl]
  simp only [goes_go]
  refine ⟨by u_nil,?_⟩
  walk_nrmf Try.f71
  have hA:=@doneN _ wglink Try.prog wgLib (Own X N) (Rd N bA bB) (N+5) (N+3) n (Lw N (j+1)) (j+1) (.int .i64 (m.val x y))
  simp only [body_done,doneFn,Option.getD_some] at hA
  exact hA rfl (quitsTail _) _ hK
 rw [bodyW_eq]
 u_c stepG_seq hR hF
 simp only [bodyW,Try.f70,Option.getD_some]
 u_reg hR hF
 u_in hR hF
 rw [stepG_defer rfl rfl (by k_ne) rfl]
 simp only [goes_go]
 refine ⟨by u_nil,?_⟩
 u_c stepG_region_end hR hF
 refine hk _ ?_ _ hF
 simp [dcall,Act.eval,tmpsW]
end
end Go.Proofs.Ytjkikkgpenhbgaa.Ea
set_option linter.unusedVariables false
set_option linter.unusedSimpArgs false
namespace Go.Proofs.Ytjkikkgpenhbgaa.Ea
open Go.Conc Go.ConcN Go.RowKit Go.Conc.Lib Go.ConcR.Gen Go.ConcN.Gen Go.Proofs.Ytjkikkgpenhbgaa.Sim
open Go.ConcR (KK wgBlock WgAt stA smA rd wr mk Payload DC0)
noncomputable def bodyE:Code:=Try.f41.body.getD .skip
noncomputable def r0:Array Oper:=match bodyE with | .seq (.region _ r _) _=>r | _=>#[]
noncomputable def r1:Array Oper:=match bodyE with | .seq _ (.seq (.seq (.region _ r _) _) _)=>r | _=>#[]
noncomputable def c1:Code:=match bodyE with | .seq _ (.seq (.seq _ c) _)=>c | _=>.skip
noncomputable def r3:Array Oper:=match bodyE with | .seq _ (.seq _ (.seq (.region _ r _) _))=>r | _=>#[]
noncomputable def r4:Array Oper:=match bodyE with | .seq _ (.seq _ (.seq _ (.seq (.region _ r _) _)))=>r | _=>#[]
noncomputable def r5:Array Oper:=match bodyE with | .seq _ (.seq _ (.seq _ (.seq _ (.seq (.seq (.region _ r _) _) _))))=>r | _=>#[]
noncomputable def LE:Code:=match bodyE with | .seq _ (.seq _ (.seq _ (.seq _ (.seq (.seq _ (.block _ (.loop c))) _))))=>c | _=>.skip
noncomputable def r11:Array Oper:=match bodyE with | .seq _ (.seq _ (.seq _ (.seq _ (.seq _ (.seq (.region _ r _) _)))))=>r | _=>#[]
noncomputable def r12:Array Oper:=match bodyE with | .seq _ (.seq _ (.seq _ (.seq _ (.seq _ (.seq _ (.seq (.region _ r _) _))))))=>r | _=>#[]
noncomputable def r6:Array Oper:=match LE with | .seq (.region _ r _) _=>r | _=>#[]
noncomputable def r7:Array Oper:=match LE with | .seq _ (.seq _ (.seq (.block _ (.seq (.region _ r _) _)) _))=>r | _=>#[]
noncomputable def r8:Array Oper:=match LE with | .seq _ (.seq _ (.seq (.block _ (.seq _ (.seq (.region _ r _) _))) _))=>r | _=>#[]
noncomputable def r9:Array Oper:=match LE with | .seq _ (.seq _ (.seq (.block _ (.seq _ (.seq _ (.region _ r _)))) _))=>r | _=>#[]
noncomputable def r10:Array Oper:=match LE with | .seq _ (.seq _ (.seq _ (.region _ r _)))=>r | _=>#[]
noncomputable def tailE:Code:=.seq (.region 12 r12 false) .ret
noncomputable def restE:Code:=.seq (.region 11 r11 false) tailE
theorem LE_eq:LE = .seq (.region 6 r6 false) (.seq (.cond (.tmp 32) .skip (.exit 0)) (.seq (.block 1 (.seq (.region 7 r7 false) (.seq (.region 8 r8 false) (.region 9 r9 false)))) (.region 10 r10 false))):=by kernel_rfl
structure SI (N:Nat) (W:World) (n:Nat) (A B:Option Addr) (cA cB g j s:Nat) (vi:Option Value) (w:World):Prop where
 below:Below N W w
 size:w.heap.size=N+6+j+s
 b0:w.heap[N]? = some (.cells #[.slice A n cA] 23)
 b1:w.heap[N+1]? = some (.cells #[.slice B n cB] 23)
 b2:w.heap[N+2]? = some (.cells #[.func (.func g) #[] #[]] 65)
 b4:w.heap[N+4]? = some (.cells #[.slice (some ⟨N+3,0,none⟩) n n] 23)
 ib:∀ i,i<j→w.heap[N+6+i]? = some (.cells #[.int .i64 (i:Int)] 3)
 ci:∀ v,vi=some v→w.heap[N+6+j]? = some (.cells #[v] 3)
section
variable {N:Nat} {W:World} {n cA cB g j s:Nat} {A B:Option Addr} {vi:Option Value} {w w₁:World} {X:Loc→Prop} {bA bB:Nat}
theorem SI.aside2 (h:SI N W n A B cA cB g j s vi w) (ha:Go.ConcR.Aside2 (N+3) (N+5) w w₁):SI N W n A B cA cB g j s vi w₁:=
 ⟨⟨ha.os.trans h.below.os,ha.tape.trans h.below.tape,ha.output.trans h.below.output,by rw [ha.size];exact h.below.size,fun k hk=>(ha.block k (by omega) (by omega)).trans (h.below.block k hk)⟩,by rw [ha.size];exact h.size,
  (ha.block _ (by omega) (by omega)).trans h.b0,(ha.block _ (by omega) (by omega)).trans h.b1,(ha.block _ (by omega) (by omega)).trans h.b2,(ha.block _ (by omega) (by omega)).trans h.b4,fun i hi=>(ha.block _ (by omega) (by omega)).trans (h.ib i hi),fun v e=>(ha.block _ (by omega) (by omega)).trans (h.ci v e)⟩
theorem SI.alloc (h:SI N W n A B cA cB g j 0 none w) (v:Value):SI N W n A B cA cB g j 1 (some v) (w.alloc (.cells #[v] 3)):=by
 have hs:=h.size
 have old:∀ b,b<N+6+j→(w.alloc (.cells #[v] 3)).heap[b]? = w.heap[b]?:=fun b hb=>Below.heap_alloc _ _ _ (by omega)
 refine ⟨h.below.alloc (by omega) _,by simp [hs],(old _ (by omega)).trans h.b0,(old _ (by omega)).trans h.b1,(old _ (by omega)).trans h.b2,(old _ (by omega)).trans h.b4,fun i hi=>(old _ (by omega)).trans (h.ib i hi),fun u e=>?_⟩
 cases e
 have:=heap_alloc_new w (.cells #[v] 3)
 rwa [hs] at this
theorem heap_set1 {b:Nat} {u:Value} {e:TypeId} (h:w.heap[b]? = some (.cells #[u] e)) (v:Value):(w.setCell ⟨b,0,none⟩ v).heap[b]? = some (.cells #[v] e):=by
 rw [setCell_eq_setRow w b 0 #[u] e (0,0) _ h,setRow_heap w b _ _ e _ h]
 simp
theorem SI.store {u:Value} (h:SI N W n A B cA cB g j 1 (some u) w) (v:Value):SI N W n A B cA cB g j 1 (some v) (w.setCell ⟨N+6+j,0,none⟩ v):=by
 have hA:=aside_setCell w ⟨N+6+j,0,none⟩ v
 have old:∀ b,b≠N+6+j→(w.setCell ⟨N+6+j,0,none⟩ v).heap[b]? = w.heap[b]?:=fun b hb=>hA.block b hb
 refine ⟨⟨hA.os.trans h.below.os,hA.tape.trans h.below.tape,hA.output.trans h.below.output,by rw [hA.size];exact h.below.size,fun k hk=>(old k (by omega)).trans (h.below.block k hk)⟩,by rw [hA.size];exact h.size,
  (old _ (by omega)).trans h.b0,(old _ (by omega)).trans h.b1,(old _ (by omega)).trans h.b2,(old _ (by omega)).trans h.b4,fun i hi=>(old _ (by omega)).trans (h.ib i hi),fun u' e=>?_⟩
 cases e
 exact heap_set1 (h.ci u rfl) v
theorem SI.next (h:SI N W n A B cA cB g j 1 (some (.int .i64 (j:Int))) w):SI N W n A B cA cB g (j+1) 0 none w:=
 ⟨h.below,by have:=h.size;omega,h.b0,h.b1,h.b2,h.b4,fun i hi=>by
  rcases Nat.lt_or_ge i j with h2 | h2
  ·exact h.ib i h2
  ·obtain rfl:i=j:=by omega
   exact h.ci _ rfl,fun _ e=>by cases e⟩
theorem cell_one {b:Nat} {u:Value} {e:TypeId} (h:w.heap[b]? = some (.cells #[u] e)):w.cell? ⟨b,0,none⟩=some u∧w.frozen? ⟨b,0,none⟩=false:=⟨by simp [World.cell?,h],by simp [World.frozen?,h]⟩
theorem ev0_rd (hX:Far X N bA bB) (a:Addr) (s:Bool) (h0:N≤a.block) (h:a.block≠N+5) (h':a.block≠N+3):Ev0 (N+5) (Own X N) (Rd N bA bB) j ⟨.cell a,false,s⟩:=by
 refine ⟨fun fn pos=>⟨rfl,fun y hy=>?_⟩,by simp,by simp,by simp⟩
 simp only [Go.ConcR.ofEvent_cell,MemAct.touch?,Option.some.injEq] at hy
 subst hy
 refine .inr ⟨fun ⟨a',e,hb⟩=>by cases e;exact h hb,fun k _ _ ⟨_,e⟩=>?_,fun e=>by cases e⟩
 rcases e with e | ⟨_,e⟩
 ·cases e;exact h' rfl
 ·have:=(hX.old _ e).1;omega
theorem ev0_wr (hX:Far X N bA bB) (a:Addr) (s:Bool) (h:Lw N j≤a.block):Ev0 (N+5) (Own X N) (Rd N bA bB) j ⟨.cell a,true,s⟩:=by
 simp only [Lw] at h
 have ha:=hX.a
 have hb':=hX.b
 refine ⟨fun fn pos=>⟨rfl,fun y hy=>?_⟩,by simp,by simp,by simp⟩
 simp only [Go.ConcR.ofEvent_cell,MemAct.touch?,Option.some.injEq] at hy
 subst hy
 refine .inr ⟨fun ⟨a',e,hb⟩=>by cases e;omega,fun k _ _ ⟨_,e⟩=>?_,fun _ k k1 kj ⟨_,a',e,hr⟩=>?_⟩
 ·rcases e with e | ⟨_,e⟩
  ·cases e;simp at h;omega
  ·have:=(hX.old _ e).1;omega
 ·cases e
  simp only [RB] at hr
  omega
end
end Go.Proofs.Ytjkikkgpenhbgaa.Ea
set_option linter.unusedVariables false
set_option linter.unusedSimpArgs false
namespace Go.Proofs.Ytjkikkgpenhbgaa.Ea
open Go.Conc Go.ConcN Go.RowKit Go.Conc.Lib Go.ConcR.Gen Go.ConcN.Gen Go.Proofs.Ytjkikkgpenhbgaa.Sim
open Go.ConcR (KK wgBlock WgAt stA smA rd wr mk Payload DC0)
def bE:Frame:=base 41
theorem o6:∃ o,r6[0]? = some o∧o.op = .binOp .lss 3 (.tmp 31) (.tmp 30) 3∧o.dst=some 32∧∀ ys,Region.wanted o ys=true:=op_of (by kernel_rfl)
theorem o7a:∃ o,r7[0]? = some o∧o.op = .move (.tmp 31)∧o.dst=some 33∧∀ ys,Region.wanted o ys=true:=op_of (by kernel_rfl)
theorem o7b:∃ o,r7[1]? = some o∧o.op = .alloc 3∧o.dst=some 10∧∀ ys,Region.wanted o ys=true:=op_of (by kernel_rfl)
theorem o7c:∃ o,r7[2]? = some o∧o.op = .store 3 (.tmp 10) (.tmp 33)∧o.dst=none∧∀ ys,Region.wanted o ys=true:=op_of (by kernel_rfl)
theorem o8:∃ ats o,r8[0]? = some o∧o.op = .call { callee:=.value (.func 69),args:=#[.tmp 9,.const (.int .i64 1)],argTypes:=ats }∧o.dst=some 34∧∀ ys,Region.wanted o ys=true:=⟨#[95,3],op_of (by kernel_rfl)⟩
theorem o9a:∃ o,r9[0]? = some o∧o.op = .makeFunc (.func 70) #[] #[.tmp 9,.tmp 5,.tmp 3,.tmp 10,.tmp 4,.tmp 8]∧o.dst=some 35∧∀ ys,Region.wanted o ys=true:=op_of (by kernel_rfl)
theorem o9b:∃ o,r9[1]? = some o∧o.op = .go { callee:=.value (.tmp 35),args:=#[],argTypes:=#[] }∧o.dst=none∧∀ ys,Region.wanted o ys=true:=op_of (by kernel_rfl)
theorem o10a:∃ o,r10[0]? = some o∧o.op = .binOp .add 3 (.tmp 31) (.const (.int .i64 1)) 3∧o.dst=some 36∧∀ ys,Region.wanted o ys=true:=op_of (by kernel_rfl)
theorem o10b:∃ o,r10[1]? = some o∧o.op = .move (.tmp 36)∧o.dst=some 31∧∀ ys,Region.wanted o ys=true:=op_of (by kernel_rfl)
theorem o11:∃ ats o,r11[0]? = some o∧o.op = .call { callee:=.value (.func 72),args:=#[.tmp 9],argTypes:=ats }∧o.dst=some 37∧∀ ys,Region.wanted o ys=true:=⟨#[95],op_of (by kernel_rfl)⟩
theorem o12a:∃ o,r12[0]? = some o∧o.op = .load 23 (.tmp 8)∧o.dst=some 38∧∀ ys,Region.wanted o ys=true:=op_of (by kernel_rfl)
theorem o12b:∃ o,r12[1]? = some o∧o.op = .assign (.tmp 38)∧o.dst=some 6∧∀ ys,Region.wanted o ys=true:=op_of (by kernel_rfl)
theorem o12c:∃ o,r12[2]? = some o∧o.op = .assign (.const (.bool true))∧o.dst=some 7∧∀ ys,Region.wanted o ys=true:=op_of (by kernel_rfl)
theorem sizes:List.range r6.size=[0]∧List.range r7.size=[0,1,2]∧List.range r8.size=[0]∧List.range r9.size=[0,1]∧List.range r10.size=[0,1]∧List.range r11.size=[0]∧List.range r12.size=[0,1,2]:=by
 refine ⟨?_,?_,?_,?_,?_,?_,?_⟩ <;> kernel_rfl
theorem dst8:(r8[0]?).bind (·.dst)=some 34:=by kernel_rfl
theorem dst11:(r11[0]?).bind (·.dst)=some 37:=by kernel_rfl
theorem live_block {w w':World} {Wg:Nat} {ty:TypeId} (h:WgLive ty Wg w) (e:w'.heap[Wg]? = w.heap[Wg]?):WgLive ty Wg w':=let ⟨st,sm,x⟩:=h;⟨st,sm,x.of_block e⟩
section
variable (N:Nat) (W:World) (n:Nat) (A B:Option Addr) (cA cB g:Nat) (X:Loc→Prop) (bA bB:Nat) (m:Mk) (xs ys:Nat→Int)
abbrev FE:World→Prop:=SI N W n A B cA cB g n 0 none
noncomputable def cW (T:Array Value):Frame:=bE.at ⟨T,[]⟩ (.inRegion r11 (0 :: []) :: [.code tailE])
def AnW (q:Goroutine) (w:World):Prop:=∃ T f,Tm 39 T f∧f 8 = .pointer (some ⟨N+4,0,none⟩)∧AnchWN wglink (FE N W n A B cA cB g) (N+5) (cW T) [] q w
def val8 (j:Nat):Value:=.int .i64 (m.val (xs j) (ys j))
def vals8:List Value:=(List.range n).map (val8 m xs ys)
def PostY (v:Value) (w:World):Prop:=v = .tuple #[.slice (some ⟨N+3,0,none⟩) n n,.bool true]∧ConcN.Full (N+3) (vals8 n m xs ys) w∧FE N W n A B cA cB g w∧WgLive 95 (N+5) w
abbrev GS (j:Nat) (Stop:Goroutine→World→Prop) (k:Nat) (q:Goroutine) (w:World):Prop:=Goes Try.prog true (RC 95 (N+5) (N+3)) (DP (N+5) (Own X N) (Rd N bA bB) j (Lw N j)) Stop k q w
abbrev SP (r:Nat):Goroutine→World→Prop:=Spawns Try.prog 95 (N+5) (N+3) n (Own X N) (Rd N bA bB) (Lw N) (val8 m xs ys) (Fin Try.prog 95 (N+5) (N+3) n (Own X N) (Rd N bA bB) (Lw N) (AnW N W n A B cA cB g)) r
def StopS:Nat→Goroutine→World→Prop
 | 0=>AtKd Try.prog 95 (N+5) (N+3) n (Own X N) (Rd N bA bB) (Lw N n) (AnW N W n A B cA cB g)
 | r+1=>AtKdS Try.prog 95 (N+5) (N+3) n (Own X N) (Rd N bA bB) (Lw N) (val8 m xs ys) (n - (r+1)) (SP N W n A B cA cB g X bA bB m xs ys r)
theorem spawns_iff (r:Nat) (q:Goroutine) (w:World):SP N W n A B cA cB g X bA bB m xs ys r q w↔∃ k,GS N X bA bB (n - r) (StopS N W n A B cA cB g X bA bB m xs ys r) k q w:=by cases r <;> exact Iff.rfl
structure HeadT (j:Nat) (f:Nat→Value):Prop where
 t3:f 3 = .pointer (some ⟨N,0,none⟩)
 t4:f 4 = .pointer (some ⟨N+1,0,none⟩)
 t5:f 5 = .pointer (some ⟨N+2,0,none⟩)
 t8:f 8 = .pointer (some ⟨N+4,0,none⟩)
 t9:f 9 = .pointer (some ⟨N+5,0,none⟩)
 t30:f 30 = .int .i64 (n:Int)
 t31:f 31 = .int .i64 (j:Int)
def AnchS (j:Nat) (q:Goroutine):Prop:=∃ T f,q=G (bE.at ⟨T,[]⟩ [.code LE,.inLoop LE,.inBlock 0,.code restE]) []∧Tm 39 T f∧HeadT N n j f
end
section
variable {N:Nat} {W:World} {n:Nat} {A B:Option Addr} {cA cB g:Nat} {X:Loc→Prop} {bA bB:Nat} {m:Mk} {xs ys:Nat→Int} {w w₁:World} {j s:Nat} {vi:Option Value}
abbrev CS (N:Nat) (W:World) (n:Nat) (A B:Option Addr) (cA cB g j s:Nat) (vi:Option Value) (w:World):Prop:=SI N W n A B cA cB g j s vi w∧WgLive 95 (N+5) w
theorem si_rely (h:CS N W n A B cA cB g j s vi w) (r:RC 95 (N+5) (N+3) w w₁):CS N W n A B cA cB g j s vi w₁:=⟨h.1.aside2 r.aside,r.live h.2⟩
theorem carS (i Low:Nat):Car (RC 95 (N+5) (N+3)) (DP (N+5) (Own X N) (Rd N bA bB) i Low) (CS N W n A B cA cB g j s vi):=⟨fun _ _ h r=>si_rely h r,fun w _=>⟨fun _ _=>rfl,by simp⟩⟩
theorem afterWaitG {i np Low:Nat} {Rd':Nat→Loc→Prop} {vals':List Value} {Post':Value→World→Prop} (hE:Ev0 (N+5) (Own X N) Rd' i ⟨.cell ⟨N+4,0,none⟩,false,false⟩) (hPost:∀ w,ConcN.Full (N+3) vals' w→FE N W n A B cA cB g w→WgLive 95 (N+5) w→Post' (.tuple #[.slice (some ⟨N+3,0,none⟩) n n,.bool true]) w)
  {T:Array Value} {f:Nat→Value} (hT:Tm 39 T f) (t8:f 8 = .pointer (some ⟨N+4,0,none⟩)) (w:World) (h1:FE N W n A B cA cB g w) (h2:WgLive 95 (N+5) w) :
  Goes Try.prog true (RC 95 (N+5) (N+3)) (DP (N+5) (Own X N) Rd' i Low) (AtRet Try.prog (N+5) (N+3) np (Own X N) Rd' vals' Post') 8 (G (bE.at ((⟨T,[]⟩:Act).put ((r11[0]?).bind (·.dst)) (.tuple #[])) (.inRegion r11 [] :: [.code tailE])) []) w:=by
 have C:Car (RC 95 (N+5) (N+3)) (DP (N+5) (Own X N) Rd' i Low) (CS N W n A B cA cB g n 0 none):=⟨fun _ _ h r=>si_rely h r,fun w _=>⟨fun _ _=>rfl,by simp⟩⟩
 have hF:CS N W n A B cA cB g n 0 none w:=⟨h1,h2⟩
 rw [dst11]
 have hT:=hT.put (d:=37) (by omega) (.tuple #[])
 change Goes _ _ _ _ _ 8 (G (bE.at ⟨T.setIfInBounds 37 (.tuple #[]),[]⟩ (.inRegion r11 [] :: [.code tailE])) []) w
 generalize T.setIfInBounds 37 (.tuple #[])=t at hT ⊢
 refine gs_end C hF fun w hF=>gs_seq C hF fun w hF=>gs_reg C hF sizes.2.2.2.2.2.2 fun w hF=>?_
 obtain ⟨o,ho,hop,hd,hw⟩:=o12a
 refine gs_val (d:=38) (v:=.slice (some ⟨N+3,0,none⟩) n n) C hF hT rfl ho hd (by omega) (hw _) fun w hF=>?_
 have hl:=load_both (P:=Try.prog) (w:=w) (a:=⟨t,[]⟩) hop ((hT.get 8).trans ((zad (by omega)).trans t8)) Try.underlying23 (by simp) (by simp) (cell_one hF.1.b4).1
 refine ⟨w,_,hl.1,hl.2,fun es' hes=>⟨fun _ _=>rfl,fun e he=>?_⟩,fun t hT=>?_⟩
 ·have:=hes e he
  simp at this
  subst this
  exact hE
 obtain ⟨o,ho,hop,hd,hw⟩:=o12b
 refine zaw (d:=6) C hF hT rfl ho hd (by omega) (hw _) (fun w=>assign_both hop) fun w t' hF hT'=>?_
 have e38:Act.eval ⟨t,[]⟩ (.tmp 38) = .slice (some ⟨N+3,0,none⟩) n n:=(hT.get 38).trans putF_same
 rw [e38] at hT'
 obtain ⟨o,ho,hop,hd,hw⟩:=o12c
 refine zaw (d:=7) C hF hT' rfl ho hd (by omega) (hw _) (fun w=>assign_both hop) fun w t'' hF hT''=>?_
 have e6:t''.getD 6 undef = .slice (some ⟨N+3,0,none⟩) n n:=(hT''.get 6).trans ((zad (by omega)).trans putF_same)
 have e7:t''.getD 7 undef = .bool true:=(hT''.get 7).trans putF_same
 refine gs_end C hF fun w hF=>gs_ctl C hF (fun w=>stepG_ret') fun w hF=>?_
 refine Goes.stop fun w₂ r₂=>⟨rfl,fun hfull=>⟨.tuple #[.slice (some ⟨N+3,0,none⟩) n n,.bool true],#[],?_,by simp,hPost _ hfull (si_rely hF r₂).1 (si_rely hF r₂).2⟩⟩
 rw [← e6,← e7]
 simp [G,stepG,unwind,doReturn,results,Frame.at,base,bE,Try.func41,Try.f41,seen,GStep.after,Act.eval]
end
end Go.Proofs.Ytjkikkgpenhbgaa.Ea
set_option linter.unusedVariables false
set_option linter.unusedSimpArgs false
namespace Go.Proofs.Ytjkikkgpenhbgaa.Ea
open Go.Conc Go.ConcN Go.RowKit Go.Conc.Lib Go.ConcR.Gen Go.ConcN.Gen Go.Proofs.Ytjkikkgpenhbgaa.Sim
open Go.ConcR (KK wgBlock WgAt stA smA rd wr mk Payload DC0)
section
variable {N:Nat} {W:World} {n:Nat} {A B:Option Addr} {cA cB g:Nat} {X:Loc→Prop} {bA bB:Nat} {m:Mk} {xs ys:Nat→Int} {w w₁:World} {j s:Nat} {vi:Option Value}
theorem anW_roundG {np Low:Nat} {Rd':Nat→Loc→Prop} {vals':List Value} {Post':Value→World→Prop} (hE:Ev0 (N+5) (Own X N) Rd' np ⟨.cell ⟨N+4,0,none⟩,false,false⟩) (hPost:∀ w,ConcN.Full (N+3) vals' w→FE N W n A B cA cB g w→WgLive 95 (N+5) w→Post' (.tuple #[.slice (some ⟨N+3,0,none⟩) n n,.bool true]) w) (q:Goroutine) (w:World) (h:AnW N W n A B cA cB g q w) :
  ∃ k,Goes Try.prog true (RC 95 (N+5) (N+3)) (DP (N+5) (Own X N) Rd' np Low) (AtW1 Try.prog 95 (N+5) (N+3) np (Own X N) Rd' Low vals' (AnW N W n A B cA cB g) Post') k q w:=by
 obtain ⟨T,f,hT,t8,hA⟩:=h
 obtain ⟨k,hk⟩:=waitRoundN (L:=wglink) (P:=Try.prog) wgLib (C:=N+3) (n:=np) (Low:=Low) (Own:=Own X N) (Rd:=Rd') (vals:=vals') (Post:=Post') (b₀:=bE) (a₀:=⟨T,[]⟩) (ops₀:=r11) (i₀:=0) (rest₀:=[]) (k₀:=[.code tailE]) (cs:=[]) (mT:=8) (fun _ _ h1 h2=>SI.aside2 h2 h1) (fun w h1 h2=>afterWaitG hE hPost hT t8 w h1 h2) q w hA
 exact ⟨k,goes_mono (fun _ _ y=>AtW1.mono (fun _ _ z=>⟨T,f,hT,t8,z⟩) y) hk⟩
theorem anW_round (hX:Far X N bA bB) (q:Goroutine) (w:World) (h:AnW N W n A B cA cB g q w) :
  ∃ k,GS N X bA bB n (AtW1 Try.prog 95 (N+5) (N+3) n (Own X N) (Rd N bA bB) (Lw N n) (vals8 n m xs ys) (AnW N W n A B cA cB g) (PostY N W n A B cA cB g m xs ys)) k q w:=
 anW_roundG (ev0_rd hX _ _ (by simp) (by simp) (by simp)) (fun w hf h hl=>⟨rfl,hf,h,hl⟩) q w h
theorem seqLE (k:List Item) (a:Act) (w:World):stepG Try.prog true (G (bE.at a (.code LE :: k)) []) w = .go (G (bE.at a (.code (.region 6 r6 false) :: .code (.seq (.cond (.tmp 32) .skip (.exit 0)) (.seq (.block 1 (.seq (.region 7 r7 false) (.seq (.region 8 r8 false) (.region 9 r9 false)))) (.region 10 r10 false))) :: k)) []) w #[]:=by
 rw [LE_eq]
 exact stepG_seq
theorem lss_run (x y:Int) (w:World):(Go.binOp .lss 3 (.int .i64 x) (.int .i64 y)).runT Try.prog w #[]=(.ok (.bool (decide (x<y))) w,#[]):=by rfl
theorem add_run (x y:Int) (w:World):(Go.binOp .add 3 (.int .i64 x) (.int .i64 y)).runT Try.prog w #[]=(.ok (.int .i64 (IntKind.i64.wrap (x+y))) w,#[]):=by rfl
theorem bodyWait:(waitFn wglink).body=some (body_wait wglink):=by kernel_rfl
theorem bodyAdd:(addFn wglink).body=some (body_add wglink):=by kernel_rfl
theorem ntWait:(waitFn wglink).ntmps=84:=by kernel_rfl
theorem ntAdd:(addFn wglink).ntmps=117:=by kernel_rfl
theorem fWait:Try.prog.funcs[72]? = some (waitFn wglink):=wgLib.f_wait
theorem fAdd:Try.prog.funcs[69]? = some (addFn wglink):=wgLib.f_add
theorem bWait:base 72=base wglink.wait:=rfl
theorem bAdd:base 69=base wglink.add:=rfl
set_option maxRecDepth 100000 in
theorem arrWait (u:Value):#[u]++Array.replicate (84 - #[u].size) undef=#[u,undef,undef,undef,undef,undef,undef,undef,undef,undef,undef,undef,undef,undef,undef,undef,undef,undef,undef,undef,undef,undef,undef,undef,undef,undef,undef,undef,undef,undef,undef,undef,undef,undef,undef,undef,undef,undef,undef,undef,undef,undef,undef,undef,undef,undef,undef,undef,undef,undef,undef,undef,undef,undef,undef,undef,undef,undef,undef,undef,undef,undef,undef,undef,undef,undef,undef,undef,undef,undef,undef,undef,undef,undef,undef,undef,undef,undef,undef,undef,undef,undef,undef,undef]:=by kernel_rfl
set_option maxRecDepth 100000 in
theorem arrAdd (u v:Value):#[u,v]++Array.replicate (117 - #[u,v].size) undef=#[u,v,undef,undef,undef,undef,undef,undef,undef,undef,undef,undef,undef,undef,undef,undef,undef,undef,undef,undef,undef,undef,undef,undef,undef,undef,undef,undef,undef,undef,undef,undef,undef,undef,undef,undef,undef,undef,undef,undef,undef,undef,undef,undef,undef,undef,undef,undef,undef,undef,undef,undef,undef,undef,undef,undef,undef,undef,undef,undef,undef,undef,undef,undef,undef,undef,undef,undef,undef,undef,undef,undef,undef,undef,undef,undef,undef,undef,undef,undef,undef,undef,undef,undef,undef,undef,undef,undef,undef,undef,undef,undef,undef,undef,undef,undef,undef,undef,undef,undef,undef,undef,undef,undef,undef,undef,undef,undef,undef,undef,undef,undef,undef,undef,undef,undef,undef]:=by kernel_rfl
noncomputable def kE:List Item:=[.inBlock 1,.code (.region 10 r10 false),.inLoop LE,.inBlock 0,.code restE]
set_option maxRecDepth 100000 in
theorem round {Cc L np:Nat} {Rd':Nat→Loc→Prop} {Lw':Nat→Nat} {val':Nat→Value} {Next:Goroutine→World→Prop} (hn:n≤20) (hjn:j<n) (hC:∀ s vi w w₁,SI N W n A B cA cB g j s vi w→Go.ConcR.Aside2 Cc (N+5) w w₁→SI N W n A B cA cB g j s vi w₁)
  (hL:Lw' L≤N+6+j) (hE:Ev0 (N+5) (Own X N) Rd' L ⟨.cell ⟨N+6+j,0,none⟩,true,false⟩) {f:Nat→Value} (hf:HeadT N n j f)
  (hstop:∀ t4 f4 w,Tm 39 t4 f4→t4.getD 35 undef = .func (.func 70) #[] #[.pointer (some ⟨N+5,0,none⟩),.pointer (some ⟨N+2,0,none⟩),.pointer (some ⟨N,0,none⟩),.pointer (some ⟨N+6+j,0,none⟩),.pointer (some ⟨N+1,0,none⟩),.pointer (some ⟨N+4,0,none⟩)]→(∀ i,i≠10→i≠33→i≠32→i≠34→i≠35→t4.getD i undef=f i)→CS N W n A B cA cB g j 1 (some (.int .i64 (j:Int))) w→
   AtGoS Try.prog 95 (N+5) Cc np (Own X N) Rd' Lw' val' L Next (G (bE.at ⟨t4,[]⟩ (.inRegion r9 [1] :: kE)) []) w)
  {T:Array Value} (hT:Tm 39 T f) {w:World} (hF:CS N W n A B cA cB g j 0 none w) :
  Goes Try.prog true (RC 95 (N+5) Cc) (DP (N+5) (Own X N) Rd' L (Lw' L)) (AtKdS Try.prog 95 (N+5) Cc np (Own X N) Rd' Lw' val' L Next) 30 (G (bE.at ⟨T,[]⟩ [.code LE,.inLoop LE,.inBlock 0,.code restE]) []) w:=by
 have C:∀ s vi,Car (RC 95 (N+5) Cc) (DP (N+5) (Own X N) Rd' L (Lw' L)) (CS N W n A B cA cB g j s vi):=fun s vi=>⟨fun _ _ h r=>⟨hC _ _ _ _ h.1 r.aside,r.live h.2⟩,fun w _=>⟨fun _ _=>rfl,by simp⟩⟩
 refine gs_ctl (C _ _) hF (seqLE _ _) fun w hF=>gs_reg (C _ _) hF sizes.1 fun w hF=>?_
 obtain ⟨o,ho,hop,hd,hw⟩:=o6
 refine zaw (d:=32) (C _ _) hF hT rfl ho hd (by omega) (hw _) (fun w=>bin_both hop ((hT.get 31).trans hf.t31) ((hT.get 30).trans hf.t30) (fun w=>lss_run _ _ w)) fun w t hF hT=>?_
 have e32:Act.eval ⟨t,[]⟩ (.tmp 32) = .bool true:=(hT.get 32).trans (putF_same.trans (by simp;omega))
 refine gs_end (C _ _) hF fun w hF=>gs_seq (C _ _) hF fun w hF=>gs_cond (C _ _) hF e32 fun w hF=>gs_skip (C _ _) hF fun w hF=>gs_seq (C _ _) hF fun w hF=>gs_block (C _ _) hF fun w hF=>gs_seq (C _ _) hF fun w hF=>gs_reg (C _ _) hF sizes.2.1 fun w hF=>?_
 clear ho hop hd hw
 obtain ⟨o,ho,hop,hd,hw⟩:=o7a
 refine zaw (d:=33) (C _ _) hF hT rfl ho hd (by omega) (hw _) (fun w=>move_both hop) fun w t' hF hT'=>?_
 have e31:Act.eval ⟨t,[]⟩ (.tmp 31) = .int .i64 (j:Int):=(hT.get 31).trans ((zad (by omega)).trans hf.t31)
 rw [e31] at hT'
 clear ho hop hd hw
 obtain ⟨o,ho,hop,hd,hw⟩:=o7b
 obtain ⟨iI,hi,hi1,_,hiz⟩:=infoI
 refine gs_val (d:=10) (v:=.pointer (some ⟨N+6+j,0,none⟩)) (C _ _) hF hT' rfl ho hd (by omega) (hw _) fun w hF=>?_
 have hsz:=hF.1.size
 have hal:=alloc_both (P:=Try.prog) (w:=w) (a:=⟨t',[]⟩) hop hi hiz
 rw [hsz] at hal
 have oldA:∀ b,b<N+6+j→(w.alloc (.cells (Value.int .i64 0).cells 3)).heap[b]? = w.heap[b]?:=fun b hb=>Below.heap_alloc _ _ _ (by omega)
 refine ⟨_,_,hal.1,hal.2,fun es' hes=>⟨fun b hb=>oldA b (Nat.lt_of_lt_of_le hb hL),fun e he=>absurd (hes e he) (by simp)⟩,fun t'' hT''=>?_⟩
 replace hF:CS N W n A B cA cB g j 1 (some (.int .i64 0)) (w.alloc (.cells (Value.int .i64 0).cells 3)):=⟨hF.1.alloc _,live_block hF.2 (oldA _ (by omega))⟩
 generalize w.alloc (.cells (Value.int .i64 0).cells 3)=w at hF ⊢
 clear ho hop hd hw oldA hal hsz
 obtain ⟨o,ho,hop,hd,hw⟩:=o7c
 refine gs_none (C _ _) hF hT'' rfl ho hd (hw _) fun w hF=>?_
 have e10:t''.getD 10 undef = .pointer (some ⟨N+6+j,0,none⟩):=(hT''.get 10).trans putF_same
 have e33:t''.getD 33 undef = .int .i64 (j:Int):=(hT''.get 33).trans ((zad (by omega)).trans putF_same)
 obtain ⟨hu1,hu2⟩:=cell_one (hF.1.ci _ rfl)
 have hst:=store_both (P:=Try.prog) (w:=w) (a:=⟨t'',[]⟩) hop e10 e33 hi hi1 hu1 hu2
 have oldS:∀ b,b<N+6+j→(w.setCell ⟨N+6+j,0,none⟩ (.int .i64 (j:Int))).heap[b]? = w.heap[b]?:=fun b hb=>(aside_setCell w ⟨N+6+j,0,none⟩ (.int .i64 (j:Int))).block b (by simp;omega)
 refine ⟨_,_,hst.1,hst.2,fun es' hes=>⟨fun b hb=>oldS b (Nat.lt_of_lt_of_le hb hL),fun e he=>?_⟩,?_⟩
 ·have:=hes e he
  simp at this
  subst this
  exact hE
 replace hF:CS N W n A B cA cB g j 1 (some (.int .i64 (j:Int))) (w.setCell ⟨N+6+j,0,none⟩ (.int .i64 (j:Int))):=⟨hF.1.store _,live_block hF.2 (oldS _ (by omega))⟩
 generalize w.setCell ⟨N+6+j,0,none⟩ (.int .i64 (j:Int))=w at hF ⊢
 clear ho hop hd hw oldS hst hu1 hu2 e33
 refine gs_end (C _ _) hF fun w hF=>gs_seq (C _ _) hF fun w hF=>gs_reg (C _ _) hF sizes.2.2.1 fun w hF=>?_
 have slot:∀ i,i≠10→i≠33→i≠32→t''.getD i undef=f i:=fun i h1 h2 h3=>(hT''.get i).trans ((zad h1).trans ((zad h2).trans (zad h3)))
 obtain ⟨ats,o,ho,hop,hd,hw⟩:=o8
 have e9:Act.eval ⟨t'',[]⟩ (.tmp 9) = .pointer (some ⟨N+5,0,none⟩):=(slot 9 (by omega) (by omega) (by omega)).trans hf.t9
 refine gs_call (m:=12) (C _ _) hF rfl ho (hw _) hop fAdd (nm_add wglink) bodyAdd rfl fun w hF=>?_
 have:(#[Operand.tmp 9,.const (.int .i64 1)].map (Act.eval ⟨t'',[]⟩))=#[.pointer (some ⟨N+5,0,none⟩),.int .i64 1]:=by simp [e9];rfl
 rw [this,ntAdd,bAdd,arrAdd]
 refine addPosN (L:=wglink) (P:=Try.prog) (Wg:=N+5) (C:=Cc) (n:=np) (Own:=Own X N) (Rd:=Rd') (Lw:=Lw') (val:=val') (j:=L) (Next:=Next) (b₀:=bE) (a₀:=⟨t'',[]⟩) (ops₀:=r8) (i₀:=0) (rest₀:=[]) (k₀:=_) (cs:=[]) (mT:=3) wgLib (F:=SI N W n A B cA cB g j 1 (some (.int .i64 (j:Int)))) (fun _ _ h1 h2=>hC _ _ _ _ h2 h1) (fun w h1 h2=>?_) w hF
 rw [dst8]
 have hT3:=hT''.put (d:=34) (by omega) (.tuple #[])
 have slot3:∀ i,i≠10→i≠33→i≠32→i≠34→(t''.setIfInBounds 34 (.tuple #[])).getD i undef=f i:=fun i h1 h2 h3 h4=>(hT3.get i).trans ((zad h4).trans ((hT''.get i).symm.trans (slot i h1 h2 h3)))
 have s10:(t''.setIfInBounds 34 (.tuple #[])).getD 10 undef = .pointer (some ⟨N+6+j,0,none⟩):=(hT3.get 10).trans ((zad (by omega)).trans ((hT''.get 10).symm.trans e10))
 change Goes _ _ _ _ _ 3 (G (bE.at ⟨t''.setIfInBounds 34 (.tuple #[]),[]⟩ (.inRegion r8 [] :: _)) []) w
 generalize t''.setIfInBounds 34 (.tuple #[])=t3 at hT3 slot3 s10 ⊢
 have hF:CS N W n A B cA cB g j 1 (some (.int .i64 (j:Int))) w:=⟨h1,h2⟩
 clear ho hop hd hw
 refine gs_end (C _ _) hF fun w hF=>gs_reg (C _ _) hF sizes.2.2.2.1 fun w hF=>?_
 obtain ⟨o,ho,hop,hd,hw⟩:=o9a
 have ecap:(#[Operand.tmp 9,.tmp 5,.tmp 3,.tmp 10,.tmp 4,.tmp 8].map (Act.eval ⟨t3,[]⟩))=#[.pointer (some ⟨N+5,0,none⟩),.pointer (some ⟨N+2,0,none⟩),.pointer (some ⟨N,0,none⟩),.pointer (some ⟨N+6+j,0,none⟩),.pointer (some ⟨N+1,0,none⟩),.pointer (some ⟨N+4,0,none⟩)]:=by
  have a9:Act.eval ⟨t3,[]⟩ (.tmp 9) = .pointer (some ⟨N+5,0,none⟩):=(slot3 9 (by omega) (by omega) (by omega) (by omega)).trans hf.t9
  have a5:Act.eval ⟨t3,[]⟩ (.tmp 5) = .pointer (some ⟨N+2,0,none⟩):=(slot3 5 (by omega) (by omega) (by omega) (by omega)).trans hf.t5
  have a3:Act.eval ⟨t3,[]⟩ (.tmp 3) = .pointer (some ⟨N,0,none⟩):=(slot3 3 (by omega) (by omega) (by omega) (by omega)).trans hf.t3
  have a10:Act.eval ⟨t3,[]⟩ (.tmp 10) = .pointer (some ⟨N+6+j,0,none⟩):=s10
  have a4:Act.eval ⟨t3,[]⟩ (.tmp 4) = .pointer (some ⟨N+1,0,none⟩):=(slot3 4 (by omega) (by omega) (by omega) (by omega)).trans hf.t4
  have a8:Act.eval ⟨t3,[]⟩ (.tmp 8) = .pointer (some ⟨N+4,0,none⟩):=(slot3 8 (by omega) (by omega) (by omega) (by omega)).trans hf.t8
  simp [a9,a5,a3,a10,a4,a8]
 refine zaw (d:=35) (C _ _) hF hT3 rfl ho hd (by omega) (hw _) (fun w=>mkfn_both hop) fun w t4 hF hT4=>?_
 rw [ecap] at hT4
 clear ho hop hd hw ecap
 have slot4:∀ i,i≠10→i≠33→i≠32→i≠34→i≠35→t4.getD i undef=f i:=fun i h1 h2 h3 h4 h5=>(hT4.get i).trans ((zad h5).trans ((hT3.get i).symm.trans (slot3 i h1 h2 h3 h4)))
 exact Goes.stop fun w₂ r₂=>hstop t4 _ w₂ hT4 ((hT4.get 35).trans putF_same) slot4 ((C _ _).rl _ _ hF r₂)
set_option maxRecDepth 100000 in
theorem toWait {np Low:Nat} {Rd':Nat→Loc→Prop} {q:Goroutine} {w:World} (hq:AnchS N n n q) (hF:CS N W n A B cA cB g n 0 none w) :
  Goes Try.prog true (RC 95 (N+5) (N+3)) (DP (N+5) (Own X N) Rd' np Low) (AtKd Try.prog 95 (N+5) (N+3) np (Own X N) Rd' Low (AnW N W n A B cA cB g)) 13 q w:=by
 obtain ⟨T,f,rfl,hT,hf⟩:=hq
 have C:Car (RC 95 (N+5) (N+3)) (DP (N+5) (Own X N) Rd' np Low) (CS N W n A B cA cB g n 0 none):=⟨fun _ _ h r=>si_rely h r,fun w _=>⟨fun _ _=>rfl,by simp⟩⟩
 refine gs_ctl C hF (seqLE _ _) fun w hF=>gs_reg C hF sizes.1 fun w hF=>?_
 obtain ⟨o,ho,hop,hd,hw⟩:=o6
 refine zaw (d:=32) C hF hT rfl ho hd (by omega) (hw _) (fun w=>bin_both hop ((hT.get 31).trans hf.t31) ((hT.get 30).trans hf.t30) (fun w=>lss_run _ _ w)) fun w t hF hT=>?_
 have e32:Act.eval ⟨t,[]⟩ (.tmp 32) = .bool false:=(hT.get 32).trans (putF_same.trans (by simp))
 have e8:putF f 32 (.bool (decide ((n:Int)<(n:Int)))) 8 = .pointer (some ⟨N+4,0,none⟩):=(zad (by omega)).trans hf.t8
 have e9:Act.eval ⟨t,[]⟩ (.tmp 9) = .pointer (some ⟨N+5,0,none⟩):=(hT.get 9).trans ((zad (by omega)).trans hf.t9)
 refine gs_end C hF fun w hF=>gs_seq C hF fun w hF=>gs_cond C hF e32 fun w hF=>?_
 refine gs_ctl C hF (fun w=>stepG_exit (k':=[.code restE]) rfl) fun w hF=>gs_ctl C hF (fun w=>stepG_seq (x:=.region 11 r11 false) (y:=tailE)) fun w hF=>gs_reg C hF sizes.2.2.2.2.2.1 fun w hF=>?_
 obtain ⟨ats,o,ho,hop,hd,hw⟩:=o11
 have hWt:=fun (w:World) (hF:CS N W n A B cA cB g n 0 none w)=>waitStartN (L:=wglink) (P:=Try.prog) (Wg:=N+5) (C:=N+3) (n:=np) (Low:=Low) (Own:=Own X N) (Rd:=Rd') (F:=FE N W n A B cA cB g) (b₀:=bE) (a₀:=⟨t,[]⟩) (ops₀:=r11) (i₀:=0) (rest₀:=[]) (k₀:=[.code tailE]) (cs:=[]) wgLib (fun _ _ h1 h2=>SI.aside2 h2 h1) w hF
 refine gs_call (m:=3) C hF rfl ho (hw _) hop fWait (nm_wait wglink) bodyWait rfl fun w hF=>?_
 have:(#[Operand.tmp 9].map (Act.eval ⟨t,[]⟩))=#[.pointer (some ⟨N+5,0,none⟩)]:=by simp [e9]
 rw [this,ntWait,bWait,arrWait]
 exact goes_mono (fun _ _ y=>AtKd.mono (fun _ _ z=>⟨t,_,hT,e8,z⟩) y) (hWt w hF)
set_option maxRecDepth 100000 in
theorem spawnsFrom (hM:MkFn m g) (hG:∃ fn,Try.prog.funcs[g]? = some fn∧(fn.name == "runtime.NumGoroutine")=false∧fn.body.isNone=false) (hX:Far X N bA bB) (hn:n≤20) (hs:∀ k,k<n→(0≤xs k∧xs k≤30)∧(0≤ys k∧ys k≤30))
  (hA:0<n→∃ ad,A=some ad∧ad.block=bA∧ad.block<N∧∀ k,k<n→W.cell? (ad.add k)=some (.int .i64 (xs k)))
  (hB:0<n→∃ ad,B=some ad∧ad.block=bB∧ad.block<N∧∀ k,k<n→W.cell? (ad.add k)=some (.int .i64 (ys k))):∀ (r j:Nat),j+r=n→
  ∃ fu,∀ (q:Goroutine) (w:World),AnchS N n j q→CS N W n A B cA cB g j 0 none w→GS N X bA bB j (StopS N W n A B cA cB g X bA bB m xs ys r) fu q w:=by
 intro r
 induction r with
 | zero=>
  intro j hj
  obtain rfl:j=n:=by omega
  exact ⟨13,fun q w hq hF=>toWait hq hF⟩
 | succ r ih=>
  intro j hj
  obtain ⟨adA,rfl,hbA,hlA,hxA⟩:=hA (by omega)
  obtain ⟨adB,rfl,hbB,hlB,hxB⟩:=hB (by omega)
  obtain ⟨f₁,h₁⟩:=ih (j+1) (by omega)
  refine ⟨30,?_⟩
  rintro q w ⟨T,f,rfl,hT,hf⟩ hF
  have ej:n - (r+1)=j:=by omega
  have hjn:j<n:=by omega
  simp only [StopS,ej]
  refine round (Cc:=N+3) (L:=j) (Rd':=Rd N bA bB) (Lw':=Lw N) hn hjn (fun _ _ _ _ h h'=>h.aside2 h') (Nat.le_refl _) (ev0_wr hX _ _ (by simp [Lw])) hf (fun t4 f4 w₂ hT4 e35 slot4 hF=>?_) hT hF
  obtain ⟨o,ho,hop,hd,hw⟩:=o9b
  have hgo:=go_both (P:=Try.prog) (w:=w₂) (a:=⟨t4,[]⟩) hop e35
  have hsp:∀ k,stepG Try.prog true (G (bE.at ⟨t4,[]⟩ (.inRegion r9 [1] :: k)) []) w₂ = .spawn (G (bE.at ⟨t4,[]⟩ (.inRegion r9 [] :: k)) []) (born Try.prog (callW N j)) w₂ #[]:=fun k=>by
   rw [stepG_spawn (d:=callW N j) ho (hw _) (fun e=>by cases e) hgo.1 rfl,listed_nil_of hgo.2,hd]
   rfl
  refine ⟨rfl,_,_,hsp _,rfl,fun hpay=>works hM hG hjn (hs j hjn).1 (hs j hjn).2 hlA hlB hbA hbB ⟨(cell_one hF.1.b0).1,(cell_one hF.1.b1).1,(cell_one hF.1.b2).1,(cell_one hF.1.b4).1,(cell_one (hF.1.ci _ rfl)).1,(cellOf (hF.1.below.block _ (by rw [add_block];exact hlA))).trans (hxA j hjn),(cellOf (hF.1.below.block _ (by rw [add_block];exact hlB))).trans (hxB j hjn),hF.2,hpay⟩,?_⟩
  refine (spawns_iff N W n (some adA) (some adB) cA cB g X bA bB m xs ys r _ _).2 ⟨f₁+7,?_⟩
  have e6:n - r=j+1:=by omega
  rw [e6]
  have C':=carS (N:=N) (W:=W) (n:=n) (A:=some adA) (B:=some adB) (cA:=cA) (cB:=cB) (g:=g) (j:=j+1) (s:=0) (vi:=none) (X:=X) (bA:=bA) (bB:=bB) (j+1) (Lw N (j+1))
  replace hF:CS N W n (some adA) (some adB) cA cB g (j+1) 0 none w₂:=⟨hF.1.next,hF.2⟩
  clear ho hop hd hw hgo hsp
  refine gs_end C' hF fun w hF=>gs_ctl C' hF (fun w=>stepG_inBlock) fun w hF=>gs_reg C' hF sizes.2.2.2.2.1 fun w hF=>?_
  obtain ⟨o,ho,hop,hd,hw⟩:=o10a
  have hwr:IntKind.i64.wrap ((j:Int)+1)=((j+1:Nat):Int):=by rw [IntKind.wrap_i64];omega
  refine zaw (d:=36) (v:=.int .i64 ((j+1:Nat):Int)) C' hF hT4 rfl ho hd (by omega) (hw _) (fun w=>bin_both hop ((slot4 31 (by omega) (by omega) (by omega) (by omega) (by omega)).trans hf.t31) rfl (fun w=>(add_run _ _ w).trans (by rw [hwr]))) fun w t5 hF hT5=>?_
  clear ho hop hd hw
  obtain ⟨o,ho,hop,hd,hw⟩:=o10b
  refine zaw (d:=31) C' hF hT5 rfl ho hd (by omega) (hw _) (fun w=>move_both hop) fun w t6 hF hT6=>?_
  have e36:Act.eval ⟨t5,[]⟩ (.tmp 36) = .int .i64 ((j+1:Nat):Int):=(hT5.get 36).trans putF_same
  rw [e36] at hT6
  have slot6:∀ i,i≠10→i≠33→i≠32→i≠34→i≠35→i≠36→i≠31→t6.getD i undef=f i:=fun i h1 h2 h3 h4 h5 h6 h7=>(hT6.get i).trans ((zad h7).trans ((zad h6).trans ((hT4.get i).symm.trans (slot4 i h1 h2 h3 h4 h5))))
  refine gs_end C' hF fun w hF=>gs_ctl C' hF (fun w=>stepG_inLoop) fun w hF=>h₁ _ _ ⟨t6,_,rfl,hT6,?_⟩ hF
  have sg:=fun i=>(hT6.get i).symm
  refine ⟨?_,?_,?_,?_,?_,?_,?_⟩
  ·exact (sg 3).trans ((slot6 3 (by omega) (by omega) (by omega) (by omega) (by omega) (by omega) (by omega)).trans hf.t3)
  ·exact (sg 4).trans ((slot6 4 (by omega) (by omega) (by omega) (by omega) (by omega) (by omega) (by omega)).trans hf.t4)
  ·exact (sg 5).trans ((slot6 5 (by omega) (by omega) (by omega) (by omega) (by omega) (by omega) (by omega)).trans hf.t5)
  ·exact (sg 8).trans ((slot6 8 (by omega) (by omega) (by omega) (by omega) (by omega) (by omega) (by omega)).trans hf.t8)
  ·exact (sg 9).trans ((slot6 9 (by omega) (by omega) (by omega) (by omega) (by omega) (by omega) (by omega)).trans hf.t9)
  ·exact (sg 30).trans ((slot6 30 (by omega) (by omega) (by omega) (by omega) (by omega) (by omega) (by omega)).trans hf.t30)
  ·exact putF_same
end
end Go.Proofs.Ytjkikkgpenhbgaa.Ea
set_option linter.unusedVariables false
set_option linter.unusedSimpArgs false
namespace Go.Proofs.Ytjkikkgpenhbgaa.Ea
open Go.Conc Go.ConcN Go.RowKit Go.Conc.Lib Go.ConcR.Gen Go.ConcN.Gen Go.Proofs.Ytjkikkgpenhbgaa.Sim
open Go.ConcR (KK wgBlock WgAt stA smA rd wr mk Payload DC0)
section
variable {N:Nat} {W:World} {n:Nat} {A B:Option Addr} {cA cB g:Nat} {X:Loc→Prop} {bA bB:Nat} {m:Mk} {xs ys:Nat→Int} {w w₁:World} {j s:Nat} {vi:Option Value}
theorem famE (hX:Far X N bA bB) (hn:n≤20):Fam Try.prog 95 (N+5) (N+3) n (Own X N) (Rd N bA bB) (Lw N) (val8 m xs ys) (vals8 n m xs ys) (AnW N W n A B cA cB g) (PostY N W n A B cA cB g m xs ys):=
 ⟨apart hX,geo N,by omega,fun q w ⟨T,f,_,_,T',e,_⟩=>by rw [e];rfl,fun q w h=>anW_round hX q w h,by simp [vals8],fun i hi=>by simp [vals8,hi]⟩
theorem spawnsAll (hM:MkFn m g) (hG:∃ fn,Try.prog.funcs[g]? = some fn∧(fn.name == "runtime.NumGoroutine")=false∧fn.body.isNone=false) (hX:Far X N bA bB) (hn:n≤20) (hs:∀ k,k<n→(0≤xs k∧xs k≤30)∧(0≤ys k∧ys k≤30))
  (hA:0<n→∃ ad,A=some ad∧ad.block=bA∧ad.block<N∧∀ k,k<n→W.cell? (ad.add k)=some (.int .i64 (xs k)))
  (hB:0<n→∃ ad,B=some ad∧ad.block=bB∧ad.block<N∧∀ k,k<n→W.cell? (ad.add k)=some (.int .i64 (ys k))) {q:Goroutine} {w:World} (hq:AnchS N n 0 q) (hF:CS N W n A B cA cB g 0 0 none w) :
  SP N W n A B cA cB g X bA bB m xs ys n q w:=by
 obtain ⟨fu,h⟩:=spawnsFrom hM hG hX hn hs hA hB n 0 (by omega)
 refine (spawns_iff N W n A B cA cB g X bA bB m xs ys n q w).2 ⟨fu,?_⟩
 rw [Nat.sub_self]
 exact h q w hq hF
theorem SI.aside3 {Cc:Nat} (hc:N+6+j<Cc) (h:SI N W n A B cA cB g j s vi w) (ha:Go.ConcR.Aside2 Cc (N+5) w w₁):SI N W n A B cA cB g j s vi w₁:=
 ⟨⟨ha.os.trans h.below.os,ha.tape.trans h.below.tape,ha.output.trans h.below.output,by rw [ha.size];exact h.below.size,fun k hk=>(ha.block k (by omega) (by omega)).trans (h.below.block k hk)⟩,by rw [ha.size];exact h.size,
  (ha.block _ (by omega) (by omega)).trans h.b0,(ha.block _ (by omega) (by omega)).trans h.b1,(ha.block _ (by omega) (by omega)).trans h.b2,(ha.block _ (by omega) (by omega)).trans h.b4,fun i hi=>(ha.block _ (by omega) (by omega)).trans (h.ib i hi),fun v e=>(ha.block _ (by omega) (by omega)).trans (h.ci v e)⟩
theorem ev1_wr (hX:Far X N bA bB):Ev0 (N+5) (Own X N) (fun _ _=>False) 1 ⟨.cell ⟨N+6+0,0,none⟩,true,false⟩:=by
 refine ⟨fun fn pos=>⟨rfl,fun y hy=>?_⟩,by simp,by simp,by simp⟩
 simp only [Go.ConcR.ofEvent_cell,MemAct.touch?,Option.some.injEq] at hy
 subst hy
 refine .inr ⟨fun ⟨a',e,hb⟩=>by cases e;simp at hb,fun k _ _ ⟨_,e⟩=>?_,fun _ k k1 kj hr=>hr.elim⟩
 rcases e with e | ⟨_,e⟩
 ·cases e
 ·have:=(hX.old _ e).1
  simp at this
  omega
theorem goE {t4:Array Value} (e35:t4.getD 35 undef = .func (.func 70) #[] #[.pointer (some ⟨N+5,0,none⟩),.pointer (some ⟨N+2,0,none⟩),.pointer (some ⟨N,0,none⟩),.pointer (some ⟨N+6+j,0,none⟩),.pointer (some ⟨N+1,0,none⟩),.pointer (some ⟨N+4,0,none⟩)]) (k:List Item) (w:World) :
  stepG Try.prog true (G (bE.at ⟨t4,[]⟩ (.inRegion r9 [1] :: k)) []) w = .spawn (G (bE.at ⟨t4,[]⟩ (.inRegion r9 [] :: k)) []) (born Try.prog (callW N j)) w #[]:=by
 obtain ⟨o,ho,hop,hd,hw⟩:=o9b
 have hgo:=go_both (P:=Try.prog) (w:=w) (a:=⟨t4,[]⟩) hop e35
 rw [stepG_spawn (d:=callW N j) ho (hw _) (fun e=>by cases e) hgo.1 rfl,listed_nil_of hgo.2,hd]
 rfl
theorem pre_first (hX:Far X N bA bB) (hn:n≤20) (h0:0<n) {q:Goroutine} {w:World} (hq:AnchS N n 0 q) (hF:CS N W n A B cA cB g 0 0 none w) (hw:Go.ConcR.WgAt 95 (N+5) w 0 0) :
  Pre Try.prog 95 (N+5) (N+1000) 0 (Own X N) (fun _ _=>False) (fun k=>N+5+k) (fun _=>undef) (fun _ _=>False) (fun _ _=>False) q w:=by
 obtain ⟨T,f,rfl,hT,hf⟩:=hq
 refine .kd (fun _ _=>True) 30 0 (round (j:=0) (L:=1) (Lw':=fun k=>N+5+k) (val':=fun _=>undef) hn h0 (fun s vi w w₁ h ha=>h.aside3 (by omega) ha) (by simp) (ev1_wr hX) hf (fun t4 f4 w₂ hT4 e35 slot4 hF=>?_) hT hF) (by omega) (by simpa using hw)
 refine ⟨rfl,_,_,goE e35 _ w₂,rfl,fun hpay=>?_,trivial⟩
 obtain ⟨arr,h1,_⟩:=hpay
 have:=hF.1.size
 rw [Array.getElem?_eq_none (by omega)] at h1
 cases h1
end
end Go.Proofs.Ytjkikkgpenhbgaa.Ea
set_option linter.unusedVariables false
namespace Go.Proofs.Ytjkikkgpenhbgaa.Ea
open Go Go.Conc Go.Proofs.Ytjkikkgpenhbgaa.Sim Go.Conc.Lib
def gs:List Nat:=[wglink.add,wglink.wait,wglink.relMerge,wglink.disable,wglink.enable,wglink.inBubble,wglink.associate,wglink.fatal,wglink.uOr,wglink.uAdd,wglink.raceRead,wglink.uLoad,wglink.uStore,wglink.disassociate,wglink.semrelease,wglink.acquire,wglink.isAssociated,wglink.uCas,wglink.raceWrite,wglink.semacquire,wglink.orU64,wglink.addU64,wglink.loadU64,wglink.storeU64,wglink.casU64]
def GE (f:Nat):Bool:=gs.contains f
theorem all_of {p:Nat→Bool} (h:gs.all p=true) {f:Nat} (hf:GE f=true):p f=true:=List.all_eq_true.1 h f (by simpa [GE] using hf)
theorem eNum:gs.all (fun f=>match Try.prog.funcs[f]? with | some fn=>!(fn.name == "runtime.NumGoroutine") | none=>true)=true:=by kernel_rfl
theorem eBodies:gs.all (fun f=>match Try.prog.funcs[f]? with | some fn=>(match fn.body with | some c=>codeE GE c | none=>true) | none=>true)=true:=by kernel_rfl
theorem eNext:gs.all (fun f=>match Try.prog.funcs[f]? with | some fn=>(fn.body.isSome || (Extern.findNext fn).isNone) | none=>true)=true:=by kernel_rfl
theorem eInits:gs.all (fun f=>(Try.prog.inits.idxOf? f).isNone)=true:=by kernel_rfl
theorem eEach:codeE GE LE=true∧codeE GE restE=true:=by
 refine ⟨?_,?_⟩ <;> kernel_rfl
theorem eInit:Try.prog.inits.idxOf? 41=none:=by kernel_rfl
theorem eReady:Try.prog.funcs.all (fun fn=>match fn.body with | some c=>(readies c).isEmpty | none=>true)=true:=by kernel_rfl
theorem eAhead:Try.prog.follows .staticDataAhead=true:=by kernel_rfl
theorem eEarly (fr:Frame) (cs:List Frame) (d:Option Dying) (q:Nat) (w:World):∃ o w1 es,Go.early Try.prog fr cs d q w = .ended o w1 es∧∀ v,o≠.done v:=by
 have hs:Program.stepOf Try.prog q=none:=by
  unfold Program.stepOf
  rw [Array.findIdx?_eq_none_iff]
  intro fn hfn
  have:=Array.all_eq_true_iff_forall_mem.1 eReady fn hfn
  cases hb:fn.body with
  | none=>rfl
  | some c=>
   rw [hb] at this
   simp at this
   simp [this]
 unfold Go.early
 dsimp only
 rw [eAhead,hs]
 exact ⟨_,_,_,rfl,fun v e=>by cases e⟩
theorem eProg:EProg GE Try.prog:=by
 refine ⟨fun f fn hG hf hb=>?_,fun f fn hG hf=>?_,fun f fn c hG hf hb=>?_,fun f hG=>?_,eEarly⟩
 ·have:=all_of eNext hG
  simp only [hf] at this
  have h2:fn.body.isSome=false:=by rw [Option.isNone_iff_eq_none] at hb;rw [hb];rfl
  rw [h2] at this
  simpa using this
 ·have:=all_of eNum hG
  simp only [hf] at this
  simpa using this
 ·have:=all_of eBodies hG
  simp only [hf,hb] at this
  exact this
 ·have:=all_of eInits hG
  simpa using this
theorem eOk (T:Array Value):EOk GE Try.prog (G (bE.at ⟨T,[]⟩ [.code LE,.inLoop LE,.inBlock 0,.code restE]) []):=by
 refine ⟨rfl,rfl,⟨fun it hit=>?_,fun d hd=>?_,rfl,eInit⟩,fun fr hfr=>?_⟩
 ·have hit:it ∈ [Item.code LE,.inLoop LE,.inBlock 0,.code restE]:=hit
  simp only [List.mem_cons,List.not_mem_nil,or_false] at hit
  rcases hit with rfl | rfl | rfl | rfl
  ·exact eEach.1
  ·exact eEach.1
  ·rfl
  ·exact eEach.2
 ·have hd:d ∈ ([]:List Deferred):=hd
  cases hd
 ·have hfr:fr ∈ ([]:List Frame):=hfr
  cases hfr
end Go.Proofs.Ytjkikkgpenhbgaa.Ea
set_option linter.unusedVariables false
namespace Go.Proofs.Ytjkikkgpenhbgaa.Ea
open Go Go.Conc Go.ConcN Go.RowKit Go.Conc.Lib Go.ConcR.Gen Go.ConcN.Gen Go.Proofs.Ytjkikkgpenhbgaa.Sim
section
variable {N:Nat} {W:World} {n:Nat} {A B:Option Addr} {cA cB g:Nat} {Shun:Loc→Prop} {bA bB:Nat} {m:Mk} {xs ys:Nat→Int}
theorem own_shun (hX:Far Shun N bA bB) (k:Nat) (l:Loc) (h:Own (fun _=>False) N k l∨Rd N bA bB k l):¬ Shun l:=by
 intro hs
 rcases h with ⟨_,e | ⟨_,e⟩⟩ | ⟨_,a',e,hr⟩
 ·subst e
  have:=(hX.old _ hs).1
  simp at this
  omega
 ·exact e.elim
 ·subst e
  have ho:=hX.old _ hs
  simp only [RB] at hr
  omega
theorem far_none (hX:Far Shun N bA bB):Far (fun _=>False) N bA bB:=⟨fun _ h=>h.elim,hX.a,hX.b⟩
theorem ev1_rd (hX:Far Shun N bA bB):Ev0 (N+5) (Own Shun N) (fun _ _=>False) 1 ⟨.cell ⟨N+4,0,none⟩,false,false⟩:=by
 refine ⟨fun fn pos=>⟨rfl,fun y hy=>?_⟩,by simp,by simp,by simp⟩
 simp only [Go.ConcR.ofEvent_cell,MemAct.touch?,Option.some.injEq] at hy
 subst hy
 refine .inr ⟨fun ⟨a',e,hb⟩=>by cases e;simp at hb,fun k _ _ ⟨_,e⟩=>?_,fun e=>by cases e⟩
 rcases e with e | ⟨_,e⟩
 ·cases e
 ·have:=(hX.old _ e).1
  simp at this
  omega
theorem pre_zero (hX:Far Shun N bA bB) {q:Goroutine} {w:World} (hq:AnchS N 0 0 q) (hF:CS N W 0 A B cA cB g 0 0 none w) (hw:Go.ConcR.WgAt 95 (N+5) w 0 0) (hpay:PayAt (N+3) 0 w) :
  Pre Try.prog 95 (N+5) (N+3) 0 (Own Shun N) (fun _ _=>False) (fun k=>N+5+k) (fun _=>undef) (AnW N W 0 A B cA cB g) (fun _ _=>True) q w:=
 .wkd 13 (toWait hq hF) hw ⟨by simp,hpay⟩
theorem phaseE (hM:MkFn m g) (hG:∃ fn,Try.prog.funcs[g]? = some fn∧(fn.name == "runtime.NumGoroutine")=false∧fn.body.isNone=false) (hX:Far Shun N bA bB) (hn:n≤20) (hs:∀ k,k<n→(0≤xs k∧xs k≤30)∧(0≤ys k∧ys k≤30))
  (hA:0<n→∃ ad,A=some ad∧ad.block=bA∧ad.block<N∧∀ k,k<n→W.cell? (ad.add k)=some (.int .i64 (xs k)))
  (hB:0<n→∃ ad,B=some ad∧ad.block=bB∧ad.block<N∧∀ k,k<n→W.cell? (ad.add k)=some (.int .i64 (ys k)))
  {Bd:Nat} {q:Nat→Nat} {gs:Array Goroutine} {w:World} {sl:Option (Nat×Nat)} {T:Trace} {a:Goroutine} {c0:Frame} {rest:List Frame} (hP:Past Shun Bd T) (hL:Leavers Try.prog T gs q) (h0:gs[0]? = some (ups (c0 :: rest) a)) (hq:AnchS N n 0 a)
  (hF:CS N W n A B cA cB g 0 0 none w) (hwg:Go.ConcR.WgAt 95 (N+5) w 0 0) (hpay:PayAt (N+3) n w) :
  ∃ k gs' w' sl' T',runNT Try.prog k (crowd gs w sl) T=(.next (crowd gs' w' sl'),T')∧GEnd Try.prog (PostY N W n A B cA cB g m xs ys) Shun (N+5) c0 rest gs' w' T':=by
 have hok:EOk GE Try.prog a:=by
  obtain ⟨T',f,rfl,_⟩:=hq
  exact eOk T'
 rcases Nat.eq_zero_or_pos n with rfl | hn0
 ·exact crowd_phase (LwP:=fun k=>N+5+k) eProg (famE (m:=m) (xs:=xs) (ys:=ys) (W:=W) (A:=A) (B:=B) (cA:=cA) (cB:=cB) (g:=g) hX hn) (famE (m:=m) (xs:=xs) (ys:=ys) (W:=W) (A:=A) (B:=B) (cA:=cA) (cB:=cB) (g:=g) (far_none hX) hn) (fun l h=>⟨Nat.le_refl _,.inr ⟨rfl,h⟩⟩) (own_shun hX) (Nat.lt_succ_self _) (fun q w ⟨T,f,_,_,T',e,_⟩=>by rw [e];rfl) (fun q w h=>anW_roundG (ev1_rd hX) (fun _ _ _ _=>trivial) q w h) hP hL h0 hok
   (spawnsAll hM hG hX hn hs hA hB hq hF) (spawnsAll hM hG (far_none hX) hn hs hA hB hq hF) (pre_zero hX hq hF hwg hpay) hwg hpay
 ·exact crowd_phase (LwP:=fun k=>N+5+k) eProg (famE (m:=m) (xs:=xs) (ys:=ys) (W:=W) (A:=A) (B:=B) (cA:=cA) (cB:=cB) (g:=g) hX hn) (famE (m:=m) (xs:=xs) (ys:=ys) (W:=W) (A:=A) (B:=B) (cA:=cA) (cB:=cB) (g:=g) (far_none hX) hn) (fun l h=>⟨Nat.le_refl _,.inr ⟨rfl,h⟩⟩) (own_shun hX) (Nat.lt_succ_self _) (fun _ _ h=>h.elim) (fun _ _ h=>h.elim) hP hL h0 hok
   (spawnsAll hM hG hX hn hs hA hB hq hF) (spawnsAll hM hG (far_none hX) hn hs hA hB hq hF) (pre_first hX hn hn0 hq hF hwg) hwg hpay
end
end Go.Proofs.Ytjkikkgpenhbgaa.Ea
set_option linter.unusedVariables false
set_option linter.unusedSimpArgs false
namespace Go.Proofs.Ytjkikkgpenhbgaa.Ea
open Go Go.Conc Go.ConcN Go.RowKit Go.Conc.Lib Go.ConcR.Gen Go.ConcN.Gen Go.Proofs.Ytjkikkgpenhbgaa.Sim
noncomputable def r2:Array Oper:=match c1 with | .cond _ (.seq (.region _ r _) _) _=>r | _=>#[]
theorem q0_0:∃ o,r0[0]? = some o∧o.op = .box 23 (.tmp 0)∧o.dst=some 3∧∀ ys,Region.wanted o ys=true:=op_of (by kernel_rfl)
theorem q0_1:∃ o,r0[1]? = some o∧o.op = .box 23 (.tmp 1)∧o.dst=some 4∧∀ ys,Region.wanted o ys=true:=op_of (by kernel_rfl)
theorem q0_2:∃ o,r0[2]? = some o∧o.op = .box 65 (.tmp 2)∧o.dst=some 5∧∀ ys,Region.wanted o ys=true:=op_of (by kernel_rfl)
theorem q0_3:∃ o,r0[3]? = some o∧o.op = .assign (.const (.slice none 0 0))∧o.dst=some 6∧∀ ys,Region.wanted o ys=true:=op_of (by kernel_rfl)
theorem q0_4:∃ o,r0[4]? = some o∧o.op = .assign (.const (.bool false))∧o.dst=some 7∧∀ ys,Region.wanted o ys=true:=op_of (by kernel_rfl)
theorem q1_0:∃ o,r1[0]? = some o∧o.op = .load 23 (.tmp 3)∧o.dst=some 11∧∀ ys,Region.wanted o ys=true:=op_of (by kernel_rfl)
theorem q1_1:∃ o,r1[1]? = some o∧o.op = .call { callee:=.value (.func 68),args:=#[.tmp 11],argTypes:=#[23] }∧o.dst=some 12∧∀ ys,Region.wanted o ys=true:=op_of (by kernel_rfl)
theorem q1_2:∃ o,r1[2]? = some o∧o.op = .unOp .not 4 (.tmp 12)∧o.dst=some 13∧∀ ys,Region.wanted o ys=true:=op_of (by kernel_rfl)
theorem q1_3:∃ o,r1[3]? = some o∧o.op = .move (.tmp 13)∧o.dst=some 14∧∀ ys,Region.wanted o ys=true:=op_of (by kernel_rfl)
theorem q1_4:∃ o,r1[4]? = some o∧o.op = .load 23 (.tmp 4)∧o.dst=some 15∧∀ (t:Array Value) (y:Bool),t.getD 14 undef = .bool y→Region.wanted o (yielded r1 t)=(y == false):=op_ofG (j:=3) (by kernel_rfl) (by kernel_rfl)
theorem q1_5:∃ o,r1[5]? = some o∧o.op = .call { callee:=.value (.func 68),args:=#[.tmp 15],argTypes:=#[23] }∧o.dst=some 16∧∀ (t:Array Value) (y:Bool),t.getD 14 undef = .bool y→Region.wanted o (yielded r1 t)=(y == false):=op_ofG (j:=3) (by kernel_rfl) (by kernel_rfl)
theorem q1_6:∃ o,r1[6]? = some o∧o.op = .unOp .not 4 (.tmp 16)∧o.dst=some 17∧∀ (t:Array Value) (y:Bool),t.getD 14 undef = .bool y→Region.wanted o (yielded r1 t)=(y == false):=op_ofG (j:=3) (by kernel_rfl) (by kernel_rfl)
theorem q1_7:∃ o,r1[7]? = some o∧o.op = .pick (.tmp 14) (.const (.bool true)) (.tmp 17)∧o.dst=some 18∧∀ ys,Region.wanted o ys=true:=op_of (by kernel_rfl)
theorem q1_8:∃ o,r1[8]? = some o∧o.op = .move (.tmp 18)∧o.dst=some 19∧∀ ys,Region.wanted o ys=true:=op_of (by kernel_rfl)
theorem q1_9:∃ o,r1[9]? = some o∧o.op = .load 23 (.tmp 3)∧o.dst=some 20∧∀ (t:Array Value) (y:Bool),t.getD 19 undef = .bool y→Region.wanted o (yielded r1 t)=(y == false):=op_ofG (j:=8) (by kernel_rfl) (by kernel_rfl)
theorem q1_10:∃ o,r1[10]? = some o∧o.op = .call { callee:=.builtin .len,args:=#[.tmp 20],argTypes:=#[23] }∧o.dst=some 21∧∀ (t:Array Value) (y:Bool),t.getD 19 undef = .bool y→Region.wanted o (yielded r1 t)=(y == false):=op_ofG (j:=8) (by kernel_rfl) (by kernel_rfl)
theorem q1_11:∃ o,r1[11]? = some o∧o.op = .load 23 (.tmp 4)∧o.dst=some 22∧∀ (t:Array Value) (y:Bool),t.getD 19 undef = .bool y→Region.wanted o (yielded r1 t)=(y == false):=op_ofG (j:=8) (by kernel_rfl) (by kernel_rfl)
theorem q1_12:∃ o,r1[12]? = some o∧o.op = .call { callee:=.builtin .len,args:=#[.tmp 22],argTypes:=#[23] }∧o.dst=some 23∧∀ (t:Array Value) (y:Bool),t.getD 19 undef = .bool y→Region.wanted o (yielded r1 t)=(y == false):=op_ofG (j:=8) (by kernel_rfl) (by kernel_rfl)
theorem q1_13:∃ o,r1[13]? = some o∧o.op = .binOp .neq 3 (.tmp 21) (.tmp 23) 3∧o.dst=some 24∧∀ (t:Array Value) (y:Bool),t.getD 19 undef = .bool y→Region.wanted o (yielded r1 t)=(y == false):=op_ofG (j:=8) (by kernel_rfl) (by kernel_rfl)
theorem q1_14:∃ o,r1[14]? = some o∧o.op = .pick (.tmp 19) (.const (.bool true)) (.tmp 24)∧o.dst=some 25∧∀ ys,Region.wanted o ys=true:=op_of (by kernel_rfl)
theorem q2_0:∃ o,r2[0]? = some o∧o.op = .assign (.const (.slice none 0 0))∧o.dst=some 6∧∀ ys,Region.wanted o ys=true:=op_of (by kernel_rfl)
theorem q2_1:∃ o,r2[1]? = some o∧o.op = .assign (.const (.bool false))∧o.dst=some 7∧∀ ys,Region.wanted o ys=true:=op_of (by kernel_rfl)
theorem q3_0:∃ o,r3[0]? = some o∧o.op = .load 23 (.tmp 3)∧o.dst=some 26∧∀ ys,Region.wanted o ys=true:=op_of (by kernel_rfl)
theorem q3_1:∃ o,r3[1]? = some o∧o.op = .call { callee:=.builtin .len,args:=#[.tmp 26],argTypes:=#[23] }∧o.dst=some 27∧∀ ys,Region.wanted o ys=true:=op_of (by kernel_rfl)
theorem q3_2:∃ o,r3[2]? = some o∧o.op = .makeSlice 23 (.tmp 27) (.tmp 27)∧o.dst=some 28∧∀ ys,Region.wanted o ys=true:=op_of (by kernel_rfl)
theorem q3_3:∃ o,r3[3]? = some o∧o.op = .alloc 23∧o.dst=some 8∧∀ ys,Region.wanted o ys=true:=op_of (by kernel_rfl)
theorem q3_4:∃ o,r3[4]? = some o∧o.op = .store 23 (.tmp 8) (.tmp 28)∧o.dst=none∧∀ ys,Region.wanted o ys=true:=op_of (by kernel_rfl)
theorem q4_0:∃ o,r4[0]? = some o∧o.op = .alloc 95∧o.dst=some 9∧∀ ys,Region.wanted o ys=true:=op_of (by kernel_rfl)
theorem q5_0:∃ o,r5[0]? = some o∧o.op = .load 23 (.tmp 3)∧o.dst=some 29∧∀ ys,Region.wanted o ys=true:=op_of (by kernel_rfl)
theorem q5_1:∃ o,r5[1]? = some o∧o.op = .call { callee:=.builtin .len,args:=#[.tmp 29],argTypes:=#[23] }∧o.dst=some 30∧∀ ys,Region.wanted o ys=true:=op_of (by kernel_rfl)
theorem q5_2:∃ o,r5[2]? = some o∧o.op = .move (.const (.int .i64 0))∧o.dst=some 31∧∀ ys,Region.wanted o ys=true:=op_of (by kernel_rfl)
theorem sizesH:List.range r0.size=[0,1,2,3,4]∧List.range r1.size=[0,1,2,3,4,5,6,7,8,9,10,11,12,13,14]∧List.range r2.size=[0,1]∧List.range r3.size=[0,1,2,3,4]∧List.range r4.size=[0]∧List.range r5.size=[0,1,2]:=by
 refine ⟨?_,?_,?_,?_,?_,?_⟩ <;> kernel_rfl
noncomputable def rest1:Code:=.seq (.region 3 r3 false) (.seq (.region 4 r4 false) (.seq (.seq (.region 5 r5 false) (.block 0 (.loop LE))) restE))
theorem bodyE_eq2:bodyE = .seq (.region 0 r0 false) (.seq (.seq (.region 1 r1 false) c1) rest1):=by kernel_rfl
theorem c1_eq:c1 = .cond (.tmp 25) (.seq (.region 2 r2 false) .ret) .skip:=by kernel_rfl
theorem someE:Try.f41.body=some bodyE:=by kernel_rfl
theorem ntE:Try.f41.ntmps=39:=by kernel_rfl
theorem resE:Try.f41.results=#[.tmp 6,.tmp 7]:=by kernel_rfl
theorem infoW0:(Try.prog.info? 95).map (fun i=>i.zero.map Value.cells)=some (some #[.int .u64 0,.int .u32 0]):=by kernel_rfl
theorem infoW:∃ i z,Try.prog.info? 95=some i∧i.zero=some z∧z.cells=#[.int .u64 0,.int .u32 0]:=by
 obtain ⟨i,h1,h2⟩:=Option.map_eq_some_iff.1 infoW0
 obtain ⟨z,h3,h4⟩:=Option.map_eq_some_iff.1 h2
 exact ⟨i,z,h1,h3,h4⟩
theorem infoS0:(Try.prog.info? 23).map (fun i=>(i.zero,i.size))=some (some (.slice none 0 0),1):=by kernel_rfl
theorem infoS:∃ i,Try.prog.info? 23=some i∧i.zero=some (.slice none 0 0)∧i.size=1:=by
 obtain ⟨i,h1,h2⟩:=Option.map_eq_some_iff.1 infoS0
 simp only [Prod.mk.injEq] at h2
 exact ⟨i,h1,h2.1,h2.2⟩
theorem okFn:∃ fn,Try.prog.funcs[68]? = some fn∧(fn.name == "runtime.NumGoroutine")=false∧fn.body.isNone=false:=⟨_,Try.func68,by kernel_rfl,by kernel_rfl⟩
structure HT (N:Nat) (f:Nat→Value):Prop where
 t3:f 3 = .pointer (some ⟨N,0,none⟩)
 t4:f 4 = .pointer (some ⟨N+1,0,none⟩)
 t5:f 5 = .pointer (some ⟨N+2,0,none⟩)
 t6:f 6 = .slice none 0 0
 t7:f 7 = .bool false
theorem HT.of {N:Nat} {f g:Nat→Value} (h:HT N f) (e:∀ i,i<8→g i=f i):HT N g:=⟨(e 3 (by omega)).trans h.t3,(e 4 (by omega)).trans h.t4,(e 5 (by omega)).trans h.t5,(e 6 (by omega)).trans h.t6,(e 7 (by omega)).trans h.t7⟩
theorem HT.put {N:Nat} {f:Nat→Value} (h:HT N f) {d:Nat} (hd:8≤d) (v:Value):HT N (putF f d v):=h.of fun i hi=>zad (by omega)
noncomputable def kH:List Item:=[.code c1,.code rest1]
section
variable {S:Nat→Prop} {w W:World} {N B:Nat} {n1 n2 cA cB g:Nat} {A A':Option Addr} {cf:Frame} {cs:List Frame}
abbrev bx (A A':Option Addr) (n1 n2 cA cB g:Nat):List Obj:=[.cells #[.slice A n1 cA] 23 (0,0),.cells #[.slice A' n2 cB] 23 (0,0),.cells #[.func (.func g) #[] #[]] 65 (0,0)]
def AtLook (N:Nat) (cs:List Frame) (i:Nat) (rest:List Nat) (v:Value) (a:Goroutine):Prop:=∃ t f,Tm 39 t f∧HT N f∧a=G (Frame.enter Try.prog 68 #[v] .normal) (bE.at ⟨t,[]⟩ (.inRegion r1 (i :: rest) :: kH) :: cs)
theorem segA [Sim.Start] (hN:W.heap.size=N) (hF:Rel Try.progTables S w W) :
  GR Try.prog S (N+100) (fun a w=>AtLook N cs 1 [2,3,4,5,6,7,8,9,10,11,12,13,14] (.slice A n1 cA) a∧Rel Try.progTables S w (zas W (bx A A' n1 n2 cA cB g))) 20 (G (Frame.enter Try.prog 41 #[.slice A n1 cA,.slice A' n2 cB,.func (.func g) #[] #[]] .normal) cs) w:=by
 rw [enter_at (P:=Try.prog) _ Try.func41 someE,ntE,bodyE_eq2]
 have hT:=tm_args #[.slice A n1 cA,.slice A' n2 cB,.func (.func g) #[] #[]] 39
 have h0:(#[Value.slice A n1 cA,.slice A' n2 cB,.func (.func g) #[] #[]]++Array.replicate (39 - #[Value.slice A n1 cA,.slice A' n2 cB,.func (.func g) #[] #[]].size) undef).getD 0 undef = .slice A n1 cA:=args_get rfl
 have h1:(#[Value.slice A n1 cA,.slice A' n2 cB,.func (.func g) #[] #[]]++Array.replicate (39 - #[Value.slice A n1 cA,.slice A' n2 cB,.func (.func g) #[] #[]].size) undef).getD 1 undef = .slice A' n2 cB:=args_get rfl
 have h2:(#[Value.slice A n1 cA,.slice A' n2 cB,.func (.func g) #[] #[]]++Array.replicate (39 - #[Value.slice A n1 cA,.slice A' n2 cB,.func (.func g) #[] #[]].size) undef).getD 2 undef = .func (.func g) #[] #[]:=args_get rfl
 have hs:(#[Value.slice A n1 cA,.slice A' n2 cB,.func (.func g) #[] #[]]++Array.replicate (39 - #[Value.slice A n1 cA,.slice A' n2 cB,.func (.func g) #[] #[]].size) undef).size=39:=by simp
 rw [hs] at hT
 clear hs
 generalize #[Value.slice A n1 cA,.slice A' n2 cB,.func (.func g) #[] #[]]++Array.replicate (39 - #[Value.slice A n1 cA,.slice A' n2 cB,.func (.func g) #[] #[]].size) undef=t at *
 have C:Car AtRel (DE (ShunOf S) (N+100)) (fun w=>Rel Try.progTables S w (zas W [])):=carR
 replace hF:Rel Try.progTables S w (zas W []):=by rw [growW_nil];exact hF
 refine gs_seq C hF fun w hF=>gs_reg C hF sizesH.1 fun w hF=>?_
 obtain ⟨o,ho,hop,hd,hw⟩:=q0_0
 refine gw_box (N:=N) hF hT rfl ho hop hd (by omega) (hw _) (by simp [hN]) h0 rfl fun w t1 hF hT1=>?_
 clear ho hop hd hw
 obtain ⟨o,ho,hop,hd,hw⟩:=q0_1
 refine gw_box (N:=N+1) hF hT1 rfl ho hop hd (by omega) (hw _) (by simp [hN]) (v:=.slice A' n2 cB) ((hT1.get 1).trans ((zad (by omega)).trans h1)) rfl fun w t2 hF hT2=>?_
 clear ho hop hd hw
 obtain ⟨o,ho,hop,hd,hw⟩:=q0_2
 refine gw_box (N:=N+2) hF hT2 rfl ho hop hd (by omega) (hw _) (by simp [hN]) (v:=.func (.func g) #[] #[]) ((hT2.get 2).trans ((zad (by omega)).trans ((zad (by omega)).trans h2))) rfl fun w t3 hF hT3=>?_
 clear ho hop hd hw C
 replace hF:Rel Try.progTables S w (zas W (bx A A' n1 n2 cA cB g)):=hF
 have C:Car AtRel (DE (ShunOf S) (N+100)) (fun w=>Rel Try.progTables S w (zas W (bx A A' n1 n2 cA cB g))):=carR
 obtain ⟨o,ho,hop,hd,hw⟩:=q0_3
 refine zaw (d:=6) C hF hT3 rfl ho hd (by omega) (hw _) (fun w=>assign_both hop) fun w t4 hF hT4=>?_
 clear ho hop hd hw
 obtain ⟨o,ho,hop,hd,hw⟩:=q0_4
 refine zaw (d:=7) C hF hT4 rfl ho hd (by omega) (hw _) (fun w=>assign_both hop) fun w t5 hF hT5=>?_
 clear ho hop hd hw
 refine gs_end C hF fun w hF=>gs_seq C hF fun w hF=>gs_seq C hF fun w hF=>gs_reg C hF sizesH.2.1 fun w hF=>?_
 have hH:HT N (putF (putF (putF (putF (putF (fun i=>t.getD i undef) 3 (.pointer (some ⟨N,0,none⟩))) 4 (.pointer (some ⟨N+1,0,none⟩))) 5 (.pointer (some ⟨N+2,0,none⟩))) 6 (.slice none 0 0)) 7 (.bool false)):=⟨rfl,rfl,rfl,rfl,rfl⟩
 obtain ⟨o,ho,hop,hd,hw⟩:=q1_0
 refine gr_load (v:=.slice A n1 cA) (ad:=⟨N,0,none⟩) hF hT5 rfl ho hop hd (by omega) (hw _) hH.t3 Try.underlying23 (by simp) (by simp) (gcell (j:=0) (l:=bx A A' n1 n2 cA cB g) rfl (by omega)).1 (by simp) fun w t6 hF hT6=>?_
 clear ho hop hd hw
 obtain ⟨o,ho,hop,hd,hw⟩:=q1_1
 obtain ⟨fn,k1,k2,k3⟩:=okFn
 refine gr_call (vs:=#[.slice A n1 cA]) hF rfl ho (hw _) hop k1 k2 k3 (by simp [show Act.eval ⟨t6,[]⟩ (.tmp 11) = .slice A n1 cA from (hT6.get 11).trans putF_same]) fun w hF=>?_
 exact Goes.stop fun w2 r2=>⟨⟨t6,_,hT6,hH.put (by omega) _,rfl⟩,C.rl _ _ hF r2⟩
end
end Go.Proofs.Ytjkikkgpenhbgaa.Ea
set_option linter.unusedVariables false
set_option linter.unusedSimpArgs false
namespace Go.Proofs.Ytjkikkgpenhbgaa.Ea
open Go Go.Conc Go.ConcN Go.RowKit Go.Conc.Lib Go.ConcR.Gen Go.ConcN.Gen Go.Proofs.Ytjkikkgpenhbgaa.Sim
section
variable {S:Nat→Prop} {w W:World} {N B:Nat} {n1 n2 cA cB g:Nat} {A A':Option Addr} {cf:Frame} {cs:List Frame}
theorem neq_run (x y:Int) (w:World):(Go.binOp .neq 3 (.int .i64 x) (.int .i64 y)).runT Try.prog w #[]=(.ok (.bool (x != y)) w,#[]):=by rfl
theorem segB [Sim.Start] (hN:W.heap.size=N) {t:Array Value} {f:Nat→Value} (hT:Tm 39 t f) (hH:HT N f) (f12:f 12 = .bool true) (hF:Rel Try.progTables S w (zas W (bx A A' n1 n2 cA cB g))) :
  GR Try.prog S (N+100) (fun a w=>(∃ t f,Tm 39 t f∧HT N f∧f 14 = .bool false∧a=G (Frame.enter Try.prog 68 #[.slice A' n2 cB] .normal) (bE.at ⟨t,[]⟩ (.inRegion r1 (5 :: [6,7,8,9,10,11,12,13,14]) :: kH) :: cs))∧Rel Try.progTables S w (zas W (bx A A' n1 n2 cA cB g))) 5 (G (bE.at ⟨t,[]⟩ (.inRegion r1 [2,3,4,5,6,7,8,9,10,11,12,13,14] :: kH)) cs) w:=by
 have C:Car AtRel (DE (ShunOf S) (N+100)) (fun w=>Rel Try.progTables S w (zas W (bx A A' n1 n2 cA cB g))):=carR
 obtain ⟨o,ho,hop,hd,hw⟩:=q1_2
 refine zaw (d:=13) C hF hT rfl ho hd (by omega) (hw _) (fun w=>not_both hop ((hT.get 12).trans f12)) fun w t1 hF hT1=>?_
 clear ho hop hd hw
 obtain ⟨o,ho,hop,hd,hw⟩:=q1_3
 refine zaw (d:=14) (v:=.bool false) C hF hT1 rfl ho hd (by omega) (hw _) (fun w=>by have:=move_both (P:=Try.prog) (w:=w) (a:=⟨t1,[]⟩) hop;rwa [show Act.eval ⟨t1,[]⟩ (.tmp 13) = .bool false from (hT1.get 13).trans putF_same] at this) fun w t2 hF hT2=>?_
 clear ho hop hd hw
 have hH2:=(hH.put (d:=13) (by omega) (.bool (!true))).put (d:=14) (by omega) (.bool false)
 obtain ⟨o,ho,hop,hd,hw⟩:=q1_4
 refine gr_load (v:=.slice A' n2 cB) (ad:=⟨N+1,0,none⟩) hF hT2 rfl ho hop hd (by omega) (hw t2 false ((hT2.get 14).trans putF_same)) hH2.t4 Try.underlying23 (by simp) (by simp) (gcell (j:=1) (l:=bx A A' n1 n2 cA cB g) rfl (by omega)).1 (by simp) fun w t3 hF hT3=>?_
 clear ho hop hd hw
 obtain ⟨o,ho,hop,hd,hw⟩:=q1_5
 obtain ⟨fn,k1,k2,k3⟩:=okFn
 refine gr_call (vs:=#[.slice A' n2 cB]) hF rfl ho (hw t3 false ((hT3.get 14).trans ((zad (by omega)).trans putF_same))) hop k1 k2 k3 (by simp [show Act.eval ⟨t3,[]⟩ (.tmp 15) = .slice A' n2 cB from (hT3.get 15).trans putF_same]) fun w hF=>?_
 exact Goes.stop fun w2 r2=>⟨⟨t3,_,hT3,hH2.put (by omega) _,(zad (by omega)).trans putF_same,rfl⟩,C.rl _ _ hF r2⟩
theorem segBad [Sim.Start] (hN:W.heap.size=N) {x y:Bool} (hb:x=true∨y=true∨n1≠n2) {t:Array Value} {f:Nat→Value} (hT:Tm 39 t f) (hH:HT N f) (f14:f 14 = .bool x) (f17:x=false→f 17 = .bool y) (hF:Rel Try.progTables S w (zas W (bx A A' n1 n2 cA cB g))) :
  GR Try.prog S (N+100) (fun a w=>a=G (cf.finish (.tuple #[.slice none 0 0,.bool false])) cs∧Rel Try.progTables S w (zas W (bx A A' n1 n2 cA cB g))) 30 (G (bE.at ⟨t,[]⟩ (.inRegion r1 [7,8,9,10,11,12,13,14] :: kH)) (cf :: cs)) w:=by
 have C:Car AtRel (DE (ShunOf S) (N+100)) (fun w=>Rel Try.progTables S w (zas W (bx A A' n1 n2 cA cB g))):=carR
 have last:∀ {w:World} {t:Array Value} {f:Nat→Value},Tm 39 t f→HT N f→f 25 = .bool true→Rel Try.progTables S w (zas W (bx A A' n1 n2 cA cB g))→
   GR Try.prog S (N+100) (fun a w=>a=G (cf.finish (.tuple #[.slice none 0 0,.bool false])) cs∧Rel Try.progTables S w (zas W (bx A A' n1 n2 cA cB g))) 20 (G (bE.at ⟨t,[]⟩ (.inRegion r1 [] :: kH)) (cf :: cs)) w:=by
  intro w t f hT hH f25 hF
  unfold kH
  rw [c1_eq]
  refine gs_end C hF fun w hF=>gs_cond C hF ((hT.get 25).trans f25) fun w hF=>?_
  rw [if_pos rfl]
  refine gs_seq C hF fun w hF=>gs_reg C hF sizesH.2.2.1 fun w hF=>?_
  obtain ⟨o,ho,hop,hd,hw⟩:=q2_0
  refine zaw (d:=6) C hF hT rfl ho hd (by omega) (hw _) (fun w=>assign_both hop) fun w t1 hF hT1=>?_
  clear ho hop hd hw
  obtain ⟨o,ho,hop,hd,hw⟩:=q2_1
  refine zaw (d:=7) C hF hT1 rfl ho hd (by omega) (hw _) (fun w=>assign_both hop) fun w t2 hF hT2=>?_
  clear ho hop hd hw
  refine gs_end C hF fun w hF=>gs_ctl C hF (fun w=>stepG_ret') fun w hF=>?_
  have e6:t2.getD 6 undef = .slice none 0 0:=(hT2.get 6).trans ((zad (by omega)).trans putF_same)
  have e7:t2.getD 7 undef = .bool false:=(hT2.get 7).trans putF_same
  refine gs_return (b:=bE) (a:=⟨t2,[]⟩) (v:=.tuple #[.slice none 0 0,.bool false]) C hF rfl rfl Try.func41 (fun w=>?_) fun w hF=>Goes.stop fun w2 r2=>⟨rfl,C.rl _ _ hF r2⟩
  rw [← e6,← e7]
  exact results_t2 resE _ _ _
 obtain ⟨o,ho,hop,hd,hw⟩:=q1_7
 refine zaw (d:=18) (v:=if x then .bool true else f 17) C hF hT rfl ho hd (by omega) (hw _) (fun w=>by have:=pick_both (P:=Try.prog) (w:=w) (a:=⟨t,[]⟩) hop ((hT.get 14).trans f14);rwa [show Act.eval ⟨t,[]⟩ (.tmp 17)=f 17 from hT.get 17] at this) fun w t1 hF hT1=>?_
 clear ho hop hd hw
 obtain ⟨o,ho,hop,hd,hw⟩:=q1_8
 have e18:(if x then Value.bool true else f 17) = .bool (x || y):=by
  cases x
  ·simpa using f17 rfl
  ·rfl
 rw [e18] at hT1
 refine zaw (d:=19) (v:=.bool (x || y)) C hF hT1 rfl ho hd (by omega) (hw _) (fun w=>by have:=move_both (P:=Try.prog) (w:=w) (a:=⟨t1,[]⟩) hop;rwa [show Act.eval ⟨t1,[]⟩ (.tmp 18) = .bool (x || y) from (hT1.get 18).trans putF_same] at this) fun w t2 hF hT2=>?_
 clear ho hop hd hw
 have hH2:=(hH.put (d:=18) (by omega) (.bool (x || y))).put (d:=19) (by omega) (.bool (x || y))
 have g19:∀ {t:Array Value} {f:Nat→Value},Tm 39 t f→f 19 = .bool (x || y)→t.getD 19 undef = .bool (x || y):=fun h1 h2=>(h1.get 19).trans h2
 have f19:putF (putF f 18 (.bool (x || y))) 19 (.bool (x || y)) 19 = .bool (x || y):=putF_same
 generalize putF (putF f 18 (.bool (x || y))) 19 (.bool (x || y))=f2 at hT2 hH2 f19
 cases hz:(x || y) with
 | true=>
  rw [hz] at f19
  clear hz hb e18 hT1 f17 f14 hT
  have g19:=fun (t:Array Value) (f:Nat→Value) (h:Tm 39 t f) (h2:f 19 = .bool true)=>(h.get 19).trans h2
  obtain ⟨o,ho,hop,hd,hw⟩:=q1_9
  refine gs_unw (d:=20) C hF hT2 ho hd (by omega) (hw t2 true (g19 _ _ hT2 f19)) fun w t3 hF hT3=>?_
  replace f19:=(zad (f:=f2) (d:=20) (i:=19) (v:=undef) (by omega)).trans f19
  replace hH2:=hH2.put (d:=20) (by omega) undef
  generalize putF f2 20 undef=f3 at hT3 hH2 f19
  clear ho hop hd hw
  obtain ⟨o,ho,hop,hd,hw⟩:=q1_10
  refine gs_unw (d:=21) C hF hT3 ho hd (by omega) (hw t3 true (g19 _ _ hT3 f19)) fun w t4 hF hT4=>?_
  replace f19:=(zad (f:=f3) (d:=21) (i:=19) (v:=undef) (by omega)).trans f19
  replace hH2:=hH2.put (d:=21) (by omega) undef
  generalize putF f3 21 undef=f4 at hT4 hH2 f19
  clear ho hop hd hw
  obtain ⟨o,ho,hop,hd,hw⟩:=q1_11
  refine gs_unw (d:=22) C hF hT4 ho hd (by omega) (hw t4 true (g19 _ _ hT4 f19)) fun w t5 hF hT5=>?_
  replace f19:=(zad (f:=f4) (d:=22) (i:=19) (v:=undef) (by omega)).trans f19
  replace hH2:=hH2.put (d:=22) (by omega) undef
  generalize putF f4 22 undef=f5 at hT5 hH2 f19
  clear ho hop hd hw
  obtain ⟨o,ho,hop,hd,hw⟩:=q1_12
  refine gs_unw (d:=23) C hF hT5 ho hd (by omega) (hw t5 true (g19 _ _ hT5 f19)) fun w t6 hF hT6=>?_
  replace f19:=(zad (f:=f5) (d:=23) (i:=19) (v:=undef) (by omega)).trans f19
  replace hH2:=hH2.put (d:=23) (by omega) undef
  generalize putF f5 23 undef=f6 at hT6 hH2 f19
  clear ho hop hd hw
  obtain ⟨o,ho,hop,hd,hw⟩:=q1_13
  refine gs_unw (d:=24) C hF hT6 ho hd (by omega) (hw t6 true (g19 _ _ hT6 f19)) fun w t7 hF hT7=>?_
  replace f19:=(zad (f:=f6) (d:=24) (i:=19) (v:=undef) (by omega)).trans f19
  replace hH2:=hH2.put (d:=24) (by omega) undef
  generalize putF f6 24 undef=f7 at hT7 hH2 f19
  clear ho hop hd hw
  obtain ⟨o,ho,hop,hd,hw⟩:=q1_14
  refine zaw (d:=25) (v:=.bool true) C hF hT7 rfl ho hd (by omega) (hw _) (fun w=>pick_both (P:=Try.prog) (w:=w) (a:=⟨t7,[]⟩) hop ((hT7.get 19).trans f19)) fun w t8 hF hT8=>?_
  exact Goes.mono (last hT8 (hH2.put (by omega) _) putF_same hF) (by omega)
 | false=>
  rw [hz] at f19
  have hne:n1≠n2:=by
   rcases hb with h | h | h
   ·rw [h] at hz;simp at hz
   ·rw [h] at hz;simp at hz
   ·exact h
  clear hz hb e18 hT1 f17 f14 hT
  obtain ⟨o,ho,hop,hd,hw⟩:=q1_9
  refine gr_load (v:=.slice A n1 cA) (ad:=⟨N,0,none⟩) hF hT2 rfl ho hop hd (by omega) (hw t2 false ((hT2.get 19).trans f19)) hH2.t3 Try.underlying23 (by simp) (by simp) (gcell (j:=0) (l:=bx A A' n1 n2 cA cB g) rfl (by omega)).1 (by simp) fun w t3 hF hT3=>?_
  clear ho hop hd hw
  replace f19:=(zad (f:=f2) (d:=20) (i:=19) (v:=.slice A n1 cA) (by omega)).trans f19
  have f20:putF f2 20 (.slice A n1 cA) 20 = .slice A n1 cA:=putF_same
  replace hH2:=hH2.put (d:=20) (by omega) (.slice A n1 cA)
  generalize putF f2 20 (.slice A n1 cA)=f3 at hT3 hH2 f19 f20
  obtain ⟨o,ho,hop,hd,hw⟩:=q1_10
  refine zaw (d:=21) C hF hT3 rfl ho hd (by omega) (hw t3 false ((hT3.get 19).trans f19)) (fun w=>len_both hop ((hT3.get 20).trans f20) Try.underlying23) fun w t4 hF hT4=>?_
  clear ho hop hd hw
  replace f19:=(zad (f:=f3) (d:=21) (i:=19) (v:=.int .i64 (n1:Int)) (by omega)).trans f19
  have f21:putF f3 21 (.int .i64 (n1:Int)) 21 = .int .i64 (n1:Int):=putF_same
  replace hH2:=hH2.put (d:=21) (by omega) (.int .i64 (n1:Int))
  generalize putF f3 21 (.int .i64 (n1:Int))=f4 at hT4 hH2 f19 f21
  obtain ⟨o,ho,hop,hd,hw⟩:=q1_11
  refine gr_load (v:=.slice A' n2 cB) (ad:=⟨N+1,0,none⟩) hF hT4 rfl ho hop hd (by omega) (hw t4 false ((hT4.get 19).trans f19)) hH2.t4 Try.underlying23 (by simp) (by simp) (gcell (j:=1) (l:=bx A A' n1 n2 cA cB g) rfl (by omega)).1 (by simp) fun w t5 hF hT5=>?_
  clear ho hop hd hw
  replace f19:=(zad (f:=f4) (d:=22) (i:=19) (v:=.slice A' n2 cB) (by omega)).trans f19
  replace f21:=(zad (f:=f4) (d:=22) (i:=21) (v:=.slice A' n2 cB) (by omega)).trans f21
  have f22:putF f4 22 (.slice A' n2 cB) 22 = .slice A' n2 cB:=putF_same
  replace hH2:=hH2.put (d:=22) (by omega) (.slice A' n2 cB)
  generalize putF f4 22 (.slice A' n2 cB)=f5 at hT5 hH2 f19 f21 f22
  obtain ⟨o,ho,hop,hd,hw⟩:=q1_12
  refine zaw (d:=23) C hF hT5 rfl ho hd (by omega) (hw t5 false ((hT5.get 19).trans f19)) (fun w=>len_both hop ((hT5.get 22).trans f22) Try.underlying23) fun w t6 hF hT6=>?_
  clear ho hop hd hw
  replace f19:=(zad (f:=f5) (d:=23) (i:=19) (v:=.int .i64 (n2:Int)) (by omega)).trans f19
  replace f21:=(zad (f:=f5) (d:=23) (i:=21) (v:=.int .i64 (n2:Int)) (by omega)).trans f21
  have f23:putF f5 23 (.int .i64 (n2:Int)) 23 = .int .i64 (n2:Int):=putF_same
  replace hH2:=hH2.put (d:=23) (by omega) (.int .i64 (n2:Int))
  generalize putF f5 23 (.int .i64 (n2:Int))=f6 at hT6 hH2 f19 f21 f23
  obtain ⟨o,ho,hop,hd,hw⟩:=q1_13
  refine zaw (d:=24) (v:=.bool true) C hF hT6 rfl ho hd (by omega) (hw t6 false ((hT6.get 19).trans f19)) (fun w=>bin_both hop ((hT6.get 21).trans f21) ((hT6.get 23).trans f23) (fun w=>?_)) fun w t7 hF hT7=>?_
  ·have e:((n1:Int) != (n2:Int))=true:=by simp;omega
   rw [← e]
   exact neq_run _ _ w
  clear ho hop hd hw
  replace f19:=(zad (f:=f6) (d:=24) (i:=19) (v:=.bool true) (by omega)).trans f19
  have f24:putF f6 24 (.bool true) 24 = .bool true:=putF_same
  replace hH2:=hH2.put (d:=24) (by omega) (.bool true)
  generalize putF f6 24 (.bool true)=f7 at hT7 hH2 f19 f24
  obtain ⟨o,ho,hop,hd,hw⟩:=q1_14
  refine zaw (d:=25) (v:=.bool true) C hF hT7 rfl ho hd (by omega) (hw _) (fun w=>by have:=pick_both (P:=Try.prog) (w:=w) (a:=⟨t7,[]⟩) hop ((hT7.get 19).trans f19);rwa [show Act.eval ⟨t7,[]⟩ (.tmp 24) = .bool true from (hT7.get 24).trans f24] at this) fun w t8 hF hT8=>?_
  exact Goes.mono (last hT8 (hH2.put (by omega) _) putF_same hF) (by omega)
end
end Go.Proofs.Ytjkikkgpenhbgaa.Ea
set_option linter.unusedVariables false
set_option linter.unusedSimpArgs false
namespace Go.Proofs.Ytjkikkgpenhbgaa.Ea
open Go Go.Conc Go.ConcN Go.RowKit Go.Conc.Lib Go.ConcR.Gen Go.ConcN.Gen Go.Proofs.Ytjkikkgpenhbgaa.Sim
section
variable {S:Nat→Prop} {w W:World} {N B:Nat} {n cA cB g:Nat} {A A':Option Addr} {cf:Frame} {cs:List Frame}
abbrev hd6 (A A':Option Addr) (N n cA cB g:Nat):List Obj:=bx A A' n n cA cB g++[.cells (madeCells #[.int .i64 0] n) 3 (0,0),.cells #[.slice (some ⟨N+3,0,none⟩) n n] 23 (0,0),.cells #[.int .u64 0,.int .u32 0] 95 (0,0)]
theorem segGood [Sim.Start] (hN:W.heap.size=N) (hn:n≤20) {t:Array Value} {f:Nat→Value} (hT:Tm 39 t f) (hH:HT N f) (f14:f 14 = .bool false) (f17:f 17 = .bool false) (hF:Rel Try.progTables S w (zas W (bx A A' n n cA cB g))) :
  GR Try.prog S (N+100) (fun a w=>(∃ q,AnchS N n 0 q∧a=ups (cf :: cs) q)∧Rel Try.progTables S w (zas W (hd6 A A' N n cA cB g))) 50 (G (bE.at ⟨t,[]⟩ (.inRegion r1 [7,8,9,10,11,12,13,14] :: kH)) (cf :: cs)) w:=by
 have C:Car AtRel (DE (ShunOf S) (N+100)) (fun w=>Rel Try.progTables S w (zas W (bx A A' n n cA cB g))):=carR
 obtain ⟨o,ho,hop,hd,hw⟩:=q1_7
 refine zaw (d:=18) (v:=.bool false) C hF hT rfl ho hd (by omega) (hw _) (fun w=>by have:=pick_both (P:=Try.prog) (w:=w) (a:=⟨t,[]⟩) hop ((hT.get 14).trans f14);rwa [show Act.eval ⟨t,[]⟩ (.tmp 17) = .bool false from (hT.get 17).trans f17] at this) fun w t1 hF hT1=>?_
 clear ho hop hd hw
 obtain ⟨o,ho,hop,hd,hw⟩:=q1_8
 refine zaw (d:=19) (v:=.bool false) C hF hT1 rfl ho hd (by omega) (hw _) (fun w=>by have:=move_both (P:=Try.prog) (w:=w) (a:=⟨t1,[]⟩) hop;rwa [show Act.eval ⟨t1,[]⟩ (.tmp 18) = .bool false from (hT1.get 18).trans putF_same] at this) fun w t2 hF hT2=>?_
 clear ho hop hd hw
 have hH2:=(hH.put (d:=18) (by omega) (.bool false)).put (d:=19) (by omega) (.bool false)
 have f19:putF (putF f 18 (.bool false)) 19 (.bool false) 19 = .bool false:=putF_same
 generalize putF (putF f 18 (.bool false)) 19 (.bool false)=f2 at hT2 hH2 f19
 clear hT1 f17 f14 hT hH
 obtain ⟨o,ho,hop,hd,hw⟩:=q1_9
 refine gr_load (v:=.slice A n cA) (ad:=⟨N,0,none⟩) hF hT2 rfl ho hop hd (by omega) (hw t2 false ((hT2.get 19).trans f19)) hH2.t3 Try.underlying23 (by simp) (by simp) (gcell (j:=0) (l:=bx A A' n n cA cB g) rfl (by omega)).1 (by simp) fun w t3 hF hT3=>?_
 clear ho hop hd hw
 replace f19:=(zad (f:=f2) (d:=20) (i:=19) (v:=.slice A n cA) (by omega)).trans f19
 have f20:putF f2 20 (.slice A n cA) 20 = .slice A n cA:=putF_same
 replace hH2:=hH2.put (d:=20) (by omega) (.slice A n cA)
 generalize putF f2 20 (.slice A n cA)=f3 at hT3 hH2 f19 f20
 obtain ⟨o,ho,hop,hd,hw⟩:=q1_10
 refine zaw (d:=21) C hF hT3 rfl ho hd (by omega) (hw t3 false ((hT3.get 19).trans f19)) (fun w=>len_both hop ((hT3.get 20).trans f20) Try.underlying23) fun w t4 hF hT4=>?_
 clear ho hop hd hw
 replace f19:=(zad (f:=f3) (d:=21) (i:=19) (v:=.int .i64 (n:Int)) (by omega)).trans f19
 have f21:putF f3 21 (.int .i64 (n:Int)) 21 = .int .i64 (n:Int):=putF_same
 replace hH2:=hH2.put (d:=21) (by omega) (.int .i64 (n:Int))
 generalize putF f3 21 (.int .i64 (n:Int))=f4 at hT4 hH2 f19 f21
 obtain ⟨o,ho,hop,hd,hw⟩:=q1_11
 refine gr_load (v:=.slice A' n cB) (ad:=⟨N+1,0,none⟩) hF hT4 rfl ho hop hd (by omega) (hw t4 false ((hT4.get 19).trans f19)) hH2.t4 Try.underlying23 (by simp) (by simp) (gcell (j:=1) (l:=bx A A' n n cA cB g) rfl (by omega)).1 (by simp) fun w t5 hF hT5=>?_
 clear ho hop hd hw
 replace f19:=(zad (f:=f4) (d:=22) (i:=19) (v:=.slice A' n cB) (by omega)).trans f19
 replace f21:=(zad (f:=f4) (d:=22) (i:=21) (v:=.slice A' n cB) (by omega)).trans f21
 have f22:putF f4 22 (.slice A' n cB) 22 = .slice A' n cB:=putF_same
 replace hH2:=hH2.put (d:=22) (by omega) (.slice A' n cB)
 generalize putF f4 22 (.slice A' n cB)=f5 at hT5 hH2 f19 f21 f22
 obtain ⟨o,ho,hop,hd,hw⟩:=q1_12
 refine zaw (d:=23) C hF hT5 rfl ho hd (by omega) (hw t5 false ((hT5.get 19).trans f19)) (fun w=>len_both hop ((hT5.get 22).trans f22) Try.underlying23) fun w t6 hF hT6=>?_
 clear ho hop hd hw
 replace f19:=(zad (f:=f5) (d:=23) (i:=19) (v:=.int .i64 (n:Int)) (by omega)).trans f19
 replace f21:=(zad (f:=f5) (d:=23) (i:=21) (v:=.int .i64 (n:Int)) (by omega)).trans f21
 have f23:putF f5 23 (.int .i64 (n:Int)) 23 = .int .i64 (n:Int):=putF_same
 replace hH2:=hH2.put (d:=23) (by omega) (.int .i64 (n:Int))
 generalize putF f5 23 (.int .i64 (n:Int))=f6 at hT6 hH2 f19 f21 f23
 obtain ⟨o,ho,hop,hd,hw⟩:=q1_13
 refine zaw (d:=24) (v:=.bool false) C hF hT6 rfl ho hd (by omega) (hw t6 false ((hT6.get 19).trans f19)) (fun w=>bin_both hop ((hT6.get 21).trans f21) ((hT6.get 23).trans f23) (fun w=>?_)) fun w t7 hF hT7=>?_
 ·have e:((n:Int) != (n:Int))=false:=by simp
  rw [← e]
  exact neq_run _ _ w
 clear ho hop hd hw
 replace f19:=(zad (f:=f6) (d:=24) (i:=19) (v:=.bool false) (by omega)).trans f19
 have f24:putF f6 24 (.bool false) 24 = .bool false:=putF_same
 replace hH2:=hH2.put (d:=24) (by omega) (.bool false)
 generalize putF f6 24 (.bool false)=f7 at hT7 hH2 f19 f24
 obtain ⟨o,ho,hop,hd,hw⟩:=q1_14
 refine zaw (d:=25) (v:=.bool false) C hF hT7 rfl ho hd (by omega) (hw _) (fun w=>by have:=pick_both (P:=Try.prog) (w:=w) (a:=⟨t7,[]⟩) hop ((hT7.get 19).trans f19);rwa [show Act.eval ⟨t7,[]⟩ (.tmp 24) = .bool false from (hT7.get 24).trans f24] at this) fun w t8 hF hT8=>?_
 clear ho hop hd hw
 replace hH2:=hH2.put (d:=25) (by omega) (.bool false)
 have f25:putF f7 25 (.bool false) 25 = .bool false:=putF_same
 generalize putF f7 25 (.bool false)=f8 at hT8 hH2 f25
 clear hT2 hT3 hT4 hT5 hT6 hT7 f19 f20 f21 f22 f23 f24
 unfold kH
 rw [c1_eq]
 refine gs_end C hF fun w hF=>gs_cond C hF ((hT8.get 25).trans f25) fun w hF=>?_
 rw [if_neg (by simp)]
 refine gs_skip C hF fun w hF=>gs_seq C hF fun w hF=>gs_reg C hF sizesH.2.2.2.1 fun w hF=>?_
 obtain ⟨iI,hi,hi1,hi8,hiz⟩:=infoI
 obtain ⟨iS,hs,hsz,hs1⟩:=infoS
 obtain ⟨iW,zW,hwi,hwz,hwc⟩:=infoW
 obtain ⟨o,ho,hop,hd,hw⟩:=q3_0
 refine gr_load (v:=.slice A n cA) (ad:=⟨N,0,none⟩) hF hT8 rfl ho hop hd (by omega) (hw _) hH2.t3 Try.underlying23 (by simp) (by simp) (gcell (j:=0) (l:=bx A A' n n cA cB g) rfl (by omega)).1 (by simp) fun w t9 hF hT9=>?_
 clear ho hop hd hw
 obtain ⟨o,ho,hop,hd,hw⟩:=q3_1
 refine zaw (d:=27) C hF hT9 rfl ho hd (by omega) (hw _) (fun w=>len_both hop ((hT9.get 26).trans putF_same) Try.underlying23) fun w t10 hF hT10=>?_
 clear ho hop hd hw
 obtain ⟨o,ho,hop,hd,hw⟩:=q3_2
 refine gw_make (N:=N+3) hF hT10 rfl ho hop hd (by omega) (hw _) (by simp [hN]) putF_same Try.underlying23 hi hi1 hi8 hiz hn fun w t11 hF hT11=>?_
 clear ho hop hd hw C
 obtain ⟨o,ho,hop,hd,hw⟩:=q3_3
 refine gw_alloc (N:=N+4) hF hT11 rfl ho hop hd (by omega) (hw _) (by simp [hN]) hs hsz fun w t12 hF hT12=>?_
 clear ho hop hd hw
 have hst:(zas W ((bx A A' n n cA cB g++[.cells (madeCells #[.int .i64 0] n) 3 (0,0)])++.cells #[.slice none 0 0] 23 (0,0) :: [])).setCell ⟨N+4,0,none⟩ (.slice (some ⟨N+3,0,none⟩) n n)=zas W ((bx A A' n n cA cB g++[.cells (madeCells #[.int .i64 0] n) 3 (0,0)])++.cells #[.slice (some ⟨N+3,0,none⟩) n n] 23 (0,0) :: []):=growW_set W _ _ _ _ _ _ (by simp [hN])
 obtain ⟨o,ho,hop,hd,hw⟩:=q3_4
 obtain ⟨hc1,hc2⟩:=gcell (W:=W) (j:=4) (N:=N+4) (v:=.slice none 0 0) (e:=23) (l:=bx A A' n n cA cB g++[.cells (madeCells #[.int .i64 0] n) 3 (0,0)]++[.cells #[.slice none 0 0] 23 (0,0)]) rfl (by omega)
 refine gr_store (ad:=⟨N+4,0,none⟩) hF hT12 rfl ho hop hd (hw _) putF_same ((zad (by omega)).trans putF_same) hs hs1 hc1 hc2 (by simp) fun w hF=>?_
 clear ho hop hd hw hc1 hc2
 replace hF:=hst ▸ hF
 clear hst
 have C:Car AtRel (DE (ShunOf S) (N+100)) (fun w=>Rel Try.progTables S w (zas W ((bx A A' n n cA cB g++[.cells (madeCells #[.int .i64 0] n) 3 (0,0)])++.cells #[.slice (some ⟨N+3,0,none⟩) n n] 23 (0,0) :: []))):=carR
 refine gs_end C hF fun w hF=>gs_seq C hF fun w hF=>gs_reg C hF sizesH.2.2.2.2.1 fun w hF=>?_
 obtain ⟨o,ho,hop,hd,hw⟩:=q4_0
 refine gw_alloc (N:=N+5) hF hT12 rfl ho hop hd (by omega) (hw _) (by simp [hN]) hwi hwz fun w t13 hF hT13=>?_
 clear ho hop hd hw C
 rw [hwc] at hF
 have hl:(bx A A' n n cA cB g++[.cells (madeCells #[.int .i64 0] n) 3 (0,0)])++.cells #[.slice (some ⟨N+3,0,none⟩) n n] 23 (0,0) :: []++[.cells #[.int .u64 0,.int .u32 0] 95 (0,0)]=hd6 A A' N n cA cB g:=rfl
 replace hF:Rel Try.progTables S w (zas W (hd6 A A' N n cA cB g)):=hl ▸ hF
 have C:Car AtRel (DE (ShunOf S) (N+100)) (fun w=>Rel Try.progTables S w (zas W (hd6 A A' N n cA cB g))):=carR
 refine gs_end C hF fun w hF=>gs_seq C hF fun w hF=>gs_seq C hF fun w hF=>gs_reg C hF sizesH.2.2.2.2.2 fun w hF=>?_
 have g3:∀ i,i≠26→i≠27→i≠28→i≠8→i≠9→putF (putF (putF (putF (putF f8 26 (.slice A n cA)) 27 (.int .i64 (n:Int))) 28 (.slice (some ⟨N+3,0,none⟩) n n)) 8 (.pointer (some ⟨N+4,0,none⟩))) 9 (.pointer (some ⟨N+5,0,none⟩)) i=f8 i:=fun i h1 h2 h3 h4 h5=>(zad h5).trans ((zad h4).trans ((zad h3).trans ((zad h2).trans (zad h1))))
 obtain ⟨o,ho,hop,hd,hw⟩:=q5_0
 refine gr_load (v:=.slice A n cA) (ad:=⟨N,0,none⟩) hF hT13 rfl ho hop hd (by omega) (hw _) ((g3 3 (by omega) (by omega) (by omega) (by omega) (by omega)).trans hH2.t3) Try.underlying23 (by simp) (by simp) (gcell (j:=0) (l:=hd6 A A' N n cA cB g) rfl (by omega)).1 (by simp) fun w t14 hF hT14=>?_
 clear ho hop hd hw
 obtain ⟨o,ho,hop,hd,hw⟩:=q5_1
 refine zaw (d:=30) C hF hT14 rfl ho hd (by omega) (hw _) (fun w=>len_both hop ((hT14.get 29).trans putF_same) Try.underlying23) fun w t15 hF hT15=>?_
 clear ho hop hd hw
 obtain ⟨o,ho,hop,hd,hw⟩:=q5_2
 refine zaw (d:=31) C hF hT15 rfl ho hd (by omega) (hw _) (fun w=>move_both hop) fun w t16 hF hT16=>?_
 clear ho hop hd hw
 refine gs_end C hF fun w hF=>gs_block C hF fun w hF=>gs_ctl C hF (fun w=>stepG_loop) fun w hF=>?_
 refine Goes.stop fun w2 r2=>⟨⟨_,⟨t16,_,rfl,hT16,⟨?_,?_,?_,?_,?_,?_,?_⟩⟩,rfl⟩,C.rl _ _ hF r2⟩
 ·exact (zad (by omega)).trans ((zad (by omega)).trans ((zad (by omega)).trans ((g3 3 (by omega) (by omega) (by omega) (by omega) (by omega)).trans hH2.t3)))
 ·exact (zad (by omega)).trans ((zad (by omega)).trans ((zad (by omega)).trans ((g3 4 (by omega) (by omega) (by omega) (by omega) (by omega)).trans hH2.t4)))
 ·exact (zad (by omega)).trans ((zad (by omega)).trans ((zad (by omega)).trans ((g3 5 (by omega) (by omega) (by omega) (by omega) (by omega)).trans hH2.t5)))
 ·exact (zad (by omega)).trans ((zad (by omega)).trans ((zad (by omega)).trans ((zad (by omega)).trans putF_same)))
 ·exact (zad (by omega)).trans ((zad (by omega)).trans ((zad (by omega)).trans putF_same))
 ·exact (zad (by omega)).trans putF_same
 ·exact putF_same
end
end Go.Proofs.Ytjkikkgpenhbgaa.Ea
set_option linter.unusedVariables false
namespace Go.Proofs.Ytjkikkgpenhbgaa
open Go Go.Proofs.Ytjkikkgpenhbgaa.Sim
def Ish:ShIds:=⟨23,3,65,95,103,68⟩
def mkV (g:Nat):Value:=.func (.func g) #[] #[]
def refL:List Nat:=[41,69,70,72]
def mutL:List Nat:=[0,1,86,87,88,89,90,91,94,97,98,99,100,102,103,109,110,111,112,113,114,115,116,117,118,119,120,121,122,123,124,125,126,127,128,129,130,131,132,134,135,137,138,140,141]
def shaL:List Nat:=[11,14]
noncomputable def trM (i:Nat) (fn:Func):Func:=if mutL.contains i then { fn with name:= "mute",origin:= "mute" } else fn
noncomputable def tr (i:Nat) (fn:Func):Func:=if refL.contains i then { fn with body:=some (.refuse "") } else if i == 11 then { fn with ntmps:=32,body:=some (share1Code Ish (mkV 37) .plus) } else if i == 14 then { fn with ntmps:=32,body:=some (share1Code Ish (mkV 44) .minus) } else  trM i fn
noncomputable def tr3 (i:Nat) (fn:Func):Func:=if refL.contains i then { fn with body:=some (.refuse "") } else if shaL.contains i then { fn with body:=some (.refuse "") } else trM i fn
noncomputable def Tru.funcs:Array Func:=(([(tr 0 Try.f0),(tr 1 Try.f1),Try.f2,Try.f3,Try.f4,Try.f5,Try.f6,Try.f7,Try.f8,Try.f9,Try.f10,(tr 11 Try.f11),Try.f12,Try.f13,(tr 14 Try.f14),Try.f15,Try.f16,Try.f17,Try.f18,Try.f19,Try.f20,Try.f21,Try.f22,Try.f23,Try.f24,Try.f25,Try.f26,Try.f27,Try.f28,Try.f29,Try.f30,Try.f31,Try.f32,Try.f33,Try.f34].append [Try.f35,Try.f36,Try.f37,Try.f38,Try.f39,Try.f40,(tr 41 Try.f41),Try.f42,Try.f43,Try.f44,Try.f45,Try.f46,Try.f47,Try.f48,Try.f49,Try.f50,Try.f51,Try.f52,Try.f53,Try.f54,Try.f55,Try.f56,Try.f57,Try.f58,Try.f59,Try.f60,Try.f61,Try.f62,Try.f63,Try.f64,Try.f65,Try.f66,Try.f67,Try.f68,(tr 69 Try.f69),(tr 70 Try.f70)]).append ([Try.f71,(tr 72 Try.f72),Try.f73,Try.f74,Try.f75,Try.f76,Try.f77,Try.f78,Try.f79,Try.f80,Try.f81,Try.f82,Try.f83,Try.f84,Try.f85,(tr 86 Try.f86),(tr 87 Try.f87),(tr 88 Try.f88),(tr 89 Try.f89),(tr 90 Try.f90),(tr 91 Try.f91),Try.f92,Try.f93,(tr 94 Try.f94),Try.f95,Try.f96,(tr 97 Try.f97),(tr 98 Try.f98),(tr 99 Try.f99),(tr 100 Try.f100),Try.f101,(tr 102 Try.f102),(tr 103 Try.f103),Try.f104,Try.f105].append [Try.f106,Try.f107,Try.f108,(tr 109 Try.f109),(tr 110 Try.f110),(tr 111 Try.f111),(tr 112 Try.f112),(tr 113 Try.f113),(tr 114 Try.f114),(tr 115 Try.f115),(tr 116 Try.f116),(tr 117 Try.f117),(tr 118 Try.f118),(tr 119 Try.f119),(tr 120 Try.f120),(tr 121 Try.f121),(tr 122 Try.f122),(tr 123 Try.f123),(tr 124 Try.f124),(tr 125 Try.f125),(tr 126 Try.f126),(tr 127 Try.f127),(tr 128 Try.f128),(tr 129 Try.f129),(tr 130 Try.f130),(tr 131 Try.f131),(tr 132 Try.f132),Try.f133,(tr 134 Try.f134),(tr 135 Try.f135),Try.f136,(tr 137 Try.f137),(tr 138 Try.f138),Try.f139,(tr 140 Try.f140),(tr 141 Try.f141)])).toArray
noncomputable def Tru.prog:Program:=⟨Try.progTables,Tru.funcs⟩
noncomputable def Trv.funcs:Array Func:=(([(tr3 0 Try.f0),(tr3 1 Try.f1),Try.f2,Try.f3,Try.f4,Try.f5,Try.f6,Try.f7,Try.f8,Try.f9,Try.f10,(tr3 11 Try.f11),Try.f12,Try.f13,(tr3 14 Try.f14),Try.f15,Try.f16,Try.f17,Try.f18,Try.f19,Try.f20,Try.f21,Try.f22,Try.f23,Try.f24,Try.f25,Try.f26,Try.f27,Try.f28,Try.f29,Try.f30,Try.f31,Try.f32,Try.f33,Try.f34].append [Try.f35,Try.f36,Try.f37,Try.f38,Try.f39,Try.f40,(tr3 41 Try.f41),Try.f42,Try.f43,Try.f44,Try.f45,Try.f46,Try.f47,Try.f48,Try.f49,Try.f50,Try.f51,Try.f52,Try.f53,Try.f54,Try.f55,Try.f56,Try.f57,Try.f58,Try.f59,Try.f60,Try.f61,Try.f62,Try.f63,Try.f64,Try.f65,Try.f66,Try.f67,Try.f68,(tr3 69 Try.f69),(tr3 70 Try.f70)]).append ([Try.f71,(tr3 72 Try.f72),Try.f73,Try.f74,Try.f75,Try.f76,Try.f77,Try.f78,Try.f79,Try.f80,Try.f81,Try.f82,Try.f83,Try.f84,Try.f85,(tr3 86 Try.f86),(tr3 87 Try.f87),(tr3 88 Try.f88),(tr3 89 Try.f89),(tr3 90 Try.f90),(tr3 91 Try.f91),Try.f92,Try.f93,(tr3 94 Try.f94),Try.f95,Try.f96,(tr3 97 Try.f97),(tr3 98 Try.f98),(tr3 99 Try.f99),(tr3 100 Try.f100),Try.f101,(tr3 102 Try.f102),(tr3 103 Try.f103),Try.f104,Try.f105].append [Try.f106,Try.f107,Try.f108,(tr3 109 Try.f109),(tr3 110 Try.f110),(tr3 111 Try.f111),(tr3 112 Try.f112),(tr3 113 Try.f113),(tr3 114 Try.f114),(tr3 115 Try.f115),(tr3 116 Try.f116),(tr3 117 Try.f117),(tr3 118 Try.f118),(tr3 119 Try.f119),(tr3 120 Try.f120),(tr3 121 Try.f121),(tr3 122 Try.f122),(tr3 123 Try.f123),(tr3 124 Try.f124),(tr3 125 Try.f125),(tr3 126 Try.f126),(tr3 127 Try.f127),(tr3 128 Try.f128),(tr3 129 Try.f129),(tr3 130 Try.f130),(tr3 131 Try.f131),(tr3 132 Try.f132),Try.f133,(tr3 134 Try.f134),(tr3 135 Try.f135),Try.f136,(tr3 137 Try.f137),(tr3 138 Try.f138),Try.f139,(tr3 140 Try.f140),(tr3 141 Try.f141)])).toArray
theorem eqU:Tru.funcs=(Try.funcs.toList.zipIdx.map fun p=>tr p.2 p.1).toArray:=by kernel_rfl
theorem eqV:Trv.funcs=(Try.funcs.toList.zipIdx.map fun p=>tr3 p.2 p.1).toArray:=by kernel_rfl
noncomputable def Trv.prog:Program:=⟨Try.progTables,Trv.funcs⟩
theorem duoTT:Duo Try.progTables Try.funcs Tru.funcs:=duo_of (by kernel_rfl) (by kernel_rfl) (by kernel_rfl) (by kernel_rfl) (by kernel_rfl) (by kernel_rfl) (by kernel_rfl)
theorem duoTru:Duo Try.progTables Tru.funcs Tru.funcs:=duo_of (by kernel_rfl) rfl rfl (by kernel_rfl) (by kernel_rfl) (by kernel_rfl) (by kernel_rfl)
theorem duoTV:Duo Try.progTables Try.funcs Trv.funcs:=duo_of (by kernel_rfl) (by kernel_rfl) (by kernel_rfl) (by kernel_rfl) (by kernel_rfl) (by kernel_rfl) (by kernel_rfl)
theorem duoTrv:Duo Try.progTables Trv.funcs Trv.funcs:=duo_of (by kernel_rfl) rfl rfl (by kernel_rfl) (by kernel_rfl) (by kernel_rfl) (by kernel_rfl)
theorem mutNone:mutL.all (fun i=>(Try.funcs[i]?).all (·.body.isNone))=true:=by kernel_rfl
theorem at3 (f:Nat):Trv.funcs[f]? = (Try.funcs[f]?).map (tr3 f):=by
 simp [eqV,List.getElem?_zipIdx]
 rfl
theorem atU (f:Nat):Tru.funcs[f]? = (Try.funcs[f]?).map (tr f):=by
 simp [eqU,List.getElem?_zipIdx]
 rfl
theorem trM_none {f:Nat} {fn:Func} (hf:Try.funcs[f]? = some fn) (h:trM f fn≠fn):mutL.contains f=true∧(trM f fn).body=none:=by
 unfold trM at h ⊢
 by_cases hm:mutL.contains f=true
 ·rw [if_pos hm]
  have:=List.all_eq_true.1 mutNone f (by simpa using hm)
  rw [hf] at this
  exact ⟨hm,Option.isNone_iff_eq_none.1 (by simpa using this)⟩
 ·rw [if_neg hm] at h
  exact absurd rfl h
theorem no3 (f:Nat) (h:Try.funcs[f]?≠Trv.funcs[f]?):∃ fn:Func,Trv.funcs[f]? = some fn∧(fn.body=none∨∃ s,fn.body=some (.refuse s)):=by
 rw [at3] at h ⊢
 cases hf:Try.funcs[f]? with
 | none=>rw [hf] at h;exact absurd rfl h
 | some fn=>
  rw [hf] at h
  replace h:fn≠tr3 f fn:=fun e=>h (congrArg some e)
  refine ⟨_,rfl,?_⟩
  unfold tr3 at h ⊢
  by_cases h1:refL.contains f=true
  ·rw [if_pos h1];exact .inr ⟨_,rfl⟩
  ·rw [if_neg h1] at h ⊢
   by_cases h2:shaL.contains f=true
   ·rw [if_pos h2];exact .inr ⟨_,rfl⟩
   ·rw [if_neg h2] at h ⊢
    exact .inl (trM_none hf (fun e=>h e.symm)).2
theorem n3:Trv.funcs[142]? = none:=by kernel_rfl
theorem nU:Tru.funcs[142]? = none:=by kernel_rfl
theorem ok3:Try.funcs[68]? = Trv.funcs[68]?:=by kernel_rfl
end Go.Proofs.Ytjkikkgpenhbgaa
set_option linter.unusedVariables false
set_option linter.unusedSimpArgs false
namespace Go.Proofs.Ytjkikkgpenhbgaa.Ea
open Go Go.Conc Go.ConcN Go.RowKit Go.Conc.Lib Go.ConcR.Gen Go.ConcN.Gen Go.Proofs.Ytjkikkgpenhbgaa.Sim
theorem eqv_cells {x:Option Obj} {c:Array Value} {e:TypeId} {f:Nat×Nat} (h:Eqv x (some (.cells c e f))):x=some (.cells c e f):=by
 rcases h with h | ⟨_,h⟩
 ·exact h
 ·cases h
section
variable {S:Nat→Prop} {b0:Nat} {w w':World} {mm:Machine} {t:Trace} {Q:Machine→Trace→Prop} {c1:Frame} {rest:List Frame} {A:Option Addr} {c:Nat} {l:List Int}
theorem look [Sim.Start] (hO:OkFn Trv.prog Ish) (hb0:Try.progTables.globals.size≤b0) (hr:Row w' A l) (hl:(l.length:Int)<9223372036854775808) (hst:St Try.progTables Try.funcs b0 S (G (Frame.enter Try.prog 68 #[.slice A l.length c] .normal) (c1 :: rest)) w w' mm t)
  (hk:∀ w1 m' t',St Try.progTables Try.funcs b0 S (G (c1.finish (.bool (sOk l))) rest) w1 w' m' t'→Runs Try.prog Q m' t'):Runs Try.prog Q mm t:=by
 refine call_st duoTV duoTrv n3 hb0 no3 (R:=fun v w1=>v = .bool (sOk l)∧w1=Sim.blind w') ok3 hst (fun τ d=>?_) (fun v w1 w1' m' t' ⟨hv,hw⟩ hst=>?_)
 ·refine (hO.calls A l c (tp w' τ d) hr hl).mono fun e w1 ⟨he,d',hw⟩=>⟨_,he,rfl,?_⟩
  rw [hw]
  rfl
 ·subst hv
  exact hk _ _ _ (hst.of_heap (by rw [hw];rfl))
end
section
variable {S:Nat→Prop} {w w1 w2:World} {N n cA cB g:Nat} {A A':Option Addr} {m:Mk} {l1 l2:List Int} {v:Value}
theorem mid_eq (I:ShIds) (mk a b:Value) (vals:List Int) (hv:vals.length=n):zaA I mk a b N n vals n=[.cells #[a] I.tS (0,0),.cells #[b] I.tS (0,0),.cells #[mk] I.tF (0,0),.cells (vals.map (Value.int .i64)).toArray I.tI (0,0),.cells #[.slice (some ⟨N+3,0,none⟩) n n] I.tS (0,0),.cells #[] I.tW (0,0)]++iBoxes I n:=by
 subst hv
 simp [zaA,box3]
theorem vals_eq (h:l1.length=l2.length):vals8 l1.length m (fun k=>l1.getD k 0) (fun k=>l2.getD k 0)=(eachVals m l1 l2).map (Value.int .i64):=by
 apply List.ext_getElem?
 intro i
 simp only [vals8,List.getElem?_map]
 rcases Nat.lt_or_ge i l1.length with hi | hi
 ·have h2:i<(eachVals m l1 l2).length:=by rw [eachVals_length m h];exact hi
  rw [List.getElem?_range hi,List.getElem?_eq_getElem h2]
  have:=eachVals_get m h hi
  rw [getD_lt h2] at this
  simp only [Option.map_some,val8,this]
 ·rw [List.getElem?_eq_none (by simpa using hi),List.getElem?_eq_none (by rw [eachVals_length m h];exact hi)]
  rfl
def endL (A A':Option Addr) (N n cA cB g:Nat) (vals:List Int):List Obj:=[.cells #[.slice A n cA] Ish.tS (0,0),.cells #[.slice A' n cB] Ish.tS (0,0),.cells #[mkV g] Ish.tF (0,0),.cells (vals.map (Value.int .i64)).toArray Ish.tI (0,0),.cells #[.slice (some ⟨N+3,0,none⟩) n n] Ish.tS (0,0),.cells #[] Ish.tW (0,0)]++iBoxes Ish n
theorem endL_length (vals:List Int):(endL A A' N n cA cB g vals).length=6+n:=by simp [endL,iBoxes];omega
theorem endL_six (vals:List Int) (i:Nat):(endL A A' N n cA cB g vals)[6+i]? = if i<n then some (.cells #[.int .i64 (i:Int)] Ish.tI (0,0)) else none:=by
 unfold endL
 rw [List.getElem?_append_right (by simp),show 6+i - _=i from (by simp)]
 simp only [iBoxes,List.getElem?_map]
 rcases Nat.lt_or_ge i n with h | h
 ·rw [List.getElem?_range h,if_pos h];rfl
 ·rw [List.getElem?_eq_none (by simpa using h),if_neg (by omega)];rfl
theorem cells_ok {c:Array Value} {e:TypeId} {f:Nat×Nat}:objOk Try.progTables (.cells c e f):=trivial
theorem rel_end [Sim.Start] (hN:w.heap.size=N) (h:l1.length=l2.length) (hrel:Rel Try.progTables S w1 (zas w (hd6 A A' N l1.length cA cB g))) (hlt:∀ b,S b→b<N) (hp:PostY N w1 l1.length A A' cA cB g m (fun k=>l1.getD k 0) (fun k=>l2.getD k 0) v w2) :
  Rel Try.progTables (fun b=>S b∨b=N+5) w2 (zas w (zaA Ish (mkV g) (.slice A l1.length cA) (.slice A' l1.length cB) N l1.length (eachVals m l1 l2) l1.length)):=by
 obtain ⟨_,hfull,hI,st,sm,hwg⟩:=hp
 rw [mid_eq Ish _ _ _ _ (eachVals_length m h)]
 change Rel Try.progTables _ w2 (zas w (endL A A' N l1.length cA cB g (eachVals m l1 l2)))
 have new:∀ j,(zas w (endL A A' N l1.length cA cB g (eachVals m l1 l2))).heap[N+j]? = (endL A A' N l1.length cA cB g (eachVals m l1 l2))[j]?:=fun j=>by
  subst hN
  exact growW_new
 have old:∀ b,b<N→(zas w (endL A A' N l1.length cA cB g (eachVals m l1 l2))).heap[b]? = (zas w (hd6 A A' N l1.length cA cB g)).heap[b]?:=fun b hb=>by
  rw [growW_old (by omega),growW_old (by omega)]
 have hsz:(zas w (endL A A' N l1.length cA cB g (eachVals m l1 l2))).heap.size=N+6+l1.length:=by
  rw [growW_size,hN,endL_length]
  omega
 have same5:∀ j,j≠5→w2.heap[N+j]? = (endL A A' N l1.length cA cB g (eachVals m l1 l2))[j]?:=by
  intro j hj
  match j,hj with
  | 0,_=>exact hI.b0
  | 1,_=>exact hI.b1
  | 2,_=>exact hI.b2
  | 3,_=>
   have:=hfull
   unfold ConcN.Full at this
   rw [vals_eq h] at this
   exact this
  | 4,_=>exact hI.b4
  | j+6,_=>
   rw [show j+6=6+j by omega,endL_six]
   split
   ·rename_i hlt
    have:=hI.ib j hlt
    rw [show N+(6+j)=N+6+j by omega]
    exact this
   ·rw [Array.getElem?_eq_none]
    have:=hI.size
    omega
 have oldR:∀ b,b<N→w2.heap[b]? = w1.heap[b]?:=fun b hb=>hI.below.block b hb
 refine ⟨?_,?_,?_,fun b hb=>?_,fun b o ho=>?_,fun b hb=>?_,fun b hb=>?_,fun b hb=>?_⟩
 ·rw [hsz,hI.size]
  omega
 ·exact hI.below.os.trans hrel.os
 ·exact hI.below.output.trans hrel.output
 ·rcases Nat.lt_or_ge b N with hl | hl
  ·rw [oldR b hl,old b hl]
   exact hrel.same b (fun hS=>hb (.inl hS))
  ·obtain ⟨j,rfl⟩:∃ j,b=N+j:=⟨b - N,by omega⟩
   rw [new,same5 j (fun e=>hb (.inr (by omega)))]
   exact .inl rfl
 ·rcases Nat.lt_or_ge b N with hl | hl
  ·rw [old b hl] at ho
   exact hrel.ok b o ho
  ·obtain ⟨j,rfl⟩:∃ j,b=N+j:=⟨b - N,by omega⟩
   rw [new] at ho
   match j,ho with
   | 0,ho=>cases ho;exact cells_ok
   | 1,ho=>cases ho;exact cells_ok
   | 2,ho=>cases ho;exact cells_ok
   | 3,ho=>cases ho;exact cells_ok
   | 4,ho=>cases ho;exact cells_ok
   | 5,ho=>cases ho;exact cells_ok
   | j+6,ho=>
    rw [show j+6=6+j by omega,endL_six] at ho
    split at ho
    ·cases ho;exact cells_ok
    ·cases ho
 ·rcases hb with hb | rfl
  ·have hl:=hlt b hb
   rw [oldR b hl,old b hl]
   exact hrel.spoilt b hb
  ·exact ⟨_,_,_,hwg,new 5⟩
 ·intro c e f c' e' f' h1 h2
  rcases hb with hb | rfl
  ·have hl:=hlt b hb
   rw [oldR b hl] at h1
   rw [old b hl] at h2
   exact hrel.elem b hb c e f c' e' f' h1 h2
  ·have h1:w2.heap[N+5]? = _:=h1
   rw [show w2.heap[N+5]? = _ from hwg] at h1
   rw [new 5] at h2
   cases h1
   cases h2
   rfl
 ·rcases Nat.lt_or_ge b N with hl | hl
  ·rw [old b hl] at hb
   rw [oldR b hl]
   exact hrel.kept b hb
  ·obtain ⟨j,rfl⟩:∃ j,b=N+j:=⟨b - N,by omega⟩
   rw [new] at hb
   match j,hb with
   | 0,hb=>cases hb
   | 1,hb=>cases hb
   | 2,hb=>cases hb
   | 3,hb=>cases hb
   | 4,hb=>cases hb
   | 5,hb=>cases hb
   | j+6,hb=>
    rw [show j+6=6+j by omega,endL_six] at hb
    split at hb <;> cases hb
end
end Go.Proofs.Ytjkikkgpenhbgaa.Ea
set_option linter.unusedVariables false
set_option linter.unusedSimpArgs false
namespace Go.Proofs.Ytjkikkgpenhbgaa.Ea
open Go Go.Conc Go.ConcN Go.RowKit Go.Conc.Lib Go.ConcR.Gen Go.ConcN.Gen Go.Proofs.Ytjkikkgpenhbgaa.Sim
theorem dst1:(r1[1]?).bind (·.dst)=some 12:=by kernel_rfl
theorem dst5:(r1[5]?).bind (·.dst)=some 16:=by kernel_rfl
section
variable {S:Nat→Prop} {w W:World} {N n1 n2 cA cB g:Nat} {A A':Option Addr} {cf:Frame} {cs:List Frame}
theorem segC [Sim.Start] (hN:W.heap.size=N) {t:Array Value} {f:Nat→Value} (hT:Tm 39 t f) (hH:HT N f) (f12:f 12 = .bool false) (hF:Rel Try.progTables S w (zas W (bx A A' n1 n2 cA cB g))) :
  GR Try.prog S (N+100) (fun a w=>a=G (cf.finish (.tuple #[.slice none 0 0,.bool false])) cs∧Rel Try.progTables S w (zas W (bx A A' n1 n2 cA cB g))) 35 (G (bE.at ⟨t,[]⟩ (.inRegion r1 [2,3,4,5,6,7,8,9,10,11,12,13,14] :: kH)) (cf :: cs)) w:=by
 have C:Car AtRel (DE (ShunOf S) (N+100)) (fun w=>Rel Try.progTables S w (zas W (bx A A' n1 n2 cA cB g))):=carR
 obtain ⟨o,ho,hop,hd,hw⟩:=q1_2
 refine zaw (d:=13) C hF hT rfl ho hd (by omega) (hw _) (fun w=>not_both hop ((hT.get 12).trans f12)) fun w t1 hF hT1=>?_
 clear ho hop hd hw
 obtain ⟨o,ho,hop,hd,hw⟩:=q1_3
 refine zaw (d:=14) (v:=.bool true) C hF hT1 rfl ho hd (by omega) (hw _) (fun w=>by have:=move_both (P:=Try.prog) (w:=w) (a:=⟨t1,[]⟩) hop;rwa [show Act.eval ⟨t1,[]⟩ (.tmp 13) = .bool true from (hT1.get 13).trans putF_same] at this) fun w t2 hF hT2=>?_
 clear ho hop hd hw
 have hH2:=(hH.put (d:=13) (by omega) (.bool (!false))).put (d:=14) (by omega) (.bool true)
 have f14:putF (putF f 13 (.bool (!false))) 14 (.bool true) 14 = .bool true:=putF_same
 generalize putF (putF f 13 (.bool (!false))) 14 (.bool true)=f2 at hT2 hH2 f14
 obtain ⟨o,ho,hop,hd,hw⟩:=q1_4
 refine gs_unw (d:=15) C hF hT2 ho hd (by omega) (hw t2 true ((hT2.get 14).trans f14)) fun w t3 hF hT3=>?_
 clear ho hop hd hw
 obtain ⟨o,ho,hop,hd,hw⟩:=q1_5
 refine gs_unw (d:=16) C hF hT3 ho hd (by omega) (hw t3 true ((hT3.get 14).trans ((zad (by omega)).trans f14))) fun w t4 hF hT4=>?_
 clear ho hop hd hw
 obtain ⟨o,ho,hop,hd,hw⟩:=q1_6
 refine gs_unw (d:=17) C hF hT4 ho hd (by omega) (hw t4 true ((hT4.get 14).trans ((zad (by omega)).trans ((zad (by omega)).trans f14)))) fun w t5 hF hT5=>?_
 clear ho hop hd hw
 exact segBad (x:=true) (y:=true) hN (.inl rfl) hT5 (((hH2.put (by omega) _).put (by omega) _).put (by omega) _) ((zad (by omega)).trans ((zad (by omega)).trans ((zad (by omega)).trans f14))) (fun e=>by cases e) hF
end
section
variable {S:Nat→Prop} {b0:Nat} {w w':World} {mm:Machine} {t:Trace} {Q:Machine→Trace→Prop} {cf:Frame} {cs:List Frame} {A A':Option Addr} {cA cB g:Nat} {m:Mk} {l1 l2:List Int}
def rowBlock (A:Option Addr) (n N:Nat):Nat:=if 0<n then (match A with | some ad=>ad.block | none=>N) else N
theorem row_of [Sim.Start] {l:List Int} (hrel:Rel Try.progTables S w w') (hr:Row w' A l) (hlt:∀ b,S b→b<w'.heap.size) :
  rowBlock A l.length w'.heap.size<w'.heap.size+3∧(∀ b,S b→b≠rowBlock A l.length w'.heap.size)∧(0<l.length→∃ ad,A=some ad∧ad.block=rowBlock A l.length w'.heap.size∧ad.block<w'.heap.size∧¬ S ad.block∧∀ k,k<l.length→w'.cell? (ad.add k)=some (.int .i64 (l.getD k 0))):=by
 rcases Nat.eq_zero_or_pos l.length with h0 | h0
 ·have e:rowBlock A l.length w'.heap.size=w'.heap.size:=by rw [h0];rfl
  rw [e]
  exact ⟨by omega,fun b hb=>Nat.ne_of_lt (hlt b hb),fun h=>by omega⟩
 ·obtain ⟨ad,rfl,hc⟩:=hr 0 h0
  have e:rowBlock (some ad) l.length w'.heap.size=ad.block:=by unfold rowBlock;rw [if_pos h0]
  have hb:(ad.add 0).block=ad.block:=add_block ad 0
  have hnS:=hrel.notS_of_cell hc
  have hblt:=block_lt hc
  rw [hb] at hnS hblt
  rw [e]
  refine ⟨by omega,fun b hb e=>hnS (e ▸ hb),fun _=>⟨ad,rfl,rfl,hblt,hnS,fun k hk=>?_⟩⟩
  obtain ⟨ad',e',hc'⟩:=hr k hk
  cases e'
  exact hc'
theorem each_run [Sim.Start] (hO:OkFn Trv.prog Ish) (hb0:Try.progTables.globals.size≤b0) (hM:MkFn m g) (hG:∃ fn,Try.prog.funcs[g]? = some fn∧(fn.name == "runtime.NumGoroutine")=false∧fn.body.isNone=false) (hr1:Row w' A l1) (hr2:Row w' A' l2) (hl1:(l1.length:Int)<9223372036854775808) (hl2:(l2.length:Int)<9223372036854775808)
  (hst:St Try.progTables Try.funcs b0 S (G (Frame.enter Try.prog 41 #[.slice A l1.length cA,.slice A' l2.length cB,mkV g] .normal) (cf :: cs)) w w' mm t)
  (hk:∀ S1 w1 m' t',St Try.progTables Try.funcs b0 S1 (G (cf.finish (.tuple #[eachRes l1 l2 w'.heap.size,.bool (eachGood l1 l2)])) cs) w1 (zas w' (zaC Ish (mkV g) (.slice A l1.length cA) (.slice A' l2.length cB) m l1 l2 w'.heap.size)) m' t'→Runs Try.prog Q m' t'):Runs Try.prog Q mm t:=by
 obtain ⟨hlt,hb0w,hrel0⟩:(∀ b,S b→b<w'.heap.size)∧b0≤w'.heap.size∧Rel Try.progTables S w w':=by
  obtain ⟨gs,sl,q,B,_,hF⟩:=hst
  exact ⟨fun b hb=>by rw [← hF.rel.size];exact hF.rel.lt hb,by rw [← hF.rel.size];exact hF.size,hF.rel⟩
 refine seg (B0:=w'.heap.size+100) (w1':=zas w' (bx A A' l1.length l2.length cA cB g)) hst (by rw [growW_size];omega) (fun hF=>segA rfl hF) fun a' w1 m' t' hA hst=>?_
 obtain ⟨t1,f1,hT1,hH1,rfl⟩:=hA
 have bad:eachGood l1 l2=false→∀ w1 m' t',St Try.progTables Try.funcs b0 S (G (cf.finish (.tuple #[.slice none 0 0,.bool false])) cs) w1 (zas w' (bx A A' l1.length l2.length cA cB g)) m' t'→Runs Try.prog Q m' t':=by
  intro hg w1 m' t' hst
  have e1:eachRes l1 l2 w'.heap.size = .slice none 0 0:=by rw [eachRes,hg];rfl
  have e2:zaC Ish (mkV g) (.slice A l1.length cA) (.slice A' l2.length cB) m l1 l2 w'.heap.size=bx A A' l1.length l2.length cA cB g:=by rw [zaC,hg];rfl
  refine hk S w1 m' t' ?_
  rw [e1,e2,hg]
  exact hst
 refine look hO hb0 (hr1.grow _) hl1 hst fun w2 m' t' hst=>?_
 rw [Frame.finish_at,dst1] at hst
 have hT2:=hT1.put (d:=12) (by omega) (.bool (sOk l1))
 change St Try.progTables Try.funcs b0 S (G (bE.at ⟨t1.setIfInBounds 12 (.bool (sOk l1)),[]⟩ _) (cf :: cs)) w2 _ m' t' at hst
 generalize t1.setIfInBounds 12 (.bool (sOk l1))=t2 at hT2 hst
 have hH2:=hH1.put (d:=12) (by omega) (.bool (sOk l1))
 have f12:putF f1 12 (.bool (sOk l1)) 12 = .bool (sOk l1):=putF_same
 generalize putF f1 12 (.bool (sOk l1))=f2 at hT2 hH2 f12
 cases h1:sOk l1 with
 | false=>
  rw [h1] at f12
  refine seg (B0:=w'.heap.size+100) (w1':=zas w' (bx A A' l1.length l2.length cA cB g)) hst (Nat.le_refl _) (fun hF=>segC rfl hT2 hH2 f12 hF) fun a' w3 m' t' hA hst=>?_
  subst hA
  exact bad (by simp [eachGood,h1]) _ _ _ hst
 | true=>
  rw [h1] at f12
  refine seg (B0:=w'.heap.size+100) (w1':=zas w' (bx A A' l1.length l2.length cA cB g)) hst (Nat.le_refl _) (fun hF=>segB rfl hT2 hH2 f12 hF) fun a' w3 m' t' hA hst=>?_
  obtain ⟨t3,f3,hT3,hH3,f14,rfl⟩:=hA
  refine look hO hb0 (hr2.grow _) hl2 hst fun w4 m' t' hst=>?_
  rw [Frame.finish_at,dst5] at hst
  have hT4:=hT3.put (d:=16) (by omega) (.bool (sOk l2))
  change St Try.progTables Try.funcs b0 S (G (bE.at ⟨t3.setIfInBounds 16 (.bool (sOk l2)),[]⟩ _) (cf :: cs)) w4 _ m' t' at hst
  generalize t3.setIfInBounds 16 (.bool (sOk l2))=t4 at hT4 hst
  have hH4:=hH3.put (d:=16) (by omega) (.bool (sOk l2))
  have f16:putF f3 16 (.bool (sOk l2)) 16 = .bool (sOk l2):=putF_same
  replace f14:=(zad (f:=f3) (d:=16) (i:=14) (v:=.bool (sOk l2)) (by omega)).trans f14
  generalize putF f3 16 (.bool (sOk l2))=f4 at hT4 hH4 f16 f14
  have one:∀ {Stop:Goroutine→World→Prop} {n:Nat},(∀ t5 w5,Tm 39 t5 (putF f4 17 (.bool (!sOk l2)))→Rel Try.progTables S w5 (zas w' (bx A A' l1.length l2.length cA cB g))→GR Try.prog S (w'.heap.size+100) Stop n (G (bE.at ⟨t5,[]⟩ (.inRegion r1 [7,8,9,10,11,12,13,14] :: kH)) (cf :: cs)) w5)→
    Rel Try.progTables S w4 (zas w' (bx A A' l1.length l2.length cA cB g))→GR Try.prog S (w'.heap.size+100) Stop (n+1) (G (bE.at ⟨t4,[]⟩ (.inRegion r1 [6,7,8,9,10,11,12,13,14] :: kH)) (cf :: cs)) w4:=by
   intro Stop n h hF
   obtain ⟨o,ho,hop,hd,hw⟩:=q1_6
   exact zaw (d:=17) carR hF hT4 rfl ho hd (by omega) (hw t4 false ((hT4.get 14).trans f14)) (fun w=>not_both hop ((hT4.get 16).trans f16)) fun w t5 hF hT5=>h t5 w hT5 hF
  have f14':putF f4 17 (.bool (!sOk l2)) 14 = .bool false:=(zad (by omega)).trans f14
  have f17':putF f4 17 (.bool (!sOk l2)) 17 = .bool (!sOk l2):=putF_same
  by_cases hg:sOk l2=true∧l1.length=l2.length
  ·obtain ⟨h2,hlen⟩:=hg
   have h20:l1.length≤20:=by
    simp only [sOk,Bool.and_eq_true,decide_eq_true_eq] at h1
    exact h1.1
   have hgood:eachGood l1 l2=true:=by simp [eachGood,h1,h2,hlen]
   rw [h2] at f17'
   refine seg (B0:=w'.heap.size+100) (w1':=zas w' (hd6 A A' w'.heap.size l1.length cA cB g)) hst (by rw [growW_size,growW_size];simp) (fun hF=>one (fun t5 w5 hT5 hF=>by
    have hbx:bx A A' l1.length l2.length cA cB g=bx A A' l1.length l1.length cA cB g:=by rw [hlen]
    rw [hbx] at hF
    exact segGood rfl h20 hT5 (hH4.put (by omega) _) f14' (by rw [h2];exact f17') hF) hF) fun a' w5 m' t' hA hst=>?_
   obtain ⟨q,hq,rfl⟩:=hA
   obtain ⟨gs,sl,qn,B,rfl,hF⟩:=hst
   have hrel:=hF.rel
   obtain ⟨a1,a2,a3⟩:=row_of hrel0 hr1 hlt
   obtain ⟨d1,d2,d3⟩:=row_of hrel0 hr2 hlt
   have blk:∀ j c e,(hd6 A A' w'.heap.size l1.length cA cB g)[j]? = some (.cells c e (0,0))→w5.heap[w'.heap.size+j]? = some (.cells c e (0,0)):=fun j c e he=>by
    have hs:=hrel.same (w'.heap.size+j) (fun hS=>by have:=hlt _ hS;omega)
    rw [growW_new,he] at hs
    exact eqv_cells hs
   have hsz:w5.heap.size=w'.heap.size+6:=by rw [hrel.size,growW_size];rfl
   have cell:∀ (ad:Addr) (k:Nat) (v:Value),¬ S ad.block→w'.cell? (ad.add k)=some v→w5.cell? (ad.add k)=some v:=fun ad k v hn hc=>by
    rw [hrel.cell (by rw [add_block];exact hn)]
    exact growW_cell hc
   have hwg:Go.ConcR.WgAt 95 (w'.heap.size+5) w5 0 0:=blk 5 _ _ rfl
   have hCS:CS w'.heap.size w5 l1.length A A' cA cB g 0 0 none w5:=
    ⟨⟨Below.refl _ _,by omega,blk 0 _ _ rfl,blk 1 _ _ rfl,blk 2 _ _ rfl,blk 4 _ _ rfl,fun i hi=>by omega,fun v e=>by cases e⟩,0,0,hwg⟩
   have hX:Far (ShunOf S) w'.heap.size (rowBlock A l1.length w'.heap.size) (rowBlock A' l2.length w'.heap.size):=⟨fun a ha=>⟨hlt _ ha,a2 _ ha,d2 _ ha⟩,a1,d1⟩
   obtain ⟨k,gs',w6,sl',T',hr,hE⟩:=phaseE (m:=m) (W:=w5) (n:=l1.length) (A:=A) (B:=A') (cA:=cA) (cB:=cB) (xs:=fun k=>l1.getD k 0) (ys:=fun k=>l2.getD k 0) (sl:=sl) hM hG hX h20 (fun k hk=>⟨sOk_get h1 hk,sOk_get h2 (by omega)⟩)
    (fun h0=>by obtain ⟨ad,e1,e2,e3,e4,e5⟩:=a3 h0;exact ⟨ad,e1,e2,e3,fun k hk=>cell ad k _ e4 (e5 k hk)⟩)
    (fun h0=>by obtain ⟨ad,e1,e2,e3,e4,e5⟩:=d3 (by omega);exact ⟨ad,e1,e2,e3,fun k hk=>cell ad k _ e4 (e5 k (by omega))⟩) hF.past hF.leavers hF.at0 hq hCS hwg ⟨_,blk 3 _ _ rfl,madeCells_size _⟩
   have hE2:=hE
   obtain ⟨_,_,_,_,_,_,hv0⟩:=hE2
   have hsz6:=hv0.2.2.1.size
   obtain ⟨v,q2,B2,hv,hfrm⟩:=frm_of_gend (b0:=b0) (S:=S) (T:=Try.progTables) (F:=Try.funcs) hE hF.high (by omega) (by omega)
   have hend:=rel_end (w:=w') rfl hlen hrel hlt hv
   have e1:eachRes l1 l2 w'.heap.size = .slice (some ⟨w'.heap.size+3,0,none⟩) l1.length l1.length:=by rw [eachRes,hgood];rfl
   have e2:zaC Ish (mkV g) (.slice A l1.length cA) (.slice A' l2.length cB) m l1 l2 w'.heap.size=zaA Ish (mkV g) (.slice A l1.length cA) (.slice A' l1.length cB) w'.heap.size l1.length (eachVals m l1 l2) l1.length:=by rw [zaC,hgood,hlen];rfl
   refine Runs.many k hr (hk (fun b=>S b∨b=w'.heap.size+5) w6 _ _ ⟨gs',sl',q2,B2,rfl,?_⟩)
   rw [e1,e2,hgood]
   have:=hfrm _ hend
   rw [hv.1] at this
   exact this
  ·refine seg (B0:=w'.heap.size+100) (w1':=zas w' (bx A A' l1.length l2.length cA cB g)) hst (Nat.le_refl _) (fun hF=>one (fun t5 w5 hT5 hF=>segBad (x:=false) (y:=!sOk l2) rfl (by
    rcases Classical.not_and_iff_not_or_not.1 hg with h | h
    ·exact .inr (.inl (by simpa using h))
    ·exact .inr (.inr h)) hT5 (hH4.put (by omega) _) f14' (fun _=>f17') hF) hF) fun a' w5 m' t' hA hst=>?_
   subst hA
   refine bad ?_ _ _ _ hst
   simp only [eachGood,h1,Bool.true_and]
   rcases Classical.not_and_iff_not_or_not.1 hg with h | h
   ·simp [h]
   ·simp [h]
end
end Go.Proofs.Ytjkikkgpenhbgaa.Ea
set_option linter.unusedVariables false
set_option linter.unusedSimpArgs false
namespace Go.Proofs.Ytjkikkgpenhbgaa.Ea
open Go Go.Conc Go.ConcN Go.RowKit Go.Conc.Lib Go.ConcR.Gen Go.ConcN.Gen Go.Proofs.Ytjkikkgpenhbgaa.Sim
structure Sh1 (fX g:Nat) (fn:Func) (ra rb:Array Oper):Prop where
 at_:Try.prog.funcs[fX]? = some fn
 nt:fn.ntmps=11
 res:fn.results=#[.tmp 4,.tmp 5]
 body:fn.body=some (.seq (.region 0 ra false) (.seq (.region 1 rb false) .ret))
 rowA:ra.toList.map (fun o=>(o.op,o.dst,o.guard))=[(.assign (.const (.slice none 0 0)),some 4,none),(.assign (.const (.bool false)),some 5,none)]
 rowB:rb.toList.map (fun o=>(o.op,o.dst,o.guard))=[(.move (.tmp 0),some 6,none),(.move (.tmp 1),some 7,none),(.call { callee:=.value (.func 41),args:=#[.tmp 6,.tmp 7,.func g],argTypes:=#[23,23,65] },some 8,none),(.extract (.tmp 8) 0,some 9,none),(.extract (.tmp 8) 1,some 10,none),(.assign (.tmp 9),some 4,none),(.assign (.tmp 10),some 5,none)]
theorem eachFn:∃ fn,Try.prog.funcs[41]? = some fn∧(fn.name == "runtime.NumGoroutine")=false∧fn.body.isNone=false:=⟨_,Try.func41,by kernel_rfl,by kernel_rfl⟩
section
variable {S:Nat→Prop} {b0:Nat} {w w':World} {mm:Machine} {t:Trace} {Q:Machine→Trace→Prop} {c:Frame} {cs:List Frame} {A A':Option Addr} {cA cB fX g n1 n2 N:Nat} {m:Mk} {l1 l2:List Int} {fn:Func} {ra rb:Array Oper} {args:Array Value}
theorem sh1_head [Sim.Start] (H:Sh1 fX g fn ra rb) (h0:args[0]? = some (.slice A n1 cA)) (h1:args[1]? = some (.slice A' n2 cB)) (hF:Rel Try.progTables S w w') :
  GR Try.prog S 0 (fun a w=>(∃ t f z,11≤z∧Tm z t f∧a=G (Frame.enter Try.prog 41 #[.slice A n1 cA,.slice A' n2 cB,mkV g] .normal) ((base fX).at ⟨t,[]⟩ (.inRegion rb (2 :: [3,4,5,6]) :: [.code .ret]) :: cs))∧Rel Try.progTables S w w') 20 (G (Frame.enter Try.prog fX args .normal) cs) w:=by
 rw [enter_at (P:=Try.prog) _ H.at_ H.body,H.nt]
 have hT:=tm_args args 11
 have hs:=args_size args 11
 have i0:=args_get (x:=11) h0
 have i1:=args_get (x:=11) h1
 generalize args++Array.replicate (11 - args.size) undef=t at *
 have C:Car AtRel (DE (ShunOf S) 0) (fun w=>Rel Try.progTables S w w'):=carR
 refine gs_seq C hF fun w hF=>gs_reg C hF (range_row H.rowA) fun w hF=>?_
 obtain ⟨o,ho,hop,hd,hw⟩:=op_row H.rowA (i:=0) rfl
 refine zaw (d:=4) C hF hT rfl ho hd (by omega) (hw _) (fun w=>assign_both hop) fun w t1 hF hT1=>?_
 clear ho hop hd hw
 obtain ⟨o,ho,hop,hd,hw⟩:=op_row H.rowA (i:=1) rfl
 refine zaw (d:=5) C hF hT1 rfl ho hd (by omega) (hw _) (fun w=>assign_both hop) fun w t2 hF hT2=>?_
 clear ho hop hd hw
 refine gs_end C hF fun w hF=>gs_seq C hF fun w hF=>gs_reg C hF (range_row H.rowB) fun w hF=>?_
 obtain ⟨o,ho,hop,hd,hw⟩:=op_row H.rowB (i:=0) rfl
 refine zaw (d:=6) (v:=.slice A n1 cA) C hF hT2 rfl ho hd (by omega) (hw _) (fun w=>by have:=move_both (P:=Try.prog) (w:=w) (a:=⟨t2,[]⟩) hop;rwa [show Act.eval ⟨t2,[]⟩ (.tmp 0) = .slice A n1 cA from (hT2.get 0).trans ((zad (by omega)).trans ((zad (by omega)).trans i0))] at this) fun w t3 hF hT3=>?_
 clear ho hop hd hw
 obtain ⟨o,ho,hop,hd,hw⟩:=op_row H.rowB (i:=1) rfl
 refine zaw (d:=7) (v:=.slice A' n2 cB) C hF hT3 rfl ho hd (by omega) (hw _) (fun w=>by have:=move_both (P:=Try.prog) (w:=w) (a:=⟨t3,[]⟩) hop;rwa [show Act.eval ⟨t3,[]⟩ (.tmp 1) = .slice A' n2 cB from (hT3.get 1).trans ((zad (by omega)).trans ((zad (by omega)).trans ((zad (by omega)).trans i1)))] at this) fun w t4 hF hT4=>?_
 clear ho hop hd hw
 obtain ⟨o,ho,hop,hd,hw⟩:=op_row H.rowB (i:=2) rfl
 obtain ⟨fe,k1,k2,k3⟩:=eachFn
 have e6:Act.eval ⟨t4,[]⟩ (.tmp 6) = .slice A n1 cA:=(hT4.get 6).trans ((zad (by omega)).trans putF_same)
 have e7:Act.eval ⟨t4,[]⟩ (.tmp 7) = .slice A' n2 cB:=(hT4.get 7).trans putF_same
 refine gr_call (vs:=#[.slice A n1 cA,.slice A' n2 cB,mkV g]) hF rfl ho (hw _) hop k1 k2 k3 (by simp [e6,e7];rfl) fun w hF=>?_
 exact Goes.stop fun w2 r2=>⟨⟨t4,_,_,hs,hT4,rfl⟩,C.rl _ _ hF r2⟩
theorem sh1_tail [Sim.Start] (H:Sh1 fX g fn ra rb) {u v:Value} {z:Nat} (hz:11≤z) {t:Array Value} {f:Nat→Value} (hT:Tm z t f) (f8:f 8 = .tuple #[u,v]) (hF:Rel Try.progTables S w w') :
  GR Try.prog S 0 (fun a w=>a=G (c.finish (.tuple #[u,v])) cs∧Rel Try.progTables S w w') 20 (G ((base fX).at ⟨t,[]⟩ (.inRegion rb [3,4,5,6] :: [.code .ret])) (c :: cs)) w:=by
 have C:Car AtRel (DE (ShunOf S) 0) (fun w=>Rel Try.progTables S w w'):=carR
 obtain ⟨o,ho,hop,hd,hw⟩:=op_row H.rowB (i:=3) rfl
 refine zaw (d:=9) (v:=u) C hF hT rfl ho hd (by omega) (hw _) (fun w=>extract_both hop ((hT.get 8).trans f8) rfl) fun w t1 hF hT1=>?_
 clear ho hop hd hw
 obtain ⟨o,ho,hop,hd,hw⟩:=op_row H.rowB (i:=4) rfl
 refine zaw (d:=10) (v:=v) C hF hT1 rfl ho hd (by omega) (hw _) (fun w=>extract_both hop ((hT1.get 8).trans ((zad (by omega)).trans f8)) rfl) fun w t2 hF hT2=>?_
 clear ho hop hd hw
 obtain ⟨o,ho,hop,hd,hw⟩:=op_row H.rowB (i:=5) rfl
 refine zaw (d:=4) (v:=u) C hF hT2 rfl ho hd (by omega) (hw _) (fun w=>by have:=assign_both (P:=Try.prog) (w:=w) (a:=⟨t2,[]⟩) hop;rwa [show Act.eval ⟨t2,[]⟩ (.tmp 9)=u from (hT2.get 9).trans ((zad (by omega)).trans putF_same)] at this) fun w t3 hF hT3=>?_
 clear ho hop hd hw
 obtain ⟨o,ho,hop,hd,hw⟩:=op_row H.rowB (i:=6) rfl
 refine zaw (d:=5) (v:=v) C hF hT3 rfl ho hd (by omega) (hw _) (fun w=>by have:=assign_both (P:=Try.prog) (w:=w) (a:=⟨t3,[]⟩) hop;rwa [show Act.eval ⟨t3,[]⟩ (.tmp 10)=v from (hT3.get 10).trans ((zad (by omega)).trans putF_same)] at this) fun w t4 hF hT4=>?_
 clear ho hop hd hw
 refine gs_end C hF fun w hF=>gs_ctl C hF (fun w=>stepG_ret') fun w hF=>?_
 have e4:t4.getD 4 undef=u:=(hT4.get 4).trans ((zad (by omega)).trans putF_same)
 have e5:t4.getD 5 undef=v:=(hT4.get 5).trans putF_same
 refine gs_return (b:=base fX) (a:=⟨t4,[]⟩) (v:=.tuple #[u,v]) C hF rfl rfl H.at_ (fun w=>?_) fun w hF=>Goes.stop fun w2 r2=>⟨rfl,C.rl _ _ hF r2⟩
 have:=results_t2 H.res t4 Try.prog w
 rw [e4,e5] at this
 exact this
theorem sh1_run [Sim.Start] (H:Sh1 fX g fn ra rb) (hO:OkFn Trv.prog Ish) (hb0:Try.progTables.globals.size≤b0) (hM:MkFn m g) (hG:∃ fn,Try.prog.funcs[g]? = some fn∧(fn.name == "runtime.NumGoroutine")=false∧fn.body.isNone=false)
  (h0:args[0]? = some (.slice A l1.length cA)) (h1:args[1]? = some (.slice A' l2.length cB)) (hr1:Row w' A l1) (hr2:Row w' A' l2) (hl1:(l1.length:Int)<9223372036854775808) (hl2:(l2.length:Int)<9223372036854775808)
  (hst:St Try.progTables Try.funcs b0 S (G (Frame.enter Try.prog fX args .normal) (c :: cs)) w w' mm t) :
  Runs Try.prog (Met Try.progTables Try.funcs b0 c cs (.tuple #[eachRes l1 l2 w'.heap.size,.bool (eachGood l1 l2)]) (zas w' (zaC Ish (mkV g) (.slice A l1.length cA) (.slice A' l2.length cB) m l1 l2 w'.heap.size))) mm t:=by
 refine seg (B0:=0) (w1':=w') hst (Nat.le_refl _) (fun hF=>sh1_head H h0 h1 hF) fun a' w1 m' t' hA hst=>?_
 obtain ⟨t1,f1,z,hz,hT1,rfl⟩:=hA
 refine each_run hO hb0 hM hG hr1 hr2 hl1 hl2 hst fun S1 w2 m' t' hst=>?_
 obtain ⟨o,ho,hop,hd,hw⟩:=op_row H.rowB (i:=2) rfl
 rw [Frame.finish_at,ho] at hst
 change St Try.progTables Try.funcs b0 S1 (G ((base fX).at ((⟨t1,[]⟩:Act).put o.dst _) _) (c :: cs)) w2 _ m' t' at hst
 rw [hd] at hst
 have hT2:=hT1.put (d:=8) (by omega) (.tuple #[eachRes l1 l2 w'.heap.size,.bool (eachGood l1 l2)])
 refine seg (B0:=0) (w1':=zas w' (zaC Ish (mkV g) (.slice A l1.length cA) (.slice A' l2.length cB) m l1 l2 w'.heap.size)) hst (Nat.le_refl _) (fun hF=>sh1_tail H hz hT2 putF_same hF) fun a' w3 m' t' hA hst=>?_
 subst hA
 exact Runs.stop ⟨S1,w3,hst⟩
end
end Go.Proofs.Ytjkikkgpenhbgaa.Ea
set_option linter.unusedVariables false
set_option linter.unusedSimpArgs false
namespace Go.Proofs.Ytjkikkgpenhbgaa.Ea
open Go Go.Conc Go.ConcN Go.RowKit Go.Conc.Lib Go.ConcR.Gen Go.ConcN.Gen Go.Proofs.Ytjkikkgpenhbgaa.Sim
theorem infoWs:(Try.prog.info? 95).map (fun i=>i.size == 0)=some false:=by kernel_rfl
theorem kindsU:∃ iI iE,Kinds Tru.prog Ish.tS Ish.tI Ish.tP 95 iI iE∧iI.bytes=8∧iI.zero=some (.int .i64 0):=by
 obtain ⟨iI,h1,h2,h3,h4⟩:=infoI
 obtain ⟨iE,h5,h6⟩:=Option.map_eq_some_iff.1 infoWs
 have u:=fun t=>underlying_F (T:=Try.progTables) (F:=Tru.funcs) (F':=Try.funcs) t
 have h1:Try.progTables.info? 3=some iI:=h1
 have h5:Try.progTables.info? 95=some iE:=h5
 exact ⟨iI,iE,⟨(u _).trans Try.underlying23,(u _).trans Try.underlying3,(u _).trans Try.underlying103,h1,h2,h5,by simpa using h6⟩,h3,h4⟩
theorem tr_eq {f:Nat} (fn:Func) (h:shaL.contains f=false):tr f fn=if refL.contains f then { fn with body:=some (.refuse "") } else trM f fn:=by
 simp [shaL] at h
 simp [tr,h]
theorem parted (f:Nat) (h:Try.funcs[f]?≠Tru.funcs[f]?):(∃ fn:Func,Tru.funcs[f]? = some fn∧(fn.body=none∨∃ s,fn.body=some (.refuse s)))∨shaL.contains f=true:=by
 rw [atU] at h ⊢
 cases hs:shaL.contains f with
 | true=>exact .inr rfl
 | false=>
  refine .inl ?_
  cases hf:Try.funcs[f]? with
  | none=>rw [hf] at h;exact absurd rfl h
  | some fn=>
   rw [hf] at h
   replace h:fn≠tr f fn:=fun e=>h (congrArg some e)
   refine ⟨_,rfl,?_⟩
   rw [tr_eq fn hs] at h ⊢
   by_cases h1:refL.contains f=true
   ·rw [if_pos h1];exact .inr ⟨_,rfl⟩
   ·rw [if_neg h1] at h ⊢
    exact .inl (trM_none hf (fun e=>h e.symm)).2
section
variable {S:Nat→Prop} {b0 B:Nat} {w w':World} {t:Trace} {q:Nat→Nat} {c:Frame} {rest:List Frame} {fX g f0:Nat} {m:Mk} {fn fn':Func} {ra rb:Array Oper} {args:Array Value} {R:Value→World→Prop} {gs:Array Goroutine} {sl:Option (Nat×Nat)}
theorem at_of {n0:Nat} (hG:Sim.Good Tru.prog n0 f0 R ⟨Frame.enter Tru.prog fX args .normal,c :: rest++[Sim.bot n0],w'⟩) (hok:CfgOk Try.progTables n0 ⟨Frame.enter Tru.prog fX args .normal,c :: rest++[Sim.bot n0],w'⟩) :
  At Try.progTables Tru.funcs n0 f0 R ⟨Frame.enter Tru.prog fX args .normal,c :: rest++[Sim.bot n0],Sim.blind w'⟩ (Frame.enter Tru.prog fX args .normal) (c :: rest++[Sim.bot n0]) (Sim.blind w'):=
 ⟨⟨hok.1,hok.2,hok.3⟩,hG,rfl,.inl rfl⟩
theorem phase1 [Sim.Start] (hU:OkFn Tru.prog Ish) (hV:OkFn Trv.prog Ish) (hb0:Try.progTables.globals.size≤b0) (H:Sh1 fX g fn ra rb) (hf:Tru.funcs[fX]? = some fn') (hb:fn'.body=some (share1Code Ish (mkV g) m)) (hnt:fn'.ntmps=32) (hres:fn'.results=#[.tmp 4,.tmp 5]) (hM:MkFn m g) (hG2:∃ fn,Try.prog.funcs[g]? = some fn∧(fn.name == "runtime.NumGoroutine")=false∧fn.body.isNone=false)
  (hfs:∀ fr ∈ c :: rest,FrameOk Try.progTables fr) (hF:Frm Try.progTables Try.funcs b0 S B gs { frame:=Frame.enter Try.prog fX args .normal,callers:=c :: rest,status:=.running,dying:=none } w t q w')
  (hG:Sim.Good Tru.prog 142 f0 R ⟨Frame.enter Tru.prog fX args .normal,c :: rest++[Sim.bot 142],w'⟩) (hok:CfgOk Try.progTables 142 ⟨Frame.enter Tru.prog fX args .normal,c :: rest++[Sim.bot 142],w'⟩) :
  ∃ (N:Nat) (gs1:Array Goroutine) (g1:Goroutine) (w1:World) (sl1:Option (Nat×Nat)) (t1:Trace) (q1:Nat→Nat) (S1:Nat→Prop) (B1:Nat) (w1':World),
   runNT Try.prog N (crowd gs w sl) t=(.next (crowd gs1 w1 sl1),t1)∧Frm Try.progTables Try.funcs b0 S1 B1 gs1 g1 w1 t1 q1 w1'∧GOk Try.progTables g1∧Relation.TransGen (fun c' c=>Next2 Tru.prog c c') ⟨g1.frame,g1.callers++[Sim.bot 142],w1'⟩ ⟨Frame.enter Tru.prog fX args .normal,(c :: rest)++[Sim.bot 142],w'⟩:=by
 obtain ⟨iI,iE,K,h8,hz⟩:=kindsU
 obtain ⟨A,A',cA,cB,l1,l2,h0,h1,hr1,hr2,hl1,hl2⟩:=share1_handed duoTru nU (by simp) hf hb hnt rfl (fun _ _ e=>by cases e) K (at_of hG hok)
 have hr1:Row w' A l1:=hr1
 have hr2:Row w' A' l2:=hr2
 have hC:=share1_calls (P:=Tru.prog) (w:=tp w' t0 0) hf hb hnt hres rfl K h8 hz hU hr1 hr2 hl1 hl2 h0 h1
 exact phase_of duoTru nU hfs hok hC (sh1_run H hV hb0 hM hG2 h0 h1 hr1 hr2 hl1 hl2 ⟨gs,sl,q,B,rfl,hF⟩)
end
noncomputable def ra11:Array Oper:=match Try.f11.body with | some (.seq (.region _ r _) _)=>r | _=>#[]
noncomputable def rb11:Array Oper:=match Try.f11.body with | some (.seq _ (.seq (.region _ r _) _))=>r | _=>#[]
theorem sh11:Sh1 11 37 Try.f11 ra11 rb11:=⟨Try.func11,by kernel_rfl,by kernel_rfl,by kernel_rfl,by kernel_rfl,by kernel_rfl⟩
theorem shU11:Tru.funcs[11]? = some { Try.f11 with ntmps:=32,body:=some (share1Code Ish (mkV 37) .plus) }:=by kernel_rfl
noncomputable def ra14:Array Oper:=match Try.f14.body with | some (.seq (.region _ r _) _)=>r | _=>#[]
noncomputable def rb14:Array Oper:=match Try.f14.body with | some (.seq _ (.seq (.region _ r _) _))=>r | _=>#[]
theorem sh14:Sh1 14 44 Try.f14 ra14 rb14:=⟨Try.func14,by kernel_rfl,by kernel_rfl,by kernel_rfl,by kernel_rfl,by kernel_rfl⟩
theorem shU14:Tru.funcs[14]? = some { Try.f14 with ntmps:=32,body:=some (share1Code Ish (mkV 44) .minus) }:=by kernel_rfl
theorem phases [Sim.Start] (hU:OkFn Tru.prog Ish) (hV:OkFn Trv.prog Ish) {f0 b0:Nat} {R:Value→World→Prop} (hb0:Try.progTables.globals.size≤b0):Phases Try.progTables Try.funcs Tru.funcs 142 f0 b0 R:=by
 intro f args kind cs S B gs w sl t q w' hne hkn hfs hcs hF hG hok
 subst hkn
 rcases parted f hne with ⟨fn,h1,h2⟩ | hsh
 ·exact absurd hG (no_refuse h1 h2 _ _ _ _)
 cases cs with
 | nil=>exact absurd rfl hcs
 | cons c rest=>
  simp [shaL] at hsh
  rcases hsh with rfl | rfl
  ·exact phase1 hU hV hb0 sh11 shU11 rfl rfl (by kernel_rfl) mk_plus ⟨_,Try.func37,by kernel_rfl,by kernel_rfl⟩ hfs hF hG hok
  ·exact phase1 hU hV hb0 sh14 shU14 rfl rfl (by kernel_rfl) mk_minus ⟨_,Try.func44,by kernel_rfl,by kernel_rfl⟩ hfs hF hG hok
end Go.Proofs.Ytjkikkgpenhbgaa.Ea
